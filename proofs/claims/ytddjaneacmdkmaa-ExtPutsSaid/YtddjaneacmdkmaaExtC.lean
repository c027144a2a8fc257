/-
  The walk of the ext laws' 'short': ten heads at most, of twelve bytes at most.
-/
import Derived.Test.YtddjaneacmdkmaaExtW
import Derived.Maps.AppendAt
import Derived.OwnWalk
namespace Go.Proofs.Ytddjaneacmdkmaa
set_option linter.unusedVariables false
open Go.RowKit

theorem infoStr : (Try.prog.info? 9).map (fun i => (i.zero, i.size, i.bytes)) = some (some (.string ByteArray.empty), 1, 16) := by kernel_rfl

/-- The first bytes of a head. -/
def cut12 (h : ByteArray) : ByteArray := h.extract 0 (min h.size 12)

def strVals (l : List ByteArray) : List Value := l.map Value.string

/-- A row of the call's own that holds strings: as cells. -/
theorem strCells_of_own {w : World} {base : Nat} {e : TypeId} {v : Value} {l : List ByteArray} (h : w.ownsRow base e 1 v l.length (strVals l)) : ∃ a cap, v = .slice a l.length cap ∧ StrCells w.heap.size w a l := by
  rcases h.2 with ⟨rfl, hn⟩ | ⟨g, cap, cur, rfl, hb, hg, hnc, hcm, hcs, htk⟩
  · refine ⟨none, 0, by rw [hn], fun i hi => absurd hi (by omega)⟩
  · refine ⟨some ⟨g, 0, none⟩, cap, rfl, fun i hi => ⟨g, 0, rfl, (Array.getElem?_eq_some_iff.1 hg).1, ?_⟩⟩
    have hi2 : i < cur.size := by omega
    rw [cell_of_row _ _ _ _ _ _ hg]
    have : cur.toList.take (l.length * 1) = strVals l := htk
    have h1 : (cur.toList.take (l.length * 1))[i]? = (strVals l)[i]? := by rw [this]
    rw [List.getElem?_take_of_lt (by omega)] at h1
    simp only [strVals, List.getElem?_map, List.getElem?_eq_getElem hi, Option.map_some] at h1
    simpa using h1

theorem exec_append {P : Program} {w w' : World} {o : Oper} {a : Act} {s x : Operand} {t : TypeId} {v sv v' : Value} (ho : o.op = .call { callee := .builtin .append, args := #[s, x], argTypes := #[t, t] }) (hs : a.eval s = v) (hx : a.eval x = sv)
    (hr : (Builtin.append_ #[t, t] o.type #[v, sv]).run P w = .ok v' w') : (execOp a.eval o).run P w = .ok (.value v') w' := by
  unfold execOp
  simp only [ho, resolve, invoke, builtin, Sem.run_bind, Sem.run_pure, Result.andThen_ok, List.map_toArray, List.map_cons, List.map_nil, hs, hx, hr]

set_option maxRecDepth 100000 in
set_option maxHeartbeats 2000000 in
theorem short_any (a : Option Addr) (cap : Nat) (l : List ByteArray) (w : World) (hl : l.length ≤ maxLen) (hs : ∀ h ∈ l, h.size ≤ maxLen) (hc : StrCells w.heap.size w a l) :
    Calls Try.prog 11 #[.slice a l.length cap] w fun e w' => (∃ v, e = .returned v ∧ w'.ownsRow w.heap.size 9 1 v ((l.take 10).map cut12).length (strVals ((l.take 10).map cut12))) ∧ Below w.heap.size w w' := by
  unfold maxLen at hl
  obtain ⟨i0, hi, hz0, hz1, hz2⟩ := info_parts infoStr
  go_enter Try.func11, Try.ntmps11
  go_wp2
  go_loopw [3, 4] (fun o i wr => ∃ k : Nat, k ≤ l.length ∧ k ≤ 10 ∧ i = .int .i64 k ∧ wr.ownsRow w.heap.size 9 1 o ((l.take k).map cut12).length (strVals ((l.take k).map cut12)) ∧ Below w.heap.size w wr) (fun _ i _ => l.length - (intOf i).toNat)
  case atStart => exact ⟨0, by omega, by omega, rfl, World.ownsRow_nil _ _ _ _, Below.refl _ _⟩
  case round =>
    obtain ⟨k, hk, hk10, rfl, hown, hb⟩ := hrel
    by_cases hlt : k < l.length ∧ k < 10
    · obtain ⟨hlt1, hlt2⟩ := hlt
      have hd1 : decide ((k : Int) < (l.length : Int)) = true := decide_eq_true (by omega)
      have hd2 : decide ((k : Int) < 10) = true := decide_eq_true (by omega)
      obtain ⟨b, off, rfl, hbl, hcell⟩ := hc k hlt1
      have hcx := (hb.cell (p := ⟨b, off + k, none⟩) hbl).trans hcell
      have hsz := hs l[k] (List.getElem_mem _)
      unfold maxLen at hsz
      have htk : (l.take (k + 1)).map cut12 = (l.take k).map cut12 ++ [cut12 l[k]] := by rw [List.take_add_one, List.getElem?_eq_getElem hlt1, Option.toList_some, List.map_append]; rfl
      have hlen : ((l.take k).map cut12).length = k := by simp; omega
      rw [hlen] at hown
      have hcell' := hcell
      generalize l[k] = x at hcx hsz htk hcell'
      obtain ⟨m, hm1, hm2, hm, hmin⟩ := min_at (P := Try.prog) #[3, 3] 3 x.size 12 (by decide)
      have hcut : x.extract 0 m = cut12 x := by unfold cut12; congr 1; omega
      clear hm
      go_wp2_with fail
      refine PrintLast.start_ (n := 15) (ds := []) (S := fun W' => W'.cell? ⟨b, off + k, none⟩ = some (.string x)) #[false, false, false, false, false, false, false, false, false, false, false, false, false, false, false] (by kernel_rfl) rfl rfl hcx (fun hS => ?_)
      refine PrintLast.take_ (i := 0) (N := (some 15)) (v := _) #[true, false, false, false, false, false, false, false, false, false, false, false, false, false, false] rfl rfl (by kernel_rfl) (fun _ _ _ h => h) (.inl ⟨rfl, fun w' hSw => by go_simp; rfl⟩) hS rfl ?_
      simp only [Act.put, List.setIfInBounds_toArray, List.set_cons_zero, List.set_cons_succ]
      refine PrintLast.take_ (i := 1) (N := (some 16)) (v := .slice (some ⟨b, off, none⟩) l.length cap) #[true, true, false, false, false, false, false, false, false, false, false, false, false, false, false] rfl rfl (by kernel_rfl) (fun _ _ _ h => h) (.inl ⟨rfl, fun w' hSw => by go_simp⟩) hS rfl ?_
      simp only [Act.put, List.setIfInBounds_toArray, List.set_cons_zero, List.set_cons_succ]
      refine PrintLast.take_ (i := 2) (N := (some 17)) (v := .int .i64 k) #[true, true, true, false, false, false, false, false, false, false, false, false, false, false, false] rfl rfl (by kernel_rfl) (fun _ _ _ h => h) (.inl ⟨rfl, fun w' hSw => by go_simp⟩) hS rfl ?_
      simp only [Act.put, List.setIfInBounds_toArray, List.set_cons_zero, List.set_cons_succ]
      refine PrintLast.take_ (i := 3) (N := (some 18)) (v := .pointer (some ⟨b, off + k, none⟩)) #[true, true, true, true, false, false, false, false, false, false, false, false, false, false, false] rfl rfl (by kernel_rfl) (fun _ _ _ h => h) (.inl ⟨rfl, fun w' hSw => by go_simp⟩) hS rfl ?_
      simp only [Act.put, List.setIfInBounds_toArray, List.set_cons_zero, List.set_cons_succ]
      refine PrintLast.take_ (i := 4) (N := (some 19)) (v := .string x) #[true, true, true, true, true, false, false, false, false, false, false, false, false, false, false] rfl rfl (by kernel_rfl) (fun _ _ _ h => h) (.inl ⟨rfl, fun w' hSw => by (try dsimp only at hSw); go_simp⟩) hS rfl ?_
      simp only [Act.put, List.setIfInBounds_toArray, List.set_cons_zero, List.set_cons_succ]
      refine PrintLast.take_ (i := 5) (N := (some 20)) (v := .slice (some ⟨b, off, none⟩) l.length cap) #[true, true, true, true, true, true, false, false, false, false, false, false, false, false, false] rfl rfl (by kernel_rfl) (fun _ _ _ h => h) (.inl ⟨rfl, fun w' hSw => by go_simp⟩) hS rfl ?_
      simp only [Act.put, List.setIfInBounds_toArray, List.set_cons_zero, List.set_cons_succ]
      refine PrintLast.take_ (i := 6) (N := (some 21)) (v := .int .i64 k) #[true, true, true, true, true, true, true, false, false, false, false, false, false, false, false] rfl rfl (by kernel_rfl) (fun _ _ _ h => h) (.inl ⟨rfl, fun w' hSw => by go_simp⟩) hS rfl ?_
      simp only [Act.put, List.setIfInBounds_toArray, List.set_cons_zero, List.set_cons_succ]
      refine PrintLast.take_ (i := 7) (N := (some 22)) (v := .pointer (some ⟨b, off + k, none⟩)) #[true, true, true, true, true, true, true, true, false, false, false, false, false, false, false] rfl rfl (by kernel_rfl) (fun _ _ _ h => h) (.inl ⟨rfl, fun w' hSw => by go_simp⟩) hS rfl ?_
      simp only [Act.put, List.setIfInBounds_toArray, List.set_cons_zero, List.set_cons_succ]
      refine PrintLast.take_ (i := 8) (N := (some 23)) (v := .string x) #[true, true, true, true, true, true, true, true, true, false, false, false, false, false, false] rfl rfl (by kernel_rfl) (fun _ _ _ h => h) (.inl ⟨rfl, fun w' hSw => by (try dsimp only at hSw); go_simp⟩) hS rfl ?_
      simp only [Act.put, List.setIfInBounds_toArray, List.set_cons_zero, List.set_cons_succ]
      refine PrintLast.take_ (i := 9) (N := (some 24)) (v := .int .i64 x.size) #[true, true, true, true, true, true, true, true, true, true, false, false, false, false, false] rfl rfl (by kernel_rfl) (fun _ _ _ h => h) (.inl ⟨rfl, fun w' hSw => by go_simp⟩) hS rfl ?_
      simp only [Act.put, List.setIfInBounds_toArray, List.set_cons_zero, List.set_cons_succ]
      refine PrintLast.take_ (i := 10) (N := (some 25)) (v := .int .i64 m) #[true, true, true, true, true, true, true, true, true, true, true, false, false, false, false] rfl rfl (by kernel_rfl) (fun _ _ _ h => h) (.inl ⟨rfl, fun w' hSw => by go_simp⟩) hS rfl ?_
      simp only [Act.put, List.setIfInBounds_toArray, List.set_cons_zero, List.set_cons_succ]
      refine PrintLast.take_ (i := 11) (N := (some 26)) (v := .string (cut12 x)) #[true, true, true, true, true, true, true, true, true, true, true, true, false, false, false] rfl rfl (by kernel_rfl) (fun _ _ _ h => h) (.inl ⟨rfl, fun w' hSw => by go_simp⟩) hS rfl ?_
      simp only [Act.put, List.setIfInBounds_toArray, List.set_cons_zero, List.set_cons_succ]
      refine PrintLast.one_ (i := 12) (N := (some 27)) #[true, true, true, true, true, true, true, true, true, true, true, true, true, false, false] rfl rfl (by kernel_rfl) (by decide) (fun K hK => PrintLast.value_ (v := .slice (some ⟨wr.drew.heap.size, 0, none⟩) 1 1) (w1 := wr.drew.alloc (.cells #[.string (cut12 x)] 9)) rfl rfl (by go_simp) (hK.out _ _ (cell_alloc_l _ hS) (fun hS => ?_)))
      clear hK K
      simp only [Act.put, List.setIfInBounds_toArray, List.set_cons_zero, List.set_cons_succ]
      obtain ⟨v', w', hrun, hown', hgrow, _⟩ := run_append_own (P := Try.prog) (wr.drew.alloc (.cells #[.string (cut12 x)] 9)) w.heap.size 27 27 9 i0 (.string ByteArray.empty) 1 16 Try.underlying27 hi hz0 hz1 hz2 rfl (by decide) u3 k (strVals ((l.take k).map cut12)) ((show wr.drew.ownsRow w.heap.size 9 1 u3 k (strVals ((l.take k).map cut12)) from hown).alloc _)
        ⟨wr.heap.size, 0, none⟩ 1 1 [.string (cut12 x)] rfl (cell_one_new wr.drew _ _) (fun x hx => by simp at hx; subst hx; rfl) (by unfold maxLen; omega) (by omega) (by have := hb.size; simp; omega)
      have hb2 : Below w.heap.size w w' := ((Below.drew hb).alloc hb.size _).grown hgrow (by have := hb.size; simp; omega) (fun g hg => by
        rcases hown.2 with ⟨rfl, _⟩ | ⟨g', cap', cur, rfl, hg', _⟩
        · simp [Value.ownBlock] at hg
        · simp [Value.ownBlock] at hg; omega)
      have hS2 : w'.cell? ⟨b, off + k, none⟩ = some (.string x) := (hb2.cell (p := ⟨b, off + k, none⟩) hbl).trans hcell'
      refine PrintLast.one_ (i := 13) (N := (some 28)) #[true, true, true, true, true, true, true, true, true, true, true, true, true, true, false] rfl rfl (by kernel_rfl) (by decide) (fun K hK => PrintLast.value_ (v := v') (w1 := w') rfl rfl (exec_append rfl rfl rfl hrun) (hK.out _ _ (hS2) (fun hS => ?_)))
      clear hK K
      simp only [Act.put, List.setIfInBounds_toArray, List.set_cons_zero, List.set_cons_succ]
      refine PrintLast.one_ (i := 14) (N := (some 3)) #[true, true, true, true, true, true, true, true, true, true, true, true, true, true, true] rfl rfl (by kernel_rfl) (by decide) (fun K hK => PrintLast.value_ (v := v') (w1 := w') rfl rfl (by go_simp) (hK.out _ _ (hS) (fun hS => ?_)))
      clear hK K
      simp only [Act.put, List.setIfInBounds_toArray, List.set_cons_zero, List.set_cons_succ]
      refine PrintLast.done_ (by kernel_rfl) ?_
      go_wp2_with fail
      refine ⟨⟨k + 1, by omega, by omega, by simp, ?_, hb2⟩, ?_⟩
      · rw [htk, List.length_append, hlen]
        have e : strVals ((l.take k).map cut12 ++ [cut12 x]) = strVals ((l.take k).map cut12) ++ [.string (cut12 x)] := by simp [strVals]
        rw [e]
        exact hown'
      · show l.length - (((k : Int) + 1).toNat) < l.length - (k : Int).toNat
        omega
    · have hall : l.take k = l.take 10 := by
        by_cases h : k < l.length
        · have : k = 10 := by omega
          rw [this]
        · rw [List.take_of_length_le (by omega), List.take_of_length_le (by omega)]
      rw [hall] at hown
      by_cases hlt1 : k < l.length
      · have hd1 : decide ((k : Int) < (l.length : Int)) = true := decide_eq_true (by omega)
        have hd2 : decide ((k : Int) < 10) = false := decide_eq_false (by omega)
        go_wp2_with fail
        go_ret
        exact ⟨⟨_, rfl, hown⟩, hb⟩
      · have hd1 : decide ((k : Int) < (l.length : Int)) = false := decide_eq_false (by omega)
        go_wp2_with fail
        go_ret
        exact ⟨⟨_, rfl, hown⟩, hb⟩

end Go.Proofs.Ytddjaneacmdkmaa
