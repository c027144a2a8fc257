/-
  The walk of the reference's Put.
-/
import Derived.Test.YtddjaneacmdkmaaExtC
namespace Go.Proofs.Ytddjaneacmdkmaa
set_option linter.unusedVariables false
open Go.RowKit

set_option maxHeartbeats 1000000 in
theorem rput_out (t : Int) (d : ByteArray) (a : Option Addr) (cap : Nat) (l : List ByteArray) (w : World) (h : t < 1536 ∨ 65535 < t) :
    Calls Try.prog 13 #[.int .i64 t, .string d, .slice a l.length cap] w fun e W' => e = .returned (.tuple #[.int .i64 0, .string ⟨#[]⟩, .int .i64 2]) ∧ Below w.heap.size w W' := by
  by_cases h0 : t < 1536
  · have g0 : decide (t < 1536) = true := decide_eq_true (by omega)
    go_enter Try.func13, Try.ntmps13
    go_wp2_with fail
    exact bodyPost_ret (v := .tuple #[.int .i64 0, .string ⟨#[]⟩, .int .i64 2]) (by simp [results, Try.results13, go_sem]) rfl ⟨rfl, Below.refl _ _⟩
  · have g0 : decide (t < 1536) = false := decide_eq_false (by omega)
    have g1 : decide (65535 < t) = true := decide_eq_true (by omega)
    go_enter Try.func13, Try.ntmps13
    go_wp2_with fail
    exact bodyPost_ret (v := .tuple #[.int .i64 0, .string ⟨#[]⟩, .int .i64 2]) (by simp [results, Try.results13, go_sem]) rfl ⟨rfl, Below.refl _ _⟩

set_option maxRecDepth 100000 in
set_option maxHeartbeats 2000000 in
theorem rput_in (t : Int) (d : ByteArray) (a : Option Addr) (cap : Nat) (l : List ByteArray) (w : World) (h0 : 1536 ≤ t) (h1 : t ≤ 65535) (hd : d.size ≤ 10000) (hl : l.length ≤ 1000) (hs : ∀ h ∈ l, h.size ≤ maxLen) (hc : StrCells w.heap.size w a l) :
    Calls Try.prog 13 #[.int .i64 t, .string d, .slice a l.length cap] w fun e W' => e = .returned (.tuple #[.int .i64 (extPut t d l).1, .string (extPut t d l).2.1, .int .i64 (extPut t d l).2.2]) ∧ Below w.heap.size w W' := by
  have g0 : decide (t < 1536) = false := decide_eq_false (by omega)
  have g1 : decide (65535 < t) = false := decide_eq_false (by omega)
  go_enter Try.func13, Try.ntmps13
  go_wp2_with fail
  go_loopw [9] (fun i wr => ∃ k : Nat, k ≤ l.length ∧ i = .int .i64 k ∧ (∀ j (h : j < l.length), j < k → badHead l[j] = false) ∧ w = wr) (fun i _ => l.length - (intOf i).toNat)
  case atStart => exact ⟨0, Nat.zero_le _, rfl, fun j _ h => absurd h (by omega), rfl⟩
  case round =>
    obtain ⟨k, hk, rfl, hno, rfl⟩ := hrel
    by_cases hlt : k < l.length
    · have hd1 : decide ((k : Int) < (l.length : Int)) = true := decide_eq_true (by omega)
      obtain ⟨b, off, rfl, hbl, hcell⟩ := hc k hlt
      have hsz := hs l[k] (List.getElem_mem _)
      unfold maxLen at hsz
      cases ho : badHead l[k] with
      | true =>
        have hany : l.any badHead = true := List.any_eq_true.2 ⟨l[k], List.getElem_mem _, ho⟩
        have hx : extPut t d l = (0, ⟨#[]⟩, 2) := by unfold extPut; rw [if_pos (.inr (.inr hany))]
        have ho' : l[k].size % 2 = 0 ∨ 9 < l[k].size := by simpa [badHead] using ho
        generalize l[k] = x at hcell hsz ho'
        by_cases h2 : x.size % 2 = 0
        · have k0 : ((x.size : Int) % 2 == 0) = true := by rw [beq_iff_eq]; omega
          go_wp2_with fail
          rw [hx]
          exact bodyPost_ret (v := .tuple #[.int .i64 0, .string ⟨#[]⟩, .int .i64 2]) (by simp [results, Try.results13, go_sem]) rfl ⟨rfl, Below.refl _ _⟩
        · have k0 : ((x.size : Int) % 2 == 0) = false := by rw [beq_eq_false_iff_ne]; omega
          have k1 : decide (9 < (x.size : Int)) = true := decide_eq_true (by omega)
          go_wp2_with fail
          rw [hx]
          exact bodyPost_ret (v := .tuple #[.int .i64 0, .string ⟨#[]⟩, .int .i64 2]) (by simp [results, Try.results13, go_sem]) rfl ⟨rfl, Below.refl _ _⟩
      | false =>
        have hno' : ∀ j (h : j < l.length), j < k + 1 → badHead l[j] = false := fun j h hj => by
          by_cases e : j = k
          · subst e; exact ho
          · exact hno j h (by omega)
        have ho' : ¬ l[k].size % 2 = 0 ∧ ¬ 9 < l[k].size := by simpa [badHead, not_or] using ho
        generalize l[k] = x at hcell hsz ho'
        have k0 : ((x.size : Int) % 2 == 0) = false := by rw [beq_eq_false_iff_ne]; omega
        have k1 : decide (9 < (x.size : Int)) = false := decide_eq_false (by omega)
        go_wp2_with fail
        refine ⟨⟨k + 1, by omega, by simp, hno', trivial⟩, ?_⟩
        show l.length - (((k : Int) + 1).toNat) < l.length - (k : Int).toNat
        omega
    · have hd1 : decide ((k : Int) < (l.length : Int)) = false := decide_eq_false (by omega)
      have hany : l.any badHead = false := by
        rw [List.any_eq_false]
        intro x hx
        obtain ⟨j, hj, rfl⟩ := List.getElem_of_mem hx
        rw [hno j hj (by omega)]; simp
      have hgood : ∀ h ∈ l, badHead h = false := fun h hh => by simpa using List.any_eq_false.1 hany h hh
      have hx : extPut t d l = ((putAll (t, d) l).1, (putAll (t, d) l).2, 0) := by unfold extPut; rw [if_neg (by rw [hany]; simp; omega)]
      go_wp2_with fail
      go_loopw [0, 1, 10] (fun tv dv i wr => ∃ (j : Nat) (u : Int) (y : ByteArray), j ≤ l.length ∧ i = .int .i64 ((j : Int) - 1) ∧ tv = .int .i64 u ∧ dv = .string y ∧ putAll (t, d) (l.drop j) = (u, y) ∧ 0 ≤ u ∧ u ≤ 65535 ∧ y.size ≤ d.size + 10 * (l.length - j) ∧ Below w.heap.size w wr) (fun _ _ i _ => (intOf i + 1).toNat)
      case atStart => exact ⟨l.length, t, d, Nat.le_refl _, rfl, rfl, rfl, by rw [List.drop_length]; rfl, by omega, by omega, by omega, Below.refl _ _⟩
      case round =>
        obtain ⟨j, u, y, hj, rfl, rfl, rfl, hp, hu0, hu1, hys, hb⟩ := hrel
        by_cases hj0 : 0 < j
        · obtain ⟨m, rfl⟩ : ∃ m, j = m + 1 := ⟨j - 1, by omega⟩
          have hm : (((m + 1 : Nat) : Int)) - 1 = (m : Int) := by omega
          rw [hm]
          have hd2 : decide ((0 : Int) ≤ (m : Int)) = true := decide_eq_true (by omega)
          obtain ⟨b, off, rfl, hbl, hcell⟩ := hc m (by omega)
          have hcx := (hb.cell (p := ⟨b, off + m, none⟩) hbl).trans hcell
          have hbad := hgood l[m] (List.getElem_mem _)
          have hdrop : l.drop m = l[m] :: l.drop (m + 1) := List.drop_eq_getElem_cons (by omega)
          have hput : putAll (t, d) (l.drop m) = put1 (u, y) l[m] := by rw [hdrop, ← hp]; rfl
          generalize l[m] = h at hcx hbad hput
          have hh : ¬ h.size % 2 = 0 ∧ ¬ 9 < h.size := by simpa [badHead, not_or] using hbad
          have hq : IntKind.i64.wrap (u.tdiv 256) = u / 256 := by
            rw [Int.tdiv_eq_ediv_of_nonneg hu0, IntKind.wrap_i64]; omega
          have hq2 : IntKind.i64.wrap (u.tmod 256) = u % 256 := by
            rw [Int.tmod_eq_emod_of_nonneg hu0, IntKind.wrap_i64]; omega
          have hq3 : IntKind.u8.wrap (u % 256) = IntKind.u8.wrap u := by rw [IntKind.wrap_u8, IntKind.wrap_u8]; omega
          have hs1 : ¬ (h.size : Int) < 1 := by omega
          have hcv : (convert 42 9 (.slice (some ⟨wr.heap.size, 0, none⟩) 2 2)).run Try.prog (wr.alloc (.cells #[.int .u8 (IntKind.u8.wrap (u / 256)), .int .u8 (IntKind.u8.wrap u)] 5)).drew = .ok (.string (strOfNums [IntKind.u8.wrap (u / 256), IntKind.u8.wrap u])) (wr.alloc (.cells #[.int .u8 (IntKind.u8.wrap (u / 256)), .int .u8 (IntKind.u8.wrap u)] 5)).drew :=
            conv_new (P := Try.prog) 42 9 5 Try.underlying42 Try.underlying5 Try.underlying9 [IntKind.u8.wrap (u / 256), IntKind.u8.wrap u] wr.drew
          have hs2 : (strOfNums [IntKind.u8.wrap (u / 256), IntKind.u8.wrap u]).size = 2 := by rw [strOfNums_size]; rfl
          have hs3 : (h.extract 1 h.size).size = h.size - 1 := by rw [ByteArray.size_extract]; omega
          have hs4 : h.size - 1 + 2 ≤ 9223372036854775807 := by omega
          have hs5 : h.size - 1 + 2 + y.size ≤ 9223372036854775807 := by omega
          go_wp2_with fail
          refine PrintLast.start_ (n := 14) (ds := []) (S := fun _ => True) #[false, false, false, false, false, false, false, false, false, false, false, false, false, false] (by kernel_rfl) rfl rfl trivial (fun hS => ?_)
          refine PrintLast.take_ (i := 0) (N := (some 50)) (v := .string h) #[true, false, false, false, false, false, false, false, false, false, false, false, false, false] rfl rfl (by kernel_rfl) (fun _ _ _ h => h) (.inl ⟨rfl, fun w' hSw => by go_simp⟩) hS rfl ?_
          simp only [Act.put, List.setIfInBounds_toArray, List.set_cons_zero, List.set_cons_succ]
          refine PrintLast.take_ (i := 1) (N := (some 51)) (v := .string (h.extract 1 h.size)) #[true, true, false, false, false, false, false, false, false, false, false, false, false, false] rfl rfl (by kernel_rfl) (fun _ _ _ h => h) (.inl ⟨rfl, fun w' hSw => by go_simp; try omega⟩) hS rfl ?_
          simp only [Act.put, List.setIfInBounds_toArray, List.set_cons_zero, List.set_cons_succ]
          refine PrintLast.take_ (i := 2) (N := (some 52)) (v := .int .i64 u) #[true, true, true, false, false, false, false, false, false, false, false, false, false, false] rfl rfl (by kernel_rfl) (fun _ _ _ h => h) (.inl ⟨rfl, fun w' hSw => by go_simp⟩) hS rfl ?_
          simp only [Act.put, List.setIfInBounds_toArray, List.set_cons_zero, List.set_cons_succ]
          refine PrintLast.take_ (i := 3) (N := (some 53)) (v := .int .i64 (u / 256)) #[true, true, true, true, false, false, false, false, false, false, false, false, false, false] rfl rfl (by kernel_rfl) (fun _ _ _ h => h) (.inl ⟨rfl, fun w' hSw => by go_simp; try exact hq⟩) hS rfl ?_
          simp only [Act.put, List.setIfInBounds_toArray, List.set_cons_zero, List.set_cons_succ]
          refine PrintLast.take_ (i := 4) (N := (some 54)) (v := .int .u8 (IntKind.u8.wrap (u / 256))) #[true, true, true, true, true, false, false, false, false, false, false, false, false, false] rfl rfl (by kernel_rfl) (fun _ _ _ h => h) (.inl ⟨rfl, fun w' hSw => by go_simp⟩) hS rfl ?_
          simp only [Act.put, List.setIfInBounds_toArray, List.set_cons_zero, List.set_cons_succ]
          refine PrintLast.take_ (i := 5) (N := (some 55)) (v := .int .i64 u) #[true, true, true, true, true, true, false, false, false, false, false, false, false, false] rfl rfl (by kernel_rfl) (fun _ _ _ h => h) (.inl ⟨rfl, fun w' hSw => by go_simp⟩) hS rfl ?_
          simp only [Act.put, List.setIfInBounds_toArray, List.set_cons_zero, List.set_cons_succ]
          refine PrintLast.take_ (i := 6) (N := (some 56)) (v := .int .i64 (u % 256)) #[true, true, true, true, true, true, true, false, false, false, false, false, false, false] rfl rfl (by kernel_rfl) (fun _ _ _ h => h) (.inl ⟨rfl, fun w' hSw => by go_simp; try exact Int.tmod_eq_emod_of_nonneg hu0⟩) hS rfl ?_
          simp only [Act.put, List.setIfInBounds_toArray, List.set_cons_zero, List.set_cons_succ]
          refine PrintLast.take_ (i := 7) (N := (some 57)) (v := .int .u8 (IntKind.u8.wrap u)) #[true, true, true, true, true, true, true, true, false, false, false, false, false, false] rfl rfl (by kernel_rfl) (fun _ _ _ h => h) (.inl ⟨rfl, fun w' hSw => by go_simp; try exact hq3⟩) hS rfl ?_
          simp only [Act.put, List.setIfInBounds_toArray, List.set_cons_zero, List.set_cons_succ]
          refine PrintLast.take_ (i := 11) (N := (some 61)) (v := .string y) #[true, true, true, true, true, true, true, true, false, false, false, true, false, false] rfl rfl (by kernel_rfl) (fun _ _ _ h => h) (.inl ⟨rfl, fun w' hSw => by go_simp⟩) hS rfl ?_
          simp only [Act.put, List.setIfInBounds_toArray, List.set_cons_zero, List.set_cons_succ]
          refine PrintLast.one_ (i := 8) (N := (some 58)) #[true, true, true, true, true, true, true, true, true, false, false, true, false, false] rfl rfl (by kernel_rfl) (by decide) (fun K hK => PrintLast.value_ (v := .slice (some ⟨wr.drew.heap.size, 0, none⟩) 2 2) (w1 := wr.drew.alloc (.cells #[.int .u8 (IntKind.u8.wrap (u / 256)), .int .u8 (IntKind.u8.wrap u)] 5)) rfl rfl (by go_simp) (hK.out _ _ (trivial) (fun hS => ?_)))
          clear hK K
          simp only [Act.put, List.setIfInBounds_toArray, List.set_cons_zero, List.set_cons_succ]
          refine PrintLast.one_ (i := 9) (N := (some 59)) #[true, true, true, true, true, true, true, true, true, true, false, true, false, false] rfl rfl (by kernel_rfl) (by decide) (fun K hK => PrintLast.value_ (v := .string (strOfNums [IntKind.u8.wrap (u / 256), IntKind.u8.wrap u])) (w1 := wr.drew.alloc (.cells #[.int .u8 (IntKind.u8.wrap (u / 256)), .int .u8 (IntKind.u8.wrap u)] 5)) rfl rfl (by go_simp) (hK.out _ _ (trivial) (fun hS => ?_)))
          clear hK K
          simp only [Act.put, List.setIfInBounds_toArray, List.set_cons_zero, List.set_cons_succ]
          refine PrintLast.one_ (i := 10) (N := (some 60)) #[true, true, true, true, true, true, true, true, true, true, true, true, false, false] rfl rfl (by kernel_rfl) (by decide) (fun K hK => PrintLast.value_ (v := .string (h.extract 1 h.size ++ strOfNums [IntKind.u8.wrap (u / 256), IntKind.u8.wrap u])) (w1 := wr.drew.alloc (.cells #[.int .u8 (IntKind.u8.wrap (u / 256)), .int .u8 (IntKind.u8.wrap u)] 5)) rfl rfl (by go_simp) (hK.out _ _ (trivial) (fun hS => ?_)))
          clear hK K
          simp only [Act.put, List.setIfInBounds_toArray, List.set_cons_zero, List.set_cons_succ]
          refine PrintLast.one_ (i := 12) (N := (some 62)) #[true, true, true, true, true, true, true, true, true, true, true, true, true, false] rfl rfl (by kernel_rfl) (by decide) (fun K hK => PrintLast.value_ (v := .string (h.extract 1 h.size ++ strOfNums [IntKind.u8.wrap (u / 256), IntKind.u8.wrap u] ++ y)) (w1 := wr.drew.alloc (.cells #[.int .u8 (IntKind.u8.wrap (u / 256)), .int .u8 (IntKind.u8.wrap u)] 5)) rfl rfl (by go_simp) (hK.out _ _ (trivial) (fun hS => ?_)))
          clear hK K
          simp only [Act.put, List.setIfInBounds_toArray, List.set_cons_zero, List.set_cons_succ]
          refine PrintLast.one_ (i := 13) (N := (some 1)) #[true, true, true, true, true, true, true, true, true, true, true, true, true, true] rfl rfl (by kernel_rfl) (by decide) (fun K hK => PrintLast.value_ (v := .string (h.extract 1 h.size ++ strOfNums [IntKind.u8.wrap (u / 256), IntKind.u8.wrap u] ++ y)) (w1 := wr.drew.alloc (.cells #[.int .u8 (IntKind.u8.wrap (u / 256)), .int .u8 (IntKind.u8.wrap u)] 5)) rfl rfl (by go_simp) (hK.out _ _ (trivial) (fun hS => ?_)))
          clear hK K
          simp only [Act.put, List.setIfInBounds_toArray, List.set_cons_zero, List.set_cons_succ]
          refine PrintLast.done_ (by kernel_rfl) ?_
          have hi0 : ∀ w, (Instr.index 9 (.string h) (.int .i64 0)).run Try.prog w = .ok (.int .u8 ((h.data.getD 0 0).toNat : Int)) w := fun w => by
            have hz : h.size = h.data.size := rfl
            rw [run_index_string w 9 h .i64 _ Try.underlying9, dif_pos (by omega)]
            simp [Array.getD, ByteArray.getElem_eq_getElem_data, show 0 < h.size by omega]
          have hb8 := UInt8.toNat_lt (h.data.getD 0 0)
          have e1 : (put1 (u, y) h).1 = (((h.size : Int) + 1) / 2) * 256 + ((h.data.getD 0 0).toNat : Int) := by unfold put1; simp only; omega
          generalize hpn : (h.data.getD 0 0).toNat = pn at hi0 hb8 e1
          go_wp2_with fail
          have hbd := put1_bounds (u, y) h hbad
          rw [← e1]
          refine ⟨⟨m, _, _, by omega, ?_, rfl, rfl, hput, hbd.1, hbd.2.1, by have e := hbd.2.2; change (h.extract 1 h.size ++ strOfNums [IntKind.u8.wrap (u / 256), IntKind.u8.wrap u] ++ y).size = h.size + 1 + y.size at e; omega, (Below.drew hb).alloc hb.size _⟩, ?_⟩
          · simp
          · show ((m : Int) - 1 + 1).toNat < ((m : Int) + 1).toNat
            omega
        · obtain rfl : j = 0 := by omega
          have hd2 : decide ((0 : Int) ≤ ((0 : Nat) : Int) - 1) = false := by decide
          go_wp2_with fail
          rw [hx]
          rw [List.drop_zero] at hp
          rw [hp]
          exact bodyPost_ret (v := .tuple #[.int .i64 u, .string y, .int .i64 0]) (by simp [results, Try.results13, go_sem]) rfl ⟨rfl, hb⟩

end Go.Proofs.Ytddjaneacmdkmaa
