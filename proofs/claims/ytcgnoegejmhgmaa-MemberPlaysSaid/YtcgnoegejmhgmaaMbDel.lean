/-
  The library's removal from a list of numbers: the contract.
-/
import Derived.Test.YtcgnoegejmhgmaaMbDel0
import Derived.Test.YtcgnoegejmhgmaaLay
namespace Go.Proofs.Ytcgnoegejmhgmaa
set_option linter.unusedVariables false
set_option linter.unusedSimpArgs false
open Go.RowKit Ev

def castI : {T : RowTy} → T = intRow .i64 → List T.α → List Int
  | _, rfl, l => l

theorem flat_int (l : List Int) : (intRow .i64).flat l = l.map (AVal.int .i64) := by
  induction l with
  | nil => rfl
  | cons a l ih => simp only [RowTy.flat, List.flatMap_cons, List.map_cons] at ih ⊢; rw [ih]; rfl
theorem trL_ints (ρ : Rho) (l : List Int) : trL ρ (l.map (AVal.int .i64)) = l.map (Value.int .i64) := by
  rw [trL_eq, List.map_map]; rfl

/-- A row of numbers, in memory. -/
theorem row_holds {ρ : Rho} {w : World} {b : Nat} {e : TypeId} {l : List Int} (h : OwnRow ρ w b e (intRow .i64) l False) :
    ∃ cur : Array Value, w.heap[ρ.blk b]? = some (.cells cur e (0, 0)) ∧ cur.size = ρ.cap b ∧ cur.toList.take l.length = l.map (Value.int .i64) ∧ l.length ≤ ρ.cap b ∧ Go.Sort.Holds (Value.int .i64) w (ρ.blk b) 0 l.toArray := by
  obtain ⟨h0, h1, h2, cur, fz, h3, h4, h5, h6⟩ := h
  have hfz : fz = (0, 0) := h4.resolve_right (fun h => h.1)
  subst hfz
  have h5' : cur.size = ρ.cap b := by rw [h5]; exact Nat.mul_one _
  have h6' : cur.toList.take l.length = l.map (Value.int .i64) := by
    rw [flat_int, trL_ints, show l.length * (intRow .i64).sz = l.length from Nat.mul_one _] at h6
    exact h6
  refine ⟨cur, h3, h5', h6', h1, fun j hj => ⟨?_, ?_⟩⟩
  · have hj' : j < l.length := by simpa using hj
    rw [cell_of_heap h3, Nat.zero_add]
    have : (cur.toList.take l.length)[j]? = (l.map (Value.int .i64))[j]? := by rw [h6']
    rw [List.getElem?_take, if_pos hj', List.getElem?_map, List.getElem?_eq_getElem hj', Array.getElem?_toList] at this
    rw [this, getElem!_pos _ j hj]
    simp
  · simp [World.frozen?, h3]

/-- A row of numbers is rewritten: the first of its cells. -/
theorem row_put {ρ : Rho} {H : AHeap} {w w' : World} (hR : Rel ρ H w) {b : Nat} {e : TypeId} {l l' : List Int} {d : Array Int} (hb : H.get b = some (.row e (intRow .i64) l .plain)) {q : Nat}
    (hw : w' = Go.Sort.putRow (Value.int .i64) (Go.Sort.ahead w q) (ρ.blk b) 0 d) (hd : d.size = l.length) (hl : ∃ r, d.toList = l' ++ r) : Step ρ H w ρ (H.put b (.row e (intRow .i64) l' .plain)) w' := by
  obtain ⟨q1, q2, q3, q4⟩ := hR.blk b _ hb
  obtain ⟨cur, h3, h5, h6, h1, _⟩ := row_holds (l := l) q4
  obtain ⟨a0, a1, a2, _⟩ := q4
  obtain ⟨r, hr⟩ := hl
  have hll : l'.length ≤ l.length := by
    rw [← hd, ← Array.length_toList, hr]; simp
  have hheap : ∀ g, w'.heap[g]? = if ρ.blk b = g then some (.cells (Go.Sort.putCells (Value.int .i64) 0 d cur) e (0, 0)) else w.heap[g]? := by
    intro g
    rw [hw]
    show ((Go.Sort.ahead w q).heap.modify (ρ.blk b) (Go.Sort.onCells (Go.Sort.putCells (Value.int .i64) 0 d)))[g]? = _
    rw [Array.getElem?_modify]
    by_cases hg : ρ.blk b = g
    · subst hg
      rw [if_pos rfl, if_pos rfl]
      show (w.heap[ρ.blk b]?).map _ = _
      rw [h3]; rfl
    · rw [if_neg hg, if_neg hg]; rfl
  have hsz : w'.heap.size = w.heap.size := by rw [hw, Go.Sort.size_putRow]; rfl
  have hget : ∀ x y, (H.put b (.row e (intRow .i64) l' .plain)).get x = some y → (x = b ∧ y = .row e (intRow .i64) l' .plain) ∨ (x ≠ b ∧ H.get x = some y) := by
    intro x y hy
    rw [AHeap.get_put] at hy
    by_cases hxb : b = x
    · rw [if_pos hxb] at hy
      simp only [ABlk.live, Option.some.injEq] at hy
      exact .inl ⟨hxb.symm, hy.symm⟩
    · rw [if_neg hxb] at hy
      exact .inr ⟨Ne.symm hxb, hy⟩
  refine Step.frame hR (fun x => x = b) (.refl _ _) (Nat.le_refl _) (fun x hx hxb => rfl) (by rw [hw]; rfl) (by rw [hw]; rfl) (by rw [hw]; rfl) (by rw [hsz]; exact Nat.le_refl _) (fun x y hx hy => by subst hx; rw [hb] at hy; cases hy; rfl) (fun g hg hn => ?_) (fun x y hy => ?_) (fun x x' y y' hne hy hy' t t' g hg hg' => ?_)
  · rw [hheap, if_neg]
    rintro rfl
    exact hn b _ rfl hb (.inl rfl)
  · rcases hget x y hy with ⟨rfl, rfl⟩ | h
    · refine .inr ⟨.inl rfl, q1, rfl, by rw [hsz]; exact q3, ⟨a0, Nat.le_trans hll a1, a2, Go.Sort.putCells (Value.int .i64) 0 d cur, (0, 0), by rw [hheap, if_pos rfl], .inl rfl, ?_, ?_⟩, rfl, fun g hg => .inr ⟨x, _, rfl, hb, hg⟩⟩
      · show (Array.mapIdx _ _).size = _
        rw [Array.size_mapIdx, h5]; exact (Nat.mul_one _).symm
      · rw [flat_int, trL_ints, show l'.length * (intRow .i64).sz = l'.length from Nat.mul_one _]
        apply List.ext_getElem?
        intro j
        rw [List.getElem?_take, List.getElem?_map]
        by_cases hj : j < l'.length
        · rw [if_pos hj, Array.getElem?_toList]
          show (Array.mapIdx _ _)[j]? = _
          have hjc : j < cur.size := by omega
          have hjd : j < d.size := by omega
          rw [Array.getElem?_mapIdx, Array.getElem?_eq_getElem hjc]
          simp only [Option.map_some]
          rw [if_pos (by omega), Nat.sub_zero, getElem!_pos d j hjd]
          have : d.toList[j]? = l'[j]? := by rw [hr, List.getElem?_append_left hj]
          rw [Array.getElem?_toList, Array.getElem?_eq_getElem hjd] at this
          rw [← this]; rfl
        · rw [if_neg hj, List.getElem?_eq_none (by omega)]; rfl
    · exact .inl h
  · have two : ∀ {x y}, (x = b ∨ H.next ≤ x) → (H.put b (.row e (intRow .i64) l' .plain)).get x = some y → x = b := by
      intro x y t hy
      rcases t with t | t
      · exact t
      · rcases hget x y hy with h | ⟨_, h⟩
        · exact h.1
        · have := (hR.blk x y h).1; omega
    exact hne ((two t hy).trans (two t' hy').symm)

def gcDel : GC := fun args H K => match args with
  | [.sl b 0 1 0 n none, .func g [] [.ptr c 0 0 0]] => match Nat.beq g 21, H.get b, H.get c with
    | true, some (.row e T l .plain), some (.cells _ [.int .i64 t]) => ∃ hT : T = intRow .i64, (n = (castI hT l).length ∧ (castI hT l).length ≤ 1000) ∧
      forceH (H.put b (.row e (intRow .i64) ((castI hT l).filter fun x => !(decide (x = t))) .plain)) (K (.ret (.sl b 0 1 0 ((castI hT l).filter fun x => !(decide (x = t))).length none)))
    | _, _, _ => Stuck 40 []
  | _ => Stuck 41 []

theorem del_sound : GcSound Try.prog 20 gcDel := by
  intro args H K hK ρ w hR hargs
  refine ⟨Try.call20, ?_⟩
  unfold gcDel at hK
  split at hK
  rotate_left
  · exact (not_stuck hK).elim
  rename_i b n g c
  split at hK
  rotate_left
  · exact (not_stuck hK).elim
  rename_i e T l e2 t hg hb hc
  have hg := nat_beq_eq.1 hg
  subst hg
  obtain ⟨hT, ⟨rfl, h1000⟩, hK⟩ := hK
  subst hT
  rw [forceH_eq] at hK
  change List Int at l
  change l.length ≤ 1000 at h1000
  obtain ⟨q1, q2, q3, q4⟩ := hR.blk b _ hb
  obtain ⟨c1, c2, c3, c4⟩ := hR.blk c _ hc
  obtain ⟨cur, h3, h5, h6, hcap, hH⟩ := row_holds (l := l) q4
  obtain ⟨a0, _⟩ := q4
  obtain ⟨d0, _, fz, d1, _⟩ := c4
  have hne : ρ.blk c ≠ ρ.blk b := by
    refine hR.ne hc hb rfl ?_
    rintro rfl
    rw [hb] at hc
    cases hc
  have hcell : w.cell? ⟨ρ.blk c, 0, none⟩ = some (.int .i64 t) := by rw [cell_of_heap d1]; rfl
  have pred : ∀ (W : World) (x : Int), W.cell? ⟨ρ.blk c, 0, none⟩ = some (.int .i64 t) → FnGives Try.prog 21 #[.pointer (some ⟨ρ.blk c, 0, none⟩)] #[Value.int .i64 x] (.bool (decide (x = t))) W := by
    intro W x hW
    refine (pred_walk x t (ρ.blk c) W hW).mono ?_
    rintro e w' ⟨h1, h2⟩
    exact ⟨h1, 0, by rw [h2]; rfl⟩
  have hO : OneCell (Value.int .i64 : Int → Value) := fun _ => rfl
  have hd := AnyE.slices_DeleteFunc delL (Value.int .i64) hO (fun x : Int => decide (x = t)) 21 #[.pointer (some ⟨ρ.blk c, 0, none⟩)] Try.call21 0 (fun w => by rfl)
    (ρ.blk b) 0 (ρ.cap b) l.toArray w (fun W x hb => pred W x (by rw [hb.cell (by exact c3)]; exact hcell)) (fun m os dk x hs => pred _ x (by
      show (Go.Sort.grow (Go.Sort.putRow (Value.int .i64) (Go.Sort.ahead w m) (ρ.blk b) 0 dk) os).cell? _ = _
      have : (Go.Sort.putRow (Value.int .i64) (Go.Sort.ahead w m) (ρ.blk b) 0 dk).cell? ⟨ρ.blk c, 0, none⟩ = some (.int .i64 t) := by
        rw [Go.Sort.cell?_putRow_other _ _ _ _ _ _ (.inl hne)]; exact hcell
      rw [← this]
      exact World.cell?_of_block (Go.Sort.heap_grow_old _ _ (by rw [Go.Sort.size_putRow]; exact c3)))) hH (by simp; omega) (by simpa using hcap)
  have e1 : (trL ρ [.sl b 0 1 0 l.length none, .func 21 [] [.ptr c 0 0 0]]).toArray = #[.slice (some ⟨ρ.blk b, 0, none⟩) l.toArray.size (ρ.cap b), .func (.func 21) #[] #[.pointer (some ⟨ρ.blk c, 0, none⟩)]] := by
    simp [trL, tr, a0, d0]
  rw [show (castI (rfl : intRow .i64 = intRow .i64) l) = l from rfl, e1]
  refine hd.mono ?_
  rintro en w' ⟨h7, q, h8⟩
  refine ⟨_, _, ρ, ?_, hK, row_put hR hb h8 ?_ ⟨_, by rw [List.toList_toArray]; rfl⟩⟩
  · rw [h7]
    refine ⟨?_, ?_⟩
    · show Value.slice _ _ _ = Value.slice (some ⟨ρ.blk b, ρ.off b + (0 * 1 + 0), none⟩) _ (ρ.cap b - 0)
      simp [a0]
      rfl
    · show Nat.blt b _ = true
      rw [Nat.blt_eq]; exact q1
  · have : (l.filter fun x => !decide (x = t)).length ≤ l.length := List.length_filter_le _ _
    simp
    omega

noncomputable def TMo : Tabs := { TM2 with op := opMk mapTys }
theorem TMook : TabsOk TMo Try.prog := ⟨TM2ok.mixed, TM2ok.fns, TM2ok.rows, TM2ok.fcs, TM2ok.gcs, TM2ok.lcs, opMk_sound _ _⟩
noncomputable def TM3 : Tabs := TMo.addGc 20 gcDel
theorem TM3ok : TabsOk TM3 Try.prog := TMook.addGc del_sound

end Go.Proofs.Ytcgnoegejmhgmaa
