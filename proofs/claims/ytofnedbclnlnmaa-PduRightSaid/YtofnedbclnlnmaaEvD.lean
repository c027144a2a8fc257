/-
  Ev: cells read as they are reckoned.
-/
import Derived.Test.YtofnedbclnlnmaaEvC
import Derived.Laws.Cells
import Derived.Laws.StructEq
namespace Go.Proofs.Ytofnedbclnlnmaa.Ev
set_option linter.unusedVariables false
set_option linter.unusedSimpArgs false
open Go.RowKit

theorem flat_length (T : RowTy) : ∀ l : List T.α, (T.flat l).length = l.length * T.sz
  | [] => by simp [RowTy.flat]
  | a :: l => by
    have := flat_length T l
    simp only [RowTy.flat, List.flatMap_cons, List.length_append, T.len, List.length_cons] at this ⊢
    rw [this, Nat.add_mul]; omega

theorem flat_get (T : RowTy) : ∀ (l : List T.α) (i : Nat) (a : T.α) (y : Nat), l[i]? = some a → y < T.sz → (T.flat l)[i * T.sz + y]? = (T.enc a)[y]?
  | [], i, a, y, h, _ => by simp at h
  | b :: l, 0, a, y, h, hy => by
    simp only [List.getElem?_cons_zero, Option.some.injEq] at h
    subst h
    simp only [RowTy.flat, List.flatMap_cons, Nat.zero_mul, Nat.zero_add]
    rw [List.getElem?_append_left (by rw [T.len]; exact hy)]
  | b :: l, i + 1, a, y, h, hy => by
    simp only [List.getElem?_cons_succ] at h
    have := flat_get T l i a y h hy
    simp only [RowTy.flat, List.flatMap_cons] at this ⊢
    rw [List.getElem?_append_right (by rw [T.len, Nat.add_mul]; omega), T.len, ← this]
    congr 1
    rw [Nat.add_mul]; omega

theorem flat_data (T : RowTy) (l : List T.α) : (T.flat l).all AVal.data = true := by
  rw [List.all_eq_true]
  intro x hx
  simp only [RowTy.flat, List.mem_flatMap] at hx
  obtain ⟨a, _, ha⟩ := hx
  have := T.isData a
  rw [List.all_eq_true] at this
  exact this x ha

theorem cell_of_heap {w : World} {g : Nat} {cs : Array Value} {e : TypeId} {fz : Nat × Nat} (h : w.heap[g]? = some (.cells cs e fz)) (o : Nat) : w.cell? ⟨g, o, none⟩ = cs[o]? := by
  simp [World.cell?, h]

/-- What a row's cells hold. -/
theorem row_cell {ρ : Rho} {w : World} {b : Nat} {e : TypeId} {T : RowTy} {l : List T.α} {md : RowMd} (h : (ABlk.row e T l md).ok ρ w b) {o : Nat} {v : AVal} (hv : (T.flat l)[o]? = some v) : w.cell? ⟨ρ.blk b, ρ.off b + o, none⟩ = some (tr ρ v) := by
  by_cases hmd : md = .ro
  · subst hmd
    exact h.2.2.2 o v hv
  · obtain ⟨h0, h1, h2, cur, fz, h3, h4, h5, h6⟩ := (ABlk.ok_own hmd).1 h
    have ho : o < l.length * T.sz := by
      have := (List.getElem?_eq_some_iff.1 hv).1
      rwa [flat_length] at this
    rw [h0, Nat.zero_add, cell_of_heap h3]
    have e1 : (cur.toList.take (l.length * T.sz))[o]? = (trL ρ (T.flat l))[o]? := by rw [h6]
    rw [List.getElem?_take, if_pos ho, trL_get, hv] at e1
    simpa using e1

theorem readCells_cells {sm : Bool} {x : ABlk} {i sz j m b : Nat} {r : List AVal} {ρ : Rho} {w : World} (h : readCells sm x i sz j m = some (true, r)) (hok : x.ok ρ w b) {N : Nat} (hN : x.under N = true) :
    r.length = m ∧ belowL N r = true ∧ r.all AVal.scalar = true ∧ ∀ y v, r[y]? = some v → w.cell? ⟨ρ.blk b, ρ.off b + (i * sz + j) + y, none⟩ = some (tr ρ v) := by
  cases x with
  | dead => simp [readCells] at h
  | cells e l =>
    obtain ⟨h0, hsc, fz, hh, _⟩ := hok
    have plain : ∀ o r, takeN m (l.drop o) = some r → r.length = m ∧ belowL N r = true ∧ r.all AVal.scalar = true ∧ ∀ y v, r[y]? = some v → w.cell? ⟨ρ.blk b, ρ.off b + o + y, none⟩ = some (tr ρ v) := by
      intro o r hr
      obtain ⟨rfl, hl⟩ := takeN_spec hr
      refine ⟨by rw [List.length_take]; omega, belowL_take (belowL_drop hN _) _, ?_, ?_⟩
      · rw [List.all_eq_true] at hsc ⊢
        exact fun x hx => hsc x (List.mem_of_mem_drop (List.mem_of_mem_take hx))
      · intro y v hy
        rw [List.getElem?_take] at hy
        split at hy <;> try cases hy
        rw [List.getElem?_drop] at hy
        rw [h0, Nat.zero_add, cell_of_heap hh]
        simp [trL_get, hy]
    simp only [readCells] at h
    split at h
    · split at h <;> try cases h
      rename_i r' hr
      simpa using plain j r hr
    · rename_i s
      split at h
      · split at h <;> try cases h
        rename_i r' hr
        simp only [Option.some.injEq, Prod.mk.injEq, decide_eq_true_eq] at h
        obtain ⟨hi, rfl⟩ := h
        obtain ⟨h1, h2, h3⟩ := selCells_spec hi hr
        refine ⟨h1, ?_, ?_, ?_⟩
        · rw [belowL_eq, List.all_eq_true]
          rw [List.all_eq_true] at h2
          exact fun x hx => AVal.data_below (h2 x hx) N
        · rw [List.all_eq_true] at h2 ⊢
          exact fun x hx => AVal.data_scalar (h2 x hx)
        · intro y v hy
          have hym : y < m := by rw [← h1]; exact (List.getElem?_eq_some_iff.1 hy).1
          rw [h3 y hym] at hy
          rw [h0, Nat.zero_add, cell_of_heap hh]
          have : i * (s + 1) + j + y = j + y + i * (s + 1) := by omega
          simp [trL_get, this, hy]
      · split at h <;> try cases h
        rename_i r' hr
        exact plain _ r hr
  | row e T l md =>
    simp only [readCells] at h
    split at h <;> try cases h
    rename_i hsz
    have hsz := nat_beq_eq.1 hsz
    subst hsz
    split at h <;> try cases h
    rename_i r' hr
    simp only [Option.some.injEq, Prod.mk.injEq, decide_eq_true_eq] at h
    obtain ⟨hi, rfl⟩ := h
    obtain ⟨rfl, hl⟩ := takeN_spec hr
    have hget : l[i]? = some (l.getD i T.dflt) := by simp [List.getD, List.getElem?_eq_getElem hi]
    have hd := T.isData (l.getD i T.dflt)
    rw [List.all_eq_true] at hd
    refine ⟨by rw [List.length_take]; omega, ?_, ?_, ?_⟩
    · rw [belowL_eq, List.all_eq_true]
      exact fun x hx => AVal.data_below (hd x (List.mem_of_mem_drop (List.mem_of_mem_take hx))) N
    · rw [List.all_eq_true]
      exact fun x hx => AVal.data_scalar (hd x (List.mem_of_mem_drop (List.mem_of_mem_take hx)))
    · intro y v hy
      rw [List.getElem?_take] at hy
      split at hy <;> try cases hy
      rw [List.getElem?_drop] at hy
      have hjy : j + y < T.sz := by
        have := (List.getElem?_eq_some_iff.1 hy).1
        rwa [T.len] at this
      have := flat_get T l i _ (j + y) hget hjy
      rw [hy] at this
      have := row_cell hok this
      rw [← this]
      congr 2
      omega

section
variable {P : Program}

theorem load_cells {ρ : Rho} {w : World} {g o m : Nat} {r : List AVal} (hl : r.length = m) (h : ∀ y v, r[y]? = some v → w.cell? ⟨g, o + y, none⟩ = some (tr ρ v)) : (loadCells ⟨g, o, none⟩ m).run P w = .ok (trL ρ r).toArray w := by
  have := run_loadCells_list (P := P) w ⟨g, o, none⟩ (trL ρ r) (fun j v hv => by
    have e : (⟨g, o, none⟩ : Addr).add j = ⟨g, o + j, none⟩ := by unfold Addr.add; split <;> simp_all
    rw [e]
    rw [trL_get] at hv
    cases hr : r[j]? with
    | none => simp [hr] at hv
    | some x => simp [hr] at hv; subst hv; exact h j x hr)
  rw [trL_length, hl] at this
  exact this

theorem load_var {t : TypeId} {m : Nat} {ag : Bool} (hm : sizeA P t = some m) (ha : aggA P t = some ag) {ρ : Rho} {w : World} {g o : Nat} {r : List AVal} {v : AVal} (hl : r.length = m) (h : ∀ y v, r[y]? = some v → w.cell? ⟨g, o + y, none⟩ = some (tr ρ v)) (hv : pack ag r = some v) :
    (loadVar t ⟨g, o, none⟩).run P w = .ok (tr ρ v) w := by
  have h1 := aggA_run ha w
  have h2 := sizeA_run hm w
  rcases pack_spec hv with ⟨hag, hc⟩ | ⟨hag, hc⟩
  · subst hag hc
    simp only [loadVar, Sem.run_bind, h1, Result.andThen_ok, if_true, h2, load_cells hl h, Sem.run_pure]
    rfl
  · subst hag
    have := h 0 v (by rw [hc]; rfl)
    simp only [loadVar, Sem.run_bind, h1, Result.andThen_ok, Bool.false_eq_true, if_false, run_load]
    simp only [Nat.add_zero] at this
    simp [this]

theorem loadA_sound {sm : Bool} {H : AHeap} {t : TypeId} {x v : AVal} (h : loadA P sm H t x = some (true, v)) {ρ : Rho} {w : World} {N : Nat} (hH : ∀ b y, H.get b = some y → y.under N = true ∧ y.ok ρ w b) :
    (Instr.loadAt t (tr ρ x)).run P w = .ok (tr ρ v) w ∧ v.under N = true := by
  cases x <;> simp only [loadA, reduceCtorEq] at h
  rename_i b i sz j
  split at h <;> try cases h
  rename_i blk hb
  split at h <;> try cases h
  rename_i m ag hm ha
  split at h <;> try cases h
  rename_i c r hr
  split at h <;> try cases h
  rename_i hv
  obtain ⟨k1, k2⟩ := hH b blk hb
  obtain ⟨r1, r2, r3, r4⟩ := readCells_cells hr k2 k1
  refine ⟨?_, ?_⟩
  · simp only [tr, Instr.loadAt, Instr.sureAddr, Sem.run_bind, Sem.run_pure, Result.andThen_ok]
    exact load_var hm ha r1 r4 hv
  · rcases pack_spec hv with ⟨rfl, rfl⟩ | ⟨rfl, rfl⟩
    · simpa [AVal.under] using r2
    · simpa [belowL] using r2

end

end Go.Proofs.Ytofnedbclnlnmaa.Ev
