/-
  Ev: the operations that write: a store, copy, append.
-/
import Derived.Test.YtofnedbclnlnmaaEvI
namespace Go.Proofs.Ytofnedbclnlnmaa.Ev
set_option linter.unusedVariables false
set_option linter.unusedSimpArgs false
open Go.RowKit

/-- One block is another one. -/
def setB (w : World) (g : Nat) (o : Obj) : World := { w with heap := w.heap.setIfInBounds g o }

theorem setB_get (w : World) (g : Nat) (o : Obj) (h : g < w.heap.size) : (setB w g o).heap[g]? = some o := by simp [setB, h]
theorem setB_other (w : World) (g k : Nat) (o : Obj) (h : k ≠ g) : (setB w g o).heap[k]? = w.heap[k]? := by simp [setB, Array.getElem?_setIfInBounds, Ne.symm h]
theorem setB_setB (w : World) (g : Nat) (o o' : Obj) : setB (setB w g o) g o' = setB w g o' := by
  simp only [setB, Array.setIfInBounds_setIfInBounds]
theorem setB_self (w : World) (g : Nat) (o : Obj) (h : w.heap[g]? = some o) : setB w g o = w := by
  have : w.heap.setIfInBounds g o = w.heap := by
    apply Array.ext_getElem?
    intro i
    rw [Array.getElem?_setIfInBounds]
    by_cases hi : g = i
    · subst hi
      obtain ⟨h1, h2⟩ := Array.getElem?_eq_some_iff.1 h
      simp [h1, h2]
    · simp [hi]
  simp [setB, this]

theorem setCell_setB (w : World) (g o : Nat) (v : Value) (cur : Array Value) (e : TypeId) (fz : Nat × Nat) (h : w.heap[g]? = some (.cells cur e fz)) : w.setCell ⟨g, o, none⟩ v = setB w g (.cells (cur.setIfInBounds o v) e fz) := by
  have hs : g < w.heap.size := (Array.getElem?_eq_some_iff.1 h).1
  unfold World.setCell setB
  congr 1
  apply Array.ext_getElem?
  intro i
  rw [Array.getElem?_modify, Array.getElem?_setIfInBounds]
  by_cases hi : g = i
  · subst hi
    obtain ⟨_, hv⟩ := Array.getElem?_eq_some_iff.1 h
    simp [hs, hv]
  · simp [hi]

theorem frozen_off {w : World} {g o : Nat} {cur : Array Value} {e : TypeId} {fz : Nat × Nat} (h : w.heap[g]? = some (.cells cur e fz)) (hf : fz = (0, 0) ∨ cur.size ≤ fz.1) (ho : o < cur.size) : w.frozen? ⟨g, o, none⟩ = false := by
  obtain ⟨lo, hi⟩ := fz
  simp only [World.frozen?, h]
  rcases hf with hf | hf
  · cases hf; simp
  · simp only at hf
    simp; omega

section
variable {P : Program}

theorem storeCells_run (g o : Nat) (e : TypeId) (fz : Nat × Nat) : ∀ (vs : List Value) (i : Nat) (cur : Array Value) (w : World), w.heap[g]? = some (.cells cur e fz) → (fz = (0, 0) ∨ cur.size ≤ fz.1) → (∀ u ∈ vs, u.oneCell' = true) → o + i + vs.length ≤ cur.size →
    (storeCells ⟨g, o, none⟩ vs i).run P w = .ok () (setB w g (.cells ((vs.zipIdx i).foldl (fun (cs : Array Value) (x : Value × Nat) => cs.setIfInBounds (o + x.2) x.1) cur) e fz))
  | [], i, cur, w, h, hf, h1, hl => by simp [storeCells, setB_self w g _ h]
  | v :: vs, i, cur, w, h, hf, h1, hl => by
    simp only [List.length_cons] at hl
    have hc : w.cell? ⟨g, o + i, none⟩ = some cur[o + i] := by rw [cell_of_heap h]; simp
    have hfr : w.frozen? ⟨g, o + i, none⟩ = false := frozen_off h hf (by omega)
    have hs : g < w.heap.size := (Array.getElem?_eq_some_iff.1 h).1
    have hst : (store ((⟨g, o, none⟩ : Addr).add i) v).run P w = .ok () (setB w g (.cells (cur.setIfInBounds (o + i) v) e fz)) := by
      rw [addr_add, run_store P w _ v _ (h1 v (by simp)), hc]
      simp only [hfr, Bool.false_eq_true, if_false, setCell_setB w g (o + i) v cur e fz h]
    simp only [storeCells, Sem.run_bind, hst, Result.andThen_ok]
    rw [storeCells_run g o e fz vs (i + 1) (cur.setIfInBounds (o + i) v) _ (setB_get _ _ _ hs) (by simpa using hf) (fun u hu => h1 u (by simp [hu])) (by simp; omega)]
    simp only [setB_setB, List.zipIdx_cons, List.foldl_cons]

theorem storeCells_run0 (g o : Nat) (e : TypeId) (fz : Nat × Nat) (vs : List Value) (cur : Array Value) (w : World) (h : w.heap[g]? = some (.cells cur e fz)) (hf : fz = (0, 0) ∨ cur.size ≤ fz.1) (h1 : ∀ u ∈ vs, u.oneCell' = true) (hl : o + vs.length ≤ cur.size) :
    (storeCells ⟨g, o, none⟩ vs).run P w = .ok () (setB w g (.cells (cur.toList.take o ++ vs ++ cur.toList.drop (o + vs.length)).toArray e fz)) := by
  rw [storeCells_run g o e fz vs 0 cur w h hf h1 (by omega), set_many vs o 0 cur (by omega), Nat.add_zero]

end

theorem trL_one {ρ : Rho} {l : List AVal} (h : l.all AVal.scalar = true) : ∀ u ∈ trL ρ l, u.oneCell' = true := by
  intro u hu
  rw [trL_eq, List.mem_map] at hu
  obtain ⟨x, hx, rfl⟩ := hu
  rw [List.all_eq_true] at h
  exact AVal.scalar_one (h x hx) ρ

/-- A part of a flat row is set. -/
theorem flat_set (T : RowTy) : ∀ (l : List T.α) (i : Nat) (a : T.α), i < l.length → T.flat (l.set i a) = (T.flat l).take (i * T.sz) ++ T.enc a ++ (T.flat l).drop (i * T.sz + T.sz)
  | [], i, a, h => by simp at h
  | b :: l, 0, a, h => by
    simp only [List.set_cons_zero, RowTy.flat, List.flatMap_cons, Nat.zero_mul, List.take_zero, List.nil_append, Nat.zero_add]
    rw [List.drop_append, T.len, List.drop_of_length_le (by rw [T.len]; exact Nat.le_refl _)]
    simp
  | b :: l, i + 1, a, h => by
    have ih := flat_set T l i a (by simpa using h)
    simp only [List.set_cons_succ, RowTy.flat, List.flatMap_cons] at ih ⊢
    have e1 : (T.enc b).length = T.sz := T.len b
    rw [ih, List.take_append, List.drop_append, e1, List.take_of_length_le (l := T.enc b) (by rw [e1, Nat.add_mul]; omega), List.drop_of_length_le (l := T.enc b) (by rw [e1, Nat.add_mul]; omega)]
    rw [show (i + 1) * T.sz - T.sz = i * T.sz by rw [Nat.add_mul]; omega, show (i + 1) * T.sz + T.sz - T.sz = i * T.sz + T.sz by rw [Nat.add_mul]; omega]
    simp

theorem flat_part (T : RowTy) : ∀ (l : List T.α) (i : Nat), i < l.length → ((T.flat l).drop (i * T.sz)).take T.sz = T.enc (l.getD i T.dflt)
  | [], i, h => by simp at h
  | b :: l, 0, h => by
    simp only [RowTy.flat, List.flatMap_cons, Nat.zero_mul, List.drop_zero, List.getD_cons_zero]
    rw [List.take_append_of_le_length (by rw [T.len]; exact Nat.le_refl _), List.take_of_length_le (by rw [T.len]; exact Nat.le_refl _)]
  | b :: l, i + 1, h => by
    have ih := flat_part T l i (by simpa using h)
    simp only [RowTy.flat, List.flatMap_cons, List.getD_cons_succ] at ih ⊢
    rw [List.drop_append, T.len, List.drop_of_length_le (l := T.enc b) (by rw [T.len, Nat.add_mul]; omega), show (i + 1) * T.sz - T.sz = i * T.sz by rw [Nat.add_mul]; omega, List.nil_append]
    exact ih

theorem splice_part (A vs : List AVal) (p s j : Nat) (hj : j + vs.length ≤ s) :
    A.take p ++ (((A.drop p).take s).take j ++ vs ++ ((A.drop p).take s).drop (j + vs.length)) ++ A.drop (p + s) = A.take (p + j) ++ vs ++ A.drop (p + j + vs.length) := by
  have e1 : ((A.drop p).take s).take j = (A.drop p).take j := by rw [List.take_take, Nat.min_eq_left (by omega)]
  have e2 : ((A.drop p).take s).drop (j + vs.length) = ((A.drop p).drop (j + vs.length)).take (s - (j + vs.length)) := by rw [List.drop_take]
  have e3 : A.drop (p + s) = ((A.drop p).drop (j + vs.length)).drop (s - (j + vs.length)) := by rw [List.drop_drop, List.drop_drop]; congr 1; omega
  rw [e1, e2, e3, List.take_add]
  simp only [List.append_assoc]
  rw [List.take_append_drop, List.drop_drop]
  congr 4
  omega

/-- Cells are written as it is reckoned: what the program's storing does. -/
theorem writeCells_sound {P : Program} {sm : Bool} {x y : ABlk} {i sz j b : Nat} {vs : List AVal} {ρ : Rho} {w : World} (h : writeCells sm x i sz j vs = some (true, y)) (hok : x.ok ρ w b) {N : Nat} (hN : x.under N = true) (hvs : belowL N vs = true) :
    ∃ o', (storeCells ⟨ρ.blk b, ρ.off b + (i * sz + j), none⟩ (trL ρ vs)).run P w = .ok () (setB w (ρ.blk b) o') ∧ ρ.blk b < w.heap.size ∧ y.ok ρ (setB w (ρ.blk b) o') b ∧ y.under N = true ∧ y.own = true ∧ x.own = true := by
  unfold writeCells at h
  split at h <;> try cases h
  rename_i hsc
  have hone := trL_one (ρ := ρ) hsc
  have hlen := trL_length ρ vs
  split at h
  · rename_i e l
    obtain ⟨h0, hs0, fz, hh, hf⟩ := hok
    have hg : ρ.blk b < w.heap.size := (Array.getElem?_eq_some_iff.1 hh).1
    have hf' : fz = (0, 0) ∨ (trL ρ l).toArray.size ≤ fz.1 := by simpa [trL_length] using hf
    have plain : ∀ o r, replaceAt l o vs = some r → ∃ o', (storeCells ⟨ρ.blk b, ρ.off b + o, none⟩ (trL ρ vs)).run P w = .ok () (setB w (ρ.blk b) o') ∧ ρ.blk b < w.heap.size ∧ (ABlk.cells e r).ok ρ (setB w (ρ.blk b) o') b ∧ (ABlk.cells e r).under N = true ∧ (ABlk.cells e r).own = true ∧ (ABlk.cells e l).own = true := by
      intro o r hr
      have hrl := replaceAt_length hr
      have hra := replaceAt_all hr _ hs0 hsc
      have hrb : belowL N r = true := by
        rw [belowL_eq]
        exact replaceAt_all hr _ (by rw [← belowL_eq]; exact hN) (by rw [← belowL_eq]; exact hvs)
      rcases replaceAt_spec hr with ⟨rfl, rfl⟩ | ⟨h1, h2⟩
      · refine ⟨.cells (trL ρ r).toArray e fz, ?_, hg, ?_, hrb, rfl, rfl⟩
        · rw [setB_self w _ _ hh]; simp [trL, storeCells]
        · rw [setB_self w _ _ hh]; exact ⟨h0, hs0, fz, hh, hf⟩
      · have hst := storeCells_run0 (P := P) (ρ.blk b) o e fz (trL ρ vs) _ w hh hf' hone (by simp [trL_length]; omega)
        have e2 : ((trL ρ l).toArray.toList.take o ++ trL ρ vs ++ (trL ρ l).toArray.toList.drop (o + (trL ρ vs).length)).toArray = (trL ρ r).toArray := by
          rw [h2, trL_append, trL_append, trL_take, trL_drop, trL_length]
        rw [e2] at hst
        refine ⟨.cells (trL ρ r).toArray e fz, by rw [h0, Nat.zero_add]; exact hst, hg, ⟨h0, hra, fz, setB_get _ _ _ hg, by rw [hrl]; exact hf⟩, hrb, rfl, rfl⟩
    split at h
    · split at h <;> try cases h
      rename_i r hr
      simpa using plain j r hr
    · rename_i s
      split at h
      · split at h
        · rename_i v
          split at h <;> try cases h
          rename_i r hr
          simp only [Option.some.injEq, Prod.mk.injEq, decide_eq_true_eq] at h
          obtain ⟨hi, rfl⟩ := h
          obtain ⟨s1, s2, s3⟩ := setSel_spec hr
          have hrep : replaceAt l i [v] = some r := by
            have : ∀ (l : List AVal) (i : Nat) (r : List AVal), i < l.length → r.length = l.length → (∀ y, y < l.length → r[y]? = if i = y then some v else l[y]?) → replaceAt l i [v] = some r := by
              intro l
              induction l with
              | nil => intro i r hi; simp at hi
              | cons u l ih =>
                intro i r hi hl hy
                cases r with
                | nil => simp at hl
                | cons u' r =>
                  cases i with
                  | zero =>
                    have e0 := hy 0 (by simp)
                    simp only [List.getElem?_cons_zero, if_true, Option.some.injEq] at e0
                    subst e0
                    have : r = l := by
                      apply List.ext_getElem?
                      intro y
                      by_cases hyl : y < l.length
                      · have := hy (y + 1) (by simp; omega)
                        simpa using this
                      · rw [List.getElem?_eq_none (by simp at hl; omega), List.getElem?_eq_none (by omega)]
                    subst this
                    cases r <;> rfl
                  | succ i =>
                    have e0 := hy 0 (by simp)
                    simp only [List.getElem?_cons_zero, Nat.add_one_ne_zero, if_false, Option.some.injEq] at e0
                    subst e0
                    have := ih i r (by simpa using hi) (by simpa using hl) (fun y hyl => by have := hy (y + 1) (by simp; omega); simpa using this)
                    simp only [replaceAt, this]
            exact this l i r hi s1 (fun y hy => by have := s3 y hy; simpa using this)
          have := plain i r hrep
          simpa using this
        · cases h
      · split at h <;> try cases h
        rename_i r hr
        exact plain _ r hr
  · rename_i e T l md
    split at h <;> try cases h
    rename_i hmd
    split at h <;> try cases h
    rename_i hsz
    have hsz := nat_beq_eq.1 hsz
    subst hsz
    split at h <;> try cases h
    rename_i cs hcs
    split at h <;> try cases h
    rename_i c a hdec
    simp only [Option.some.injEq, Prod.mk.injEq, Bool.and_eq_true, decide_eq_true_eq] at h
    obtain ⟨⟨hi, rfl⟩, rfl⟩ := h
    have henc := T.dec_enc cs a hdec
    have hmd : md ≠ .ro := fun e => hmd e
    have hown : ∀ l : List T.α, (ABlk.row e T l md).own = true := fun l => by cases md <;> simp_all [ABlk.own]
    obtain ⟨h0, h1, h2, cur, fz, hh, hf, hcs2, htk⟩ := (ABlk.ok_own hmd).1 hok
    have hf0 : fz = (0, 0) ∨ cur.size ≤ fz.1 := hf.imp (fun h => h) (fun h => h.2)
    have hg : ρ.blk b < w.heap.size := (Array.getElem?_eq_some_iff.1 hh).1
    have hcl : cs.length = T.sz := by rw [← henc, T.len]
    have hcap : (i + 1) * T.sz ≤ ρ.cap b * T.sz := Nat.mul_le_mul_right _ (by omega)
    rw [Nat.add_mul, Nat.one_mul] at hcap
    have hll : (i + 1) * T.sz ≤ l.length * T.sz := Nat.mul_le_mul_right _ (by omega)
    rw [Nat.add_mul, Nat.one_mul] at hll
    have hlc : l.length * T.sz ≤ ρ.cap b * T.sz := Nat.mul_le_mul_right _ h1
    have hld := T.len (l.getD i T.dflt)
    have hF : (T.flat (l.set i a)) = if vs = [] then T.flat l else (T.flat l).take (i * T.sz + j) ++ vs ++ (T.flat l).drop (i * T.sz + j + vs.length) := by
      rw [flat_set T l i a hi, henc]
      have hpart := flat_part T l i hi
      rcases replaceAt_spec hcs with ⟨hv, h⟩ | ⟨h, h'⟩
      · subst hv
        rw [if_pos rfl, h, ← hpart]
        have := splice_part (T.flat l) [] (i * T.sz) T.sz 0 (by simp)
        simpa using this
      · by_cases hv : vs = []
        · subst hv
          rw [if_pos rfl, h', ← hpart]
          have := splice_part (T.flat l) [] (i * T.sz) T.sz j (by rw [hld] at h; simpa using h)
          simp only [List.append_nil, List.length_nil, Nat.add_zero] at this ⊢
          rw [this, List.take_append_drop]
        · rw [if_neg hv, h', ← hpart]
          exact splice_part (T.flat l) vs (i * T.sz) T.sz j (by omega)
    have hset : (l.set i a).length = l.length := by simp
    by_cases hv : vs = []
    · subst hv
      rw [if_pos rfl] at hF
      refine ⟨.cells cur e fz, ?_, hg, ?_, rfl, hown _, hown _⟩
      · rw [setB_self w _ _ hh]; simp [trL, storeCells]
      · rw [setB_self w _ _ hh]
        exact (ABlk.ok_own hmd).2 ⟨h0, by rw [hset]; exact h1, h2, cur, fz, hh, hf, hcs2, by rw [hset, hF]; exact htk⟩
    · rw [if_neg hv] at hF
      have hjv : j + vs.length ≤ T.sz := by
        rcases replaceAt_spec hcs with ⟨h, _⟩ | ⟨h, _⟩
        · exact absurd h hv
        · omega
      have hst := storeCells_run0 (P := P) (ρ.blk b) (i * T.sz + j) e fz (trL ρ vs) cur w hh hf0 hone (by rw [hlen, hcs2]; omega)
      refine ⟨_, by rw [h0, Nat.zero_add]; exact hst, hg, (ABlk.ok_own hmd).2 ⟨h0, by rw [hset]; exact h1, h2, _, fz, setB_get _ _ _ hg, ?_, ?_, ?_⟩, rfl, hown _, hown _⟩
      · rcases hf with h | h
        · exact .inl h
        · refine .inr ⟨h.1, ?_⟩
          have h := h.2
          simp only [List.size_toArray, List.length_append, List.length_take, List.length_drop, Array.length_toList, hlen]
          omega
      · simp only [List.size_toArray, List.length_append, List.length_take, List.length_drop, Array.length_toList, hlen]
        omega
      · rw [hset, hF, trL_append, trL_append, trL_take, trL_drop, ← htk, hlen]
        have e1 : (cur.toList.take (i * T.sz + j)).length = i * T.sz + j := by rw [List.length_take, Array.length_toList]; omega
        rw [List.append_assoc, List.take_append, e1, List.take_append, hlen, List.take_of_length_le (by rw [e1]; omega), List.take_of_length_le (l := trL ρ vs) (by rw [hlen]; omega), List.take_take, Nat.min_eq_left (by omega), List.drop_take, List.append_assoc, Nat.sub_sub]
  · cases h

end Go.Proofs.Ytofnedbclnlnmaa.Ev
