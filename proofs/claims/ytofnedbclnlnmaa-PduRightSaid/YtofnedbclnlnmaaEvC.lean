/-
  Ev: what is reckoned of an operation that leaves memory as it is, it does.
-/
import Derived.Test.YtofnedbclnlnmaaEvB
namespace Go.Proofs.Ytofnedbclnlnmaa.Ev
set_option linter.unusedVariables false
set_option linter.unusedSimpArgs false
open Go.RowKit

theorem nth_eq : ∀ (l : List AVal) (n : Nat), nth l n = l[n]?
  | [], n => by simp [nth]
  | v :: l, 0 => by simp [nth]
  | v :: l, n + 1 => by simp [nth, nth_eq l n]

theorem takeN_spec : ∀ {n : Nat} {l r : List AVal}, takeN n l = some r → r = l.take n ∧ n ≤ l.length
  | 0, l, r, h => by simp only [takeN, Option.some.injEq] at h; subst h; simp
  | n + 1, [], r, h => by simp [takeN] at h
  | n + 1, v :: l, r, h => by
    simp only [takeN] at h
    split at h <;> try cases h
    rename_i r' hr
    obtain ⟨h1, h2⟩ := takeN_spec hr
    subst h1
    simpa using h2

theorem replaceAt_spec : ∀ {l : List AVal} {o : Nat} {vs r : List AVal}, replaceAt l o vs = some r → (vs = [] ∧ r = l) ∨ (o + vs.length ≤ l.length ∧ r = l.take o ++ vs ++ l.drop (o + vs.length))
  | l, o, [], r, h => by
    cases l <;> simp only [replaceAt, Option.some.injEq] at h <;> exact .inl ⟨rfl, h.symm⟩
  | [], o, v :: vs, r, h => by cases o <;> simp [replaceAt] at h
  | x :: l, 0, v :: vs, r, h => by
    simp only [replaceAt] at h
    split at h <;> try cases h
    rename_i r' hr
    rcases replaceAt_spec hr with ⟨rfl, rfl⟩ | ⟨h1, rfl⟩
    · right; simp
    · right; simp at h1 ⊢; exact h1
  | x :: l, o + 1, v :: vs, r, h => by
    simp only [replaceAt] at h
    split at h <;> try cases h
    rename_i r' hr
    rcases replaceAt_spec hr with ⟨h0, rfl⟩ | ⟨h1, rfl⟩
    · cases h0
    · right
      refine ⟨by simp at h1 ⊢; omega, ?_⟩
      rw [show o + 1 + (v :: vs).length = o + (v :: vs).length + 1 by omega]
      simp only [List.take_succ_cons, List.drop_succ_cons, List.cons_append]

theorem replaceAt_length {l : List AVal} {o : Nat} {vs r : List AVal} (h : replaceAt l o vs = some r) : r.length = l.length := by
  rcases replaceAt_spec h with ⟨_, rfl⟩ | ⟨h1, rfl⟩
  · rfl
  · simp; omega

theorem replaceAt_all {l : List AVal} {o : Nat} {vs r : List AVal} (h : replaceAt l o vs = some r) (f : AVal → Bool) (hl : l.all f = true) (hv : vs.all f = true) : r.all f = true := by
  rcases replaceAt_spec h with ⟨_, rfl⟩ | ⟨h1, rfl⟩
  · exact hl
  · simp only [List.all_eq_true, List.mem_append] at hl hv ⊢
    rintro x ((hx | hx) | hx)
    · exact hl x (List.mem_of_mem_take hx)
    · exact hv x hx
    · exact hl x (List.mem_of_mem_drop hx)

theorem belowL_take {N : Nat} {l : List AVal} (h : belowL N l = true) (n : Nat) : belowL N (l.take n) = true := by
  rw [belowL_eq, List.all_eq_true] at h ⊢
  exact fun x hx => h x (List.mem_of_mem_take hx)

theorem belowL_drop {N : Nat} {l : List AVal} (h : belowL N l = true) (n : Nat) : belowL N (l.drop n) = true := by
  rw [belowL_eq, List.all_eq_true] at h ⊢
  exact fun x hx => h x (List.mem_of_mem_drop hx)

theorem intsOf_spec {k : IntKind} : ∀ {l : List AVal} {r : List Int}, intsOf k l = some r → l = r.map (AVal.int k)
  | [], r, h => by simp only [intsOf, Option.some.injEq] at h; subst h; rfl
  | v :: l, r, h => by
    cases v <;> simp only [intsOf, reduceCtorEq] at h
    rename_i k' n
    split at h <;> try cases h
    rename_i hk
    subst hk
    split at h <;> try cases h
    rename_i r' hr
    rw [intsOf_spec hr]; rfl

theorem strsOf_spec : ∀ {l : List AVal} {r : List (List UInt8)}, strsOf l = some r → l = r.map AVal.str
  | [], r, h => by simp only [strsOf, Option.some.injEq] at h; subst h; rfl
  | v :: l, r, h => by
    cases v <;> simp only [strsOf, reduceCtorEq] at h
    split at h <;> try cases h
    rename_i r' hr
    rw [strsOf_spec hr]; rfl

theorem boolsOf_spec : ∀ {l : List AVal} {r : List Bool}, boolsOf l = some r → l = r.map AVal.bool
  | [], r, h => by simp only [boolsOf, Option.some.injEq] at h; subst h; rfl
  | v :: l, r, h => by
    cases v <;> simp only [boolsOf, reduceCtorEq] at h
    split at h <;> try cases h
    rename_i r' hr
    rw [boolsOf_spec hr]; rfl

theorem selOne_spec {i : Nat} {l : List AVal} {v : AVal} (h : selOne i l = some v) (hi : i < l.length) : l[i]? = some v := by
  unfold selOne at h
  split at h <;> try cases h
  · split at h <;> try cases h
    rename_i xs hx
    rw [intsOf_spec hx] at hi ⊢
    simp at hi
    simp [hi]
  · split at h <;> try cases h
    rename_i xs hx
    rw [strsOf_spec hx] at hi ⊢
    simp at hi
    simp [hi]
  · split at h <;> try cases h
    rename_i xs hx
    rw [boolsOf_spec hx] at hi ⊢
    simp at hi
    simp [hi]

theorem selOne_data {i : Nat} {l : List AVal} {v : AVal} (h : selOne i l = some v) : v.data = true := by
  unfold selOne at h
  split at h <;> try cases h
  all_goals
    split at h <;> try cases h
    rfl

theorem column_spec {l : List AVal} {sz : Nat} : ∀ {c o : Nat} {r : List AVal}, column l sz c o = some r → r.length = c ∧ ∀ i, i < c → r[i]? = l[o + i * sz]?
  | 0, o, r, h => by simp only [column, Option.some.injEq] at h; subst h; simp
  | c + 1, o, r, h => by
    simp only [column] at h
    split at h <;> try cases h
    rename_i v hv
    split at h <;> try cases h
    rename_i r' hr
    obtain ⟨h1, h2⟩ := column_spec hr
    refine ⟨by simp [h1], fun i hi => ?_⟩
    cases i with
    | zero => rw [nth_eq] at hv; simp [hv]
    | succ i =>
      have := h2 i (by omega)
      simp only [List.getElem?_cons_succ, this]
      congr 1
      rw [Nat.add_mul]; omega

theorem selCells_spec {l : List AVal} {i sz c : Nat} (hi : i < c) : ∀ {m j : Nat} {r : List AVal}, selCells l i sz c m j = some r → r.length = m ∧ r.all AVal.data = true ∧ ∀ x, x < m → r[x]? = l[j + x + i * sz]?
  | 0, j, r, h => by simp only [selCells, Option.some.injEq] at h; subst h; simp
  | m + 1, j, r, h => by
    simp only [selCells] at h
    split at h <;> try cases h
    rename_i col hcol
    split at h <;> try cases h
    rename_i v hv
    split at h <;> try cases h
    rename_i r' hr
    obtain ⟨h1, h2, h3⟩ := selCells_spec hi hr
    obtain ⟨c1, c2⟩ := column_spec hcol
    refine ⟨by simp [h1], by simp [selOne_data hv]; simpa using h2, fun x hx => ?_⟩
    cases x with
    | zero =>
      have e := selOne_spec hv (by omega)
      rw [c2 i hi] at e
      simp [e]
    | succ x =>
      have := h3 x (by omega)
      simp only [List.getElem?_cons_succ, this]
      congr 1
      omega

theorem setOne_spec {c : Bool} {u v w : AVal} (h : setOne c u v = some w) : w = (if c then v else u) ∧ w.data = true := by
  unfold setOne at h
  split at h
  · split at h <;> try cases h
    rename_i hk
    subst hk
    cases c <;> simp [AVal.data]
  · cases h; cases c <;> simp [AVal.data]
  · cases h; cases c <;> simp [AVal.data]
  · cases h

theorem setSel_spec {i : Nat} {v : AVal} : ∀ {l : List AVal} {x : Nat} {r : List AVal}, setSel i v l x = some r → r.length = l.length ∧ r.all AVal.data = true ∧ ∀ y, y < l.length → r[y]? = if i = x + y then some v else l[y]?
  | [], x, r, h => by simp only [setSel, Option.some.injEq] at h; subst h; simp
  | u :: l, x, r, h => by
    simp only [setSel] at h
    split at h <;> try cases h
    rename_i w hw
    split at h <;> try cases h
    rename_i r' hr
    obtain ⟨h1, h2, h3⟩ := setSel_spec hr
    obtain ⟨w1, w2⟩ := setOne_spec hw
    refine ⟨by simp [h1], by simp [w2]; simpa using h2, fun y hy => ?_⟩
    cases y with
    | zero => simp only [List.getElem?_cons_zero, w1, Nat.add_zero]; by_cases hix : i = x <;> simp [hix]
    | succ y =>
      have := h3 y (by simp at hy; omega)
      simp only [List.getElem?_cons_succ, this]
      have e : (i = x + 1 + y) = (i = x + (y + 1)) := by rw [show x + 1 + y = x + (y + 1) by omega]
      simp only [e]

theorem pack_spec {ag : Bool} {cs : List AVal} {v : AVal} (h : pack ag cs = some v) : (ag = true ∧ v = .agg cs) ∨ (ag = false ∧ cs = [v]) := by
  unfold pack at h
  cases ag
  · right
    simp only at h
    split at h <;> simp_all
  · left; simpa using h.symm

/-! ### types -/

section
variable {P : Program}

theorem sizeA_run {t : TypeId} {m : Nat} (h : sizeA P t = some m) (w : World) : (sizeOf t).run P w = .ok m w := by
  unfold sizeA at h
  split at h <;> try cases h
  rename_i i hi
  simp [sizeOf, typeInfo, hi]

theorem aggA_run {t : TypeId} {ag : Bool} (h : aggA P t = some ag) (w : World) : (isAgg t).run P w = .ok ag w := by
  unfold aggA at h
  simp only [isAgg, underlying, Sem.run_bind, run_program, Result.andThen_ok]
  split at h
  · rename_i hu; cases h; simp [hu]
  · rename_i hu; cases h; simp [hu]
  · rename_i d h1 h2 hu
    cases h
    simp only [hu]
    cases d <;> first | rfl | (exfalso; first | exact h1 _ rfl | exact h2 _ _ rfl)
  · cases h

theorem zeroA_run {t : TypeId} {l : List AVal} (h : zeroA P t = some l) (w : World) : ∃ z : Value, (zeroValue t).run P w = .ok z w ∧ (∃ i, P.info? t = some i ∧ i.zero = some z) ∧ (∀ ρ, trL ρ l = z.cells.toList) ∧ (∀ N, belowL N l = true) ∧ l.all AVal.scalar = true := by
  unfold zeroA at h
  split at h <;> try cases h
  rename_i i hi
  split at h <;> try cases h
  rename_i z hz
  refine ⟨z, by simp [zeroValue, typeInfo, hi, hz], ⟨i, hi, hz⟩, fun ρ => (ofCells_tr h ρ).1, fun N => (ofCells_tr h ⟨id, id, id⟩).2.1 N, (ofCells_tr h ⟨id, id, id⟩).2.2⟩

theorem trL_take (ρ : Rho) (l : List AVal) (n : Nat) : trL ρ (l.take n) = (trL ρ l).take n := by rw [trL_eq, trL_eq, List.map_take]
theorem trL_drop (ρ : Rho) (l : List AVal) (n : Nat) : trL ρ (l.drop n) = (trL ρ l).drop n := by rw [trL_eq, trL_eq, List.map_drop]
theorem trL_append (ρ : Rho) (l m : List AVal) : trL ρ (l ++ m) = trL ρ l ++ trL ρ m := by rw [trL_eq, trL_eq, trL_eq, List.map_append]
theorem trL_length (ρ : Rho) (l : List AVal) : (trL ρ l).length = l.length := by rw [trL_eq, List.length_map]
theorem trL_get (ρ : Rho) (l : List AVal) (i : Nat) : (trL ρ l)[i]? = (l[i]?).map (tr ρ) := by rw [trL_eq, List.getElem?_map]

/-- A part of a value that is in cells. -/
theorem part_run {t : TypeId} {m : Nat} {ag : Bool} (hm : sizeA P t = some m) (ha : aggA P t = some ag) {ρ : Rho} {cs r : List AVal} {v : AVal} {o : Nat} (hr : takeN m (cs.drop o) = some r) (hv : pack ag r = some v) (w : World) :
    (part t (trL ρ cs).toArray o).run P w = .ok (tr ρ v) w := by
  obtain ⟨rfl, hl⟩ := takeN_spec hr
  have h1 := aggA_run ha w
  have h2 := sizeA_run hm w
  simp only [List.length_drop] at hl
  rcases pack_spec hv with ⟨rfl, rfl⟩ | ⟨rfl, hc⟩
  · simp only [part, Sem.run_bind, h1, Result.andThen_ok, if_true, h2, Sem.run_pure]
    congr 2
    simp only [tr, trL_take, trL_drop]
    simp [Nat.add_sub_cancel_left]
  · simp only [part, Sem.run_bind, h1, Result.andThen_ok, Bool.false_eq_true, if_false]
    have e : (cs.drop o)[0]? = some v := by
      have : (List.take m (cs.drop o))[0]? = some v := by rw [hc]; rfl
      rw [List.getElem?_take] at this
      split at this
      · exact this
      · cases this
    rw [List.getElem?_drop, Nat.add_zero] at e
    have : (trL ρ cs).toArray[o]? = some (tr ρ v) := by simp [trL_get, e]
    simp [this]

end

end Go.Proofs.Ytofnedbclnlnmaa.Ev
