/-
  Ev: regions of open order: one operation, the heaps, the entries.
-/
import Derived.Test.YtofnedbclnlnmaaEvQ
namespace Go.Proofs.Ytofnedbclnlnmaa.Ev
set_option linter.unusedVariables false
set_option linter.unusedSimpArgs false
open Go.RowKit

/-- What an operation leaves, be it a value or a call. -/
def OutTo (P : Program) (o : Oper) (a : Act) (w : World) (R : Value → World → Prop) : Prop :=
  match (execOp a.eval o).run P w with
  | .ok (.value u) w' => R u w'
  | .ok (.enter f args) w' => Calls P f args w' fun e w'' => ∃ u, e = .returned u ∧ R u w''
  | _ => False

def GrowRel (ρ : Rho) (id : Nat) (w : World) (v : AVal) : Option ABlk → Value → World → Prop
  | none, u, w' => u = tr ρ v ∧ Below w.heap.size w w'
  | some x, u, w' => NewTo ρ id w v x u w'

theorem OutTo.wp {P : Program} {o : Oper} {a : Act} {w : World} {R : Value → World → Prop} (h : OutTo P o a w R) {next : Act → World → Prop} {Q : Exit → Act → World → Prop} (hn : ∀ u w', R u w' → next (a.put o.dst u) w') : o.wp P a w next Q := by
  unfold OutTo at h
  unfold Oper.wp
  split at h
  · rename_i u w' hr
    rw [hr, Oper.upon_value]
    exact hn _ _ h
  · rename_i f args w' hr
    rw [hr, Oper.upon_enter]
    refine h.mono ?_
    rintro e w'' ⟨u, rfl, hu⟩
    exact hn _ _ hu
  · exact h.elim

section
variable {X : Ctx}

theorem growA_sound (hX : CtxRows X) (hF : FcOk X) {sm : Bool} {o : Oper} {E : Env} {H : AHeap} {id : Nat} {v : AVal} {nb : Option ABlk} (h : growA X sm o E H id = some (true, v, nb)) {ρ : Rho} {a : Act} {w : World} (hE : RelE ρ id E a)
    (hH : ∀ b y, H.get b = some y → y.under id = true ∧ ρ.blk b < w.heap.size ∧ y.ok ρ w b) : OutTo X.P o a w (GrowRel ρ id w v nb) := by
  unfold growA at h
  unfold OutTo
  split at h
  · rename_i c u hp
    simp only [Option.some.injEq, Prod.mk.injEq] at h
    obtain ⟨rfl, rfl, rfl⟩ := h
    obtain ⟨h1, h2⟩ := pureA_sound hp hE (fun b y hy => ⟨(hH b y hy).1, (hH b y hy).2.2⟩)
    rw [h1]
    exact ⟨rfl, Below.refl _ _⟩
  · split at h
    · rename_i c u x hp
      simp only [Option.some.injEq, Prod.mk.injEq] at h
      obtain ⟨rfl, rfl, rfl⟩ := h
      obtain ⟨u, w', h1, h2⟩ := newA_sound hX hp hE (w := w)
      rw [h1]
      exact h2
    · split at h <;> try cases h
      rename_i f args ha
      split at h <;> try cases h
      rename_i fc hfc
      split at h <;> try cases h
      rename_i hv
      have h2 := callArgs_under ha hE
      rw [callArgs_sound (X := X) ha hE (hF.enter f fc hfc) w]
      obtain ⟨h3, h4⟩ := hF.calls f fc hfc args H v hv ρ w id hH h2
      refine h3.mono ?_
      rintro e w' ⟨rfl, hb⟩
      exact ⟨_, rfl, rfl, hb⟩

end

/-! ### heaps -/

theorem getB_append (l m : List (Nat × ABlk)) (b : Nat) (h : ∀ p ∈ l, p.1 ≠ b) : getB (l ++ m) b = getB m b := by
  induction l with
  | nil => rfl
  | cons p l ih =>
    obtain ⟨c, x⟩ := p
    rw [List.cons_append, getB_cons, if_neg (h (c, x) (by simp)), ih (fun p hp => h p (by simp [hp]))]

theorem blkS_ge {next : Nat} {sel : Nat → Bool} : ∀ {es : List Ent} {k : Nat}, ∀ p ∈ blkS next sel es k, next + k ≤ p.1
  | [], k, p, h => by simp [blkS] at h
  | e :: es, k, p, h => by
    simp only [blkS] at h
    split at h
    · rcases List.mem_cons.1 h with rfl | h
      · exact Nat.le_refl _
      · have := blkS_ge p h; omega
    · have := blkS_ge p h; omega

theorem getS_some {next : Nat} {sel : Nat → Bool} {bs : List (Nat × ABlk)} {b : Nat} {x : ABlk} : ∀ {es : List Ent} {k : Nat}, getB (blkS next sel es k ++ bs) b = some x → (∃ (i : Nat) (e : Ent), es[i]? = some e ∧ sel (k + i) = true ∧ e.nb = some x ∧ b = next + (k + i)) ∨ getB bs b = some x
  | [], k, h => .inr h
  | e :: es, k, h => by
    simp only [blkS] at h
    split at h
    · rename_i y hs hn
      rw [List.cons_append, getB_cons] at h
      by_cases hb : next + k = b
      · rw [if_pos hb] at h
        have hy : y = x := by cases y <;> simp [ABlk.live] at h <;> exact h
        subst hy
        exact .inl ⟨0, e, by simp, by simpa using hs, hn, by simpa using hb.symm⟩
      · rw [if_neg hb] at h
        rcases getS_some h with ⟨i, e', h1, h2, h3, h4⟩ | h1
        · exact .inl ⟨i + 1, e', by simpa using h1, by rw [show k + (i + 1) = k + 1 + i by omega]; exact h2, h3, by rw [h4]; omega⟩
        · exact .inr h1
    · rcases getS_some h with ⟨i, e', h1, h2, h3, h4⟩ | h1
      · exact .inl ⟨i + 1, e', by simpa using h1, by rw [show k + (i + 1) = k + 1 + i by omega]; exact h2, h3, by rw [h4]; omega⟩
      · exact .inr h1

theorem getS_of {next : Nat} {sel : Nat → Bool} {bs : List (Nat × ABlk)} {x : ABlk} (hx : x.own = true) : ∀ {es : List Ent} {k i : Nat} {e : Ent}, es[i]? = some e → sel (k + i) = true → e.nb = some x → getB (blkS next sel es k ++ bs) (next + (k + i)) = some x
  | [], k, i, e, h, _, _ => by simp at h
  | e' :: es, k, 0, e, h, hs, hn => by
    simp only [List.getElem?_cons_zero, Option.some.injEq] at h
    subst h
    simp only [blkS, Nat.add_zero] at hs ⊢
    rw [hs, hn]
    rw [List.cons_append, getB_cons, if_pos rfl, own_some hx]
  | e' :: es, k, i + 1, e, h, hs, hn => by
    have ih := getS_of (next := next) (bs := bs) hx (es := es) (k := k + 1) (i := i) (e := e) (by simpa using h) (by rw [show k + 1 + i = k + (i + 1) by omega]; exact hs) hn
    rw [show k + 1 + i = k + (i + 1) by omega] at ih
    simp only [blkS]
    split
    · rw [List.cons_append, getB_cons, if_neg (by omega)]; exact ih
    · exact ih

theorem heapS_get_old {H0 : AHeap} {t : Nat} {sel : Nat → Bool} {es : List Ent} {b : Nat} (hb : b < H0.next) : (heapS H0 t sel es).get b = H0.get b := by
  show getB (blkS H0.next sel es 0 ++ H0.bs) b = getB H0.bs b
  refine getB_append _ _ _ (fun p hp => ?_)
  have := blkS_ge p hp
  omega

theorem heapS_some {H0 : AHeap} {t : Nat} {sel : Nat → Bool} {es : List Ent} {b : Nat} {x : ABlk} (h : (heapS H0 t sel es).get b = some x) : (∃ (i : Nat) (e : Ent), es[i]? = some e ∧ sel i = true ∧ e.nb = some x ∧ b = H0.next + i) ∨ H0.get b = some x := by
  rcases getS_some (k := 0) h with ⟨i, e, h1, h2, h3, h4⟩ | h1
  · exact .inl ⟨i, e, h1, by simpa using h2, h3, by simpa using h4⟩
  · exact .inr h1

theorem heapS_of {H0 : AHeap} {t : Nat} {sel : Nat → Bool} {es : List Ent} {x : ABlk} (hx : x.own = true) {i : Nat} {e : Ent} (h : es[i]? = some e) (hs : sel i = true) (hn : e.nb = some x) : (heapS H0 t sel es).get (H0.next + i) = some x := by
  have := getS_of (next := H0.next) (bs := H0.bs) hx (k := 0) h (by simpa using hs) hn
  rw [Nat.zero_add] at this
  exact this

/-! ### entries -/

theorem setV_self : ∀ {es : List Ent} {j : Nat} {e : Ent} {v : AVal}, es[j]? = some e → e.v = v → setV es j v = es
  | [], j, e, v, h, _ => by simp at h
  | e' :: es, 0, e, v, h, hv => by
    simp only [List.getElem?_cons_zero, Option.some.injEq] at h
    subst h
    subst hv
    rfl
  | e' :: es, j + 1, e, v, h, hv => by
    simp only [setV]
    rw [setV_self (by simpa using h) hv]

theorem predsL_mem {es : List Ent} {j : Nat} : ∀ {l : List Edge}, j ∈ predsL es l → ∃ ed ∈ l, Region.binds .any ed = true ∧ (j = ed.on ∨ ∃ x, es[ed.on]? = some x ∧ j ∈ x.pr)
  | [], h => by simp [predsL] at h
  | ed :: l, h => by
    simp only [predsL] at h
    split at h
    · rename_i hb
      simp only [mem_addL, List.mem_cons] at h
      rcases h with (h | h) | h
      · exact ⟨ed, by simp, hb, .inl h⟩
      · split at h
        · rename_i x hx
          rw [nthE_eq] at hx
          exact ⟨ed, by simp, hb, .inr ⟨x, hx, h⟩⟩
        · cases h
      · obtain ⟨ed', h1, h2⟩ := predsL_mem h
        exact ⟨ed', by simp [h1], h2⟩
    · obtain ⟨ed', h1, h2⟩ := predsL_mem h
      exact ⟨ed', by simp [h1], h2⟩

theorem predsL_on {es : List Ent} : ∀ {l : List Edge} {ed : Edge}, ed ∈ l → Region.binds .any ed = true → ed.on ∈ predsL es l
  | ed' :: l, ed, h, hb => by
    rcases List.mem_cons.1 h with rfl | h
    · simp [predsL, hb, mem_addL]
    · have := predsL_on (es := es) h hb
      simp only [predsL]
      split
      · simp [mem_addL, this]
      · exact this

theorem findT_some {t : Nat} {pr : List Nat} {v : AVal} : ∀ {ops : List Oper} {es : List Ent} {k : Nat}, findT t pr ops es k = some v → ∃ (i : Nat) (o : Oper) (e : Ent), ops[i]? = some o ∧ es[i]? = some e ∧ o.dst = some t ∧ (k + i) ∈ pr ∧ e.v = v
  | [], es, k, h => by simp [findT] at h
  | o :: ops, [], k, h => by simp [findT] at h
  | o :: ops, e :: es, k, h => by
    have next : findT t pr ops es (k + 1) = some v → ∃ (i : Nat) (o' : Oper) (e' : Ent), (o :: ops)[i]? = some o' ∧ (e :: es)[i]? = some e' ∧ o'.dst = some t ∧ (k + i) ∈ pr ∧ e'.v = v := fun h => by
      obtain ⟨i, o', e', h1, h2, h3, h4, h5⟩ := findT_some h
      exact ⟨i + 1, o', e', by simpa using h1, by simpa using h2, h3, by rw [show k + (i + 1) = k + 1 + i by omega]; exact h4, h5⟩
    simp only [findT] at h
    split at h
    · rename_i d hd
      split at h
      · rename_i hdt
        have hdt := nat_beq_eq.1 hdt
        split at h
        · rename_i hm
          simp only [Option.some.injEq] at h
          exact ⟨0, o, e, by simp, by simp, by rw [hd, hdt], by simpa using memN_iff.1 hm, h⟩
        · exact next h
      · exact next h
    · exact next h

theorem findT_none {t : Nat} {pr : List Nat} : ∀ {ops : List Oper} {es : List Ent} {k : Nat}, findT t pr ops es k = none → ∀ (i : Nat) (o : Oper) (e : Ent), ops[i]? = some o → es[i]? = some e → o.dst = some t → (k + i) ∉ pr
  | [], es, k, h, i, o, e, ho, _, _ => by simp at ho
  | o' :: ops, [], k, h, i, o, e, _, he, _ => by simp at he
  | o' :: ops, e' :: es, k, h, i, o, e, ho, he, hd => by
    have next : findT t pr ops es (k + 1) = none := by
      simp only [findT] at h
      split at h
      · split at h
        · split at h
          · cases h
          · exact h
        · exact h
      · exact h
    cases i with
    | succ i =>
      have := findT_none next i o e (by simpa using ho) (by simpa using he) hd
      rw [show k + (i + 1) = k + 1 + i by omega]
      exact this
    | zero =>
      simp only [List.getElem?_cons_zero, Option.some.injEq] at ho he
      subst ho he
      simp only [findT, hd] at h
      rw [nat_beq_eq.2 rfl] at h
      simp only at h
      split at h
      · cases h
      · rename_i hm
        intro hin
        rw [Nat.add_zero] at hin
        rw [memN_iff.2 hin] at hm
        cases hm

theorem envK_get {E0 : Env} {ops : List Oper} {es : List Ent} {pr : List Nat} {t : Nat} {v : AVal} : ∀ {ts : List Nat}, getE (envK E0 ops es pr ts) t = some v → t ∈ ts ∧ (findT t pr ops es 0 = some v ∨ (findT t pr ops es 0 = none ∧ getE E0 t = some v))
  | [], h => by simp [envK, getE] at h
  | t' :: ts, h => by
    have next : getE (envK E0 ops es pr ts) t = some v → t ∈ t' :: ts ∧ (findT t pr ops es 0 = some v ∨ (findT t pr ops es 0 = none ∧ getE E0 t = some v)) := fun h => by
      obtain ⟨h1, h2⟩ := envK_get h
      exact ⟨by simp [h1], h2⟩
    simp only [envK] at h
    split at h
    · rename_i u hu
      rw [getE_cons] at h
      by_cases ht : t' = t
      · subst ht
        rw [if_pos rfl] at h
        simp only [Option.some.injEq] at h
        subst h
        exact ⟨by simp, .inl hu⟩
      · rw [if_neg ht] at h; exact next h
    · rename_i hu
      split at h
      · rename_i u hg
        rw [getE_cons] at h
        by_cases ht : t' = t
        · subst ht
          rw [if_pos rfl] at h
          simp only [Option.some.injEq] at h
          subst h
          exact ⟨by simp, .inr ⟨hu, hg⟩⟩
        · rw [if_neg ht] at h; exact next h
      · exact next h

theorem putAll_get {t : Nat} {v : AVal} : ∀ {ops : List Oper} {es : List Ent} {E : Env}, getE (putAll ops es E) t = some v → (∃ (i : Nat) (o : Oper) (e : Ent), ops[i]? = some o ∧ es[i]? = some e ∧ o.dst = some t ∧ e.v = v) ∨ (getE E t = some v ∧ ∀ (i : Nat) (o : Oper) (e : Ent), ops[i]? = some o → es[i]? = some e → o.dst ≠ some t)
  | [], es, E, h => .inr ⟨h, fun i o e ho => by simp at ho⟩
  | o :: ops, [], E, h => .inr ⟨h, fun i o e _ he => by simp at he⟩
  | o :: ops, e :: es, E, h => by
    rcases putAll_get (ops := ops) (es := es) h with ⟨i, o', e', h1, h2, h3, h4⟩ | ⟨h1, h2⟩
    · exact .inl ⟨i + 1, o', e', by simpa using h1, by simpa using h2, h3, h4⟩
    · cases hd : o.dst with
      | none =>
        rw [hd] at h1
        refine .inr ⟨h1, fun i o' e' ho he => ?_⟩
        cases i with
        | zero => simp only [List.getElem?_cons_zero, Option.some.injEq] at ho; subst ho; rw [hd]; simp
        | succ i => exact h2 i o' e' (by simpa using ho) (by simpa using he)
      | some d =>
        rw [hd] at h1
        simp only [putE, getE_cons] at h1
        by_cases hdt : d = t
        · rw [if_pos hdt] at h1
          simp only [Option.some.injEq] at h1
          exact .inl ⟨0, o, e, by simp, by simp, by rw [hd, hdt], h1⟩
        · rw [if_neg hdt] at h1
          refine .inr ⟨h1, fun i o' e' ho he => ?_⟩
          cases i with
          | zero => simp only [List.getElem?_cons_zero, Option.some.injEq] at ho; subst ho; rw [hd]; simpa using hdt
          | succ i => exact h2 i o' e' (by simpa using ho) (by simpa using he)

theorem okTmps_spec {ops : List Oper} {es : List Ent} (h : okTmps ops es ops es 0 = true) {k m : Nat} {ok om : Oper} {ek em : Ent} (hk : ops[k]? = some ok) (hek : es[k]? = some ek) (hm : ops[m]? = some om) (hem : es[m]? = some em) (hne : m ≠ k) :
    okPair es k m ok om ek.pr em.pr = true := by
  have row : ∀ (os : List Oper) (es' : List Ent) (m0 : Nat), okRow es k ok ek.pr os es' m0 = true → ∀ (i : Nat) (o : Oper) (e : Ent), os[i]? = some o → es'[i]? = some e → m0 + i ≠ k → okPair es k (m0 + i) ok o ek.pr e.pr = true := by
    intro os
    induction os with
    | nil => intro es' m0 _ i o e ho; simp at ho
    | cons o' os ih =>
      intro es' m0 hr i o e ho he hik
      cases es' with
      | nil => simp at he
      | cons e' es' =>
        simp only [okRow, Bool.and_eq_true, Bool.or_eq_true] at hr
        cases i with
        | zero =>
          simp only [List.getElem?_cons_zero, Option.some.injEq] at ho he
          subst ho he
          rcases hr.1 with h1 | h1
          · exact absurd (nat_beq_eq.1 h1) (by simpa using hik)
          · simpa using h1
        | succ i =>
          have := ih es' (m0 + 1) hr.2 i o e (by simpa using ho) (by simpa using he) (by omega)
          rw [show m0 + (i + 1) = m0 + 1 + i by omega]
          exact this
  have all : ∀ (os : List Oper) (es' : List Ent) (k0 : Nat), okTmps ops es os es' k0 = true → ∀ (i : Nat) (o : Oper) (e : Ent), os[i]? = some o → es'[i]? = some e → okRow es (k0 + i) o e.pr ops es 0 = true := by
    intro os
    induction os with
    | nil => intro es' m0 _ i o e ho; simp at ho
    | cons o' os ih =>
      intro es' k0 hr i o e ho he
      cases es' with
      | nil => simp at he
      | cons e' es' =>
        simp only [okTmps, Bool.and_eq_true] at hr
        cases i with
        | zero =>
          simp only [List.getElem?_cons_zero, Option.some.injEq] at ho he
          subst ho he
          simpa using hr.1
        | succ i =>
          have := ih es' (k0 + 1) hr.2 i o e (by simpa using ho) (by simpa using he)
          rw [show k0 + (i + 1) = k0 + 1 + i by omega]
          exact this
  have h1 := all ops es 0 h k ok ek hk hek
  rw [Nat.zero_add] at h1
  have := row ops es 0 h1 m om em hm hem (by omega)
  simpa using this

end Go.Proofs.Ytofnedbclnlnmaa.Ev
