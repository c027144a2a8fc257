/-
  Ev: regions of open order: whatever order comes, what is reckoned in the text's order holds.
-/
import Derived.Test.YtofnedbclnlnmaaEvR
namespace Go.Proofs.Ytofnedbclnlnmaa.Ev
set_option linter.unusedVariables false
set_option linter.unusedSimpArgs false
open Go.RowKit

/-- What was shown of operation k. -/
structure Good (X : Ctx) (sm : Bool) (all : List Oper) (E0 : Env) (H0 : AHeap) (es : List Ent) (k : Nat) (o : Oper) (e : Ent) : Prop where
  op : all[k]? = some o
  ent : es[k]? = some e
  pr : e.pr = predsL (es.take k) o.after.toList
  lt : ∀ j ∈ e.pr, j < k
  val : okVal H0.next k e.pr e.v e.nb = true
  does : (∃ j want ej oj d, o.guard = some (j, want) ∧ j ∈ e.pr ∧ es[j]? = some ej ∧ all[j]? = some oj ∧ oj.dst = some d ∧ (ej.v = .tup [] ∨ ej.v = .bool (!want)) ∧ e.v = .tup [] ∧ e.nb = none) ∨
    ((o.guard = none ∨ ∃ j want ej oj d, o.guard = some (j, want) ∧ j ∈ e.pr ∧ es[j]? = some ej ∧ all[j]? = some oj ∧ oj.dst = some d ∧ ej.v = .bool want) ∧
      growA X sm o (envK E0 all (es.take k) e.pr (tmpsOf o.op.operands.toList)) (heapS H0 k (fun j => memN j e.pr) (es.take k)) (H0.next + k) = some (true, e.v, e.nb))

theorem Good.more {X : Ctx} {sm : Bool} {all : List Oper} {E0 : Env} {H0 : AHeap} {es : List Ent} {k : Nat} {o : Oper} {e : Ent} (h : Good X sm all E0 H0 es k o e) (x : Ent) : Good X sm all E0 H0 (es ++ [x]) k o e := by
  have hk : k < es.length := (List.getElem?_eq_some_iff.1 h.ent).1
  have ht : (es ++ [x]).take k = es.take k := List.take_append_of_le_length (by omega)
  have hg : ∀ {j : Nat} {y : Ent}, es[j]? = some y → (es ++ [x])[j]? = some y := fun {j y} hj => by
    rw [List.getElem?_append_left (List.getElem?_eq_some_iff.1 hj).1]; exact hj
  refine ⟨h.op, hg h.ent, by rw [ht]; exact h.pr, h.lt, h.val, ?_⟩
  rw [ht]
  rcases h.does with ⟨j, want, ej, oj, d, h1, h2, h3, h4⟩ | ⟨h1, h2⟩
  · exact .inl ⟨j, want, ej, oj, d, h1, h2, hg h3, h4⟩
  · refine .inr ⟨?_, h2⟩
    rcases h1 with h1 | ⟨j, want, ej, oj, d, h1, h2, h3, h4⟩
    · exact .inl h1
    · exact .inr ⟨j, want, ej, oj, d, h1, h2, hg h3, h4⟩

def AllGood (X : Ctx) (sm : Bool) (all : List Oper) (E0 : Env) (H0 : AHeap) (es : List Ent) : Prop := ∀ k, k < es.length → ∃ o e, Good X sm all E0 H0 es k o e

section
variable {X : Ctx} {sm : Bool} {cf : CallF} {all : List Oper} {E0 : Env} {H0 : AHeap} {Q : AExit → Env → AHeap → Prop}

theorem AllGood.push {es : List Ent} (h : AllGood X sm all E0 H0 es) {o : Oper} {e : Ent} (hg : Good X sm all E0 H0 (es ++ [e]) es.length o e) : AllGood X sm all E0 H0 (es ++ [e]) := by
  intro k hk
  by_cases hlt : k < es.length
  · obtain ⟨o', e', h'⟩ := h k hlt
    exact ⟨o', e', h'.more e⟩
  · have : k = es.length := by simp at hk; omega
    subst this
    exact ⟨o, e, hg⟩

theorem wpDraw_good : ∀ (rest : List Oper) (es : List Ent), wpDraw X sm cf all E0 H0 rest es Q → (∀ j, rest[j]? = all[es.length + j]?) → AllGood X sm all E0 H0 es →
    ∃ es' rest', AllGood X sm all E0 H0 es' ∧ (∀ j, rest'[j]? = all[es'.length + j]?) ∧ finishD X sm cf all E0 H0 es' rest' Q
  | [], es, h, hr, hg => ⟨es, [], hg, hr, h⟩
  | o :: rest, es, h, hr, hg => by
    have ho : all[es.length]? = some o := by simpa using (hr 0).symm
    have hr' : ∀ (x : Ent) j, rest[j]? = all[(es ++ [x]).length + j]? := fun x j => by have := hr (j + 1); simpa [Nat.add_assoc, Nat.add_comm 1 j] using this
    simp only [wpDraw, forceN_eq, forceE_eq] at h
    split at h
    · exact h.elim
    · rename_i hprs
      have hlt : ∀ j ∈ predsL es o.after.toList, j < es.length := fun j hj => by
        rw [List.all_eq_true] at hprs
        simpa using hprs j hj
      -- a step
      have stp : (match growA X sm o (envK E0 all es (predsL es o.after.toList) (tmpsOf o.op.operands.toList)) (heapS H0 es.length (fun j => memN j (predsL es o.after.toList)) es) (H0.next + es.length) with
          | some (c, v, nb) => obl c (match okVal H0.next es.length (predsL es o.after.toList) v nb with
            | true => wpDraw X sm cf all E0 H0 rest (es ++ [⟨v, nb, predsL es o.after.toList⟩]) Q
            | false => False)
          | none => finishD X sm cf all E0 H0 es (o :: rest) Q) →
          (o.guard = none ∨ ∃ j want ej oj d, o.guard = some (j, want) ∧ j ∈ predsL es o.after.toList ∧ es[j]? = some ej ∧ all[j]? = some oj ∧ oj.dst = some d ∧ ej.v = .bool want) →
          ∃ es' rest', AllGood X sm all E0 H0 es' ∧ (∀ j, rest'[j]? = all[es'.length + j]?) ∧ finishD X sm cf all E0 H0 es' rest' Q := by
        intro hs hguard
        split at hs
        · rename_i c v nb hgr
          obtain ⟨rfl, hs⟩ := obl_true hs
          split at hs
          · rename_i hok
            refine wpDraw_good rest _ hs (hr' _) (hg.push (o := o) ⟨ho, by simp, by simp, hlt, hok, .inr ⟨?_, by simpa using hgr⟩⟩)
            rcases hguard with h | ⟨j, want, ej, oj, d, h1, h2, h3, h4⟩
            · exact .inl h
            · exact .inr ⟨j, want, ej, oj, d, h1, h2, by rw [List.getElem?_append_left (hlt j h2)]; exact h3, h4⟩
          · exact hs.elim
        · exact ⟨es, o :: rest, hg, hr, hs⟩
      have skp : wpDraw X sm cf all E0 H0 rest (es ++ [⟨.tup [], none, predsL es o.after.toList⟩]) Q →
          (∃ j want ej oj d, o.guard = some (j, want) ∧ j ∈ predsL es o.after.toList ∧ es[j]? = some ej ∧ all[j]? = some oj ∧ oj.dst = some d ∧ (ej.v = .tup [] ∨ ej.v = .bool (!want))) →
          ∃ es' rest', AllGood X sm all E0 H0 es' ∧ (∀ j, rest'[j]? = all[es'.length + j]?) ∧ finishD X sm cf all E0 H0 es' rest' Q := by
        rintro hs ⟨j, want, ej, oj, d, h1, h2, h3, h4, h5, h6⟩
        exact wpDraw_good rest _ hs (hr' _) (hg.push (o := o) ⟨ho, by simp, by simp, hlt, rfl, .inl ⟨j, want, ej, oj, d, h1, h2, by rw [List.getElem?_append_left (hlt j h2)]; exact h3, h4, h5, h6, rfl, rfl⟩⟩)
      split at h
      · rename_i hw
        refine stp h (.inl ?_)
        unfold wantD at hw
        split at hw
        · assumption
        · (repeat' split at hw) <;> cases hw
      · rename_i hw
        refine skp h ?_
        unfold wantD at hw
        split at hw <;> try cases hw
        rename_i j want hgd
        split at hw <;> try cases hw
        rename_i ej d hm he hd
        split at hw <;> try cases hw
        rename_i hv
        rw [nthE_eq] at he
        simp only [Option.bind_eq_some_iff] at hd
        obtain ⟨oj, ho1, ho2⟩ := hd
        exact ⟨j, want, ej, oj, d, hgd, memN_iff.1 hm, he, ho1, ho2, .inl hv⟩
      · rename_i j b want hw
        have hask : ∃ ej oj d, o.guard = some (j, want) ∧ j ∈ predsL es o.after.toList ∧ es[j]? = some ej ∧ all[j]? = some oj ∧ oj.dst = some d ∧ ej.v = .bool b := by
          unfold wantD at hw
          split at hw <;> try cases hw
          rename_i hgd
          split at hw <;> try cases hw
          rename_i ej d hm he hd
          split at hw <;> try cases hw
          rename_i hv
          rw [nthE_eq] at he
          simp only [Option.bind_eq_some_iff] at hd
          obtain ⟨oj, ho1, ho2⟩ := hd
          exact ⟨ej, oj, d, hgd, memN_iff.1 hm, he, ho1, ho2, hv⟩
        obtain ⟨ej, oj, d, q1, q2, q3, q4, q5, q6⟩ := hask
        split at h
        · rw [branch_iff] at h
          cases b with
          | true =>
            have := h.1 rfl
            rw [setV_self q3 q6] at this
            exact stp this (.inr ⟨j, true, ej, oj, d, q1, q2, q3, q4, q5, q6⟩)
          | false =>
            have := h.2 rfl
            rw [setV_self q3 q6] at this
            exact skp this ⟨j, true, ej, oj, d, q1, q2, q3, q4, q5, .inr q6⟩
        · rw [branch_iff] at h
          cases b with
          | true =>
            have := h.1 rfl
            rw [setV_self q3 q6] at this
            exact skp this ⟨j, false, ej, oj, d, q1, q2, q3, q4, q5, .inr q6⟩
          | false =>
            have := h.2 rfl
            rw [setV_self q3 q6] at this
            exact stp this (.inr ⟨j, false, ej, oj, d, q1, q2, q3, q4, q5, q6⟩)
      · exact h.elim

end

end Go.Proofs.Ytofnedbclnlnmaa.Ev
