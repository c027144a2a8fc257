/-
  Ev: regions in the order of the text: they do as it is reckoned.
-/
import Derived.Test.YtofnedbclnlnmaaEvO
namespace Go.Proofs.Ytofnedbclnlnmaa.Ev
set_option linter.unusedVariables false
set_option linter.unusedSimpArgs false
open Go.RowKit

section
variable {X : Ctx}

def boolOf : Value → Option Bool
  | .bool b => some b
  | _ => none

theorem yielded_of {ops : Array Oper} {a : Act} {j t : Nat} {oj : Oper} (hj : ops.toList[j]? = some oj) (ht : oj.dst = some t) {v : Value} (hv : a.tmps[t]? = some v) : yielded ops a.tmps j = boolOf v := by
  have hj' : ops[j]? = some oj := by simpa using hj
  unfold yielded
  simp only [hj', Option.bind_some, ht, hv]
  cases v <;> rfl

theorem wantA_yes {ops : Array Oper} {o : Oper} {E : Env} (h : wantA ops.toList o E = .yes) (a : Act) : Region.wanted o (yielded ops a.tmps) = true := by
  unfold wantA at h
  unfold Region.wanted
  cases hg : o.guard with
  | none => rfl
  | some p =>
    rw [hg] at h
    simp only at h
    (repeat' split at h) <;> cases h

theorem wantA_no {ops : Array Oper} {o : Oper} {E : Env} (h : wantA ops.toList o E = .no) {ρ : Rho} {N : Nat} {a : Act} (hE : RelE ρ N E a) : Region.wanted o (yielded ops a.tmps) = false := by
  unfold wantA at h
  unfold Region.wanted
  cases hg : o.guard with
  | none => rw [hg] at h; cases h
  | some p =>
    rw [hg] at h
    simp only at h
    split at h <;> try cases h
    rename_i oj hj
    split at h <;> try cases h
    rename_i t ht
    split at h <;> try cases h
    rename_i hv
    have := (hE.get t _ hv).1
    show (yielded ops a.tmps p.1 == some p.2) = _
    rw [yielded_of hj ht this]
    rfl

theorem wantA_ask {ops : Array Oper} {o : Oper} {E : Env} {t : Nat} {b want : Bool} (h : wantA ops.toList o E = .ask t b want) {ρ : Rho} {N : Nat} {a : Act} (hE : RelE ρ N E a) : Region.wanted o (yielded ops a.tmps) = (b == want) ∧ getE E t = some (.bool b) := by
  unfold wantA at h
  unfold Region.wanted
  cases hg : o.guard with
  | none => rw [hg] at h; cases h
  | some p =>
    rw [hg] at h
    simp only at h
    split at h <;> try cases h
    rename_i oj hj
    split at h <;> try cases h
    rename_i ht
    split at h <;> try cases h
    rename_i hv
    refine ⟨?_, hv⟩
    have := (hE.get _ _ hv).1
    show (yielded ops a.tmps p.1 == some p.2) = _
    rw [yielded_of hj ht this]
    simp only [tr]
    cases b <;> cases p.2 <;> rfl

theorem RelE.over {ρ : Rho} {N : Nat} {E : Env} {a : Act} (hE : RelE ρ N E a) {t : Nat} {v : AVal} (h : getE E t = some v) : RelE ρ N ((t, v) :: E) a :=
  ⟨fun u x hx => by
    rw [getE_cons] at hx
    by_cases htu : t = u
    · rw [if_pos htu] at hx
      simp only [Option.some.injEq] at hx
      subst hx htu
      exact hE.get _ _ h
    · rw [if_neg htu] at hx
      exact hE.get u x hx⟩

theorem put_size {a : Act} {d : Option Tmp} {u : Value} : (a.put d u).tmps.size = a.tmps.size := by cases d <;> simp [Act.put]
theorem put_defers {a : Act} {d : Option Tmp} {u : Value} : (a.put d u).defers = a.defers := by cases d <;> simp [Act.put]

theorem wpSeq_sound (hX : CtxRows X) (hF : FcOk X) {sm : Bool} {cf : CallF} (hC : CallOk X cf) {ops : Array Oper} {Q : AExit → Env → AHeap → Prop} {ρ0 : Rho} {H0 : AHeap} {w0 : World} {n : Nat} (hdst : ∀ (j : Nat) (o : Oper) (t : Nat), ops[j]? = some o → o.dst = some t → t < n) :
    ∀ (rest : List Oper) (k : Nat), (∀ j, rest[j]? = ops[k + j]?) → ∀ (E : Env) (H : AHeap) (ρ : Rho) (a : Act) (w : World), wpSeq X sm cf ops.toList rest E H Q → Step ρ0 H0 w0 ρ H w → RelE ρ H.next E a → a.defers = [] → a.tmps.size = n →
      wpOps X.P ops (Lift ρ0 H0 w0 n Q) (List.range' k rest.length) a w
  | [], k, _, E, H, ρ, a, w, h, hS, hE, hd, hn => ⟨.normal, E, H, ρ, trivial, h, hE, hd, hn, hS⟩
  | o :: rest, k, hr, E, H, ρ, a, w, h, hS, hE, hd, hn => by
    have h0 : ops[k]? = some o := by simpa using (hr 0).symm
    have hr' : ∀ j, rest[j]? = ops[k + 1 + j]? := fun j => by have := hr (j + 1); simpa [Nat.add_assoc, Nat.add_comm 1 j] using this
    have hdo : ∀ t, o.dst = some t → t < n := fun t ht => hdst k o t h0 ht
    simp only [List.length_cons, List.range'_succ, wpOps, h0]
    -- wanted, not wanted
    have yes : ∀ E', RelE ρ H.next E' a → stepA X sm cf o E' H (fun E H => wpSeq X sm cf ops.toList rest E H Q) Q → o.wp X.P a w (wpOps X.P ops (Lift ρ0 H0 w0 n Q) (List.range' (k + 1) rest.length)) (Lift ρ0 H0 w0 n Q) := by
      intro E' hE' hs
      exact stepA_sound hX hF hC hs hS hE' hd hn hdo (fun E'' H'' ρ'' a'' w'' hk hS' hE'' hd' hn' => wpSeq_sound hX hF hC hdst rest (k + 1) hr' E'' H'' ρ'' a'' w'' hk hS' hE'' hd' hn')
    have no : ∀ E', RelE ρ H.next E' a → wpSeq X sm cf ops.toList rest (putE E' o.dst (.tup [])) H Q → wpOps X.P ops (Lift ρ0 H0 w0 n Q) (List.range' (k + 1) rest.length) (a.put o.dst undef) w := by
      intro E' hE' hs
      have := hE'.put (v := .tup []) (dst := o.dst) rfl (fun t ht => by rw [hn]; exact hdo t ht)
      exact wpSeq_sound hX hF hC hdst rest (k + 1) hr' _ H ρ _ w hs hS this (by rw [put_defers]; exact hd) (by rw [put_size]; exact hn)
    unfold wpSeq at h
    split at h
    · rename_i hw
      rw [if_pos (wantA_yes hw a)]
      exact .inl (yes E hE h)
    · rename_i hw
      rw [if_neg (by rw [wantA_no hw hE]; simp)]
      exact no E hE h
    · rename_i t b want hw
      obtain ⟨h1, h2⟩ := wantA_ask hw hE
      rw [h1]
      split at h
      · rw [branch_iff] at h
        cases b with
        | true => rw [if_pos (show (true == true) = true from rfl)]; exact .inl (yes _ (hE.over h2) (h.1 rfl))
        | false => rw [if_neg (by simp)]; exact no _ (hE.over h2) (h.2 rfl)
      · rw [branch_iff] at h
        cases b with
        | true => rw [if_neg (by simp)]; exact no _ (hE.over h2) (h.1 rfl)
        | false => rw [if_pos (show (false == false) = true from rfl)]; exact .inl (yes _ (hE.over h2) (h.2 rfl))
    · exact h.elim

end

end Go.Proofs.Ytofnedbclnlnmaa.Ev
