/-
  Ev: regions in the order of the text.
-/
import Derived.Test.YtofnedbclnlnmaaEvN
namespace Go.Proofs.Ytofnedbclnlnmaa.Ev
set_option linter.unusedVariables false
set_option linter.unusedSimpArgs false
open Go.RowKit

/-- What is asked: c, and then K. -/
def obl (c : Bool) (K : Prop) : Prop :=
  match c with
  | true => K
  | false => False

/-- Two ways. -/
def branch (c : Bool) (T E : Prop) : Prop :=
  match c with
  | true => T
  | false => E

theorem obl_iff {c : Bool} {K : Prop} : obl c K ↔ c = true ∧ K := by cases c <;> simp [obl]
theorem branch_iff {c : Bool} {T E : Prop} : branch c T E ↔ (c = true → T) ∧ (c = false → E) := by cases c <;> simp [branch]

/-- Calls of functions that are not taken by what they come to. -/
abbrev CallF := FuncId → List AVal → AHeap → (Out → AHeap → Prop) → Prop

def callArgs (E : Env) (o : Oper) : Option (FuncId × List AVal) :=
  match o.op with
  | .call { callee := .value f, args := args, .. } => match evalO E f, evalL E args.toList with
    | some (.func id first cap), some as => some (id, first ++ as ++ cap)
    | _, _ => none
  | _ => none

/-- One operation that is wanted; K: what follows. -/
noncomputable def stepA (X : Ctx) (sm : Bool) (cf : CallF) (o : Oper) (E : Env) (H : AHeap) (K : Env → AHeap → Prop) (Q : AExit → Env → AHeap → Prop) : Prop :=
  match pureA X.P sm o E H with
  | some (c, v) => obl c (K (putE E o.dst v) H)
  | none => match newA X o E H.next with
    | some (c, v, x) => obl c (K (putE E o.dst v) (H.new x))
    | none => match writeA X sm o E H with
      | some (c, v, H') => obl c (K (putE E o.dst v) H')
      | none => match callArgs E o with
        | some (f, args) => match X.fc f with
          | some fc => match fc args H with
            | some (c, v) => obl c (K (putE E o.dst v) H)
            | none => False
          | none => cf f args H fun out H' => match out with
            | .ret v => K (putE E o.dst v) H'
            | .panic v => Q (.panic v) E H'
        | none => False

inductive Want where
  | yes
  | no
  | ask (t : Nat) (b want : Bool)
  | bad

def wantA (all : List Oper) (o : Oper) (E : Env) : Want :=
  match o.guard with
  | none => .yes
  | some (j, want) => match all[j]? with
    | some oj => match oj.dst with
      | some t => match getE E t with
        | some (.bool b) => .ask t b want
        | some (.tup []) => .no
        | _ => .bad
      | none => .bad
    | none => .bad

noncomputable def wpSeq (X : Ctx) (sm : Bool) (cf : CallF) (all : List Oper) : List Oper → Env → AHeap → (AExit → Env → AHeap → Prop) → Prop
  | [], E, H, Q => Q .normal E H
  | o :: rest, E, H, Q =>
    match wantA all o E with
    | .yes => stepA X sm cf o E H (fun E H => wpSeq X sm cf all rest E H Q) Q
    | .no => wpSeq X sm cf all rest (putE E o.dst (.tup [])) H Q
    | .ask t b want => match want with
      | true => branch b (stepA X sm cf o ((t, .bool true) :: E) H (fun E H => wpSeq X sm cf all rest E H Q) Q) (wpSeq X sm cf all rest (putE ((t, .bool false) :: E) o.dst (.tup [])) H Q)
      | false => branch b (wpSeq X sm cf all rest (putE ((t, .bool true) :: E) o.dst (.tup [])) H Q) (stepA X sm cf o ((t, .bool false) :: E) H (fun E H => wpSeq X sm cf all rest E H Q) Q)
    | .bad => False

/-! ### soundness -/

def AExit.rel (ρ : Rho) (N : Nat) : AExit → Exit → Prop
  | .normal, .normal => True
  | .exit i, .exit j => i = j
  | .ret, .ret => True
  | .panic v, .panic chain => chain = [{ v := tr ρ v, recovered := false }] ∧ v.under N = true
  | _, _ => False

/-- What is reckoned behind a piece of code holds in the program's memory. -/
def Lift (ρ0 : Rho) (H0 : AHeap) (w0 : World) (n : Nat) (Q : AExit → Env → AHeap → Prop) : Exit → Act → World → Prop := fun x a w =>
  ∃ x' E H ρ, AExit.rel ρ H.next x' x ∧ Q x' E H ∧ RelE ρ H.next E a ∧ a.defers = [] ∧ a.tmps.size = n ∧ Step ρ0 H0 w0 ρ H w

def Out.rel (ρ : Rho) (N : Nat) : Out → Ending → Prop
  | .ret v, .returned u => u = tr ρ v ∧ v.under N = true
  | .panic v, .panicked chain => chain = [{ v := tr ρ v, recovered := false }] ∧ v.under N = true
  | _, _ => False

/-- What is claimed of calls. -/
def CallOk (X : Ctx) (cf : CallF) : Prop := ∀ f args H K, cf f args H K → ∀ ρ w, Rel ρ H w → belowL H.next args = true →
  (∀ vs w, (callFunc f vs).run X.P w = .ok (.enter f vs) w) ∧
  Calls X.P f (trL ρ args).toArray w fun e w' => ∃ out H' ρ', Out.rel ρ' H'.next out e ∧ K out H' ∧ Step ρ H w ρ' H' w'

structure FcOk (X : Ctx) : Prop where
  enter : ∀ f c, X.fc f = some c → ∀ vs w, (callFunc f vs).run X.P w = .ok (.enter f vs) w
  calls : ∀ f c, X.fc f = some c → ∀ args H v, c args H = some (true, v) → ∀ ρ w N, (∀ b y, H.get b = some y → y.under N = true ∧ ρ.blk b < w.heap.size ∧ y.ok ρ w b) → belowL N args = true →
    Calls X.P f (trL ρ args).toArray w (fun e w' => e = .returned (tr ρ v) ∧ Below w.heap.size w w') ∧ v.under N = true

section
variable {X : Ctx}

theorem callArgs_under {E : Env} {o : Oper} {f : FuncId} {args : List AVal} (h : callArgs E o = some (f, args)) {ρ : Rho} {N : Nat} {a : Act} (hE : RelE ρ N E a) : belowL N args = true := by
  unfold callArgs at h
  split at h <;> try cases h
  split at h <;> try cases h
  rename_i has hx
  obtain ⟨h1, h2⟩ := evalO_tr hE hx
  obtain ⟨k1, k2⟩ := evalL_tr hE has
  simp only [AVal.under, Bool.and_eq_true, belowL_eq] at h2
  rw [belowL_eq] at k2 ⊢
  simp only [List.all_append, Bool.and_eq_true]
  exact ⟨⟨h2.1, k2⟩, h2.2⟩

theorem callArgs_sound {E : Env} {o : Oper} {f : FuncId} {args : List AVal} (h : callArgs E o = some (f, args)) {ρ : Rho} {N : Nat} {a : Act} (hE : RelE ρ N E a) (he : ∀ vs w, (callFunc f vs).run X.P w = .ok (.enter f vs) w) (w : World) :
    (execOp a.eval o).run X.P w = .ok (.enter f (trL ρ args).toArray) w := by
  unfold callArgs at h
  split at h <;> try cases h
  rename_i x as ts ho
  split at h <;> try cases h
  rename_i first cap vs has hx
  obtain ⟨h1, h2⟩ := evalO_tr hE hx
  obtain ⟨k1, k2⟩ := evalL_tr hE has
  have e1 : as.map a.eval = (trL ρ vs).toArray := by rw [← k1]; apply Array.ext'; simp
  simp only [execOp, ho, resolve, Sem.run_bind, Sem.run_pure, Result.andThen_ok, h1, tr, Deferred.ofValue, e1, invoke, he]
  congr 3
  simp [trL_append]

theorem obl_true {c : Bool} {K : Prop} (h : obl c K) : c = true ∧ K := obl_iff.1 h

/-- One operation. -/
theorem stepA_sound (hX : CtxRows X) (hF : FcOk X) {sm : Bool} {cf : CallF} (hC : CallOk X cf) {o : Oper} {E : Env} {H : AHeap} {K : Env → AHeap → Prop} {Q : AExit → Env → AHeap → Prop} (h : stepA X sm cf o E H K Q)
    {ρ0 : Rho} {H0 : AHeap} {w0 : World} {n : Nat} {ρ : Rho} {a : Act} {w : World} (hS : Step ρ0 H0 w0 ρ H w) (hE : RelE ρ H.next E a) (hd : a.defers = []) (hn : a.tmps.size = n) (hdst : ∀ t, o.dst = some t → t < n)
    {next : Act → World → Prop} (hK : ∀ E' H' ρ' a' w', K E' H' → Step ρ0 H0 w0 ρ' H' w' → RelE ρ' H'.next E' a' → a'.defers = [] → a'.tmps.size = n → next a' w') :
    o.wp X.P a w next (Lift ρ0 H0 w0 n Q) := by
  have hR := hS.rel
  have hH : ∀ b y, H.get b = some y → y.under H.next = true ∧ y.ok ρ w b := fun b y hy => ⟨(hR.blk b y hy).2.1, (hR.blk b y hy).2.2.2⟩
  have hdn : ∀ t, o.dst = some t → t < a.tmps.size := fun t ht => by rw [hn]; exact hdst t ht
  have put_size : ∀ u, (a.put o.dst u).tmps.size = n := fun u => by rw [← hn]; cases o.dst <;> simp [Act.put]
  have put_def : ∀ u, (a.put o.dst u).defers = [] := fun u => by cases hx : o.dst <;> simp [Act.put, hd]
  unfold Oper.wp
  unfold stepA at h
  split at h
  · rename_i c v hp
    obtain ⟨rfl, hk⟩ := obl_true h
    obtain ⟨h1, h2⟩ := pureA_sound hp hE hH
    rw [h1, Oper.upon_value]
    exact hK _ _ ρ _ _ hk hS (hE.put h2 hdn) (put_def _) (put_size _)
  · split at h
    · rename_i c v x hp
      obtain ⟨rfl, hk⟩ := obl_true h
      obtain ⟨u, w', h1, h2⟩ := newA_sound hX hp hE (w := w)
      obtain ⟨ρ', hst, hu, hv⟩ := Step.new hR h2
      rw [h1, Oper.upon_value, hu]
      exact hK _ _ ρ' _ _ hk (hS.trans hst) ((hE.step hst.agree hst.next).put hv hdn) (put_def _) (put_size _)
    · split at h
      · rename_i c v H' hp
        obtain ⟨rfl, hk⟩ := obl_true h
        obtain ⟨ρ', w', h1, h2, hst⟩ := writeA_sound hp hR hE
        rcases h1 with h1 | ⟨h1, rfl⟩
        · rw [h1, Oper.upon_value]
          exact hK _ _ ρ' _ _ hk (hS.trans hst) ((hE.step hst.agree hst.next).put h2 hdn) (put_def _) (put_size _)
        · rw [h1, Oper.upon_skip]
          have := (hE.step hst.agree hst.next).put (v := .tup []) h2 hdn
          simp only [tr, trL] at this
          exact hK _ _ ρ' _ _ hk (hS.trans hst) this (put_def _) (put_size _)
      · split at h
        · rename_i f args ha
          split at h
          · rename_i fc hfc
            split at h
            · rename_i c v hv
              obtain ⟨rfl, hk⟩ := obl_true h
              have h1 := callArgs_sound (X := X) ha hE (hF.enter f fc hfc) w
              have h2 := callArgs_under ha hE
              obtain ⟨h3, h4⟩ := hF.calls f fc hfc args H v hv ρ w H.next (fun b y hy => ⟨(hR.blk b y hy).2.1, (hR.blk b y hy).2.2.1, (hR.blk b y hy).2.2.2⟩) h2
              rw [h1, Oper.upon_enter]
              refine h3.mono ?_
              rintro e w' ⟨rfl, hb⟩
              have hst := Step.grow hR hb
              exact hK _ _ ρ _ _ hk (hS.trans hst) (hE.put h4 hdn) (put_def _) (put_size _)
            · exact h.elim
          · rename_i hfc
            have h2 := callArgs_under ha hE
            have hcf := hC f args H _ h ρ w hR h2
            have h1 := callArgs_sound (X := X) ha hE hcf.1 w
            rw [h1, Oper.upon_enter]
            refine hcf.2.mono ?_
            rintro e w' ⟨out, H', ρ', ho, hk, hst⟩
            cases out with
            | ret v =>
              cases e <;> simp only [Out.rel] at ho
              obtain ⟨rfl, hv⟩ := ho
              exact hK _ _ ρ' _ _ hk (hS.trans hst) ((hE.step hst.agree hst.next).put hv hdn) (put_def _) (put_size _)
            | panic v =>
              cases e <;> simp only [Out.rel] at ho
              exact ⟨.panic v, E, H', ρ', ho, hk, hE.step hst.agree hst.next, hd, hn, hS.trans hst⟩
        · exact h.elim

end

end Go.Proofs.Ytofnedbclnlnmaa.Ev
