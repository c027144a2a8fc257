/-
  Ev, part 3.
-/
import Derived.Test.YtcgnoegejmhgmaaEm2
import Derived.Orders
import Derived.Scope
import Derived.LoopN
/-
  Ev: regions in the order of the text.
-/
namespace Go.Proofs.Ytcgnoegejmhgmaa.Ev
set_option linter.unusedVariables false
set_option linter.unusedSimpArgs false
open Go.RowKit

/-- What is asked: c, and then K. -/
def obl (c : Bool) (K : Prop) : Prop :=
  match c with
  | true => K
  | false => False

/-- Two ways. -/
def branch (c : Bool) (T E : Prop) : Prop :=
  match c with
  | true => T
  | false => E

theorem obl_iff {c : Bool} {K : Prop} : obl c K ↔ c = true ∧ K := by cases c <;> simp [obl]
theorem branch_iff {c : Bool} {T E : Prop} : branch c T E ↔ (c = true → T) ∧ (c = false → E) := by cases c <;> simp [branch]

/-- Calls of functions that are not taken by what they come to. -/
abbrev CallF := FuncId → List AVal → AHeap → (Out → AHeap → Prop) → Prop

def callArgs (P : Program) (E : Env) (o : Oper) : Option (FuncId × List AVal) :=
  match o.op with
  | .call { callee := .invoke r name, args := args, .. } => match evalO E r, evalL E args.toList with
    | some (.iface t v), some as => match methA P t name with
      | some f => some (f, v :: as)
      | none => none
    | _, _ => none
  | .call { callee := .value f, args := args, .. } => match evalO E f, evalL E args.toList with
    | some (.func id first cap), some as => some (id, first ++ as ++ cap)
    | _, _ => none
  | _ => none

theorem stuck_ex : ∃ f : Nat → List Oper → Prop, ∀ n l, ¬ f n l := ⟨fun _ _ => False, fun _ _ h => h⟩
/-- False, and says where. -/
noncomputable def Stuck : Nat → List Oper → Prop := Classical.choose stuck_ex
theorem not_stuck {n : Nat} {l : List Oper} (h : Stuck n l) : False := Classical.choose_spec stuck_ex n l h

/-- A number, reckoned before what follows. -/
def forceK (s : Nat) (K : Nat → Prop) : Prop :=
  match s with
  | 0 => K 0
  | n + 1 => K (Nat.succ n)
theorem forceK_eq (s : Nat) (K : Nat → Prop) : forceK s K = K s := by cases s <;> rfl
def forceH (H : AHeap) (K : AHeap → Prop) : Prop :=
  match H with
  | ⟨n, bs⟩ => forceK n fun n => K ⟨n, bs⟩
theorem forceH_eq (H : AHeap) (K : AHeap → Prop) : forceH H K = K H := by cases H; simp only [forceH, forceK_eq]

/-- One operation that is wanted; K: what follows. -/
noncomputable def stepA (X : Ctx) (sm : Bool) (cf : CallF) (o : Oper) (E : Env) (H : AHeap) (K : Env → AHeap → Prop) (Q : AExit → Env → AHeap → Prop) : Prop :=
  match pureA X.P sm o E H with
  | some (c, v) => obl c (K (putE E o.dst v) H)
  | none => forceK H.next fun id => match newA X o E id with
    | some (c, v, x) => obl c (forceH (H.new x) (K (putE E o.dst v)))
    | none => match writeA X sm o E H with
      | some (c, v, H') => obl c (forceH H' (K (putE E o.dst v)))
      | none => match callArgs X.P E o with
        | some (f, args) => match X.fc f with
          | some fc => match fc args H with
            | some (c, v) => obl c (K (putE E o.dst v) H)
            | none => Stuck 1 [o]
          | none => cf f args H fun out H' => match out with
            | .ret v => K (putE E o.dst v) H'
            | .panic v => Q (.panic v) E H'
        | none => match X.op o E H with
          | some g => g fun out H' => match out with
            | .ret v => K (putE E o.dst v) H'
            | .panic v => Q (.panic v) E H'
          | none => Stuck 2 [o]

inductive Want where
  | yes
  | no
  | ask (t : Nat) (b want : Bool)
  | bad

def wantA (all : List Oper) (o : Oper) (E : Env) : Want :=
  match o.guard with
  | none => .yes
  | some (j, want) => match all[j]? with
    | some oj => match oj.dst with
      | some t => match getE E t with
        | some (.bool b) => .ask t b want
        | some (.tup []) => .no
        | _ => .bad
      | none => .bad
    | none => .bad

noncomputable def wpSeq (X : Ctx) (sm : Bool) (cf : CallF) (all : List Oper) : List Oper → Env → AHeap → (AExit → Env → AHeap → Prop) → Prop
  | [], E, H, Q => Q .normal E H
  | o :: rest, E, H, Q =>
    match wantA all o E with
    | .yes => stepA X sm cf o E H (fun E H => wpSeq X sm cf all rest E H Q) Q
    | .no => wpSeq X sm cf all rest (putE E o.dst (.tup [])) H Q
    | .ask t b want => match want with
      | true => branch b (stepA X sm cf o ((t, .bool true) :: E) H (fun E H => wpSeq X sm cf all rest E H Q) Q) (wpSeq X sm cf all rest (putE ((t, .bool false) :: E) o.dst (.tup [])) H Q)
      | false => branch b (wpSeq X sm cf all rest (putE ((t, .bool true) :: E) o.dst (.tup [])) H Q) (stepA X sm cf o ((t, .bool false) :: E) H (fun E H => wpSeq X sm cf all rest E H Q) Q)
    | .bad => Stuck 3 [o]

/-! ### soundness -/

def AExit.rel (ρ : Rho) (N : Nat) : AExit → Exit → Prop
  | .normal, .normal => True
  | .exit i, .exit j => i = j
  | .ret, .ret => True
  | .panic v, .panic chain => chain = [{ v := tr ρ v, recovered := false }] ∧ v.under N = true
  | _, _ => False

/-- What is reckoned behind a piece of code holds in the program's memory. -/
class Dfs where
  D : List Deferred

def Lift [Dfs] (ρ0 : Rho) (H0 : AHeap) (w0 : World) (n : Nat) (Q : AExit → Env → AHeap → Prop) : Exit → Act → World → Prop := fun x a w =>
  ∃ x' E H ρ, AExit.rel ρ H.next x' x ∧ Q x' E H ∧ RelE ρ H.next E a ∧ a.defers = Dfs.D ∧ a.tmps.size = n ∧ Step ρ0 H0 w0 ρ H w

def Out.rel (ρ : Rho) (N : Nat) : Out → Ending → Prop
  | .ret v, .returned u => u = tr ρ v ∧ v.under N = true
  | .panic v, .panicked chain => chain = [{ v := tr ρ v, recovered := false }] ∧ v.under N = true
  | _, _ => False

/-- What is claimed of calls. -/
def CallOk (X : Ctx) (cf : CallF) : Prop := ∀ f args H K, cf f args H K → ∀ ρ w, Rel ρ H w → belowL H.next args = true →
  (∀ vs w, (callFunc f vs).run X.P w = .ok (.enter f vs) w) ∧
  Calls X.P f (trL ρ args).toArray w fun e w' => ∃ out H' ρ', Out.rel ρ' H'.next out e ∧ K out H' ∧ Step ρ H w ρ' H' w'

/-- What is claimed of further operations. -/
def OpSound (P : Program) (op : Oper → Env → AHeap → Option ((Out → AHeap → Prop) → Prop)) : Prop := ∀ o E H g, op o E H = some g → ∀ K : Out → AHeap → Prop, g K → ∀ ρ w a, Rel ρ H w → RelE ρ H.next E a →
  ∃ out H' ρ' w', K out H' ∧ Step ρ H w ρ' H' w' ∧ match out with
    | .ret v => ((execOp a.eval o).run P w = .ok (.value (tr ρ' v)) w' ∨ ((execOp a.eval o).run P w = .ok .skip w' ∧ v = .tup [])) ∧ v.under H'.next = true
    | .panic v => (execOp a.eval o).run P w = .halt (.panic (tr ρ' v)) w' ∧ v.under H'.next = true

structure FcOk (X : Ctx) : Prop where
  ops : OpSound X.P X.op
  enter : ∀ f c, X.fc f = some c → ∀ vs w, (callFunc f vs).run X.P w = .ok (.enter f vs) w
  calls : ∀ f c, X.fc f = some c → ∀ args H v, c args H = some (true, v) → ∀ ρ w N, (∀ b y, H.get b = some y → y.under N = true ∧ ρ.blk b < w.heap.size ∧ y.ok ρ w b) → belowL N args = true →
    Calls X.P f (trL ρ args).toArray w (fun e w' => e = .returned (tr ρ v) ∧ Below w.heap.size w w') ∧ v.under N = true

section
variable {X : Ctx}

theorem callArgs_under {E : Env} {o : Oper} {f : FuncId} {args : List AVal} (h : callArgs X.P E o = some (f, args)) {ρ : Rho} {N : Nat} {a : Act} (hE : RelE ρ N E a) : belowL N args = true := by
  unfold callArgs at h
  split at h <;> try cases h
  · split at h <;> try cases h
    rename_i t v as hx has
    split at h <;> try cases h
    obtain ⟨h1, h2⟩ := evalO_tr hE hx
    obtain ⟨k1, k2⟩ := evalL_tr hE has
    simp only [AVal.under] at h2
    simp only [belowL, h2, k2, Bool.and_self]
  split at h <;> try cases h
  rename_i has hx
  obtain ⟨h1, h2⟩ := evalO_tr hE hx
  obtain ⟨k1, k2⟩ := evalL_tr hE has
  simp only [AVal.under, Bool.and_eq_true, belowL_eq] at h2
  rw [belowL_eq] at k2 ⊢
  simp only [List.all_append, Bool.and_eq_true]
  exact ⟨⟨h2.1, k2⟩, h2.2⟩

theorem method_run1 {P : Program} {t : TypeId} {name : String} {f : FuncId} (h : methA P t name = some f) {v : Value} {w : World} (k : Nat) : (method (k + 1) t v name).run P w = .ok (f, v) w := by
  unfold methA at h
  split at h <;> try cases h
  rename_i i e hi hu
  split at h <;> try cases h
  rename_i m hm
  split at h <;> try cases h
  rename_i hp hf
  simp only [method, typeInfo, Sem.run_bind, run_program, Result.andThen_ok, hi, Sem.run_pure, hm, hp, hf, follow, receiverAt, underlying, hu, Place.get]

theorem method_run {P : Program} {t : TypeId} {name : String} {f : FuncId} (h : methA P t name = some f) {v : Value} {w : World} : (method (P.types.size + Made.depth) t v name).run P w = .ok (f, v) w :=
  method_run1 h (P.types.size + 99)

theorem callArgs_sound {E : Env} {o : Oper} {f : FuncId} {args : List AVal} (h : callArgs X.P E o = some (f, args)) {ρ : Rho} {N : Nat} {a : Act} (hE : RelE ρ N E a) (he : ∀ vs w, (callFunc f vs).run X.P w = .ok (.enter f vs) w) (w : World) :
    (execOp a.eval o).run X.P w = .ok (.enter f (trL ρ args).toArray) w := by
  unfold callArgs at h
  split at h <;> try cases h
  · rename_i r name as ts ho
    split at h <;> try cases h
    rename_i t v vs hx has
    split at h <;> try cases h
    rename_i hm
    obtain ⟨h1, h2⟩ := evalO_tr hE hx
    obtain ⟨k1, k2⟩ := evalL_tr hE has
    have e1 : as.map a.eval = (trL ρ vs).toArray := by rw [← k1]; apply Array.ext'; simp
    have e2 : (#[Value.iface t (tr ρ v)] ++ (trL ρ vs).toArray).extract 1 (#[Value.iface t (tr ρ v)] ++ (trL ρ vs).toArray).size = (trL ρ vs).toArray := by
      apply Array.ext'; simp
    simp only [execOp, ho, resolve, Sem.run_bind, Sem.run_pure, Result.andThen_ok, h1, tr, e1, invoke]
    have e3 : (#[Value.iface t (tr ρ v)] ++ (trL ρ vs).toArray)[0]? = some (Value.iface t (tr ρ v)) := by simp
    rw [e3]
    simp only [e2, callMethod, Sem.run_bind, run_program, Result.andThen_ok, method_run hm, he]
    congr 3
    apply Array.ext'
    simp [trL]
  rename_i x as ts ho
  split at h <;> try cases h
  rename_i first cap vs has hx
  obtain ⟨h1, h2⟩ := evalO_tr hE hx
  obtain ⟨k1, k2⟩ := evalL_tr hE has
  have e1 : as.map a.eval = (trL ρ vs).toArray := by rw [← k1]; apply Array.ext'; simp
  simp only [execOp, ho, resolve, Sem.run_bind, Sem.run_pure, Result.andThen_ok, h1, tr, Deferred.ofValue, e1, invoke, he]
  congr 3
  simp [trL_append]

theorem obl_true {c : Bool} {K : Prop} (h : obl c K) : c = true ∧ K := obl_iff.1 h

/-- One operation. -/
theorem stepA_sound [Dfs] (hX : CtxRows X) (hF : FcOk X) {sm : Bool} {cf : CallF} (hC : CallOk X cf) {o : Oper} {E : Env} {H : AHeap} {K : Env → AHeap → Prop} {Q : AExit → Env → AHeap → Prop} (h : stepA X sm cf o E H K Q)
    {ρ0 : Rho} {H0 : AHeap} {w0 : World} {n : Nat} {ρ : Rho} {a : Act} {w : World} (hS : Step ρ0 H0 w0 ρ H w) (hE : RelE ρ H.next E a) (hd : a.defers = Dfs.D) (hn : a.tmps.size = n) (hdst : ∀ t, o.dst = some t → t < n)
    {next : Act → World → Prop} (hK : ∀ E' H' ρ' a' w', K E' H' → Step ρ0 H0 w0 ρ' H' w' → RelE ρ' H'.next E' a' → a'.defers = Dfs.D → a'.tmps.size = n → Rho.agree H.next ρ ρ' → H.next ≤ H'.next → next a' w') :
    o.wp X.P a w next (Lift ρ0 H0 w0 n Q) := by
  have hR := hS.rel
  have hH : ∀ b y, H.get b = some y → y.under H.next = true ∧ y.ok ρ w b := fun b y hy => ⟨(hR.blk b y hy).2.1, (hR.blk b y hy).2.2.2⟩
  have hdn : ∀ t, o.dst = some t → t < a.tmps.size := fun t ht => by rw [hn]; exact hdst t ht
  have put_size : ∀ u, (a.put o.dst u).tmps.size = n := fun u => by rw [← hn]; cases o.dst <;> simp [Act.put]
  have put_def : ∀ u, (a.put o.dst u).defers = Dfs.D := fun u => by cases hx : o.dst <;> simp [Act.put, hd]
  unfold Oper.wp
  unfold stepA at h
  simp only [forceK_eq, forceH_eq] at h
  split at h
  · rename_i c v hp
    obtain ⟨rfl, hk⟩ := obl_true h
    obtain ⟨h1, h2⟩ := pureA_sound hp hE hH
    rw [h1, Oper.upon_value]
    exact hK _ _ ρ _ _ hk hS (hE.put h2 hdn) (put_def _) (put_size _) (Rho.agree.refl _ _) (Nat.le_refl _)
  · split at h
    · rename_i c v x hp
      obtain ⟨rfl, hk⟩ := obl_true h
      obtain ⟨u, w', h1, h2⟩ := newA_sound hX hp hE (w := w)
      obtain ⟨ρ', hst, hu, hv⟩ := Step.new hR h2
      rw [h1, Oper.upon_value, hu]
      exact hK _ _ ρ' _ _ hk (hS.trans hst) ((hE.step hst.agree hst.next).put hv hdn) (put_def _) (put_size _) hst.agree hst.next
    · split at h
      · rename_i c v H' hp
        obtain ⟨rfl, hk⟩ := obl_true h
        obtain ⟨ρ', w', h1, h2, hst⟩ := writeA_sound hp hR hE
        rcases h1 with h1 | ⟨h1, rfl⟩
        · rw [h1, Oper.upon_value]
          exact hK _ _ ρ' _ _ hk (hS.trans hst) ((hE.step hst.agree hst.next).put h2 hdn) (put_def _) (put_size _) hst.agree hst.next
        · rw [h1, Oper.upon_skip]
          have := (hE.step hst.agree hst.next).put (v := .tup []) h2 hdn
          simp only [tr, trL] at this
          exact hK _ _ ρ' _ _ hk (hS.trans hst) this (put_def _) (put_size _) hst.agree hst.next
      · split at h
        · rename_i f args ha
          split at h
          · rename_i fc hfc
            split at h
            · rename_i c v hv
              obtain ⟨rfl, hk⟩ := obl_true h
              have h1 := callArgs_sound (X := X) ha hE (hF.enter f fc hfc) w
              have h2 := callArgs_under ha hE
              obtain ⟨h3, h4⟩ := hF.calls f fc hfc args H v hv ρ w H.next (fun b y hy => ⟨(hR.blk b y hy).2.1, (hR.blk b y hy).2.2.1, (hR.blk b y hy).2.2.2⟩) h2
              rw [h1, Oper.upon_enter]
              refine h3.mono ?_
              rintro e w' ⟨rfl, hb⟩
              have hst := Step.grow hR hb
              exact hK _ _ ρ _ _ hk (hS.trans hst) (hE.put h4 hdn) (put_def _) (put_size _) (Rho.agree.refl _ _) (Nat.le_refl _)
            · exact (not_stuck h).elim
          · rename_i hfc
            have h2 := callArgs_under ha hE
            have hcf := hC f args H _ h ρ w hR h2
            have h1 := callArgs_sound (X := X) ha hE hcf.1 w
            rw [h1, Oper.upon_enter]
            refine hcf.2.mono ?_
            rintro e w' ⟨out, H', ρ', ho, hk, hst⟩
            cases out with
            | ret v =>
              cases e <;> simp only [Out.rel] at ho
              obtain ⟨rfl, hv⟩ := ho
              exact hK _ _ ρ' _ _ hk (hS.trans hst) ((hE.step hst.agree hst.next).put hv hdn) (put_def _) (put_size _) hst.agree hst.next
            | panic v =>
              cases e <;> simp only [Out.rel] at ho
              exact ⟨.panic v, E, H', ρ', ho, hk, hE.step hst.agree hst.next, hd, hn, hS.trans hst⟩
        · split at h
          · rename_i g hg
            obtain ⟨out, H', ρ', w', hk, hst, ho⟩ := hF.ops o E H g hg _ h ρ w a hR hE
            cases out with
            | ret v =>
              obtain ⟨h1, hv⟩ := ho
              rcases h1 with h1 | ⟨h1, rfl⟩
              · rw [h1, Oper.upon_value]
                exact hK _ _ ρ' _ _ hk (hS.trans hst) ((hE.step hst.agree hst.next).put hv hdn) (put_def _) (put_size _) hst.agree hst.next
              · rw [h1, Oper.upon_skip]
                have := (hE.step hst.agree hst.next).put (v := .tup []) hv hdn
                simp only [tr, trL] at this
                exact hK _ _ ρ' _ _ hk (hS.trans hst) this (put_def _) (put_size _) hst.agree hst.next
            | panic v =>
              obtain ⟨h1, hv⟩ := ho
              rw [h1, Oper.upon_panic]
              exact ⟨.panic v, E, H', ρ', ⟨rfl, hv⟩, hk, hE.step hst.agree hst.next, hd, hn, hS.trans hst⟩
          · exact (not_stuck h).elim

end

end Go.Proofs.Ytcgnoegejmhgmaa.Ev

/-
  Ev: regions in the order of the text: they do as it is reckoned.
-/
namespace Go.Proofs.Ytcgnoegejmhgmaa.Ev
set_option linter.unusedVariables false
set_option linter.unusedSimpArgs false
open Go.RowKit

section
variable {X : Ctx}

def boolOf : Value → Option Bool
  | .bool b => some b
  | _ => none

theorem yielded_of {ops : Array Oper} {a : Act} {j t : Nat} {oj : Oper} (hj : ops.toList[j]? = some oj) (ht : oj.dst = some t) {v : Value} (hv : a.tmps[t]? = some v) : yielded ops a.tmps j = boolOf v := by
  have hj' : ops[j]? = some oj := by simpa using hj
  unfold yielded
  simp only [hj', Option.bind_some, ht, hv]
  cases v <;> rfl

theorem wantA_yes {ops : Array Oper} {o : Oper} {E : Env} (h : wantA ops.toList o E = .yes) (a : Act) : Region.wanted o (yielded ops a.tmps) = true := by
  unfold wantA at h
  unfold Region.wanted
  cases hg : o.guard with
  | none => rfl
  | some p =>
    rw [hg] at h
    simp only at h
    (repeat' split at h) <;> cases h

theorem wantA_no {ops : Array Oper} {o : Oper} {E : Env} (h : wantA ops.toList o E = .no) {ρ : Rho} {N : Nat} {a : Act} (hE : RelE ρ N E a) : Region.wanted o (yielded ops a.tmps) = false := by
  unfold wantA at h
  unfold Region.wanted
  cases hg : o.guard with
  | none => rw [hg] at h; cases h
  | some p =>
    rw [hg] at h
    simp only at h
    split at h <;> try cases h
    rename_i oj hj
    split at h <;> try cases h
    rename_i t ht
    split at h <;> try cases h
    rename_i hv
    have := (hE.get t _ hv).1
    show (yielded ops a.tmps p.1 == some p.2) = _
    rw [yielded_of hj ht this]
    rfl

theorem wantA_ask {ops : Array Oper} {o : Oper} {E : Env} {t : Nat} {b want : Bool} (h : wantA ops.toList o E = .ask t b want) {ρ : Rho} {N : Nat} {a : Act} (hE : RelE ρ N E a) : Region.wanted o (yielded ops a.tmps) = (b == want) ∧ getE E t = some (.bool b) := by
  unfold wantA at h
  unfold Region.wanted
  cases hg : o.guard with
  | none => rw [hg] at h; cases h
  | some p =>
    rw [hg] at h
    simp only at h
    split at h <;> try cases h
    rename_i oj hj
    split at h <;> try cases h
    rename_i ht
    split at h <;> try cases h
    rename_i hv
    refine ⟨?_, hv⟩
    have := (hE.get _ _ hv).1
    show (yielded ops a.tmps p.1 == some p.2) = _
    rw [yielded_of hj ht this]
    simp only [tr]
    cases b <;> cases p.2 <;> rfl

theorem RelE.over {ρ : Rho} {N : Nat} {E : Env} {a : Act} (hE : RelE ρ N E a) {t : Nat} {v : AVal} (h : getE E t = some v) : RelE ρ N ((t, v) :: E) a :=
  ⟨fun u x hx => by
    rw [getE_cons] at hx
    by_cases htu : t = u
    · rw [if_pos htu] at hx
      simp only [Option.some.injEq] at hx
      subst hx htu
      exact hE.get _ _ h
    · rw [if_neg htu] at hx
      exact hE.get u x hx⟩

theorem put_size {a : Act} {d : Option Tmp} {u : Value} : (a.put d u).tmps.size = a.tmps.size := by cases d <;> simp [Act.put]
theorem put_defers {a : Act} {d : Option Tmp} {u : Value} : (a.put d u).defers = a.defers := by cases d <;> simp [Act.put]

theorem wpSeq_sound [Dfs] (hX : CtxRows X) (hF : FcOk X) {sm : Bool} {cf : CallF} (hC : CallOk X cf) {ops : Array Oper} {Q : AExit → Env → AHeap → Prop} {ρ0 : Rho} {H0 : AHeap} {w0 : World} {n : Nat} (hdst : ∀ (j : Nat) (o : Oper) (t : Nat), ops[j]? = some o → o.dst = some t → t < n) :
    ∀ (rest : List Oper) (k : Nat), (∀ j, rest[j]? = ops[k + j]?) → ∀ (E : Env) (H : AHeap) (ρ : Rho) (a : Act) (w : World), wpSeq X sm cf ops.toList rest E H Q → Step ρ0 H0 w0 ρ H w → RelE ρ H.next E a → a.defers = Dfs.D → a.tmps.size = n →
      wpOps X.P ops (Lift ρ0 H0 w0 n Q) (List.range' k rest.length) a w
  | [], k, _, E, H, ρ, a, w, h, hS, hE, hd, hn => ⟨.normal, E, H, ρ, trivial, h, hE, hd, hn, hS⟩
  | o :: rest, k, hr, E, H, ρ, a, w, h, hS, hE, hd, hn => by
    have h0 : ops[k]? = some o := by simpa using (hr 0).symm
    have hr' : ∀ j, rest[j]? = ops[k + 1 + j]? := fun j => by have := hr (j + 1); simpa [Nat.add_assoc, Nat.add_comm 1 j] using this
    have hdo : ∀ t, o.dst = some t → t < n := fun t ht => hdst k o t h0 ht
    simp only [List.length_cons, List.range'_succ, wpOps, h0]
    -- wanted, not wanted
    have yes : ∀ E', RelE ρ H.next E' a → stepA X sm cf o E' H (fun E H => wpSeq X sm cf ops.toList rest E H Q) Q → o.wp X.P a w (wpOps X.P ops (Lift ρ0 H0 w0 n Q) (List.range' (k + 1) rest.length)) (Lift ρ0 H0 w0 n Q) := by
      intro E' hE' hs
      exact stepA_sound hX hF hC hs hS hE' hd hn hdo (fun E'' H'' ρ'' a'' w'' hk hS' hE'' hd' hn' _ _ => wpSeq_sound hX hF hC hdst rest (k + 1) hr' E'' H'' ρ'' a'' w'' hk hS' hE'' hd' hn')
    have no : ∀ E', RelE ρ H.next E' a → wpSeq X sm cf ops.toList rest (putE E' o.dst (.tup [])) H Q → wpOps X.P ops (Lift ρ0 H0 w0 n Q) (List.range' (k + 1) rest.length) (a.put o.dst undef) w := by
      intro E' hE' hs
      have := hE'.put (v := .tup []) (dst := o.dst) rfl (fun t ht => by rw [hn]; exact hdo t ht)
      exact wpSeq_sound hX hF hC hdst rest (k + 1) hr' _ H ρ _ w hs hS this (by rw [put_defers]; exact hd) (by rw [put_size]; exact hn)
    unfold wpSeq at h
    split at h
    · rename_i hw
      rw [if_pos (wantA_yes hw a)]
      exact .inl (yes E hE h)
    · rename_i hw
      rw [if_neg (by rw [wantA_no hw hE]; simp)]
      exact no E hE h
    · rename_i t b want hw
      obtain ⟨h1, h2⟩ := wantA_ask hw hE
      rw [h1]
      split at h
      · rw [branch_iff] at h
        cases b with
        | true => rw [if_pos (show (true == true) = true from rfl)]; exact .inl (yes _ (hE.over h2) (h.1 rfl))
        | false => rw [if_neg (by simp)]; exact no _ (hE.over h2) (h.2 rfl)
      · rw [branch_iff] at h
        cases b with
        | true => rw [if_neg (by simp)]; exact no _ (hE.over h2) (h.1 rfl)
        | false => rw [if_pos (show (false == false) = true from rfl)]; exact .inl (yes _ (hE.over h2) (h.2 rfl))
    · exact (not_stuck h).elim

end

end Go.Proofs.Ytcgnoegejmhgmaa.Ev

/-
  Ev: regions of open order: how they are reckoned; one operation of them.
-/
namespace Go.Proofs.Ytcgnoegejmhgmaa.Ev
set_option linter.unusedVariables false
set_option linter.unusedSimpArgs false
open Go.RowKit

/-! ### values and the blocks that they name -/

mutual
/-- All blocks of a value are of some kind. -/
def AVal.pB (p : Nat → Bool) : AVal → Bool
  | .ptr b _ _ _ | .sl b _ _ _ _ _ | .map b | .yld b => p b
  | .func _ first cap => pBL p first && pBL p cap
  | .agg cs => pBL p cs
  | .tup vs => pBL p vs
  | .iface _ v => v.pB p
  | .meth _ v => v.pB p
  | _ => true
def pBL (p : Nat → Bool) : List AVal → Bool
  | [] => true
  | v :: vs => v.pB p && pBL p vs
end

def Rho.same (p : Nat → Bool) (ρ ρ' : Rho) : Prop := ∀ b, p b = true → ρ'.blk b = ρ.blk b ∧ ρ'.off b = ρ.off b ∧ ρ'.cap b = ρ.cap b

mutual
theorem tr_same {p : Nat → Bool} {ρ ρ' : Rho} (h : Rho.same p ρ ρ') : ∀ v : AVal, v.pB p = true → tr ρ' v = tr ρ v
  | .int _ _, _ | .bool _, _ | .str _, _ | .nilp, _ | .nils, _ | .nilm, _ | .nilf, _ | .niface, _ => rfl
  | .ptr b i sz j, hb => by
    obtain ⟨h1, h2, _⟩ := h b hb
    simp only [tr, h1, h2]
  | .sl b i sz j n c, hb => by
    obtain ⟨h1, h2, h3⟩ := h b hb
    simp only [tr, h1, h2, h3]
  | .map b, hb | .yld b, hb => by
    obtain ⟨h1, _⟩ := h b hb
    simp only [tr, h1]
  | .func f first cap, hb => by
    simp only [AVal.pB, Bool.and_eq_true] at hb
    simp only [tr, trL_same h first hb.1, trL_same h cap hb.2]
  | .agg cs, hb => by
    simp only [AVal.pB] at hb
    simp only [tr, trL_same h cs hb]
  | .tup cs, hb => by
    simp only [AVal.pB] at hb
    simp only [tr, trL_same h cs hb]
  | .iface t v, hb => by
    simp only [AVal.pB] at hb
    simp only [tr, tr_same h v hb]
  | .meth m v, hb => by
    simp only [AVal.pB] at hb
    simp only [tr, tr_same h v hb]
theorem trL_same {p : Nat → Bool} {ρ ρ' : Rho} (h : Rho.same p ρ ρ') : ∀ vs : List AVal, pBL p vs = true → trL ρ' vs = trL ρ vs
  | [], _ => rfl
  | v :: vs, hb => by
    simp only [pBL, Bool.and_eq_true] at hb
    simp only [trL, tr_same h v hb.1, trL_same h vs hb.2]
end

mutual
theorem AVal.pB_mono {p q : Nat → Bool} (h : ∀ b, p b = true → q b = true) : ∀ v : AVal, v.pB p = true → v.pB q = true
  | .int _ _, _ | .bool _, _ | .str _, _ | .nilp, _ | .nils, _ | .nilm, _ | .nilf, _ | .niface, _ => rfl
  | .ptr b i sz j, hb | .sl b i sz j n c, hb | .map b, hb | .yld b, hb => h b hb
  | .func f first cap, hb => by
    simp only [AVal.pB, Bool.and_eq_true] at hb ⊢
    exact ⟨pBL_mono h first hb.1, pBL_mono h cap hb.2⟩
  | .agg cs, hb => by
    simp only [AVal.pB] at hb ⊢
    exact pBL_mono h cs hb
  | .tup cs, hb => by
    simp only [AVal.pB] at hb ⊢
    exact pBL_mono h cs hb
  | .iface t v, hb => by
    simp only [AVal.pB] at hb ⊢
    exact AVal.pB_mono h v hb
  | .meth m v, hb => by
    simp only [AVal.pB] at hb ⊢
    exact AVal.pB_mono h v hb
theorem pBL_mono {p q : Nat → Bool} (h : ∀ b, p b = true → q b = true) : ∀ vs : List AVal, pBL p vs = true → pBL q vs = true
  | [], _ => rfl
  | v :: vs, hb => by
    simp only [pBL, Bool.and_eq_true] at hb ⊢
    exact ⟨AVal.pB_mono h v hb.1, pBL_mono h vs hb.2⟩
end

mutual
theorem AVal.under_pB {N : Nat} : ∀ v : AVal, v.under N = v.pB (fun b => Nat.blt b N)
  | .int _ _ | .bool _ | .str _ | .nilp | .nils | .nilm | .nilf | .niface => rfl
  | .ptr b i sz j | .sl b i sz j n c | .map b | .yld b => rfl
  | .func f first cap => by simp only [AVal.under, AVal.pB, belowL_pB first, belowL_pB cap]
  | .agg cs => by simp only [AVal.under, AVal.pB, belowL_pB cs]
  | .tup cs => by simp only [AVal.under, AVal.pB, belowL_pB cs]
  | .iface t v => by simp only [AVal.under, AVal.pB, AVal.under_pB v]
  | .meth m v => by simp only [AVal.under, AVal.pB, AVal.under_pB v]
theorem belowL_pB {N : Nat} : ∀ vs : List AVal, belowL N vs = pBL (fun b => Nat.blt b N) vs
  | [] => rfl
  | v :: vs => by simp only [belowL, pBL, AVal.under_pB v, belowL_pB vs]
end

def ABlk.pB (p : Nat → Bool) : ABlk → Bool
  | .cells _ l => pBL p l
  | .obj _ _ l => pBL p l
  | _ => true

/-! ### entries -/

/-- A set of small numbers: a number whose bits they are. -/
abbrev NS := Nat
def memS (j : Nat) (s : NS) : Bool := Nat.beq (Nat.land (Nat.shiftRight s j) 1) 1
instance : Membership Nat NS := ⟨fun s j => memS j s = true⟩
theorem memS_iff {j : Nat} {s : NS} : memS j s = true ↔ j ∈ s := Iff.rfl
theorem memS_bit (j : Nat) (s : NS) : memS j s = Nat.testBit s j := by
  unfold memS Nat.testBit
  rw [Bool.eq_iff_iff, nat_beq_eq]
  have e1 : Nat.land (Nat.shiftRight s j) 1 = (s >>> j) &&& 1 := rfl
  rw [e1, Nat.and_comm]
  have : 1 &&& (s >>> j) = (s >>> j) % 2 := by rw [Nat.and_comm, Nat.and_one_is_mod]
  rw [this]
  simp only [bne_iff_ne, ne_eq]
  omega
def orS (a b : NS) : NS := Nat.lor a b
theorem mem_orS {j : Nat} {a b : NS} : j ∈ orS a b ↔ j ∈ a ∨ j ∈ b := by
  show memS j (Nat.lor a b) = true ↔ memS j a = true ∨ memS j b = true
  have e : Nat.lor a b = a ||| b := rfl
  rw [memS_bit, memS_bit, memS_bit, e, Nat.testBit_or, Bool.or_eq_true]
def oneS (i : Nat) : NS := Nat.shiftLeft 1 i
theorem mem_oneS {j i : Nat} : j ∈ oneS i ↔ j = i := by
  show memS j (Nat.shiftLeft 1 i) = true ↔ j = i
  have e : Nat.shiftLeft 1 i = 2 ^ i := by show 1 <<< i = 2 ^ i; rw [Nat.shiftLeft_eq, Nat.one_mul]
  rw [memS_bit, e, Nat.testBit_two_pow]
  simp [eq_comm]
theorem not_mem_zeroS {j : Nat} : ¬ j ∈ (0 : NS) := by
  show ¬ memS j 0 = true
  rw [memS_bit]; simp
/-- All of them are below k. -/
def ltS (s : NS) (k : Nat) : Bool := Nat.blt s (Nat.shiftLeft 1 k)
theorem ltS_spec {s : NS} {k : Nat} (h : ltS s k = true) : ∀ j ∈ s, j < k := by
  intro j hj
  have hj : memS j s = true := hj
  rw [memS_bit] at hj
  unfold ltS at h
  have e : Nat.shiftLeft 1 k = 2 ^ k := by show 1 <<< k = 2 ^ k; rw [Nat.shiftLeft_eq, Nat.one_mul]
  rw [Nat.blt_eq, e] at h
  rcases Nat.lt_or_ge j k with h1 | h1
  · exact h1
  · have : s < 2 ^ j := Nat.lt_of_lt_of_le h (Nat.pow_le_pow_right (by decide) h1)
    rw [Nat.testBit_lt_two_pow this] at hj; cases hj
/-- The numbers below k. -/
def upS (k : Nat) : NS := Nat.pred (Nat.shiftLeft 1 k)
theorem mem_upS {j k : Nat} : j ∈ upS k ↔ j < k := by
  show memS j (Nat.pred (Nat.shiftLeft 1 k)) = true ↔ j < k
  have e : Nat.pred (Nat.shiftLeft 1 k) = 2 ^ k - 1 := by show (1 <<< k) - 1 = 2 ^ k - 1; rw [Nat.shiftLeft_eq, Nat.one_mul]
  rw [memS_bit, e, Nat.testBit_two_pow_sub_one]
  simp
/-- All numbers below k are among them. -/
def allS (s : NS) (k : Nat) : Bool := Nat.beq (Nat.land s (upS k)) (upS k)
theorem allS_spec {s : NS} {k : Nat} (h : allS s k = true) : ∀ j, j < k → j ∈ s := by
  intro j hj
  unfold allS at h
  rw [nat_beq_eq] at h
  have h1 : memS j (upS k) = true := mem_upS.2 hj
  rw [← h, memS_bit] at h1
  have e : Nat.land s (upS k) = s &&& (upS k) := rfl
  rw [e, Nat.testBit_and, Bool.and_eq_true] at h1
  show memS j s = true
  rw [memS_bit]; exact h1.1
def forceS (s : NS) (K : NS → Prop) : Prop :=
  match s with
  | 0 => K 0
  | n + 1 => K (Nat.succ n)
theorem forceS_eq (s : NS) (K : NS → Prop) : forceS s K = K s := by cases s <;> rfl
def maskL : List Nat → NS
  | [] => 0
  | x :: r => orS (oneS x) (maskL r)
theorem mem_maskL {j : Nat} : ∀ {l : List Nat}, j ∈ maskL l ↔ j ∈ l
  | [] => by simp only [maskL, List.not_mem_nil, iff_false]; exact not_mem_zeroS
  | x :: r => by simp only [maskL, mem_orS, mem_oneS, mem_maskL, List.mem_cons]

/-- What one operation of the region comes to: its value, its new block, the operations ahead of it. -/
structure Ent where
  v : AVal
  nb : Option ABlk
  pr : NS

def memN (j : Nat) : List Nat → Bool
  | [] => false
  | x :: l => match Nat.beq x j with
    | true => true
    | false => memN j l

theorem memN_iff {j : Nat} {l : List Nat} : memN j l = true ↔ j ∈ l := by
  induction l with
  | nil => simp [memN]
  | cons x l ih =>
    simp only [memN, List.mem_cons]
    split
    · rename_i h; have := nat_beq_eq.1 h; simp [this]
    · rename_i h; have := nat_beq_ne.1 h; rw [ih]; simp [Ne.symm this]

def nthE : List Ent → Nat → Option Ent
  | [], _ => none
  | e :: _, 0 => some e
  | _ :: l, n + 1 => nthE l n

theorem nthE_eq : ∀ (l : List Ent) (n : Nat), nthE l n = l[n]?
  | [], n => by simp [nthE]
  | v :: l, 0 => by simp [nthE]
  | v :: l, n + 1 => by simp [nthE, nthE_eq l n]

def addL : List Nat → List Nat → List Nat
  | [], l => l
  | x :: r, l => match memN x l with
    | true => addL r l
    | false => addL r (x :: l)

theorem mem_addL {j : Nat} : ∀ {a l : List Nat}, j ∈ addL a l ↔ j ∈ a ∨ j ∈ l
  | [], l => by simp [addL]
  | x :: r, l => by
    simp only [addL, List.mem_cons]
    split
    · rename_i h
      rw [mem_addL]
      have := memN_iff.1 h
      constructor
      · rintro (h | h)
        · exact .inl (.inr h)
        · exact .inr h
      · rintro ((rfl | h) | h)
        · exact .inr this
        · exact .inl h
        · exact .inr h
    · rw [mem_addL]
      simp only [List.mem_cons]
      constructor
      · rintro (h | h | h)
        · exact .inl (.inr h)
        · exact .inl (.inl h)
        · exact .inr h
      · rintro ((h | h) | h)
        · exact .inr (.inl h)
        · exact .inl h
        · exact .inr (.inr h)

def predsL (es : List Ent) : List Edge → NS
  | [] => 0
  | e :: r => match Region.binds .any e with
    | true => orS (orS (oneS e.on) (match nthE es e.on with
      | some x => x.pr
      | none => 0)) (predsL es r)
    | false => predsL es r

/-- The list, reckoned before what follows. -/
def forceN : List Nat → (List Nat → Prop) → Prop
  | [], K => K []
  | x :: r, K => forceN r (fun r => K (x :: r))
theorem forceN_eq : ∀ (l : List Nat) (K : List Nat → Prop), forceN l K = K l
  | [], K => rfl
  | x :: r, K => by rw [forceN, forceN_eq r]
def forceE : List Ent → (List Ent → Prop) → Prop
  | [], K => K []
  | ⟨v, nb, pr⟩ :: r, K => forceE r (fun r => K (⟨v, nb, pr⟩ :: r))
theorem forceE_eq : ∀ (l : List Ent) (K : List Ent → Prop), forceE l K = K l
  | [], K => rfl
  | ⟨v, nb, pr⟩ :: r, K => by rw [forceE, forceE_eq r]

def tmpsOf : List Operand → List Nat
  | [] => []
  | .tmp t :: r => t :: tmpsOf r
  | _ :: r => tmpsOf r

/-- The value that an operation ahead lays into t. -/
def findT (t : Nat) (pr : NS) : List Oper → List Ent → Nat → Option AVal
  | o :: os, e :: es, k => match o.dst with
    | some d => match Nat.beq d t with
      | true => match memS k pr with
        | true => some e.v
        | false => findT t pr os es (k + 1)
      | false => findT t pr os es (k + 1)
    | none => findT t pr os es (k + 1)
  | _, _, _ => none

def envK (E0 : Env) (ops : List Oper) (es : List Ent) (pr : NS) : List Nat → Env
  | [] => []
  | t :: ts => match findT t pr ops es 0 with
    | some v => (t, v) :: envK E0 ops es pr ts
    | none => match getE E0 t with
      | some v => (t, v) :: envK E0 ops es pr ts
      | none => envK E0 ops es pr ts

def blkS (next : Nat) (sel : Nat → Bool) : List Ent → Nat → List (Nat × ABlk)
  | [], _ => []
  | e :: es, k => match e.nb with
    | some x => match sel k with
      | true => (next + k, x) :: blkS next sel es (k + 1)
      | false => blkS next sel es (k + 1)
    | none => blkS next sel es (k + 1)

def heapS (H0 : AHeap) (total : Nat) (sel : Nat → Bool) (es : List Ent) : AHeap := ⟨H0.next + total, blkS H0.next sel es 0 ++ H0.bs⟩

/-- An operation that only makes memory: value, new block. -/
noncomputable def growA (X : Ctx) (sm : Bool) (o : Oper) (E : Env) (H : AHeap) (id : Nat) : Option (Bool × AVal × Option ABlk) :=
  match pureA X.P sm o E H with
  | some (c, v) => some (c, v, none)
  | none => match newA X o E id with
    | some (c, v, x) => some (c, v, some x)
    | none => match callArgs X.P E o with
      | some (f, args) => match X.fc f with
        | some fc => match fc args H with
          | some (c, v) => some (c, v, none)
          | none => none
        | none => none
      | none => none

/-- The blocks that operation k's value may name. -/
def allowed (next k : Nat) (pr : NS) (b : Nat) : Bool :=
  match Nat.blt b next with
  | true => true
  | false => match Nat.ble next b with
    | true => match Nat.beq (Nat.sub b next) k with
      | true => true
      | false => memS (Nat.sub b next) pr
    | false => false

def okVal (next k : Nat) (pr : NS) (v : AVal) (nb : Option ABlk) : Bool :=
  v.pB (allowed next k pr) && (match nb with
    | some x => x.pB (allowed next k pr)
    | none => true)

inductive WantD where
  | yes
  | no
  | ask (j : Nat) (b want : Bool)
  | bad

def wantD (es : List Ent) (pr : NS) (ops : List Oper) (o : Oper) : WantD :=
  match o.guard with
  | none => .yes
  | some (j, want) => match memS j pr, nthE es j, (ops[j]?).bind (·.dst) with
    | true, some e, some _ => match e.v with
      | .bool b => .ask j b want
      | .tup [] => .no
      | _ => .bad
    | _, _, _ => .bad

def setV (es : List Ent) (j : Nat) (v : AVal) : List Ent :=
  match es, j with
  | [], _ => []
  | e :: r, 0 => { e with v := v } :: r
  | e :: r, j + 1 => e :: setV r j v

/-- What operation k reads, nobody else writes but those ahead of it or behind it; no two write one temporary. -/
def okPair (es : List Ent) (k m : Nat) (ok om : Oper) (tm pk pm : NS) : Bool :=
  match om.dst with
  | some d => (!(memS d tm) || memS m pk || memS k pm) && (match ok.dst with
    | some d' => !(Nat.beq d d')
    | none => true)
  | none => true

def okRow (es : List Ent) (k : Nat) (ok : Oper) (tm pk : NS) : List Oper → List Ent → Nat → Bool
  | om :: os, em :: es', m => (Nat.beq m k || okPair es k m ok om tm pk em.pr) && okRow es k ok tm pk os es' (m + 1)
  | _, _, _ => true

def okTmps (ops : List Oper) (es : List Ent) : List Oper → List Ent → Nat → Bool
  | o :: os, e :: es', k => okRow es k o (maskL (tmpsOf o.op.operands.toList)) e.pr ops es 0 && okTmps ops es os es' (k + 1)
  | _, _, _ => true

/-- Each of the last ones waits for all that stand ahead of it. -/
def okTail (es : List Ent) : List Oper → Nat → Bool
  | [], _ => true
  | o :: r, k => allS (predsL es o.after.toList) k && ltS (predsL es o.after.toList) k && okTail (es ++ [⟨.tup [], none, predsL es o.after.toList⟩]) r (k + 1)

def putAll : List Oper → List Ent → Env → Env
  | o :: os, e :: es, E => putAll os es (putE E o.dst e.v)
  | _, _, E => E

/-- The values of some operations, laid into the temporaries. -/
def putP (all : List Oper) (es : List Ent) : List Nat → Env → Env
  | [], E => E
  | j :: r, E => putP all es r (match all[j]?, nthE es j with
    | some o, some e => putE E o.dst e.v
    | _, _ => E)

def dropE (t : Nat) : Env → Env
  | [] => []
  | (u, v) :: r => match Nat.beq u t with
    | true => dropE t r
    | false => (u, v) :: dropE t r

/-- The temporaries without those of some operations. -/
def dropP (all : List Oper) : List Nat → Env → Env
  | [], E => E
  | j :: r, E => dropP all r (match (all[j]?).bind (·.dst) with
    | some t => dropE t E
    | none => E)

def noEnt (all : List Oper) (P : List Nat) (E : Env) : Bool := P.all fun j => match (all[j]?).bind (·.dst) with
  | some t => (getE E t).isNone
  | none => true

/-- Those of the first n for which some of the last ones does not wait. -/
def lateK (n : Nat) : List Oper → List Ent → List Nat → (List Nat → Prop) → Prop
  | [], _, acc, K => K acc
  | o :: rest, esi, acc, K => forceS (predsL esi o.after.toList) fun pr => forceN (addL ((List.range n).filter fun j => !(memS j pr)) acc) fun acc => lateK n rest (esi ++ [⟨.tup [], none, pr⟩]) acc K

theorem lateK_ex (n : Nat) (K : List Nat → Prop) : ∀ (rest : List Oper) (esi : List Ent) (acc : List Nat), lateK n rest esi acc K → ∃ P, K P
  | [], _, acc, h => ⟨acc, h⟩
  | o :: rest, esi, acc, h => by
    simp only [lateK, forceN_eq, forceS_eq] at h
    exact lateK_ex n K rest _ _ h

def noDst (o : Oper) : List Oper → List Ent → Bool
  | q :: all, _ :: es => (match q.dst, o.dst with
    | some a, some b => !(Nat.beq a b)
    | _, _ => true) && noDst o all es
  | _, _ => true

def okLate (all : List Oper) (es : List Ent) (o : Oper) (P1 : List Nat) : Bool :=
  noDst o all es && P1.all fun p => match all[p]?, o.dst with
    | some q, some d => !(memN d (tmpsOf q.op.operands.toList))
    | _, _ => true

/-- Each of the last ones waits for all of the last ones that stand ahead of it. -/
def okTailG (lt : Nat) (es : List Ent) : List Oper → Nat → Bool
  | [], _ => true
  | o :: r, k => allS (orS (upS lt) (predsL es o.after.toList)) k && ltS (predsL es o.after.toList) k && okTailG lt (es ++ [⟨.tup [], none, predsL es o.after.toList⟩]) r (k + 1)

/-- None but those may be open when one of the last ones comes. -/
def okMiss (n : Nat) (P : List Nat) (es : List Ent) : List Oper → Bool
  | [] => true
  | o :: r => (List.range n).all (fun j => memN j P || memS j (predsL es o.after.toList)) && okMiss n P (es ++ [⟨.tup [], none, predsL es o.after.toList⟩]) r

def okP (es : List Ent) (P : List Nat) : Bool := P.all fun j => match nthE es j with
  | some e => e.nb.isNone
  | none => false

mutual
/-- Are two values the same? -/
def sameV : AVal → AVal → Bool
  | .int k n, v => match v with
    | .int k' n' => decide (k = k') && decide (n = n')
    | _ => false
  | .bool b, v => match v with
    | .bool b' => match b with
      | true => b'
      | false => !b'
    | _ => false
  | .str s, v => match v with
    | .str s' => decide (s = s')
    | _ => false
  | .ptr b i z j, v => match v with
    | .ptr b' i' z' j' => Nat.beq b b' && (decide (i = i') && (Nat.beq z z' && Nat.beq j j'))
    | _ => false
  | .nilp, v => match v with
    | .nilp => true
    | _ => false
  | .sl b i z j n c, v => match v with
    | .sl b' i' z' j' n' c' => Nat.beq b b' && (decide (i = i') && (Nat.beq z z' && (Nat.beq j j' && (decide (n = n') && decide (c = c')))))
    | _ => false
  | .nils, v => match v with
    | .nils => true
    | _ => false
  | .map b, v => match v with
    | .map b' => Nat.beq b b'
    | _ => false
  | .nilm, v => match v with
    | .nilm => true
    | _ => false
  | .func f a c, v => match v with
    | .func f' a' c' => Nat.beq f f' && (sameL a a' && sameL c c')
    | _ => false
  | .nilf, v => match v with
    | .nilf => true
    | _ => false
  | .agg l, v => match v with
    | .agg l' => sameL l l'
    | _ => false
  | .tup l, v => match v with
    | .tup l' => sameL l l'
    | _ => false
  | .niface, v => match v with
    | .niface => true
    | _ => false
  | .iface t u, v => match v with
    | .iface t' u' => Nat.beq t t' && sameV u u'
    | _ => false
  | .meth m u, v => match v with
    | .meth m' u' => decide (m = m') && sameV u u'
    | _ => false
  | .yld l, v => match v with
    | .yld l' => Nat.beq l l'
    | _ => false
def sameL : List AVal → List AVal → Bool
  | [], l => match l with
    | [] => true
    | _ => false
  | v :: r, l => match l with
    | v' :: r' => sameV v v' && sameL r r'
    | _ => false
end

mutual
theorem sameV_eq : ∀ (a b : AVal), sameV a b = true → a = b
  | .int k n, b, h => by cases b <;> simp_all [sameV]
  | .bool x, b, h => by cases b <;> cases x <;> simp_all [sameV]
  | .str s, b, h => by cases b <;> simp_all [sameV]
  | .ptr b i z j, v, h => by cases v <;> simp_all [sameV]
  | .nilp, v, h => by cases v <;> simp_all [sameV]
  | .sl b i z j n c, v, h => by cases v <;> simp_all [sameV]
  | .nils, v, h => by cases v <;> simp_all [sameV]
  | .map b, v, h => by cases v <;> simp_all [sameV]
  | .nilm, v, h => by cases v <;> simp_all [sameV]
  | .func f a c, v, h => by
    cases v <;> simp only [sameV, Bool.and_eq_true, Bool.false_eq_true] at h
    rw [sameL_eq _ _ h.2.1, sameL_eq _ _ h.2.2, nat_beq_eq.1 h.1]
  | .nilf, v, h => by cases v <;> simp_all [sameV]
  | .agg l, v, h => by
    cases v <;> simp only [sameV, Bool.false_eq_true] at h
    rw [sameL_eq _ _ h]
  | .tup l, v, h => by
    cases v <;> simp only [sameV, Bool.false_eq_true] at h
    rw [sameL_eq _ _ h]
  | .niface, v, h => by cases v <;> simp_all [sameV]
  | .iface t u, v, h => by
    cases v <;> simp only [sameV, Bool.and_eq_true, Bool.false_eq_true] at h
    rw [sameV_eq _ _ h.2, nat_beq_eq.1 h.1]
  | .meth m u, v, h => by
    cases v <;> simp only [sameV, Bool.and_eq_true, decide_eq_true_eq, Bool.false_eq_true] at h
    rw [sameV_eq _ _ h.2, h.1]
  | .yld l, v, h => by cases v <;> simp_all [sameV]
theorem sameL_eq : ∀ (a b : List AVal), sameL a b = true → a = b
  | [], b, h => by cases b <;> simp_all [sameL]
  | v :: r, b, h => by
    cases b with
    | nil => simp [sameL] at h
    | cons v' r' =>
      simp only [sameL, Bool.and_eq_true] at h
      rw [sameV_eq _ _ h.1, sameL_eq _ _ h.2]
end

/-- Was an operation passed by? -/
def skipD (es : List Ent) (o : Oper) : Bool := match o.guard with
  | none => false
  | some (j, want) => match nthE es j with
    | some e => match e.v with
      | .tup [] => true
      | .bool b => match want with
        | true => !b
        | false => b
      | _ => false
    | none => false

/-- Those that may come late have the same values in this memory, too. -/
noncomputable def stableA (X : Ctx) (sm : Bool) (all : List Oper) (E0 : Env) (H0 : AHeap) (es : List Ent) (H : AHeap) (K : Prop) : List Nat → Prop
  | [] => K
  | p :: r => match all[p]?, nthE es p with
    | some o, some e => match skipD es o with
      | true => stableA X sm all E0 H0 es H K r
      | false => match growA X sm o (envK E0 all (es.take p) e.pr (tmpsOf o.op.operands.toList)) H H.next with
        | some (c, v, none) => obl (c && sameV v e.v) (stableA X sm all E0 H0 es H K r)
        | _ => Stuck 15 [o]
    | _, _ => Stuck 16 []

/-- The block of an operand that is read. -/
def rdOf (E : Env) (x : Operand) : Option (List Nat) := match evalO E x with
  | some (.ptr b _ _ _) => some [b]
  | some (.sl b _ _ _ _ _) => some [b]
  | some (.map b) => some [b]
  | some _ => some []
  | none => none
/-- The blocks that an operation reads that calls nobody. -/
def readsB (o : Oper) (E : Env) : Option (List Nat) := match o.op with
  | .load _ x => rdOf E x
  | .convert _ _ x => rdOf E x
  | .slice _ x _ _ _ => rdOf E x
  | .lookup _ x _ _ => rdOf E x
  | .call { callee := .builtin .len, .. } => some []
  | .call { callee := .builtin .min, .. } => some []
  | .call { callee := .builtin .max, .. } => some []
  | .call _ => none
  | _ => some []
def wrOf (E : Env) (x : Operand) : Option (List Nat) := match evalO E x with
  | some (.ptr b _ _ _) => some [b]
  | some (.sl b _ _ _ _ _) => some [b]
  | some .nils => some []
  | _ => none
def writtenO (o : Oper) (E : Env) : Option (List Nat) := match o.op with
  | .store _ x _ => wrOf E x
  | .call c => match c.args.toList with
    | d :: _ => wrOf E d
    | [] => none
  | _ => none
/-- The blocks that an operation writes, if one can tell. -/
noncomputable def writesB (X : Ctx) (sm : Bool) (o : Oper) (E : Env) (H : AHeap) : Option (List Nat) :=
  match pureA X.P sm o E H with
  | some _ => some []
  | none => match newA X o E H.next with
    | some _ => some []
    | none => match writeA X sm o E H with
      | some _ => writtenO o E
      | none => match callArgs X.P E o with
        | some (f, _) => match X.fc f with
          | some _ => some []
          | none => none
        | none => none
def apartL (rs ws : List Nat) : Bool := rs.all fun b => !(memN b ws)
/-- Does number p read what was not written? -/
def apartP (all : List Oper) (E0 : Env) (es : List Ent) (ws : Option (List Nat)) (p : Nat) : Bool := match all[p]?, nthE es p with
  | some o, some e => match readsB o (envK E0 all (es.take p) e.pr (tmpsOf o.op.operands.toList)) with
    | some rs => match rs with
      | [] => true
      | r :: rs => match ws with
        | some ws => apartL (r :: rs) ws
        | none => false
    | none => false
  | _, _ => false

/-- Does number p read old blocks alone? -/
def oldP (all : List Oper) (E0 : Env) (n : Nat) (es : List Ent) (p : Nat) : Bool := match all[p]?, nthE es p with
  | some o, some e => match readsB o (envK E0 all (es.take p) e.pr (tmpsOf o.op.operands.toList)) with
    | some rs => rs.all fun b => Nat.blt b n
    | none => false
  | _, _ => false

/-- What follows one of the last ones. -/
noncomputable def lateNext (X : Ctx) (sm : Bool) (all : List Oper) (E0 : Env) (H0 : AHeap) (es : List Ent) (o : Oper) (P1 : List Nat) (K : Env → AHeap → Prop) (ws : Option (List Nat)) : Env → AHeap → Prop := fun E H => match P1 with
  | [] => K E H
  | p :: r => match noEnt all (p :: r) E with
    | false => Stuck 11 [o]
    | true => forceN ((p :: r).filter fun p => !(apartP all E0 es ws p)) fun P2 => stableA X sm all E0 H0 es H (K E H) P2

noncomputable def wpLate (X : Ctx) (sm : Bool) (cf : CallF) (all : List Oper) (E0 : Env) (H0 : AHeap) (es : List Ent) : List Oper → List Ent → List Nat → Env → AHeap → (AExit → Env → AHeap → Prop) → Prop
  | [], _, P, E, H, Q => Q .normal (putP all es P E) H
  | o :: rest, esi, P, E, H, Q => forceS (predsL esi o.after.toList) fun pr => forceN (P.filter fun j => !(memS j pr)) fun P1 =>
    match okLate all es o P1 with
    | false => Stuck 10 [o]
    | true =>
      let E1 := putP all es (P.filter fun j => memS j pr) E
      let next : Option (List Nat) → Env → AHeap → Prop := lateNext X sm all E0 H0 es o P1 fun E H => wpLate X sm cf all E0 H0 es rest (esi ++ [⟨.tup [], none, pr⟩]) P1 E H Q
      match wantA all o E1 with
      | .yes => stepA X sm cf o E1 H (next (writesB X sm o E1 H)) Q
      | .no => next (some []) (putE E1 o.dst (.tup [])) H
      | .ask t b want => match want with
        | true => branch b (stepA X sm cf o ((t, .bool true) :: E1) H (next (writesB X sm o ((t, .bool true) :: E1) H)) Q) (next (some []) (putE ((t, .bool false) :: E1) o.dst (.tup [])) H)
        | false => branch b (next (some []) (putE ((t, .bool true) :: E1) o.dst (.tup [])) H) (stepA X sm cf o ((t, .bool false) :: E1) H (next (writesB X sm o ((t, .bool false) :: E1) H)) Q)
      | .bad => Stuck 3 [o]

/-- Temporaries, reckoned before what follows. -/
def forceV : Env → (Env → Prop) → Prop
  | [], K => K []
  | (t, v) :: r, K => forceV r fun r => K ((t, v) :: r)
theorem forceV_eq : ∀ (E : Env) (K : Env → Prop), forceV E K = K E
  | [], K => rfl
  | (t, v) :: r, K => by rw [forceV, forceV_eq r]

noncomputable def finishD (X : Ctx) (sm : Bool) (cf : CallF) (all : List Oper) (E0 : Env) (H0 : AHeap) (es : List Ent) (rest : List Oper) (Q : AExit → Env → AHeap → Prop) : Prop :=
  match okTmps all es all es 0 with
  | false => Stuck 4 rest
  | true => lateK es.length rest es [] fun P => match P with
    | [] => match okTail es rest es.length with
      | true => forceH (heapS H0 all.length (fun _ => true) es) fun H => forceV (putAll all es E0) fun E => wpSeq X sm cf all rest E H Q
      | false => Stuck 4 rest
    | p :: r => match okP es (p :: r) && okTailG es.length es rest es.length && okMiss es.length (p :: r) es rest with
      | true => forceN ((p :: r).filter fun p => !(oldP all E0 H0.next es p)) fun P2 => stableA X sm all E0 H0 es (heapS H0 all.length (fun _ => true) es)
        (forceH (heapS H0 all.length (fun _ => true) es) fun H => forceV (dropP all (p :: r) (putAll all es E0)) fun E => wpLate X sm cf all E0 H0 es rest es (p :: r) E H Q) P2
      | false => Stuck 12 rest

noncomputable def wpDraw (X : Ctx) (sm : Bool) (cf : CallF) (all : List Oper) (E0 : Env) (H0 : AHeap) : List Oper → List Ent → (AExit → Env → AHeap → Prop) → Prop
  | [], es, Q => finishD X sm cf all E0 H0 es [] Q
  | o :: rest, es, Q => forceS (predsL es o.after.toList) fun pr =>
    let step : List Ent → Prop := fun es =>
      forceK (H0.next + es.length) fun id => match growA X sm o (envK E0 all es pr (tmpsOf o.op.operands.toList)) (heapS H0 es.length (fun j => memS j pr) es) id with
      | some (c, v, nb) => obl c (match okVal H0.next es.length pr v nb with
        | true => forceE (es ++ [⟨v, nb, pr⟩]) fun es => wpDraw X sm cf all E0 H0 rest es Q
        | false => Stuck 5 [o])
      | none => finishD X sm cf all E0 H0 es (o :: rest) Q
    let skip : List Ent → Prop := fun es => forceE (es ++ [⟨.tup [], none, pr⟩]) fun es => wpDraw X sm cf all E0 H0 rest es Q
    match ltS pr es.length with
    | false => Stuck 6 [o]
    | true => match wantD es pr all o with
      | .yes => step es
      | .no => skip es
      | .ask j b want => match want with
        | true => branch b (forceE (setV es j (.bool true)) step) (forceE (setV es j (.bool false)) skip)
        | false => branch b (forceE (setV es j (.bool true)) skip) (forceE (setV es j (.bool false)) step)
      | .bad => Stuck 7 [o]

end Go.Proofs.Ytcgnoegejmhgmaa.Ev

/-
  Ev: regions of open order: one operation, the heaps, the entries.
-/
namespace Go.Proofs.Ytcgnoegejmhgmaa.Ev
set_option linter.unusedVariables false
set_option linter.unusedSimpArgs false
open Go.RowKit

/-- What an operation leaves, be it a value or a call. -/
def OutTo (P : Program) (o : Oper) (a : Act) (w : World) (R : Value → World → Prop) : Prop :=
  match (execOp a.eval o).run P w with
  | .ok (.value u) w' => R u w'
  | .ok (.enter f args) w' => Calls P f args w' fun e w'' => ∃ u, e = .returned u ∧ R u w''
  | _ => False

def GrowRel (ρ : Rho) (id : Nat) (w : World) (v : AVal) : Option ABlk → Value → World → Prop
  | none, u, w' => u = tr ρ v ∧ Below w.heap.size w w'
  | some x, u, w' => NewTo ρ id w v x u w'

theorem OutTo.wp {P : Program} {o : Oper} {a : Act} {w : World} {R : Value → World → Prop} (h : OutTo P o a w R) {next : Act → World → Prop} {Q : Exit → Act → World → Prop} (hn : ∀ u w', R u w' → next (a.put o.dst u) w') : o.wp P a w next Q := by
  unfold OutTo at h
  unfold Oper.wp
  split at h
  · rename_i u w' hr
    rw [hr, Oper.upon_value]
    exact hn _ _ h
  · rename_i f args w' hr
    rw [hr, Oper.upon_enter]
    refine h.mono ?_
    rintro e w'' ⟨u, rfl, hu⟩
    exact hn _ _ hu
  · exact h.elim

section
variable {X : Ctx}

theorem growA_sound (hX : CtxRows X) (hF : FcOk X) {sm : Bool} {o : Oper} {E : Env} {H : AHeap} {id : Nat} {v : AVal} {nb : Option ABlk} (h : growA X sm o E H id = some (true, v, nb)) {ρ : Rho} {a : Act} {w : World} (hE : RelE ρ id E a)
    (hH : ∀ b y, H.get b = some y → y.under id = true ∧ ρ.blk b < w.heap.size ∧ y.ok ρ w b) : OutTo X.P o a w (GrowRel ρ id w v nb) := by
  unfold growA at h
  unfold OutTo
  split at h
  · rename_i c u hp
    simp only [Option.some.injEq, Prod.mk.injEq] at h
    obtain ⟨rfl, rfl, rfl⟩ := h
    obtain ⟨h1, h2⟩ := pureA_sound hp hE (fun b y hy => ⟨(hH b y hy).1, (hH b y hy).2.2⟩)
    rw [h1]
    exact ⟨rfl, Below.refl _ _⟩
  · split at h
    · rename_i c u x hp
      simp only [Option.some.injEq, Prod.mk.injEq] at h
      obtain ⟨rfl, rfl, rfl⟩ := h
      obtain ⟨u, w', h1, h2⟩ := newA_sound hX hp hE (w := w)
      rw [h1]
      exact h2
    · split at h <;> try cases h
      rename_i f args ha
      split at h <;> try cases h
      rename_i fc hfc
      split at h <;> try cases h
      rename_i hv
      have h2 := callArgs_under ha hE
      rw [callArgs_sound (X := X) ha hE (hF.enter f fc hfc) w]
      obtain ⟨h3, h4⟩ := hF.calls f fc hfc args H v hv ρ w id hH h2
      refine h3.mono ?_
      rintro e w' ⟨rfl, hb⟩
      exact ⟨_, rfl, rfl, hb⟩

end

/-! ### heaps -/

theorem getB_append (l m : List (Nat × ABlk)) (b : Nat) (h : ∀ p ∈ l, p.1 ≠ b) : getB (l ++ m) b = getB m b := by
  induction l with
  | nil => rfl
  | cons p l ih =>
    obtain ⟨c, x⟩ := p
    rw [List.cons_append, getB_cons, if_neg (h (c, x) (by simp)), ih (fun p hp => h p (by simp [hp]))]

theorem blkS_ge {next : Nat} {sel : Nat → Bool} : ∀ {es : List Ent} {k : Nat}, ∀ p ∈ blkS next sel es k, next + k ≤ p.1
  | [], k, p, h => by simp [blkS] at h
  | e :: es, k, p, h => by
    simp only [blkS] at h
    split at h
    · split at h
      · rcases List.mem_cons.1 h with rfl | h
        · exact Nat.le_refl _
        · have := blkS_ge p h; omega
      · have := blkS_ge p h; omega
    · have := blkS_ge p h; omega

theorem getS_some {next : Nat} {sel : Nat → Bool} {bs : List (Nat × ABlk)} {b : Nat} {x : ABlk} : ∀ {es : List Ent} {k : Nat}, getB (blkS next sel es k ++ bs) b = some x → (∃ (i : Nat) (e : Ent), es[i]? = some e ∧ sel (k + i) = true ∧ e.nb = some x ∧ b = next + (k + i)) ∨ getB bs b = some x
  | [], k, h => .inr h
  | e :: es, k, h => by
    simp only [blkS] at h
    have next' : getB (blkS next sel es (k + 1) ++ bs) b = some x → (∃ (i : Nat) (e' : Ent), (e :: es)[i]? = some e' ∧ sel (k + i) = true ∧ e'.nb = some x ∧ b = next + (k + i)) ∨ getB bs b = some x := fun h => by
      rcases getS_some h with ⟨i, e', h1, h2, h3, h4⟩ | h1
      · exact .inl ⟨i + 1, e', by simpa using h1, by rw [show k + (i + 1) = k + 1 + i by omega]; exact h2, h3, by rw [h4]; omega⟩
      · exact .inr h1
    split at h
    · rename_i y hn
      split at h
      · rename_i hs
        rw [List.cons_append, getB_cons] at h
        by_cases hb : next + k = b
        · rw [if_pos hb] at h
          have hy : y = x := by cases y <;> simp [ABlk.live] at h <;> exact h
          subst hy
          exact .inl ⟨0, e, by simp, by simpa using hs, hn, by simpa using hb.symm⟩
        · rw [if_neg hb] at h
          exact next' h
      · exact next' h
    · exact next' h

theorem getS_of {next : Nat} {sel : Nat → Bool} {bs : List (Nat × ABlk)} {x : ABlk} (hx : x.own = true) : ∀ {es : List Ent} {k i : Nat} {e : Ent}, es[i]? = some e → sel (k + i) = true → e.nb = some x → getB (blkS next sel es k ++ bs) (next + (k + i)) = some x
  | [], k, i, e, h, _, _ => by simp at h
  | e' :: es, k, 0, e, h, hs, hn => by
    simp only [List.getElem?_cons_zero, Option.some.injEq] at h
    subst h
    simp only [blkS, Nat.add_zero] at hs ⊢
    rw [hn]; simp only []; rw [hs]
    rw [List.cons_append, getB_cons, if_pos rfl, own_some hx]
  | e' :: es, k, i + 1, e, h, hs, hn => by
    have ih := getS_of (next := next) (bs := bs) hx (es := es) (k := k + 1) (i := i) (e := e) (by simpa using h) (by rw [show k + 1 + i = k + (i + 1) by omega]; exact hs) hn
    rw [show k + 1 + i = k + (i + 1) by omega] at ih
    simp only [blkS]
    split
    · split
      · rw [List.cons_append, getB_cons, if_neg (by omega)]; exact ih
      · exact ih
    · exact ih

theorem heapS_get_old {H0 : AHeap} {t : Nat} {sel : Nat → Bool} {es : List Ent} {b : Nat} (hb : b < H0.next) : (heapS H0 t sel es).get b = H0.get b := by
  show getB (blkS H0.next sel es 0 ++ H0.bs) b = getB H0.bs b
  refine getB_append _ _ _ (fun p hp => ?_)
  have := blkS_ge p hp
  omega

theorem heapS_some {H0 : AHeap} {t : Nat} {sel : Nat → Bool} {es : List Ent} {b : Nat} {x : ABlk} (h : (heapS H0 t sel es).get b = some x) : (∃ (i : Nat) (e : Ent), es[i]? = some e ∧ sel i = true ∧ e.nb = some x ∧ b = H0.next + i) ∨ H0.get b = some x := by
  rcases getS_some (k := 0) h with ⟨i, e, h1, h2, h3, h4⟩ | h1
  · exact .inl ⟨i, e, h1, by simpa using h2, h3, by simpa using h4⟩
  · exact .inr h1

theorem heapS_of {H0 : AHeap} {t : Nat} {sel : Nat → Bool} {es : List Ent} {x : ABlk} (hx : x.own = true) {i : Nat} {e : Ent} (h : es[i]? = some e) (hs : sel i = true) (hn : e.nb = some x) : (heapS H0 t sel es).get (H0.next + i) = some x := by
  have := getS_of (next := H0.next) (bs := H0.bs) hx (k := 0) h (by simpa using hs) hn
  rw [Nat.zero_add] at this
  exact this

/-! ### entries -/

theorem setV_self : ∀ {es : List Ent} {j : Nat} {e : Ent} {v : AVal}, es[j]? = some e → e.v = v → setV es j v = es
  | [], j, e, v, h, _ => by simp at h
  | e' :: es, 0, e, v, h, hv => by
    simp only [List.getElem?_cons_zero, Option.some.injEq] at h
    subst h
    subst hv
    rfl
  | e' :: es, j + 1, e, v, h, hv => by
    simp only [setV]
    rw [setV_self (by simpa using h) hv]

theorem predsL_mem {es : List Ent} {j : Nat} : ∀ {l : List Edge}, j ∈ predsL es l → ∃ ed ∈ l, Region.binds .any ed = true ∧ (j = ed.on ∨ ∃ x, es[ed.on]? = some x ∧ j ∈ x.pr)
  | [], h => by simp only [predsL] at h; exact (not_mem_zeroS h).elim
  | ed :: l, h => by
    simp only [predsL] at h
    split at h
    · rename_i hb
      simp only [mem_orS, mem_oneS] at h
      rcases h with (h | h) | h
      · exact ⟨ed, by simp, hb, .inl h⟩
      · split at h
        · rename_i x hx
          rw [nthE_eq] at hx
          exact ⟨ed, by simp, hb, .inr ⟨x, hx, h⟩⟩
        · exact (not_mem_zeroS h).elim
      · obtain ⟨ed', h1, h2⟩ := predsL_mem h
        exact ⟨ed', by simp [h1], h2⟩
    · obtain ⟨ed', h1, h2⟩ := predsL_mem h
      exact ⟨ed', by simp [h1], h2⟩

theorem predsL_on {es : List Ent} : ∀ {l : List Edge} {ed : Edge}, ed ∈ l → Region.binds .any ed = true → ed.on ∈ predsL es l
  | ed' :: l, ed, h, hb => by
    rcases List.mem_cons.1 h with rfl | h
    · simp only [predsL, hb]; exact mem_orS.2 (.inl (mem_orS.2 (.inl (mem_oneS.2 rfl))))
    · have := predsL_on (es := es) h hb
      simp only [predsL]
      split
      · exact mem_orS.2 (.inr this)
      · exact this

theorem findT_some {t : Nat} {pr : NS} {v : AVal} : ∀ {ops : List Oper} {es : List Ent} {k : Nat}, findT t pr ops es k = some v → ∃ (i : Nat) (o : Oper) (e : Ent), ops[i]? = some o ∧ es[i]? = some e ∧ o.dst = some t ∧ (k + i) ∈ pr ∧ e.v = v
  | [], es, k, h => by simp [findT] at h
  | o :: ops, [], k, h => by simp [findT] at h
  | o :: ops, e :: es, k, h => by
    have next : findT t pr ops es (k + 1) = some v → ∃ (i : Nat) (o' : Oper) (e' : Ent), (o :: ops)[i]? = some o' ∧ (e :: es)[i]? = some e' ∧ o'.dst = some t ∧ (k + i) ∈ pr ∧ e'.v = v := fun h => by
      obtain ⟨i, o', e', h1, h2, h3, h4, h5⟩ := findT_some h
      exact ⟨i + 1, o', e', by simpa using h1, by simpa using h2, h3, by rw [show k + (i + 1) = k + 1 + i by omega]; exact h4, h5⟩
    simp only [findT] at h
    split at h
    · rename_i d hd
      split at h
      · rename_i hdt
        have hdt := nat_beq_eq.1 hdt
        split at h
        · rename_i hm
          simp only [Option.some.injEq] at h
          exact ⟨0, o, e, by simp, by simp, by rw [hd, hdt], by simpa using memS_iff.1 hm, h⟩
        · exact next h
      · exact next h
    · exact next h

theorem findT_none {t : Nat} {pr : NS} : ∀ {ops : List Oper} {es : List Ent} {k : Nat}, findT t pr ops es k = none → ∀ (i : Nat) (o : Oper) (e : Ent), ops[i]? = some o → es[i]? = some e → o.dst = some t → (k + i) ∉ pr
  | [], es, k, h, i, o, e, ho, _, _ => by simp at ho
  | o' :: ops, [], k, h, i, o, e, _, he, _ => by simp at he
  | o' :: ops, e' :: es, k, h, i, o, e, ho, he, hd => by
    have next : findT t pr ops es (k + 1) = none := by
      simp only [findT] at h
      split at h
      · split at h
        · split at h
          · cases h
          · exact h
        · exact h
      · exact h
    cases i with
    | succ i =>
      have := findT_none next i o e (by simpa using ho) (by simpa using he) hd
      rw [show k + (i + 1) = k + 1 + i by omega]
      exact this
    | zero =>
      simp only [List.getElem?_cons_zero, Option.some.injEq] at ho he
      subst ho he
      simp only [findT, hd] at h
      rw [nat_beq_eq.2 rfl] at h
      simp only at h
      split at h
      · cases h
      · rename_i hm
        intro hin
        rw [Nat.add_zero] at hin
        rw [memS_iff.2 hin] at hm
        cases hm

theorem envK_get {E0 : Env} {ops : List Oper} {es : List Ent} {pr : NS} {t : Nat} {v : AVal} : ∀ {ts : List Nat}, getE (envK E0 ops es pr ts) t = some v → t ∈ ts ∧ (findT t pr ops es 0 = some v ∨ (findT t pr ops es 0 = none ∧ getE E0 t = some v))
  | [], h => by simp [envK, getE] at h
  | t' :: ts, h => by
    have next : getE (envK E0 ops es pr ts) t = some v → t ∈ t' :: ts ∧ (findT t pr ops es 0 = some v ∨ (findT t pr ops es 0 = none ∧ getE E0 t = some v)) := fun h => by
      obtain ⟨h1, h2⟩ := envK_get h
      exact ⟨by simp [h1], h2⟩
    simp only [envK] at h
    split at h
    · rename_i u hu
      rw [getE_cons] at h
      by_cases ht : t' = t
      · subst ht
        rw [if_pos rfl] at h
        simp only [Option.some.injEq] at h
        subst h
        exact ⟨by simp, .inl hu⟩
      · rw [if_neg ht] at h; exact next h
    · rename_i hu
      split at h
      · rename_i u hg
        rw [getE_cons] at h
        by_cases ht : t' = t
        · subst ht
          rw [if_pos rfl] at h
          simp only [Option.some.injEq] at h
          subst h
          exact ⟨by simp, .inr ⟨hu, hg⟩⟩
        · rw [if_neg ht] at h; exact next h
      · exact next h

theorem putAll_get {t : Nat} {v : AVal} : ∀ {ops : List Oper} {es : List Ent} {E : Env}, getE (putAll ops es E) t = some v → (∃ (i : Nat) (o : Oper) (e : Ent), ops[i]? = some o ∧ es[i]? = some e ∧ o.dst = some t ∧ e.v = v) ∨ (getE E t = some v ∧ ∀ (i : Nat) (o : Oper) (e : Ent), ops[i]? = some o → es[i]? = some e → o.dst ≠ some t)
  | [], es, E, h => .inr ⟨h, fun i o e ho => by simp at ho⟩
  | o :: ops, [], E, h => .inr ⟨h, fun i o e _ he => by simp at he⟩
  | o :: ops, e :: es, E, h => by
    rcases putAll_get (ops := ops) (es := es) h with ⟨i, o', e', h1, h2, h3, h4⟩ | ⟨h1, h2⟩
    · exact .inl ⟨i + 1, o', e', by simpa using h1, by simpa using h2, h3, h4⟩
    · cases hd : o.dst with
      | none =>
        rw [hd] at h1
        refine .inr ⟨h1, fun i o' e' ho he => ?_⟩
        cases i with
        | zero => simp only [List.getElem?_cons_zero, Option.some.injEq] at ho; subst ho; rw [hd]; simp
        | succ i => exact h2 i o' e' (by simpa using ho) (by simpa using he)
      | some d =>
        rw [hd] at h1
        simp only [putE, getE_cons] at h1
        by_cases hdt : d = t
        · rw [if_pos hdt] at h1
          simp only [Option.some.injEq] at h1
          exact .inl ⟨0, o, e, by simp, by simp, by rw [hd, hdt], h1⟩
        · rw [if_neg hdt] at h1
          refine .inr ⟨h1, fun i o' e' ho he => ?_⟩
          cases i with
          | zero => simp only [List.getElem?_cons_zero, Option.some.injEq] at ho; subst ho; rw [hd]; simpa using hdt
          | succ i => exact h2 i o' e' (by simpa using ho) (by simpa using he)

theorem okTmps_spec {ops : List Oper} {es : List Ent} (h : okTmps ops es ops es 0 = true) {k m : Nat} {ok om : Oper} {ek em : Ent} (hk : ops[k]? = some ok) (hek : es[k]? = some ek) (hm : ops[m]? = some om) (hem : es[m]? = some em) (hne : m ≠ k) :
    okPair es k m ok om (maskL (tmpsOf ok.op.operands.toList)) ek.pr em.pr = true := by
  have row : ∀ (os : List Oper) (es' : List Ent) (m0 : Nat), okRow es k ok (maskL (tmpsOf ok.op.operands.toList)) ek.pr os es' m0 = true → ∀ (i : Nat) (o : Oper) (e : Ent), os[i]? = some o → es'[i]? = some e → m0 + i ≠ k → okPair es k (m0 + i) ok o (maskL (tmpsOf ok.op.operands.toList)) ek.pr e.pr = true := by
    intro os
    induction os with
    | nil => intro es' m0 _ i o e ho; simp at ho
    | cons o' os ih =>
      intro es' m0 hr i o e ho he hik
      cases es' with
      | nil => simp at he
      | cons e' es' =>
        simp only [okRow, Bool.and_eq_true, Bool.or_eq_true] at hr
        cases i with
        | zero =>
          simp only [List.getElem?_cons_zero, Option.some.injEq] at ho he
          subst ho he
          rcases hr.1 with h1 | h1
          · exact absurd (nat_beq_eq.1 h1) (by simpa using hik)
          · simpa using h1
        | succ i =>
          have := ih es' (m0 + 1) hr.2 i o e (by simpa using ho) (by simpa using he) (by omega)
          rw [show m0 + (i + 1) = m0 + 1 + i by omega]
          exact this
  have all : ∀ (os : List Oper) (es' : List Ent) (k0 : Nat), okTmps ops es os es' k0 = true → ∀ (i : Nat) (o : Oper) (e : Ent), os[i]? = some o → es'[i]? = some e → okRow es (k0 + i) o (maskL (tmpsOf o.op.operands.toList)) e.pr ops es 0 = true := by
    intro os
    induction os with
    | nil => intro es' m0 _ i o e ho; simp at ho
    | cons o' os ih =>
      intro es' k0 hr i o e ho he
      cases es' with
      | nil => simp at he
      | cons e' es' =>
        simp only [okTmps, Bool.and_eq_true] at hr
        cases i with
        | zero =>
          simp only [List.getElem?_cons_zero, Option.some.injEq] at ho he
          subst ho he
          simpa using hr.1
        | succ i =>
          have := ih es' (k0 + 1) hr.2 i o e (by simpa using ho) (by simpa using he)
          rw [show k0 + (i + 1) = k0 + 1 + i by omega]
          exact this
  have h1 := all ops es 0 h k ok ek hk hek
  rw [Nat.zero_add] at h1
  have := row ops es 0 h1 m om em hm hem (by omega)
  simpa using this

end Go.Proofs.Ytcgnoegejmhgmaa.Ev

/-
  Ev: regions of open order: whatever order comes, what is reckoned in the text's order holds.
-/
namespace Go.Proofs.Ytcgnoegejmhgmaa.Ev
set_option linter.unusedVariables false
set_option linter.unusedSimpArgs false
open Go.RowKit

/-- What was shown of operation k. -/
structure Good (X : Ctx) (sm : Bool) (all : List Oper) (E0 : Env) (H0 : AHeap) (es : List Ent) (k : Nat) (o : Oper) (e : Ent) : Prop where
  op : all[k]? = some o
  ent : es[k]? = some e
  pr : e.pr = predsL (es.take k) o.after.toList
  lt : ∀ j ∈ e.pr, j < k
  val : okVal H0.next k e.pr e.v e.nb = true
  does : (∃ j want ej oj d, o.guard = some (j, want) ∧ j ∈ e.pr ∧ es[j]? = some ej ∧ all[j]? = some oj ∧ oj.dst = some d ∧ (ej.v = .tup [] ∨ ej.v = .bool (!want)) ∧ e.v = .tup [] ∧ e.nb = none) ∨
    ((o.guard = none ∨ ∃ j want ej oj d, o.guard = some (j, want) ∧ j ∈ e.pr ∧ es[j]? = some ej ∧ all[j]? = some oj ∧ oj.dst = some d ∧ ej.v = .bool want) ∧
      growA X sm o (envK E0 all (es.take k) e.pr (tmpsOf o.op.operands.toList)) (heapS H0 k (fun j => memS j e.pr) (es.take k)) (H0.next + k) = some (true, e.v, e.nb))

theorem Good.more {X : Ctx} {sm : Bool} {all : List Oper} {E0 : Env} {H0 : AHeap} {es : List Ent} {k : Nat} {o : Oper} {e : Ent} (h : Good X sm all E0 H0 es k o e) (x : Ent) : Good X sm all E0 H0 (es ++ [x]) k o e := by
  have hk : k < es.length := (List.getElem?_eq_some_iff.1 h.ent).1
  have ht : (es ++ [x]).take k = es.take k := List.take_append_of_le_length (by omega)
  have hg : ∀ {j : Nat} {y : Ent}, es[j]? = some y → (es ++ [x])[j]? = some y := fun {j y} hj => by
    rw [List.getElem?_append_left (List.getElem?_eq_some_iff.1 hj).1]; exact hj
  refine ⟨h.op, hg h.ent, by rw [ht]; exact h.pr, h.lt, h.val, ?_⟩
  rw [ht]
  rcases h.does with ⟨j, want, ej, oj, d, h1, h2, h3, h4⟩ | ⟨h1, h2⟩
  · exact .inl ⟨j, want, ej, oj, d, h1, h2, hg h3, h4⟩
  · refine .inr ⟨?_, h2⟩
    rcases h1 with h1 | ⟨j, want, ej, oj, d, h1, h2, h3, h4⟩
    · exact .inl h1
    · exact .inr ⟨j, want, ej, oj, d, h1, h2, hg h3, h4⟩

def AllGood (X : Ctx) (sm : Bool) (all : List Oper) (E0 : Env) (H0 : AHeap) (es : List Ent) : Prop := ∀ k, k < es.length → ∃ o e, Good X sm all E0 H0 es k o e

section
variable {X : Ctx} {sm : Bool} {cf : CallF} {all : List Oper} {E0 : Env} {H0 : AHeap} {Q : AExit → Env → AHeap → Prop}

theorem AllGood.push {es : List Ent} (h : AllGood X sm all E0 H0 es) {o : Oper} {e : Ent} (hg : Good X sm all E0 H0 (es ++ [e]) es.length o e) : AllGood X sm all E0 H0 (es ++ [e]) := by
  intro k hk
  by_cases hlt : k < es.length
  · obtain ⟨o', e', h'⟩ := h k hlt
    exact ⟨o', e', h'.more e⟩
  · have : k = es.length := by simp at hk; omega
    subst this
    exact ⟨o, e, hg⟩

theorem wpDraw_good : ∀ (rest : List Oper) (es : List Ent), wpDraw X sm cf all E0 H0 rest es Q → (∀ j, rest[j]? = all[es.length + j]?) → AllGood X sm all E0 H0 es →
    ∃ es' rest', AllGood X sm all E0 H0 es' ∧ (∀ j, rest'[j]? = all[es'.length + j]?) ∧ finishD X sm cf all E0 H0 es' rest' Q
  | [], es, h, hr, hg => ⟨es, [], hg, hr, h⟩
  | o :: rest, es, h, hr, hg => by
    have ho : all[es.length]? = some o := by simpa using (hr 0).symm
    have hr' : ∀ (x : Ent) j, rest[j]? = all[(es ++ [x]).length + j]? := fun x j => by have := hr (j + 1); simpa [Nat.add_assoc, Nat.add_comm 1 j] using this
    simp only [wpDraw, forceS_eq, forceE_eq, forceK_eq] at h
    split at h
    · exact (not_stuck h).elim
    · rename_i hprs
      have hlt : ∀ j ∈ predsL es o.after.toList, j < es.length := ltS_spec hprs
      -- a step
      have stp : (match growA X sm o (envK E0 all es (predsL es o.after.toList) (tmpsOf o.op.operands.toList)) (heapS H0 es.length (fun j => memS j (predsL es o.after.toList)) es) (H0.next + es.length) with
          | some (c, v, nb) => obl c (match okVal H0.next es.length (predsL es o.after.toList) v nb with
            | true => wpDraw X sm cf all E0 H0 rest (es ++ [⟨v, nb, predsL es o.after.toList⟩]) Q
            | false => Stuck 5 [o])
          | none => finishD X sm cf all E0 H0 es (o :: rest) Q) →
          (o.guard = none ∨ ∃ j want ej oj d, o.guard = some (j, want) ∧ j ∈ predsL es o.after.toList ∧ es[j]? = some ej ∧ all[j]? = some oj ∧ oj.dst = some d ∧ ej.v = .bool want) →
          ∃ es' rest', AllGood X sm all E0 H0 es' ∧ (∀ j, rest'[j]? = all[es'.length + j]?) ∧ finishD X sm cf all E0 H0 es' rest' Q := by
        intro hs hguard
        split at hs
        · rename_i c v nb hgr
          obtain ⟨rfl, hs⟩ := obl_true hs
          split at hs
          · rename_i hok
            refine wpDraw_good rest _ hs (hr' _) (hg.push (o := o) ⟨ho, by simp, by simp, hlt, hok, .inr ⟨?_, by simpa using hgr⟩⟩)
            rcases hguard with h | ⟨j, want, ej, oj, d, h1, h2, h3, h4⟩
            · exact .inl h
            · exact .inr ⟨j, want, ej, oj, d, h1, h2, by rw [List.getElem?_append_left (hlt j h2)]; exact h3, h4⟩
          · exact (not_stuck hs).elim
        · exact ⟨es, o :: rest, hg, hr, hs⟩
      have skp : wpDraw X sm cf all E0 H0 rest (es ++ [⟨.tup [], none, predsL es o.after.toList⟩]) Q →
          (∃ j want ej oj d, o.guard = some (j, want) ∧ j ∈ predsL es o.after.toList ∧ es[j]? = some ej ∧ all[j]? = some oj ∧ oj.dst = some d ∧ (ej.v = .tup [] ∨ ej.v = .bool (!want))) →
          ∃ es' rest', AllGood X sm all E0 H0 es' ∧ (∀ j, rest'[j]? = all[es'.length + j]?) ∧ finishD X sm cf all E0 H0 es' rest' Q := by
        rintro hs ⟨j, want, ej, oj, d, h1, h2, h3, h4, h5, h6⟩
        exact wpDraw_good rest _ hs (hr' _) (hg.push (o := o) ⟨ho, by simp, by simp, hlt, rfl, .inl ⟨j, want, ej, oj, d, h1, h2, by rw [List.getElem?_append_left (hlt j h2)]; exact h3, h4, h5, h6, rfl, rfl⟩⟩)
      split at h
      · rename_i hw
        refine stp h (.inl ?_)
        unfold wantD at hw
        split at hw
        · assumption
        · (repeat' split at hw) <;> cases hw
      · rename_i hw
        refine skp h ?_
        unfold wantD at hw
        split at hw <;> try cases hw
        rename_i j want hgd
        split at hw <;> try cases hw
        rename_i ej d hm he hd
        split at hw <;> try cases hw
        rename_i hv
        rw [nthE_eq] at he
        simp only [Option.bind_eq_some_iff] at hd
        obtain ⟨oj, ho1, ho2⟩ := hd
        exact ⟨j, want, ej, oj, d, hgd, memS_iff.1 hm, he, ho1, ho2, .inl hv⟩
      · rename_i j b want hw
        have hask : ∃ ej oj d, o.guard = some (j, want) ∧ j ∈ predsL es o.after.toList ∧ es[j]? = some ej ∧ all[j]? = some oj ∧ oj.dst = some d ∧ ej.v = .bool b := by
          unfold wantD at hw
          split at hw <;> try cases hw
          rename_i hgd
          split at hw <;> try cases hw
          rename_i ej d hm he hd
          split at hw <;> try cases hw
          rename_i hv
          rw [nthE_eq] at he
          simp only [Option.bind_eq_some_iff] at hd
          obtain ⟨oj, ho1, ho2⟩ := hd
          exact ⟨ej, oj, d, hgd, memS_iff.1 hm, he, ho1, ho2, hv⟩
        obtain ⟨ej, oj, d, q1, q2, q3, q4, q5, q6⟩ := hask
        split at h
        · rw [branch_iff] at h
          cases b with
          | true =>
            have := h.1 rfl
            rw [setV_self q3 q6] at this
            exact stp this (.inr ⟨j, true, ej, oj, d, q1, q2, q3, q4, q5, q6⟩)
          | false =>
            have := h.2 rfl
            rw [setV_self q3 q6] at this
            exact skp this ⟨j, true, ej, oj, d, q1, q2, q3, q4, q5, .inr q6⟩
        · rw [branch_iff] at h
          cases b with
          | true =>
            have := h.1 rfl
            rw [setV_self q3 q6] at this
            exact skp this ⟨j, false, ej, oj, d, q1, q2, q3, q4, q5, .inr q6⟩
          | false =>
            have := h.2 rfl
            rw [setV_self q3 q6] at this
            exact stp this (.inr ⟨j, false, ej, oj, d, q1, q2, q3, q4, q5, q6⟩)
      · exact (not_stuck h).elim

end

end Go.Proofs.Ytcgnoegejmhgmaa.Ev

/-
  Ev: regions of open order: the moves.
-/
namespace Go.Proofs.Ytcgnoegejmhgmaa.Ev
set_option linter.unusedVariables false
set_option linter.unusedSimpArgs false
open Go.RowKit

theorem Step.ext {ρ ρ' : Rho} {H K K' : AHeap} {w w' : World} (h : Step ρ H w ρ' K w') (hn : K'.next = K.next) (hg : ∀ b, K'.get b = K.get b) : Step ρ H w ρ' K' w' := by
  refine ⟨h.agree, by rw [hn]; exact h.next, ⟨fun b x hx => ?_, fun b b' x x' hx hx' => ?_⟩, h.os, h.tape, h.output, h.size, h.old, ?_⟩
  · rw [hg] at hx
    have := h.rel.blk b x hx
    rw [hn]
    exact this
  · rw [hg] at hx hx'
    exact h.rel.inj b b' x x' hx hx'
  · rintro g ⟨b, x, hx, ho, hf⟩
    rw [hg] at hx
    exact h.owns _ ⟨b, x, hx, ho, hf⟩

theorem ABlk.ok_same {p : Nat → Bool} {ρ ρ' : Rho} {w w' : World} {b : Nat} {x : ABlk} (h : x.ok ρ w b) (hp : x.pB p = true) (hg : Rho.same p ρ ρ') (hb : p b = true) (hs : w.heap.size ≤ w'.heap.size) (hf : ρ'.fp b = ρ.fp b) (hh' : ∀ g, x.fp ρ b g → w'.heap[g]? = w.heap[g]?) : x.ok ρ' w' b := by
  obtain ⟨g1, g2, g3⟩ := hg b hb
  have hh := hh' _ (x.fp_root ρ b)
  have own : ∀ {e : TypeId} {T : RowTy} {l : List T.α} {st : Prop}, OwnRow ρ w b e T l st → OwnRow ρ' w' b e T l st := by
    rintro e T l st ⟨h0, h1, h2, cur, fz, h3, h4, h5, h6⟩
    refine ⟨by rw [g2]; exact h0, by rw [g3]; exact h1, by rw [g3]; exact h2, cur, fz, by rw [g1, hh]; exact h3, h4, by rw [g3]; exact h5, ?_⟩
    rw [h6, trL_eq, trL_eq]
    apply List.map_congr_left
    intro x hx
    have hd := flat_data T l
    rw [List.all_eq_true] at hd
    exact AVal.data_tr (hd x hx) _ _
  cases x with
  | dead => trivial
  | obj U s l =>
    obtain ⟨h0, h1⟩ := h
    refine ⟨by rw [g2]; exact h0, ?_⟩
    rw [g1, hf, trL_same hg l hp]
    exact U.keep _ _ _ _ _ _ h1 fun g hg => hh' g (hg.imp id fun h => ⟨rfl, h⟩)
  | cells e l =>
    obtain ⟨h0, h1, fz, h2, h3⟩ := h
    exact ⟨by rw [g2]; exact h0, h1, fz, by rw [g1, hh, trL_same hg l hp]; exact h2, h3⟩
  | row e T l md =>
    cases md
    · exact own h
    · exact own h
    · obtain ⟨h1, h2, h3, h4⟩ := h
      refine ⟨by rw [g3]; exact h1, by rw [g3]; exact h2, by rw [g1]; omega, fun i v hv => ?_⟩
      have hd := flat_data T l
      rw [List.all_eq_true] at hd
      rw [g1, g2, World.cell?_of_block (w := w) (w' := w') (a := ⟨ρ.blk b, ρ.off b + i, none⟩) hh, h4 i v hv, AVal.data_tr (hd v (List.mem_of_getElem? hv)) ρ ρ']

/-- A new block under a number that was kept free for it. -/
theorem Step.add {ρs ρ : Rho} {Hs H : AHeap} {ws w w' : World} (hS : Step ρs Hs ws ρ H w) {id : Nat} (hid : Hs.next ≤ id) (hlt : id < H.next) (hnone : H.get id = none) {v : AVal} {x : ABlk} {u : Value} {g c : Nat} (hg1 : w.heap.size ≤ g) (hg2 : g < w'.heap.size) (hok : x.ok (ρ.set id g c) w' id) (hgrow : Below w.heap.size w w') (hown : x.own = true) (hbig : x.big = false) (hx : x.under H.next = true)
    (havoid : ∀ b y, H.get b = some y → y.pB (fun b => !(Nat.beq b id)) = true) {K : AHeap} (hKn : K.next = H.next) (hK : ∀ b, K.get b = if b = id then some x else H.get b) : Step ρs Hs ws (ρ.set id g c) K w' := by
  have h := hS.rel
  obtain ⟨s1, s2, s3⟩ := set_self ρ id g c
  have hsame : Rho.same (fun b => !(Nat.beq b id)) ρ (ρ.set id g c) := fun b hb => by
    have : b ≠ id := by
      intro e; subst e
      simp [Nat.beq_refl] at hb
    simp [Rho.set, this]
  have hne : ∀ {b : Nat}, b ≠ id → (fun b => !(Nat.beq b id)) b = true := fun {b} hb => by simp [nat_beq_ne.2 hb]
  have hblk : ∀ {b : Nat}, b ≠ id → (ρ.set id g c).blk b = ρ.blk b := fun {b} hb => (hsame b (hne hb)).1
  have hget : ∀ b y, K.get b = some y → (b = id ∧ y = x) ∨ (b ≠ id ∧ H.get b = some y) := by
    intro b y hy
    rw [hK] at hy
    by_cases hb : b = id
    · rw [if_pos hb] at hy
      exact .inl ⟨hb, by injection hy with hy; exact hy.symm⟩
    · rw [if_neg hb] at hy
      exact .inr ⟨hb, hy⟩
  refine ⟨hS.agree.trans (Rho.set_agree ρ id g c) hid, by rw [hKn]; exact hS.next, ⟨fun b y hy => ?_, fun b b' y y' hy hy' ho hbb g0 hf hf' => ?_⟩, hgrow.os.trans hS.os, hgrow.tape.trans hS.tape, hgrow.output.trans hS.output, Nat.le_trans hS.size hgrow.size, fun k hk hn => ?_, ?_⟩
  · rw [hKn]
    rcases hget b y hy with ⟨rfl, rfl⟩ | ⟨hb, hq⟩
    · exact ⟨hlt, hx, by rw [s1]; exact hg2, hok⟩
    · obtain ⟨k1, k2, k3, k4⟩ := h.blk b y hq
      exact ⟨k1, k2, by rw [hblk hb]; exact Nat.lt_of_lt_of_le k3 hgrow.size, ABlk.ok_same k4 (havoid b y hq) hsame (hne hb) hgrow.size rfl fun g hg => hgrow.block _ (h.low hq hg)⟩
  · rcases hget b y hy with ⟨e1, e1'⟩ | ⟨h1, hq⟩ <;> rcases hget b' y' hy' with ⟨e2, e2'⟩ | ⟨h2, hq'⟩
    · exact absurd (e1.trans e2.symm) hbb
    · subst e1' e1
      rw [ABlk.fp_small hbig, s1] at hf
      rw [ABlk.fp_eq (ρ := ρ) (hblk h2) rfl] at hf'
      have := h.low hq' hf'
      omega
    · subst e2' e2
      rw [ABlk.fp_small hbig, s1] at hf'
      rw [ABlk.fp_eq (ρ := ρ) (hblk h1) rfl] at hf
      have := h.low hq hf
      omega
    · rw [ABlk.fp_eq (ρ := ρ) (hblk h1) rfl] at hf
      rw [ABlk.fp_eq (ρ := ρ) (hblk h2) rfl] at hf'
      exact h.inj b b' y y' hq hq' ho hbb g0 hf hf'
  · exact (hgrow.block k (Nat.lt_of_lt_of_le hk hS.size)).trans (hS.old k hk hn)
  · rintro k ⟨b, y, hy, ho, hf⟩
    rcases hget b y hy with ⟨e1, e1'⟩ | ⟨h1, hq⟩
    · subst e1' e1
      rw [ABlk.fp_small hbig, s1] at hf
      subst hf
      exact .inl (Nat.le_trans hS.size hg1)
    · rw [ABlk.fp_eq (ρ := ρ) (hblk h1) rfl] at hf
      exact hS.owns _ ⟨b, y, hq, ho, hf⟩

theorem okVal_pB {next k : Nat} {pr : NS} {v : AVal} {nb : Option ABlk} (h : okVal next k pr v nb = true) {p : Nat → Bool} (hp : ∀ b, allowed next k pr b = true → p b = true) : v.pB p = true ∧ ∀ x, nb = some x → x.pB p = true := by
  simp only [okVal, Bool.and_eq_true] at h
  refine ⟨AVal.pB_mono hp v h.1, fun x hx => ?_⟩
  subst hx
  have h2 := h.2
  cases x with
  | cells e l => exact pBL_mono hp l h2
  | obj U s l => exact pBL_mono hp l h2
  | row => rfl
  | dead => rfl

theorem allowed_iff {next k : Nat} {pr : NS} {b : Nat} : allowed next k pr b = true ↔ b < next ∨ (next ≤ b ∧ (b - next = k ∨ b - next ∈ pr)) := by
  unfold allowed
  split
  · rename_i h; simp at h; simp [h]
  · rename_i h
    have h' : ¬ b < next := fun hb => by rw [show Nat.blt b next = true from by rw [Nat.blt_eq]; exact hb] at h; cases h
    split
    · rename_i h2
      have h2' : next ≤ b := Nat.le_of_ble_eq_true h2
      split
      · rename_i h4; rw [nat_beq_eq] at h4; simp only [true_iff]; exact .inr ⟨h2', .inl h4⟩
      · rename_i h4; rw [nat_beq_ne] at h4; rw [memS_iff]; constructor
        · exact fun q => .inr ⟨h2', .inr q⟩
        · rintro (q | ⟨_, q | q⟩)
          · exact absurd q h'
          · exact absurd q h4
          · exact q
    · rename_i h2
      have h3 : ¬ next ≤ b := fun hb => by rw [Nat.ble_eq_true_of_le hb] at h2; cases h2
      simp only [Bool.false_eq_true, false_iff]
      omega

theorem blk_under {N : Nat} {x : ABlk} : x.under N = x.pB (fun b => Nat.blt b N) := by
  cases x with
  | cells e l => exact belowL_pB l
  | obj U s l => exact belowL_pB l
  | row => rfl
  | dead => rfl

section
variable {X : Ctx} {sm : Bool} {all : List Oper} {E0 : Env} {H0 : AHeap} {es : List Ent}

/-- What holds when some operations have been carried out. -/
structure Inv [Dfs] (all : List Oper) (E0 : Env) (H0 : AHeap) (es : List Ent) (n : Nat) (ρs : Rho) (Hs : AHeap) (ws : World) (L : Nat → Bool) (ρ : Rho) (a : Act) (w : World) : Prop where
  step : Step ρs Hs ws ρ (heapS H0 all.length L es) w
  tmps : ∀ k o e t, L k = true → all[k]? = some o → es[k]? = some e → o.dst = some t → a.tmps[t]? = some (tr ρ e.v)
  old : ∀ t v, getE E0 t = some v → (∀ k o e, L k = true → all[k]? = some o → es[k]? = some e → o.dst ≠ some t) → a.tmps[t]? = some (tr ρ v)
  closed : ∀ k e, L k = true → es[k]? = some e → ∀ j ∈ e.pr, L j = true
  defers : a.defers = Dfs.D
  size : a.tmps.size = n

/-- An operation that has not come up yet, and all of whose predecessors have: what it may name is not its own number. -/
theorem Inv.avoid [Dfs] {n : Nat} {ρs : Rho} {Hs : AHeap} {ws : World} {L : Nat → Bool} {ρ : Rho} {a : Act} {w : World} (h : Inv all E0 H0 es n ρs Hs ws L ρ a w) (hg : AllGood X sm all E0 H0 es) {k : Nat} (hk : L k = false) {j : Nat} {e : Ent} (hj : L j = true) (he : es[j]? = some e) :
    e.v.pB (fun b => !(Nat.beq b (H0.next + k))) = true ∧ ∀ x, e.nb = some x → x.pB (fun b => !(Nat.beq b (H0.next + k))) = true := by
  obtain ⟨o, e', hgd⟩ := hg j (List.getElem?_eq_some_iff.1 he).1
  have : e' = e := by have := hgd.ent; rw [he] at this; injection this with this; exact this.symm
  subst this
  refine okVal_pB hgd.val (fun b hb => ?_)
  rw [allowed_iff] at hb
  have hne : b ≠ H0.next + k := by
    rintro rfl
    rcases hb with h1 | ⟨_, h1 | h1⟩
    · omega
    · rw [Nat.add_sub_cancel_left] at h1; subst h1; rw [hk] at hj; cases hj
    · rw [Nat.add_sub_cancel_left] at h1
      have := h.closed j e' hj he k h1
      rw [hk] at this; cases this
  simp [nat_beq_ne.2 hne]

/-- The move of one operation. -/
theorem Inv.move [Dfs] (hX : CtxRows X) (hF : FcOk X) (hg : AllGood X sm all E0 H0 es) (hok : okTmps all es all es 0 = true) (hE0 : ∀ t v, getE E0 t = some v → v.under H0.next = true) (hH0 : ∀ b x, H0.get b = some x → b < H0.next ∧ x.under H0.next = true) (hlen : es.length ≤ all.length)
    {n : Nat} {ρs : Rho} {Hs : AHeap} {ws : World} (hHs : Hs.next ≤ H0.next) {L : Nat → Bool} {ρ : Rho} {a : Act} {w : World} (h : Inv all E0 H0 es n ρs Hs ws L ρ a w) (hL : ∀ k, L k = true → k < es.length)
    {k : Nat} {o : Oper} {e : Ent} (hG : Good X sm all E0 H0 es k o e) (hk : L k = false) (hready : ∀ j ∈ e.pr, L j = true) (hdst : ∀ t, o.dst = some t → t < n)
    {next : Act → World → Prop} {QQ : Exit → Act → World → Prop} (hn : ∀ ρ' a' w', Inv all E0 H0 es n ρs Hs ws (fun j => L j || Nat.beq j k) ρ' a' w' → next a' w') :
    (Region.wanted o (yielded all.toArray a.tmps) = true ∧ o.wp X.P a w next QQ) ∨ (Region.wanted o (yielded all.toArray a.tmps) = false ∧ next (a.put o.dst undef) w) := by
  have hklt : k < es.length := (List.getElem?_eq_some_iff.1 hG.ent).1
  have htk : ∀ {j : Nat}, j < k → (es.take k)[j]? = es[j]? := fun {j} hj => by rw [List.getElem?_take, if_pos hj]
  -- what is known of another one's temporaries
  have hother : ∀ {m : Nat} {om : Oper} {em : Ent}, all[m]? = some om → es[m]? = some em → m ≠ k → ∀ t, om.dst = some t → (t ∈ tmpsOf o.op.operands.toList → m ∈ e.pr ∨ k ∈ em.pr) ∧ o.dst ≠ some t := by
    intro m om em hm hem hne t ht
    have hp := okTmps_spec hok hG.op hG.ent hm hem hne
    simp only [okPair, ht, Bool.and_eq_true, Bool.or_eq_true, Bool.not_eq_true'] at hp
    refine ⟨fun hin => ?_, fun ho => ?_⟩
    · rcases hp.1 with (h1 | h1) | h1
      · rw [memS_iff.2 (mem_maskL.2 hin)] at h1; cases h1
      · exact .inl (memS_iff.1 h1)
      · exact .inr (memS_iff.1 h1)
    · rw [ho] at hp
      have := hp.2
      simp [Nat.beq_refl] at this
  -- the relation behind the move
  have after : ∀ (ρ' : Rho) (u : Value) (w' : World), Step ρs Hs ws ρ' (heapS H0 all.length (fun j => L j || Nat.beq j k) es) w' → u = tr ρ' e.v → (∀ j ej, L j = true → es[j]? = some ej → tr ρ' ej.v = tr ρ ej.v) → (∀ t v, getE E0 t = some v → tr ρ' v = tr ρ v) →
      Inv all E0 H0 es n ρs Hs ws (fun j => L j || Nat.beq j k) ρ' (a.put o.dst u) w' := by
    intro ρ' u w' hst hu hv1 hv2
    have hput : ∀ t, o.dst ≠ some t → (a.put o.dst u).tmps[t]? = a.tmps[t]? := fun t ht => by
      cases hd : o.dst with
      | none => rfl
      | some d =>
        have hdt : d ≠ t := fun e => ht (by rw [hd, e])
        simp only [Act.put]
        rw [Array.getElem?_setIfInBounds_ne hdt]
    have hput2 : ∀ t, o.dst = some t → (a.put o.dst u).tmps[t]? = some u := fun t ht => by
      have := hdst t ht
      rw [ht]
      simp only [Act.put]
      rw [Array.getElem?_setIfInBounds_self_of_lt (by rw [h.size]; exact this)]
    refine ⟨hst, fun m om em t hm hom hem ht => ?_, fun t v hv hno => ?_, fun m em hm hem j hj => ?_, by rw [put_defers]; exact h.defers, by rw [put_size]; exact h.size⟩
    · by_cases hmk : m = k
      · subst hmk
        rw [hG.op] at hom
        cases hom
        rw [hG.ent] at hem
        cases hem
        rw [hput2 t ht, hu]
      · have hLm : L m = true := by simpa [nat_beq_ne.2 hmk] using hm
        rw [hput t (hother hom hem hmk t ht).2, h.tmps m om em t hLm hom hem ht, hv1 m em hLm hem]
    · have hno' : o.dst ≠ some t := hno k o e (by simp [Nat.beq_refl]) hG.op hG.ent
      rw [hput t hno', h.old t v hv (fun m om em hm => hno m om em (by simp [hm])), hv2 t v hv]
    · by_cases hmk : m = k
      · subst hmk
        rw [hG.ent] at hem
        cases hem
        simp [hready j hj]
      · have hLm : L m = true := by simpa [nat_beq_ne.2 hmk] using hm
        simp [h.closed m em hLm hem j hj]
  -- heaps that are alike
  have hsame : e.nb = none → ∀ b, (heapS H0 all.length (fun j => L j || Nat.beq j k) es).get b = (heapS H0 all.length L es).get b := by
    intro hnb b
    have : ∀ (es' : List Ent) (m : Nat), (∀ i ei, es'[i]? = some ei → es[m + i]? = some ei) → blkS H0.next (fun j => L j || Nat.beq j k) es' m = blkS H0.next L es' m := by
      intro es'
      induction es' with
      | nil => intro m _; rfl
      | cons e' es' ih =>
        intro m hm
        have h0 := hm 0 e' (by simp)
        have ih' := ih (m + 1) (fun i ei hi => by have := hm (i + 1) ei (by simpa using hi); rw [show m + 1 + i = m + (i + 1) by omega]; exact this)
        simp only [blkS, ih']
        by_cases hmk : m = k
        · subst hmk
          rw [Nat.add_zero] at h0
          rw [hG.ent] at h0
          cases h0
          rw [hnb]
        · simp [nat_beq_ne.2 hmk]
    show getB (blkS _ _ _ _ ++ _) _ = getB (blkS _ _ _ _ ++ _) _
    rw [this es 0 (fun i ei hi => by rw [Nat.zero_add]; exact hi)]
  have hskip : e.v = .tup [] → e.nb = none → next (a.put o.dst undef) w := by
    intro hv hnb
    refine hn ρ _ _ (after ρ undef w (h.step.ext rfl (hsame hnb)) (by rw [hv]; rfl) (fun _ _ _ _ => rfl) (fun _ _ _ => rfl))
  have hyield : ∀ {j : Nat} {ej : Ent} {oj : Oper} {d : Nat}, j ∈ e.pr → es[j]? = some ej → all[j]? = some oj → oj.dst = some d → yielded all.toArray a.tmps j = boolOf (tr ρ ej.v) := by
    intro j ej oj d hj hej hoj hd
    exact yielded_of (ops := all.toArray) (by simpa using hoj) hd (h.tmps j oj ej d (hready j hj) hoj hej hd)
  rcases hG.does with ⟨j, want, ej, oj, d, g1, g2, g3, g4, g5, g6, g7, g8⟩ | ⟨hw, hgrow⟩
  · refine .inr ⟨?_, hskip g7 g8⟩
    have := hyield g2 g3 g4 g5
    unfold Region.wanted
    rw [g1]
    show (yielded all.toArray a.tmps j == some want) = false
    rw [this]
    rcases g6 with g6 | g6 <;> rw [g6] <;> simp [tr, boolOf]
  · have hwant : Region.wanted o (yielded all.toArray a.tmps) = true := by
      unfold Region.wanted
      rcases hw with hw | ⟨j, want, ej, oj, d, g1, g2, g3, g4, g5, g6⟩
      · rw [hw]
      · rw [g1]
        show (yielded all.toArray a.tmps j == some want) = true
        rw [hyield g2 g3 g4 g5, g6]
        simp [tr, boolOf]
    refine .inl ⟨hwant, ?_⟩
    -- what it reads
    have hE : RelE ρ (H0.next + k) (envK E0 all (es.take k) e.pr (tmpsOf o.op.operands.toList)) a := by
      refine ⟨fun t v hv => ?_⟩
      obtain ⟨hin, hv⟩ := envK_get hv
      rcases hv with hv | ⟨hnone, hv⟩
      · obtain ⟨i, oi, ei, q1, q2, q3, q4, rfl⟩ := findT_some hv
        rw [Nat.zero_add] at q4
        have hik := hG.lt i q4
        rw [htk hik] at q2
        refine ⟨h.tmps i oi ei t (hready i q4) q1 q2 q3, ?_⟩
        obtain ⟨oi', ei', hgi⟩ := hg i (by omega)
        have : ei' = ei := by have := hgi.ent; rw [q2] at this; injection this with this; exact this.symm
        subst this
        rw [AVal.under_pB]
        refine (okVal_pB hgi.val (fun b hb => ?_)).1
        rw [allowed_iff] at hb
        rcases hb with h1 | ⟨_, h1 | h1⟩
        · simp; omega
        · simp; omega
        · have := hgi.lt _ h1
          simp; omega
      · refine ⟨h.old t v hv (fun m om em hm hom hem hd => ?_), AVal.under_mono (Nat.le_add_right _ _) v (hE0 t v hv)⟩
        have hmk : m ≠ k := by rintro rfl; rw [hk] at hm; cases hm
        rcases (hother hom hem hmk t hd).1 hin with h1 | h1
        · have hlt := hG.lt m h1
          have := findT_none hnone m om em hom (by rw [htk hlt]; exact hem) hd
          rw [Nat.zero_add] at this
          exact this h1
        · have := h.closed m em hm hem k h1
          rw [hk] at this; cases this
    have hH : ∀ b y, (heapS H0 k (fun j => memS j e.pr) (es.take k)).get b = some y → y.under (H0.next + k) = true ∧ ρ.blk b < w.heap.size ∧ y.ok ρ w b := by
      intro b y hy
      have hR := h.step.rel
      rcases heapS_some hy with ⟨i, ei, q1, q2, q3, rfl⟩ | hy
      · have hin := memS_iff.1 q2
        have hik := hG.lt i hin
        rw [htk hik] at q1
        obtain ⟨oi', ei', hgi⟩ := hg i (by omega)
        have : ei' = ei := by have := hgi.ent; rw [q1] at this; injection this with this; exact this.symm
        subst this
        have hu : y.under (H0.next + k) = true := by
          rw [blk_under]
          refine (okVal_pB hgi.val (fun b hb => ?_)).2 y q3
          rw [allowed_iff] at hb
          rcases hb with h1 | ⟨_, h1 | h1⟩
          · simp; omega
          · simp; omega
          · have := hgi.lt _ h1
            simp; omega
        have hyo : y.own = true ∨ y.own = false := by cases y.own <;> simp
        have hget : (heapS H0 all.length L es).get (H0.next + i) = some y := by
          -- the same block lies in the greater heap
          have h1 : ∀ (es' : List Ent) (m : Nat) (sel : Nat → Bool), (∀ i' e', es'[i']? = some e' → es[m + i']? = some e') → sel i = true → m ≤ i → i < m + es'.length → getB (blkS H0.next sel es' m ++ H0.bs) (H0.next + i) = y.live := by
            intro es'
            induction es' with
            | nil => intro m sel _ _ h1 h2; simp at h2; omega
            | cons e' es' ih =>
              intro m sel hm hs h1 h2
              have h0 := hm 0 e' (by simp)
              rw [Nat.add_zero] at h0
              by_cases hmi : m = i
              · subst hmi
                rw [q1] at h0
                cases h0
                simp only [blkS, hs, q3]
                rw [List.cons_append, getB_cons, if_pos rfl]
              · have ih' := ih (m + 1) sel (fun i' ei' hi => by have := hm (i' + 1) ei' (by simpa using hi); rw [show m + 1 + i' = m + (i' + 1) by omega]; exact this) hs (by omega) (by simp at h2; omega)
                simp only [blkS]
                split
                · split
                  · rw [List.cons_append, getB_cons, if_neg (by omega)]; exact ih'
                  · exact ih'
                · exact ih'
          have hlive : y.live = some y := by
            have := h1 (es.take k) 0 (fun j => memS j e.pr) (fun i' e' hi => by
              rw [Nat.zero_add]
              rw [List.getElem?_take] at hi
              split at hi
              · exact hi
              · cases hi) q2 (Nat.zero_le _) (by rw [List.length_take]; omega)
            have hy' : getB (blkS H0.next (fun j => memS j e.pr) (es.take k) 0 ++ H0.bs) (H0.next + i) = some y := hy
            rw [this] at hy'
            exact hy'
          have := h1 es 0 L (fun i' e' hi => by rw [Nat.zero_add]; exact hi) (hready i hin) (Nat.zero_le _) (by omega)
          rw [hlive] at this
          exact this
        obtain ⟨r1, r2, r3, r4⟩ := hR.blk _ _ hget
        exact ⟨hu, r3, r4⟩
      · obtain ⟨hb, hu⟩ := hH0 b y hy
        have hget : (heapS H0 all.length L es).get b = some y := by rw [heapS_get_old hb]; exact hy
        obtain ⟨r1, r2, r3, r4⟩ := hR.blk _ _ hget
        refine ⟨?_, r3, r4⟩
        rw [blk_under] at hu ⊢
        cases y with
        | cells e l => exact pBL_mono (fun b hb => by simp at hb ⊢; omega) l hu
        | obj U s l => exact pBL_mono (fun b hb => by simp at hb ⊢; omega) l hu
        | row => rfl
        | dead => rfl
    have hout := growA_sound hX hF hgrow hE hH
    refine hout.wp (fun u w' hgr => ?_)
    have hav := fun {j : Nat} {ej : Ent} (hj : L j = true) (hej : es[j]? = some ej) => h.avoid hg hk hj hej
    cases hnb : e.nb with
    | none =>
      rw [hnb] at hgr
      obtain ⟨hu, hb⟩ := hgr
      have hst := h.step.trans (Step.grow h.step.rel hb)
      exact hn ρ _ _ (after ρ u w' (hst.ext rfl (hsame hnb)) hu (fun _ _ _ _ => rfl) (fun _ _ _ => rfl))
    | some x =>
      rw [hnb] at hgr
      obtain ⟨⟨g, c, hu, hg1, hg2, hokx⟩, hb, hown, hbig, hvu, hxu⟩ := hgr
      have hsm : Rho.same (fun b => !(Nat.beq b (H0.next + k))) ρ (ρ.set (H0.next + k) g c) := fun b hb => by
        have : b ≠ H0.next + k := by
          intro e; subst e
          simp [Nat.beq_refl] at hb
        simp [Rho.set, this]
      have hnone : (heapS H0 all.length L es).get (H0.next + k) = none := by
        cases hq : (heapS H0 all.length L es).get (H0.next + k) with
        | none => rfl
        | some y =>
          rcases heapS_some hq with ⟨i, ei, q1, q2, q3, q4⟩ | hy
          · have : i = k := by omega
            subst this
            rw [hk] at q2; cases q2
          · have := (hH0 _ _ hy).1; omega
      have hKget : ∀ b, (heapS H0 all.length (fun j => L j || Nat.beq j k) es).get b = if b = H0.next + k then some x else (heapS H0 all.length L es).get b := by
        intro b
        by_cases hbk : b = H0.next + k
        · subst hbk
          rw [if_pos rfl]
          exact heapS_of hown hG.ent (by simp [Nat.beq_refl]) hnb
        · rw [if_neg hbk]
          have : ∀ (es' : List Ent) (m : Nat), (∀ i ei, es'[i]? = some ei → es[m + i]? = some ei) → getB (blkS H0.next (fun j => L j || Nat.beq j k) es' m ++ H0.bs) b = getB (blkS H0.next L es' m ++ H0.bs) b := by
            intro es'
            induction es' with
            | nil => intro m _; rfl
            | cons e' es' ih =>
              intro m hm
              have ih' := ih (m + 1) (fun i ei hi => by have := hm (i + 1) ei (by simpa using hi); rw [show m + 1 + i = m + (i + 1) by omega]; exact this)
              by_cases hmk : m = k
              · subst hmk
                have h0 := hm 0 e' (by simp)
                rw [Nat.add_zero, hG.ent] at h0
                cases h0
                simp only [blkS, Nat.beq_refl, Bool.or_true, hnb, hk]
                rw [List.cons_append, getB_cons, if_neg (Ne.symm hbk)]
                exact ih'
              · simp only [blkS, nat_beq_ne.2 hmk, Bool.or_false]
                split
                · split
                  · rw [List.cons_append, List.cons_append, getB_cons, getB_cons, ih']
                  · exact ih'
                · exact ih'
          exact this es 0 (fun i ei hi => by rw [Nat.zero_add]; exact hi)
      have hst := Step.add h.step (id := H0.next + k) (by omega) (by show H0.next + k < H0.next + all.length; omega) hnone (v := e.v) (u := u) hg1 hg2 hokx hb hown hbig (by
          rw [blk_under] at hxu ⊢
          cases x with
          | cells e l => exact pBL_mono (fun b hb => by simp [heapS] at hb ⊢; omega) l hxu
          | obj U s l => exact pBL_mono (fun b hb => by simp [heapS] at hb ⊢; omega) l hxu
          | row => rfl
          | dead => rfl) (fun b y hy => by
          rcases heapS_some hy with ⟨i, ei, q1, q2, q3, q4⟩ | hy
          · exact (hav q2 q1).2 y q3
          · have := (hH0 b y hy).2
            rw [blk_under] at this
            cases y with
            | cells e l => exact pBL_mono (fun b hb => by have : b ≠ H0.next + k := by (simp at hb; omega)
                                                          simp [nat_beq_ne.2 this]) l this
            | obj U s l => exact pBL_mono (fun b hb => by have : b ≠ H0.next + k := by (simp at hb; omega)
                                                          simp [nat_beq_ne.2 this]) l this
            | row => rfl
            | dead => rfl) (K := heapS H0 all.length (fun j => L j || Nat.beq j k) es) rfl hKget
      refine hn _ _ _ (after _ u w' hst hu (fun j ej hj hej => tr_same hsm _ (hav hj hej).1) (fun t v hv => ?_))
      have := hE0 t v hv
      rw [AVal.under_pB] at this
      exact tr_same hsm v (AVal.pB_mono (fun b hb => by have : b ≠ H0.next + k := by (simp at hb; omega)
                                                        simp [nat_beq_ne.2 this]) v this)

end

end Go.Proofs.Ytcgnoegejmhgmaa.Ev

/-
  Ev: regions of open order, whole.
-/
namespace Go.Proofs.Ytcgnoegejmhgmaa.Ev
set_option linter.unusedVariables false
set_option linter.unusedSimpArgs false
open Go.RowKit

/-- What is known of an operation of the tail. -/
structure TailAt (all : List Oper) (es : List Ent) (i : Nat) (o : Oper) (esi : List Ent) : Prop where
  op : all[i]? = some o
  all : ∀ j, j < i → j ∈ predsL esi o.after.toList
  lt : ∀ j ∈ predsL esi o.after.toList, j < i
  old : ∀ x e, esi[x]? = some e → es[x]? = some e ∨ (es.length ≤ x ∧ ∀ j ∈ e.pr, j < x)

theorem okTail_spec {all : List Oper} {es : List Ent} : ∀ (rest : List Oper) (esi : List Ent), okTail esi rest esi.length = true → (∀ j, rest[j]? = all[esi.length + j]?) → (∀ x e, esi[x]? = some e → es[x]? = some e ∨ (es.length ≤ x ∧ ∀ j ∈ e.pr, j < x)) → es.length ≤ esi.length →
    ∀ i, esi.length ≤ i → i < all.length → ∃ o esi', TailAt all es i o esi'
  | [], esi, _, hr, _, _, i, h1, h2 => by
    have := hr (i - esi.length)
    rw [show esi.length + (i - esi.length) = i by omega, List.getElem?_eq_getElem h2] at this
    simp at this
  | o :: rest, esi, h, hr, hold, hle, i, h1, h2 => by
    simp only [okTail, Bool.and_eq_true] at h
    obtain ⟨⟨ha, hb⟩, hc⟩ := h
    have hlt : ∀ j ∈ predsL esi o.after.toList, j < esi.length := ltS_spec hb
    by_cases hi : i = esi.length
    · subst hi
      exact ⟨o, esi, by simpa using (hr 0).symm, fun j hj => allS_spec ha j hj, hlt, hold⟩
    · refine okTail_spec rest (esi ++ [⟨.tup [], none, predsL esi o.after.toList⟩]) (by simpa using hc) (fun j => by have := hr (j + 1); simpa [Nat.add_assoc, Nat.add_comm 1 j] using this) (fun x e hx => ?_) (by simp; omega) i (by simp; omega) h2
      by_cases hxl : x < esi.length
      · rw [List.getElem?_append_left hxl] at hx
        exact hold x e hx
      · rw [List.getElem?_append_right (by omega)] at hx
        have hx0 : x - esi.length = 0 := by
          by_cases h0 : x - esi.length = 0
          · exact h0
          · rw [List.getElem?_eq_none (by simp; omega)] at hx; cases hx
        rw [hx0] at hx
        simp only [List.getElem?_cons_zero, Option.some.injEq] at hx
        subst hx
        exact .inr ⟨by omega, fun j hj => by have := hlt j hj; omega⟩

/-! ### operations that may come late -/

/-- What is known of an operation of the tail, where some of the first ones may be open. -/
structure TailG (all : List Oper) (es : List Ent) (i : Nat) (o : Oper) (esi : List Ent) : Prop where
  op : all[i]? = some o
  all : ∀ j, es.length ≤ j → j < i → j ∈ predsL esi o.after.toList
  lt : ∀ j ∈ predsL esi o.after.toList, j < i
  old : ∀ x e, esi[x]? = some e → es[x]? = some e ∨ (es.length ≤ x ∧ ∀ j ∈ e.pr, j < x)

theorem okTailG_spec {all : List Oper} {es : List Ent} : ∀ (rest : List Oper) (esi : List Ent), okTailG es.length esi rest esi.length = true → (∀ j, rest[j]? = all[esi.length + j]?) → (∀ x e, esi[x]? = some e → es[x]? = some e ∨ (es.length ≤ x ∧ ∀ j ∈ e.pr, j < x)) → es.length ≤ esi.length →
    ∀ i, esi.length ≤ i → i < all.length → ∃ o esi', TailG all es i o esi'
  | [], esi, _, hr, _, _, i, h1, h2 => by
    have := hr (i - esi.length)
    rw [show esi.length + (i - esi.length) = i by omega, List.getElem?_eq_getElem h2] at this
    simp at this
  | o :: rest, esi, h, hr, hold, hle, i, h1, h2 => by
    simp only [okTailG, Bool.and_eq_true] at h
    obtain ⟨⟨ha, hb⟩, hc⟩ := h
    have hlt : ∀ j ∈ predsL esi o.after.toList, j < esi.length := ltS_spec hb
    by_cases hi : i = esi.length
    · subst hi
      refine ⟨o, esi, by simpa using (hr 0).symm, fun j hj1 hj => ?_, hlt, hold⟩
      have := allS_spec ha j hj
      rw [mem_orS, mem_upS] at this
      rcases this with h | h
      · omega
      · exact h
    · refine okTailG_spec rest (esi ++ [⟨.tup [], none, predsL esi o.after.toList⟩]) (by simpa using hc) (fun j => by have := hr (j + 1); simpa [Nat.add_assoc, Nat.add_comm 1 j] using this) (fun x e hx => ?_) (by simp; omega) i (by simp; omega) h2
      by_cases hxl : x < esi.length
      · rw [List.getElem?_append_left hxl] at hx
        exact hold x e hx
      · rw [List.getElem?_append_right (by omega)] at hx
        have hx0 : x - esi.length = 0 := by
          by_cases h0 : x - esi.length = 0
          · exact h0
          · rw [List.getElem?_eq_none (by simp; omega)] at hx; cases hx
        rw [hx0] at hx
        simp only [List.getElem?_cons_zero, Option.some.injEq] at hx
        subst hx
        exact .inr ⟨by omega, fun j hj => by have := hlt j hj; omega⟩

theorem okMiss_spec {all : List Oper} {es : List Ent} {P : List Nat} : ∀ (rest : List Oper) (esi : List Ent), okMiss es.length P esi rest = true → (∀ j, rest[j]? = all[esi.length + j]?) → (∀ x e, esi[x]? = some e → es[x]? = some e ∨ es.length ≤ x) → es.length ≤ esi.length →
    ∀ i, esi.length ≤ i → i < all.length → ∃ o esi', all[i]? = some o ∧ (∀ k, k < es.length → k ∉ P → k ∈ predsL esi' o.after.toList) ∧ (∀ x e, esi'[x]? = some e → es[x]? = some e ∨ es.length ≤ x)
  | [], esi, _, hr, _, _, i, h1, h2 => by
    have := hr (i - esi.length)
    rw [show esi.length + (i - esi.length) = i by omega, List.getElem?_eq_getElem h2] at this
    simp at this
  | o :: rest, esi, h, hr, hold, hle, i, h1, h2 => by
    simp only [okMiss, Bool.and_eq_true] at h
    obtain ⟨ha, hc⟩ := h
    rw [List.all_eq_true] at ha
    by_cases hi : i = esi.length
    · subst hi
      refine ⟨o, esi, by simpa using (hr 0).symm, fun k hk hkP => ?_, hold⟩
      have := ha k (by simpa using hk)
      rw [Bool.or_eq_true] at this
      rcases this with h | h
      · exact absurd (memN_iff.1 h) hkP
      · exact memS_iff.1 h
    · refine okMiss_spec rest (esi ++ [⟨.tup [], none, predsL esi o.after.toList⟩]) hc (fun j => by have := hr (j + 1); simpa [Nat.add_assoc, Nat.add_comm 1 j] using this) (fun x e hx => ?_) (by simp; omega) i (by simp; omega) h2
      by_cases hxl : x < esi.length
      · rw [List.getElem?_append_left hxl] at hx
        exact hold x e hx
      · exact .inr (by omega)

theorem noDst_spec {o : Oper} : ∀ {all : List Oper} {es : List Ent}, noDst o all es = true → ∀ (k : Nat) (q : Oper) (e : Ent), all[k]? = some q → es[k]? = some e → ∀ t, q.dst = some t → o.dst ≠ some t
  | [], es, _, k, q, e, hq, _ => by simp at hq
  | q' :: all, [], _, k, q, e, _, he => by simp at he
  | q' :: all, e' :: es, h, k, q, e, hq, he => by
    intro t ht ho
    simp only [noDst, Bool.and_eq_true] at h
    cases k with
    | zero =>
      simp only [List.getElem?_cons_zero, Option.some.injEq] at hq
      subst hq
      have := h.1
      rw [ht, ho] at this
      simp [Nat.beq_refl] at this
    | succ k => exact noDst_spec h.2 k q e (by simpa using hq) (by simpa using he) t ht ho

theorem dropE_get {t : Nat} : ∀ {E : Env} {u : Nat} {v : AVal}, getE (dropE t E) u = some v → getE E u = some v ∧ u ≠ t
  | [], u, v, h => by simp [dropE, getE] at h
  | (x, y) :: r, u, v, h => by
    simp only [dropE] at h
    split at h
    · rename_i hx
      have hx := nat_beq_eq.1 hx
      obtain ⟨h1, h2⟩ := dropE_get h
      exact ⟨by rw [getE_cons, if_neg (by omega)]; exact h1, h2⟩
    · rename_i hx
      have hx := nat_beq_ne.1 hx
      rw [getE_cons] at h ⊢
      split at h
      · rename_i hxu
        subst hxu
        rw [if_pos rfl]
        exact ⟨h, hx⟩
      · rename_i hxu
        obtain ⟨h1, h2⟩ := dropE_get h
        exact ⟨by rw [if_neg hxu]; exact h1, h2⟩

theorem dropP_get {all : List Oper} : ∀ {P : List Nat} {E : Env} {u : Nat} {v : AVal}, getE (dropP all P E) u = some v → getE E u = some v ∧ ∀ p ∈ P, ∀ o, all[p]? = some o → o.dst ≠ some u
  | [], E, u, v, h => ⟨h, fun p hp => by cases hp⟩
  | j :: r, E, u, v, h => by
    simp only [dropP] at h
    obtain ⟨h1, h2⟩ := dropP_get h
    cases hb : (all[j]?).bind (·.dst) with
    | none =>
      rw [hb] at h1
      refine ⟨h1, fun p hp o ho hd => ?_⟩
      rcases List.mem_cons.1 hp with rfl | hp
      · rw [ho] at hb; simp [hd] at hb
      · exact h2 p hp o ho hd
    | some t =>
      rw [hb] at h1
      obtain ⟨h3, h4⟩ := dropE_get h1
      refine ⟨h3, fun p hp o ho hd => ?_⟩
      rcases List.mem_cons.1 hp with rfl | hp
      · rw [ho] at hb
        simp only [Option.bind_some] at hb
        rw [hd] at hb
        injection hb with hb
        exact h4 hb
      · exact h2 p hp o ho hd

theorem putP_get {all : List Oper} {es : List Ent} : ∀ {P : List Nat} {E : Env} {u : Nat} {v : AVal}, getE (putP all es P E) u = some v → (∃ p o e, p ∈ P ∧ all[p]? = some o ∧ es[p]? = some e ∧ o.dst = some u ∧ e.v = v) ∨ getE E u = some v
  | [], E, u, v, h => .inr h
  | j :: r, E, u, v, h => by
    simp only [putP] at h
    rcases putP_get h with ⟨p, o, e, h1, h2⟩ | k
    · exact .inl ⟨p, o, e, List.mem_cons_of_mem _ h1, h2⟩
    · clear h
      split at k
      · rename_i o e ho he
        rw [nthE_eq] at he
        cases hd : o.dst with
        | none => rw [hd] at k; exact .inr k
        | some t =>
          rw [hd] at k
          rw [show putE E (some t) e.v = (t, e.v) :: E from rfl] at k
          rw [getE_cons] at k
          by_cases htu : t = u
          · rw [if_pos htu] at k
            subst htu
            exact .inl ⟨j, o, e, List.mem_cons_self .., ho, he, hd, by simpa using k⟩
          · rw [if_neg htu] at k
            exact .inr k
      · exact .inr k

theorem Oper.wp_put {P : Program} {o : Oper} {a : Act} {w : World} {K : Act → World → Prop} {Q : Exit → Act → World → Prop} (hh : o.wp P a w (fun a' w' => (∃ u, a'.tmps = (a.put o.dst u).tmps) → K a' w') Q) : o.wp P a w K Q := by
  unfold Oper.wp at *
  generalize (execOp a.eval o).run P w = r at *
  cases r with
  | ok n w' =>
    cases n <;> simp only [Oper.upon] at hh ⊢ <;>
      first
        | exact hh ⟨_, rfl⟩
        | exact hh ⟨undef, by cases o.dst <;> rfl⟩
        | exact Calls.mono hh (fun e w'' he => by cases e <;> first | exact he ⟨_, rfl⟩ | exact he)
        | exact Rows.mono hh (fun _ _ he => he ⟨_, rfl⟩)
  | halt x w' => cases x <;> simp only [Oper.upon] at hh ⊢ <;> exact hh

section
variable {X : Ctx} {sm : Bool} {cf : CallF} {all : List Oper} {E0 : Env} {H0 : AHeap} {Q : AExit → Env → AHeap → Prop}

/-- What holds when all that must be done ahead is done; R: those that are still open. -/
structure Inv2 [Dfs] (X : Ctx) (sm : Bool) (all : List Oper) (E0 : Env) (H0 : AHeap) (es : List Ent) (n : Nat) (ρs : Rho) (Hs : AHeap) (ws : World) (R : Nat → Bool) (P : List Nat) (E : Env) (H : AHeap) (ρ : Rho) (a : Act) (w : World) : Prop where
  step : Step ρs Hs ws ρ H w
  rel : RelE ρ H.next E a
  next : H0.next + all.length ≤ H.next
  inP : ∀ k, R k = true → k ∈ P ∧ k < es.length
  noE : ∀ k ∈ P, ∀ o t, all[k]? = some o → o.dst = some t → getE E t = none
  tmps : ∀ k o e t, R k = false → all[k]? = some o → es[k]? = some e → o.dst = some t → a.tmps[t]? = some (tr ρ e.v)
  old : ∀ p o, R p = true → all[p]? = some o → ∀ t ∈ tmpsOf o.op.operands.toList, ∀ v, getE E0 t = some v → (∀ k o' e', R k = false → all[k]? = some o' → es[k]? = some e' → o'.dst ≠ some t) → a.tmps[t]? = some (tr ρ v)
  closed : ∀ k e, R k = false → es[k]? = some e → ∀ j ∈ e.pr, R j = false
  stable : ∀ p o e, R p = true → all[p]? = some o → es[p]? = some e → e.nb = none ∧ (skipD es o = false → growA X sm o (envK E0 all (es.take p) e.pr (tmpsOf o.op.operands.toList)) H H.next = some (true, e.v, none))
  defers : a.defers = Dfs.D
  size : a.tmps.size = n

/-- Those of P have the same values in this memory. -/
def StableAt (X : Ctx) (sm : Bool) (all : List Oper) (E0 : Env) (es : List Ent) (P : List Nat) (H : AHeap) : Prop := ∀ p ∈ P, ∀ o e, all[p]? = some o → es[p]? = some e → skipD es o = false →
    growA X sm o (envK E0 all (es.take p) e.pr (tmpsOf o.op.operands.toList)) H H.next = some (true, e.v, none)

theorem stableA_mem {es : List Ent} {H : AHeap} {K : Prop} : ∀ {P : List Nat}, stableA X sm all E0 H0 es H K P → K ∧ StableAt X sm all E0 es P H
  | [], h => ⟨h, fun p hp => by cases hp⟩
  | q :: r, h => by
    simp only [stableA] at h
    split at h
    · rename_i o' e' ho' he'
      rw [nthE_eq] at he'
      split at h
      · rename_i hsk
        obtain ⟨h1, h2⟩ := stableA_mem h
        refine ⟨h1, fun p hp o e ho he hs => ?_⟩
        rcases List.mem_cons.1 hp with rfl | hp
        · rw [ho'] at ho; cases ho
          rw [hsk] at hs; cases hs
        · exact h2 p hp o e ho he hs
      · split at h
        · rename_i c v hgr
          obtain ⟨hc, h⟩ := obl_true h
          obtain ⟨h1, h2⟩ := stableA_mem h
          refine ⟨h1, fun p hp o e ho he hs => ?_⟩
          rcases List.mem_cons.1 hp with rfl | hp
          · rw [ho'] at ho; cases ho
            rw [he'] at he; cases he
            rw [Bool.and_eq_true] at hc
            rw [hgr, hc.1, sameV_eq _ _ hc.2]
          · exact h2 p hp o e ho he hs
        · exact (not_stuck h).elim
    · exact (not_stuck h).elim

/-- What is not written stays. -/
def Keep (ws : List Nat) (H H' : AHeap) : Prop := ∀ b x, H.get b = some x → memN b ws = false → H'.get b = some x

theorem get_live {l : List (Nat × ABlk)} {b : Nat} {x : ABlk} (h : getB l b = some x) : x.live = some x := by
  induction l with
  | nil => simp [getB] at h
  | cons p r ih =>
    obtain ⟨c, y⟩ := p
    rw [getB_cons] at h
    split at h
    · cases y <;> simp [ABlk.live] at h <;> subst h <;> rfl
    · exact ih h

theorem keep_put {H : AHeap} {b : Nat} {y : ABlk} : Keep [b] H (H.put b y) := by
  intro c x hx hm
  rw [AHeap.get_put]
  have : b ≠ c := fun e => by subst e; simp [memN, Nat.beq_refl] at hm
  rw [if_neg this]; exact hx

theorem keep_new {H : AHeap} {x : ABlk} (hH : ∀ b x, H.get b = some x → b < H.next) : Keep [] H (H.new x) := by
  intro c y hy _
  rw [AHeap.get_new]
  have := hH c y hy
  rw [if_neg (by omega)]; exact hy

theorem keep_move {H : AHeap} {b : Nat} {x : ABlk} (hH : ∀ b x, H.get b = some x → b < H.next) : Keep [b] H ((H.put b .dead).new x) := by
  intro c y hy hm
  rw [AHeap.get_new]
  have := hH c y hy
  have e : (H.put b .dead).next = H.next := rfl
  rw [if_neg (by rw [e]; omega)]
  exact keep_put c y hy hm

theorem storeA_keep {P : Program} {H H' : AHeap} {t : TypeId} {x v u : AVal} {c : Bool} (h : storeA P sm H t x v = some (c, u, H')) : ∃ b i sz j, x = .ptr b i sz j ∧ Keep [b] H H' := by
  unfold storeA at h
  split at h
  · split at h
    · split at h
      · split at h
        · simp only [Option.some.injEq, Prod.mk.injEq] at h
          obtain ⟨_, _, rfl⟩ := h
          exact ⟨_, _, _, _, rfl, keep_put⟩
        · cases h
      · cases h
    · cases h
  · cases h

theorem copyA_keep {P : Program} {H H' : AHeap} {t u : TypeId} {d s v : AVal} {c : Bool} (h : copyA P H t u d s = some (c, v, H')) : ∃ b i sz j n q, d = .sl b i sz j n q ∧ Keep [b] H H' := by
  unfold copyA at h
  repeat' split at h
  all_goals first | (cases h; done) | skip
  all_goals
    simp only [Option.some.injEq, Prod.mk.injEq] at h
    obtain ⟨_, _, rfl⟩ := h
    exact ⟨_, _, _, _, _, _, rfl, keep_put⟩

theorem appendA_keep {H H' : AHeap} (hH : ∀ b x, H.get b = some x → b < H.next) {t u : TypeId} {s x v : AVal} {c : Bool} (h : appendA X H t u s x = some (c, v, H')) : (s = .nils ∧ Keep [] H H') ∨ ∃ b i sz j n q, s = .sl b i sz j n q ∧ Keep [b] H H' := by
  unfold appendA at h
  repeat' split at h
  all_goals first | (cases h; done) | skip
  all_goals
    simp only [Option.some.injEq, Prod.mk.injEq] at h
    obtain ⟨_, _, rfl⟩ := h
    first
      | exact .inl ⟨rfl, keep_new hH⟩
      | exact .inr ⟨_, _, _, _, _, _, rfl, keep_move hH⟩

theorem writeA_keep {o : Oper} {E : Env} {H H' : AHeap} (hH : ∀ b x, H.get b = some x → b < H.next) {c : Bool} {v : AVal} (h : writeA X sm o E H = some (c, v, H')) {ws : List Nat} (hw : writtenO o E = some ws) : Keep ws H H' := by
  unfold writeA at h
  split at h
  · rename_i t x v' hop
    rw [writtenO, hop] at hw
    simp only [wrOf] at hw
    split at h
    · rename_i a b ha hb
      obtain ⟨q, i, sz, j, rfl, hk⟩ := storeA_keep h
      rw [ha] at hw
      simp only [Option.some.injEq] at hw
      subst hw; exact hk
    · cases h
  · rename_i d s t u hop
    rw [writtenO, hop] at hw
    simp only [wrOf] at hw
    split at h
    · rename_i a b ha hb
      obtain ⟨q, i, sz, j, n, k, rfl, hk⟩ := copyA_keep h
      rw [ha] at hw
      simp only [Option.some.injEq] at hw
      subst hw; exact hk
    · cases h
  · rename_i d s t u hop
    rw [writtenO, hop] at hw
    simp only [wrOf] at hw
    split at h
    · rename_i a b ha hb
      rcases appendA_keep hH h with ⟨rfl, hk⟩ | ⟨q, i, sz, j, n, k, rfl, hk⟩
      · rw [ha] at hw
        simp only [Option.some.injEq] at hw
        subst hw; exact hk
      · rw [ha] at hw
        simp only [Option.some.injEq] at hw
        subst hw; exact hk
    · cases h
  · rename_i t m k y hop
    rw [writtenO, hop] at hw
    cases hw
  · rename_i m k t _ hop
    rw [writtenO, hop] at hw
    simp only [wrOf] at hw
    split at h
    · rename_i a b ha hb
      have : ∃ q, a = .map q := by
        unfold updA at h
        repeat' (split at h)
        all_goals first | (cases h; done) | exact ⟨_, rfl⟩
      obtain ⟨q, rfl⟩ := this
      rw [ha] at hw
      cases hw
    · cases h
  · cases h

theorem stepA_keep {o : Oper} {E : Env} {H : AHeap} {K : Env → AHeap → Prop} {Q : AExit → Env → AHeap → Prop} (hH : ∀ b x, H.get b = some x → b < H.next) (h : stepA X sm cf o E H K Q) :
    stepA X sm cf o E H (fun E' H' => K E' H' ∧ ∀ ws, writesB X sm o E H = some ws → Keep ws H H') Q := by
  unfold stepA at h ⊢
  simp only [forceK_eq, forceH_eq] at h ⊢
  split
  · rename_i c v hp
    rw [hp] at h
    simp only [obl_iff] at h ⊢
    exact ⟨h.1, h.2, fun ws _ b x hb _ => hb⟩
  · rename_i hp
    rw [hp] at h
    simp only at h ⊢
    split
    · rename_i c v x hn
      rw [hn] at h
      simp only [obl_iff] at h ⊢
      have e : writesB X sm o E H = some [] := by unfold writesB; rw [hp, hn]
      exact ⟨h.1, h.2, fun ws hw => by rw [e] at hw; cases hw; exact keep_new hH⟩
    · rename_i hn
      rw [hn] at h
      simp only at h ⊢
      split
      · rename_i c v H' hw
        rw [hw] at h
        simp only [obl_iff] at h ⊢
        have e : writesB X sm o E H = writtenO o E := by unfold writesB; rw [hp, hn, hw]
        exact ⟨h.1, h.2, fun ws hws => writeA_keep hH hw (e ▸ hws)⟩
      · rename_i hw
        rw [hw] at h
        simp only at h ⊢
        split
        · rename_i f args ha
          rw [ha] at h
          simp only at h ⊢
          split
          · rename_i fc hfc
            rw [hfc] at h
            simp only at h ⊢
            split
            · rename_i c v hv
              rw [hv] at h
              simp only [obl_iff] at h ⊢
              exact ⟨h.1, h.2, fun ws _ b x hb _ => hb⟩
            · rename_i hv
              rw [hv] at h
              exact h
          · rename_i hfc
            rw [hfc] at h
            simp only at h ⊢
            have en : writesB X sm o E H = none := by unfold writesB; rw [hp, hn, hw, ha]; simp only [hfc]
            have e : (fun (out : Out) (H' : AHeap) => match out with
                | .ret v => K (putE E o.dst v) H' ∧ ∀ ws, writesB X sm o E H = some ws → Keep ws H H'
                | .panic v => Q (.panic v) E H') = (fun out H' => match out with
                | .ret v => K (putE E o.dst v) H'
                | .panic v => Q (.panic v) E H') := by
              funext out H'
              cases out <;> simp [en]
            rw [e]
            exact h
        · rename_i ha
          rw [ha] at h
          simp only at h ⊢
          split
          · rename_i g hg
            rw [hg] at h
            simp only at h ⊢
            have en : writesB X sm o E H = none := by unfold writesB; rw [hp, hn, hw, ha]
            have e : (fun (out : Out) (H' : AHeap) => match out with
                | .ret v => K (putE E o.dst v) H' ∧ ∀ ws, writesB X sm o E H = some ws → Keep ws H H'
                | .panic v => Q (.panic v) E H') = (fun out H' => match out with
                | .ret v => K (putE E o.dst v) H'
                | .panic v => Q (.panic v) E H') := by
              funext out H'
              cases out <;> simp [en]
            rw [e]
            exact h
          · rename_i hg
            rw [hg] at h
            exact h

theorem loadA_cong {P : Program} {H H' : AHeap} {t : TypeId} {x : AVal} {r : Bool × AVal} (h : loadA P sm H t x = some r) (hk : ∀ b i sz j y, x = .ptr b i sz j → H.get b = some y → H'.get b = some y) : loadA P sm H' t x = some r := by
  unfold loadA at h ⊢
  split at h
  · rename_i b i sz j
    split at h
    · rename_i blk hb
      rw [hk b i sz j blk rfl hb]
      exact h
    · cases h
  · cases h

theorem pureA_cong {P : Program} {o : Oper} {E : Env} {H H' : AHeap} {r : Bool × AVal} (h : pureA P sm o E H = some r) {rs : List Nat} (hr : readsB o E = some rs) (hk : ∀ b x, b ∈ rs → H.get b = some x → H'.get b = some x) : pureA P sm o E H' = some r := by
  have rd : ∀ {x : Operand}, rdOf E x = some rs → ∀ {v : AVal}, evalO E x = some v → (∀ b i sz j y, v = .ptr b i sz j → H.get b = some y → H'.get b = some y) ∧ (∀ b i sz j n c y, v = .sl b i sz j n c → H.get b = some y → H'.get b = some y) := by
    intro x hx v hv
    unfold rdOf at hx
    rw [hv] at hx
    constructor
    · rintro b i sz j y rfl hy
      simp only [Option.some.injEq] at hx
      exact hk b y (by rw [← hx]; simp) hy
    · rintro b i sz j n c y rfl hy
      simp only [Option.some.injEq] at hx
      exact hk b y (by rw [← hx]; simp) hy
  unfold pureA at h ⊢
  unfold readsB at hr
  split at h
  all_goals first | exact h | skip
  · rename_i t x hop
    rw [hop] at hr
    split at h
    · rename_i v hv
      rw [loadA_cong h (rd hr hv).1]
    · cases h
  · rename_i s d x hop
    rw [hop] at hr
    split at h
    · rename_i v hv
      have hs := (rd hr hv).2
      unfold convA at h ⊢
      split at h
      all_goals first | exact h | skip
      rename_i e b i sz j n c h1 h2
      split at h
      · split at h
        · rename_i hb
          rw [hs _ _ _ _ _ _ _ rfl hb]
          exact h
        · rename_i hb
          rw [hs _ _ _ _ _ _ _ rfl hb]
          exact h
        · cases h
      · cases h
    · cases h
  · rename_i t x lo hi hop
    rw [hop] at hr
    split at h
    · rename_i v l u hv hl hu
      have hc : ∀ b i sz j n c q, v = .sl b i sz j n c → capA H b i n c = some q → capA H' b i n c = some q := by
        intro b i sz j n c q e hq
        unfold capA at hq ⊢
        split at hq
        · exact hq
        · split at hq
          · rename_i hb
            rw [(rd hr hv).2 _ _ _ _ _ _ _ e hb]
            exact hq
          · cases hq
      unfold sliceA at h ⊢
      split at h
      · exact h
      · rename_i e b i sz j n c hu2
        split at h
        · rename_i m q hm hq
          rw [hc b i sz j n c q rfl hq, hm]
          exact h
        · cases h
      · exact h
      · cases h
    · cases h
  · rename_i t x ix ok hop
    rw [hop] at hr
    split at h
    · rename_i v i hv hi
      have hb : ∀ b y, v = .map b → H.get b = some y → H'.get b = some y := by
        rintro b y rfl hy
        simp only [rdOf, hv, Option.some.injEq] at hr
        exact hk b _ (by rw [← hr]; simp) hy
      unfold lookupA at h ⊢
      cases hu : P.underlying t with
      | none => rw [hu] at h; cases h
      | some d =>
        rw [hu] at h
        cases d <;> try cases h
        rename_i kt et
        simp only at h ⊢
        cases hu2 : P.underlying kt with
        | none => rw [hu2] at h; cases h
        | some d =>
          rw [hu2] at h
          cases d <;> try cases h
          rename_i kk
          cases kk <;> try cases h
          cases i <;> try cases h
          rename_i kk n
          cases kk <;> try cases h
          simp only at h ⊢
          cases hz : zeroV P et with
          | none => rw [hz] at h; cases h
          | some z =>
            rw [hz] at h
            cases v <;> try (first | exact h | cases h)
            rename_i b
            simp only at h ⊢
            cases hg : H.get b with
            | none => rw [hg] at h; cases h
            | some y =>
              rw [hg] at h
              rw [hb b y rfl hg]
              exact h
    · cases h

theorem growA_cong {o : Oper} {E : Env} {H H' : AHeap} {id id' : Nat} {c : Bool} {v : AVal} (h : growA X sm o E H id = some (c, v, none)) {rs : List Nat} (hr : readsB o E = some rs) (hk : ∀ b x, b ∈ rs → H.get b = some x → H'.get b = some x) : growA X sm o E H' id' = some (c, v, none) := by
  unfold growA at h ⊢
  split at h
  · rename_i c' v' hp
    rw [pureA_cong hp hr hk]
    exact h
  · split at h
    · simp at h
    · rename_i hn
      split at h
      · rename_i f args ha
        exfalso
        unfold callArgs at ha
        split at ha
        · rename_i hop
          rw [readsB, hop] at hr
          cases hr
        · rename_i hop
          rw [readsB, hop] at hr
          cases hr
        · cases ha
      · cases h

/-- Those that read old blocks alone are as they were in the memory behind all the first ones. -/
theorem stable_old {es : List Ent} (hg : AllGood X sm all E0 H0 es) {P : List Nat} (hokP : okP es P = true) {K : Prop}
    (h : stableA X sm all E0 H0 es (heapS H0 all.length (fun _ => true) es) K (P.filter fun p => !(oldP all E0 H0.next es p))) :
    K ∧ StableAt X sm all E0 es P (heapS H0 all.length (fun _ => true) es) := by
  obtain ⟨h1, h2⟩ := stableA_mem h
  refine ⟨h1, fun p hp o e ho he hsk => ?_⟩
  cases hold : oldP all E0 H0.next es p with
  | false => exact h2 p (List.mem_filter.2 ⟨hp, by rw [hold]; rfl⟩) o e ho he hsk
  | true =>
    obtain ⟨o', e', hG⟩ := hg p (List.getElem?_eq_some_iff.1 he).1
    have ee : e' = e := by have := hG.ent; rw [he] at this; injection this with this; exact this.symm
    have eo : o' = o := by have := hG.op; rw [ho] at this; injection this with this; exact this.symm
    subst ee eo
    have hnb : e'.nb = none := by
      unfold okP at hokP
      rw [List.all_eq_true] at hokP
      have := hokP p hp
      rw [nthE_eq, he] at this
      simpa using this
    unfold oldP at hold
    rw [ho, nthE_eq, he] at hold
    simp only at hold
    split at hold
    · rename_i rs hrs
      rcases hG.does with ⟨j, want, ej, oj, d, g1, g2, g3, g4, g5, g6, g7, g8⟩ | ⟨_, hgrow⟩
      · exfalso
        unfold skipD at hsk
        rw [g1] at hsk
        simp only [nthE_eq, g3] at hsk
        rcases g6 with g6 | g6 <;> rw [g6] at hsk <;> cases want <;> simp at hsk
      · rw [hnb] at hgrow
        refine growA_cong hgrow hrs (fun b x hb hx => ?_)
        rw [List.all_eq_true] at hold
        have hb' : b < H0.next := by have := hold b hb; rwa [Nat.blt_eq] at this
        rw [heapS_get_old hb'] at hx ⊢
        exact hx
    · cases hold

/-- The values of the first ones name no block above. -/
theorem ent_under {es : List Ent} (hg : AllGood X sm all E0 H0 es) (hlen : es.length ≤ all.length) {k : Nat} {e : Ent} (he : es[k]? = some e) {N : Nat} (hN : H0.next + all.length ≤ N) : e.v.under N = true := by
  have hk : k < es.length := (List.getElem?_eq_some_iff.1 he).1
  obtain ⟨o, e', hgd⟩ := hg k hk
  have : e' = e := by have := hgd.ent; rw [he] at this; injection this with this; exact this.symm
  subst this
  rw [AVal.under_pB]
  refine (okVal_pB hgd.val (fun b hb => ?_)).1
  rw [allowed_iff] at hb
  rw [Nat.blt_eq]
  rcases hb with h | ⟨_, h | h⟩
  · omega
  · omega
  · have := hgd.lt _ h; omega

/-- The move of one that comes late. -/
theorem Inv2.move [Dfs] (hX : CtxRows X) (hF : FcOk X) {es : List Ent} (hg : AllGood X sm all E0 H0 es) (hok : okTmps all es all es 0 = true) (hE0 : ∀ t v, getE E0 t = some v → v.under H0.next = true) (hlen : es.length ≤ all.length)
    {n : Nat} {ρs : Rho} {Hs : AHeap} {ws : World} {R : Nat → Bool} {P : List Nat} {E : Env} {H : AHeap} {ρ : Rho} {a : Act} {w : World} (h : Inv2 X sm all E0 H0 es n ρs Hs ws R P E H ρ a w)
    {k : Nat} {o : Oper} {e : Ent} (hG : Good X sm all E0 H0 es k o e) (hk : R k = true) (hready : ∀ j ∈ e.pr, R j = false) (hdst : ∀ t, o.dst = some t → t < n)
    {next : Act → World → Prop} {QQ : Exit → Act → World → Prop} (hn : ∀ a' w', Inv2 X sm all E0 H0 es n ρs Hs ws (fun j => R j && !(Nat.beq j k)) P E H ρ a' w' → next a' w') :
    (Region.wanted o (yielded all.toArray a.tmps) = true ∧ o.wp X.P a w next QQ) ∨ (Region.wanted o (yielded all.toArray a.tmps) = false ∧ next (a.put o.dst undef) w) := by
  obtain ⟨hkP, hklt⟩ := h.inP k hk
  have htk : ∀ {j : Nat}, j < k → (es.take k)[j]? = es[j]? := fun {j} hj => by rw [List.getElem?_take, if_pos hj]
  have hother : ∀ {m : Nat} {om : Oper} {em : Ent}, all[m]? = some om → es[m]? = some em → m ≠ k → ∀ t, om.dst = some t → (t ∈ tmpsOf o.op.operands.toList → m ∈ e.pr ∨ k ∈ em.pr) ∧ o.dst ≠ some t := by
    intro m om em hm hem hne t ht
    have hp := okTmps_spec hok hG.op hG.ent hm hem hne
    simp only [okPair, ht, Bool.and_eq_true, Bool.or_eq_true, Bool.not_eq_true'] at hp
    refine ⟨fun hin => ?_, fun ho => ?_⟩
    · rcases hp.1 with (h1 | h1) | h1
      · rw [memS_iff.2 (mem_maskL.2 hin)] at h1; cases h1
      · exact .inl (memS_iff.1 h1)
      · exact .inr (memS_iff.1 h1)
    · rw [ho] at hp
      have := hp.2
      simp [Nat.beq_refl] at this
  have after : ∀ (u : Value) (w' : World), Step ρs Hs ws ρ H w' → u = tr ρ e.v → Inv2 X sm all E0 H0 es n ρs Hs ws (fun j => R j && !(Nat.beq j k)) P E H ρ (a.put o.dst u) w' := by
    intro u w' hst hu
    have hput : ∀ t, o.dst ≠ some t → (a.put o.dst u).tmps[t]? = a.tmps[t]? := fun t ht => by
      cases hd : o.dst with
      | none => rfl
      | some d =>
        have hdt : d ≠ t := fun e => ht (by rw [hd, e])
        simp only [Act.put]
        rw [Array.getElem?_setIfInBounds_ne hdt]
    have hput2 : ∀ t, o.dst = some t → (a.put o.dst u).tmps[t]? = some u := fun t ht => by
      have := hdst t ht
      rw [ht]
      simp only [Act.put]
      rw [Array.getElem?_setIfInBounds_self_of_lt (by rw [h.size]; exact this)]
    have hR : ∀ {j : Nat}, (R j && !(Nat.beq j k)) = false → j ≠ k → R j = false := fun {j} hj hne => by simpa [nat_beq_ne.2 hne] using hj
    refine ⟨hst, ⟨fun t v hv => ?_⟩, h.next, fun j hj => h.inP j (by simp at hj; exact hj.1), h.noE, fun m om em t hm hom hem ht => ?_, fun p op hp hop t htin v hv hno => ?_, fun m em hm hem j hj => ?_, fun p op ep hp hop hep => h.stable p op ep (by simp at hp; exact hp.1) hop hep, by rw [put_defers]; exact h.defers, by rw [put_size]; exact h.size⟩
    · have hne : o.dst ≠ some t := fun hd => by
        have := h.noE k hkP o t hG.op hd
        rw [hv] at this; cases this
      rw [hput t hne]
      exact h.rel.get t v hv
    · by_cases hmk : m = k
      · subst hmk
        rw [hG.op] at hom
        cases hom
        rw [hG.ent] at hem
        cases hem
        rw [hput2 t ht, hu]
      · rw [hput t (hother hom hem hmk t ht).2, h.tmps m om em t (hR hm hmk) hom hem ht]
    · have hno' : o.dst ≠ some t := hno k o e (by simp [Nat.beq_refl]) hG.op hG.ent
      rw [hput t hno', h.old p op (by simp at hp; exact hp.1) hop t htin v hv (fun m om em hm => hno m om em (by simp [hm]))]
    · by_cases hmk : m = k
      · subst hmk
        rw [hG.ent] at hem
        cases hem
        simp [hready j hj]
      · simp [h.closed m em (hR hm hmk) hem j hj]
  have hyield : ∀ {j : Nat} {ej : Ent} {oj : Oper} {d : Nat}, j ∈ e.pr → es[j]? = some ej → all[j]? = some oj → oj.dst = some d → yielded all.toArray a.tmps j = boolOf (tr ρ ej.v) := by
    intro j ej oj d hj hej hoj hd
    exact yielded_of (ops := all.toArray) (by simpa using hoj) hd (h.tmps j oj ej d (hready j hj) hoj hej hd)
  obtain ⟨hnb, hst⟩ := h.stable k o e hk hG.op hG.ent
  rcases hG.does with ⟨j, want, ej, oj, d, g1, g2, g3, g4, g5, g6, g7, g8⟩ | ⟨hw, hgrow⟩
  · refine .inr ⟨?_, hn _ _ (after undef w h.step (by rw [g7]; rfl))⟩
    have := hyield g2 g3 g4 g5
    unfold Region.wanted
    rw [g1]
    show (yielded all.toArray a.tmps j == some want) = false
    rw [this]
    rcases g6 with g6 | g6 <;> rw [g6] <;> simp [tr, boolOf]
  · have hwant : Region.wanted o (yielded all.toArray a.tmps) = true := by
      unfold Region.wanted
      rcases hw with hw | ⟨j, want, ej, oj, d, g1, g2, g3, g4, g5, g6⟩
      · rw [hw]
      · rw [g1]
        show (yielded all.toArray a.tmps j == some want) = true
        rw [hyield g2 g3 g4 g5, g6]
        simp [tr, boolOf]
    refine .inl ⟨hwant, ?_⟩
    have hE : RelE ρ H.next (envK E0 all (es.take k) e.pr (tmpsOf o.op.operands.toList)) a := by
      refine ⟨fun t v hv => ?_⟩
      obtain ⟨hin, hv⟩ := envK_get hv
      rcases hv with hv | ⟨hnone, hv⟩
      · obtain ⟨i, oi, ei, q1, q2, q3, q4, rfl⟩ := findT_some hv
        rw [Nat.zero_add] at q4
        have hik := hG.lt i q4
        rw [htk hik] at q2
        exact ⟨h.tmps i oi ei t (hready i q4) q1 q2 q3, ent_under hg hlen q2 h.next⟩
      · refine ⟨h.old k o hk hG.op t hin v hv (fun m om em hm hom hem hd => ?_), AVal.under_mono (Nat.le_trans (Nat.le_add_right _ _) h.next) v (hE0 t v hv)⟩
        have hmk : m ≠ k := by rintro rfl; rw [hk] at hm; cases hm
        rcases (hother hom hem hmk t hd).1 hin with h1 | h1
        · have hlt := hG.lt m h1
          have := findT_none hnone m om em hom (by rw [htk hlt]; exact hem) hd
          rw [Nat.zero_add] at this
          exact this h1
        · have := h.closed m em hm hem k h1
          rw [hk] at this; cases this
    have hR := h.step.rel
    have hsk : skipD es o = false := by
      unfold skipD
      rcases hw with hw | ⟨j, want, ej, oj, d, g1, g2, g3, g4, g5, g6⟩
      · rw [hw]
      · rw [g1]; simp only [nthE_eq, g3, g6]; cases want <;> rfl
    have hgrow := hst hsk
    have hout := growA_sound hX hF hgrow hE (fun b y hy => ⟨(hR.blk b y hy).2.1, (hR.blk b y hy).2.2.1, (hR.blk b y hy).2.2.2⟩)
    refine hout.wp (fun u w' hgr => ?_)
    obtain ⟨hu, hb⟩ := hgr
    exact hn _ _ (after u w' (h.step.trans (Step.grow h.step.rel hb)) hu)


/-- The tail, with some of the first ones still open. -/
theorem late_any [Dfs] (hX : CtxRows X) (hF : FcOk X) (hC : CallOk X cf) {es : List Ent} (hg : AllGood X sm all E0 H0 es) (hok : okTmps all es all es 0 = true) (hE0 : ∀ t v, getE E0 t = some v → v.under H0.next = true) (hlen : es.length ≤ all.length)
    {n : Nat} (hdst : ∀ (j : Nat) (o : Oper) (t : Nat), all[j]? = some o → o.dst = some t → t < n) {ρs : Rho} {Hs : AHeap} {ws : World} :
    ∀ (fuel : Nat) (rest : List Oper) (esi : List Ent) (P : List Nat) (R : Nat → Bool) (E : Env) (H : AHeap) (listed : Array Bool) (ρ : Rho) (a : Act) (w : World),
      wpLate X sm cf all E0 H0 es rest esi P E H Q → (∀ j, rest[j]? = all[esi.length + j]?) → okTailG es.length esi rest esi.length = true → (∀ x e, esi[x]? = some e → es[x]? = some e ∨ (es.length ≤ x ∧ ∀ j ∈ e.pr, j < x)) → es.length ≤ esi.length → esi.length ≤ all.length →
      (∀ x e, es.length ≤ x → esi[x]? = some e → ∀ j ∈ e.pr, R j = false) → listed.size = all.length → (∀ j, j < all.length → listed.getD j false = (Nat.blt j esi.length && !(R j))) →
      Inv2 X sm all E0 H0 es n ρs Hs ws R P E H ρ a w → ((List.range all.length).filter fun j => !listed.getD j true).length ≤ fuel → wpAny X.P .any all.toArray (Lift ρs Hs ws n Q) fuel listed a w := by
  intro fuel
  induction fuel with
  | zero =>
    intro rest esi P R E H listed ρ a w hwp hrest htg hesi hle hle2 hnew hsz hlist hI hcount
    have hall : ∀ j, j < all.length → listed.getD j false = true := fun j hj => by
      cases hv : listed.getD j false with
      | true => rfl
      | false =>
        exfalso
        have hkl : j < listed.size := by omega
        have hnil : ((List.range all.length).filter fun j => !listed.getD j true) = [] := List.eq_nil_of_length_eq_zero (by omega)
        have : j ∈ ((List.range all.length).filter fun j => !listed.getD j true) := by
          rw [List.mem_filter, List.mem_range]
          refine ⟨hj, ?_⟩
          simp [hkl] at hv ⊢
          exact hv
        rw [hnil] at this
        cases this
    have hm : esi.length = all.length := by
      rcases Nat.lt_or_ge esi.length all.length with h | h
      · have h1 := hlist _ h
        rw [hall _ h] at h1
        simp at h1
      · omega
    have hR : ∀ k, R k = false := fun k => by
      cases hk : R k with
      | false => rfl
      | true =>
        have h1 := (hI.inP k hk).2
        have h2 := hlist k (by omega)
        rw [hall k (by omega), hk] at h2
        simp at h2
    have hre : rest = [] := by
      cases rest with
      | nil => rfl
      | cons o r =>
        have := hrest 0
        rw [hm, List.getElem?_eq_none (l := all) (by omega)] at this
        simp at this
    subst hre
    refine ⟨?_, ⟨.normal, _, H, ρ, trivial, hwp, ⟨fun t v hv => ?_⟩, hI.defers, hI.size, hI.step⟩⟩
    · cases hr : Region.ready .any all.toArray listed with
      | nil => rfl
      | cons i r =>
        have hi : i ∈ Region.ready .any all.toArray listed := by rw [hr]; simp
        obtain ⟨hu, o, ho, _⟩ := mem_ready.1 hi
        have hil : i < all.length := by have := (Array.getElem?_eq_some_iff.1 ho).1; simpa using this
        have := hall i hil
        have hkl : i < listed.size := by omega
        simp [hkl] at hu this
        rw [hu] at this; cases this
    · rcases putP_get hv with ⟨p, o, e, h1, h2, h3, h4, rfl⟩ | hv
      · exact ⟨hI.tmps p o e t (hR p) h2 h3 h4, ent_under hg hlen h3 hI.next⟩
      · exact hI.rel.get t v hv
  | succ fuel ih =>
    intro rest esi P R E H listed ρ a w hwp hrest htg hesi hle hle2 hnew hsz hlist hI hcount
    have hlt : ∀ {j : Nat}, listed.getD j false = true → j < all.length := fun {j} h => by
      rcases Nat.lt_or_ge j all.length with h' | h'
      · exact h'
      · have : ¬ j < listed.size := by omega
        simp [this] at h
    have hlt2 : ∀ {j : Nat}, listed.getD j false = true → j < esi.length ∧ R j = false := fun {j} h => by
      have h1 := hlist j (hlt h)
      rw [h] at h1
      simpa using h1.symm
    -- the count goes down
    have hdown : ∀ i, i < all.length → listed.getD i true = false → ((List.range all.length).filter fun j => !(listed.setIfInBounds i true).getD j true).length ≤ fuel := by
      intro i hil hu
      have hlt : ((List.range all.length).filter fun j => !(listed.setIfInBounds i true).getD j true).length < ((List.range all.length).filter fun j => !listed.getD j true).length := by
        have e1 : ((List.range all.length).filter fun j => !(listed.setIfInBounds i true).getD j true) = ((List.range all.length).filter fun j => !listed.getD j true).filter (fun j => !(Nat.beq j i)) := by
          rw [List.filter_filter]
          apply List.filter_congr
          intro j hj
          by_cases hji : j = i
          · subst hji
            have hkl : j < listed.size := by omega
            simp [hkl, Nat.beq_refl]
          · simp [nat_beq_ne.2 hji, Array.getElem?_setIfInBounds, Ne.symm hji]
        rw [e1, List.length_filter_lt_length_iff_exists]
        exact ⟨i, by rw [List.mem_filter, List.mem_range]; exact ⟨hil, by simp [hu]⟩, by simp [Nat.beq_refl]⟩
      omega
    have hset : ∀ i, i < all.length → ∀ k, (listed.setIfInBounds i true).getD k false = (listed.getD k false || Nat.beq k i) := by
      intro i hil k
      by_cases hki : k = i
      · subst hki
        have hkl : k < listed.size := by omega
        simp [hkl, Nat.beq_refl]
      · simp [nat_beq_ne.2 hki, Array.getElem?_setIfInBounds, Ne.symm hki]
    -- none is ready: all is done
    have hready : ∀ {k : Nat} {o : Oper}, all[k]? = some o → listed.getD k true = false → (∀ ed ∈ o.after, Region.binds .any ed = true → listed.getD ed.on false = true) → k ∈ Region.ready .any all.toArray listed := fun {k o} ho hu hb => by
      rw [mem_ready]
      exact ⟨hu, o, by simpa using ho, hb⟩
    refine ⟨fun hr => ?_, fun i hi => ?_⟩
    · have hR : ∀ k, R k = false := by
        intro k
        induction k using Nat.strongRecOn with
        | _ k ihk =>
          cases hk : R k with
          | false => rfl
          | true =>
            exfalso
            obtain ⟨hkP, hkl⟩ := hI.inP k hk
            obtain ⟨o, e, hgd⟩ := hg k hkl
            have hks : k < listed.size := by omega
            have : k ∈ Region.ready .any all.toArray listed := by
              refine hready hgd.op ?_ (fun ed he hb => ?_)
              · have := hlist k (by omega)
                rw [hk] at this
                simp [hks] at this ⊢
                exact this
              · have hin : ed.on ∈ e.pr := by rw [hgd.pr]; exact predsL_on (by simpa using he) hb
                have hl := hgd.lt _ hin
                rw [hlist ed.on (by omega), ihk _ hl]
                simp; omega
            rw [hr] at this
            cases this
      have hre : rest = [] := by
        cases rest with
        | nil => rfl
        | cons o r =>
          exfalso
          have ho : all[esi.length]? = some o := by simpa using (hrest 0).symm
          have hil : esi.length < all.length := (List.getElem?_eq_some_iff.1 ho).1
          have hks : esi.length < listed.size := by omega
          simp only [okTailG, Bool.and_eq_true] at htg
          have hb2 := ltS_spec htg.1.2
          have : esi.length ∈ Region.ready .any all.toArray listed := by
            refine hready ho ?_ (fun ed he hb => ?_)
            · have : listed.getD esi.length false = false := by
                rw [hlist _ hil]
                have : Nat.blt esi.length esi.length = false := by rw [Bool.eq_false_iff, Ne, Nat.blt_eq]; omega
                rw [this]; rfl
              simp [hks] at this ⊢
              exact this
            · have hl : ed.on < esi.length := hb2 ed.on (predsL_on (by simpa using he) hb)
              rw [hlist ed.on (by omega), hR]
              simp; omega
          rw [hr] at this
          cases this
      subst hre
      refine ⟨.normal, _, H, ρ, trivial, hwp, ⟨fun t v hv => ?_⟩, hI.defers, hI.size, hI.step⟩
      rcases putP_get hv with ⟨p, o, e, h1, h2, h3, h4, rfl⟩ | hv
      · exact ⟨hI.tmps p o e t (hR p) h2 h3 h4, ent_under hg hlen h3 hI.next⟩
      · exact hI.rel.get t v hv
    · obtain ⟨hu, o, ho, hall⟩ := mem_ready.1 hi
      have hil : i < all.length := by have := (Array.getElem?_eq_some_iff.1 ho).1; simpa using this
      have hoo : all[i]? = some o := by simpa using ho
      have his : i < listed.size := by omega
      have hui : listed.getD i false = false := by
        simp [his] at hu ⊢
        exact hu
      have hpre : ∀ {esx : List Ent}, (∀ x e, esx[x]? = some e → es[x]? = some e ∨ (es.length ≤ x ∧ ((x < esi.length → esi[x]? = some e) ∧ ∀ j ∈ e.pr, j < x))) → ∀ j ∈ predsL esx o.after.toList, listed.getD j false = true → j < esi.length := fun _ j _ h => (hlt2 h).1
      unfold wpOp
      rw [ho]
      simp only
      by_cases hRi : R i = true
      · -- one that was open
        obtain ⟨hiP, hie⟩ := hI.inP i hRi
        obtain ⟨o', e, hgd⟩ := hg i hie
        have : o' = o := by have h1 := hgd.op; rw [hoo] at h1; injection h1 with h1; exact h1.symm
        subst this
        have hrd : ∀ j ∈ e.pr, R j = false := by
          intro j hj
          rw [hgd.pr] at hj
          obtain ⟨ed, he, hb, hcase⟩ := predsL_mem hj
          have hl := hlt2 (hall ed (by simpa using he) hb)
          rcases hcase with rfl | ⟨x, hx, hin⟩
          · exact hl.2
          · have hxe : es[ed.on]? = some x := by
              rw [List.getElem?_take] at hx
              split at hx
              · exact hx
              · cases hx
            exact hI.closed ed.on x hl.2 hxe j hin
        have hmv := Inv2.move hX hF hg hok hE0 hlen hI hgd hRi hrd (fun t ht => hdst i o' t hoo ht) (next := wpAny X.P .any all.toArray (Lift ρs Hs ws n Q) fuel (listed.setIfInBounds i true)) (QQ := Lift ρs Hs ws n Q) (fun a' w' hI' => by
          refine ih rest esi P _ E H _ ρ a' w' hwp hrest htg hesi hle hle2 (fun x e hx hxe j hj => by simp [hnew x e hx hxe j hj]) (by simpa using hsz) (fun j hj => ?_) hI' (hdown i hil hu)
          rw [hset i hil, hlist j hj]
          by_cases hji : j = i
          · subst hji
            have : Nat.blt j esi.length = true := by rw [Nat.blt_eq]; omega
            simp [Nat.beq_refl, this]
          · simp [nat_beq_ne.2 hji])
        rcases hmv with ⟨h1, h2⟩ | ⟨h1, h2⟩
        · rw [if_pos h1]; exact .inl h2
        · rw [if_neg (by rw [h1]; simp)]; exact h2
      · have hRi : R i = false := by simpa using hRi
        have him : esi.length ≤ i := by
          have := hlist i hil
          rw [hui, hRi] at this
          rcases Nat.lt_or_ge i esi.length with h | h
          · rw [show Nat.blt i esi.length = true from by rw [Nat.blt_eq]; exact h] at this; cases this
          · exact h
        have hie : i = esi.length := by
          by_cases hne : i = esi.length
          · exact hne
          · exfalso
            obtain ⟨o', esx, hT⟩ := okTailG_spec (all := all) (es := es) rest esi htg hrest hesi hle i him hil
            have hoo' : o' = o := by have h1 := hT.op; rw [hoo] at h1; injection h1 with h1; exact h1.symm
            subst hoo'
            obtain ⟨ed, he, hb, hcase⟩ := predsL_mem (hT.all esi.length hle (by omega))
            have hl := hlt2 (hall ed (by simpa using he) hb)
            rcases hcase with hcase | ⟨x, hx, hin⟩
            · omega
            · rcases hT.old _ _ hx with h | ⟨_, h⟩
              · obtain ⟨o2, e2, hgd⟩ := hg ed.on (List.getElem?_eq_some_iff.1 h).1
                have : e2 = x := by have := hgd.ent; rw [h] at this; injection this with this; exact this.symm
                subst this
                have := hgd.lt _ hin; omega
              · have := h _ hin; omega
        subst hie
        -- the next one of the tail
        cases rest with
        | nil =>
          have := hrest 0
          rw [Nat.add_zero, hoo] at this
          simp at this
        | cons o' rest =>
        have ho' : o' = o := by have h1 := hrest 0; rw [Nat.add_zero, hoo] at h1; simpa using h1
        subst ho'
        have hprR : ∀ j ∈ predsL esi o'.after.toList, R j = false := by
          intro j hj
          obtain ⟨ed, he, hb, hcase⟩ := predsL_mem hj
          have hl := hlt2 (hall ed (by simpa using he) hb)
          rcases hcase with rfl | ⟨x, hx, hin⟩
          · exact hl.2
          · rcases Nat.lt_or_ge ed.on es.length with h | h
            · rcases hesi _ _ hx with h' | ⟨h', _⟩
              · exact hI.closed ed.on x hl.2 h' j hin
              · omega
            · exact hnew ed.on x h hx j hin
        simp only [wpLate, forceN_eq, forceS_eq] at hwp
        split at hwp
        · exact (not_stuck hwp).elim
        rename_i hokl
        simp only [okLate, Bool.and_eq_true] at hokl
        obtain ⟨hnd, hop⟩ := hokl
        have hE1 : RelE ρ H.next (putP all es (P.filter fun j => memS j (predsL esi o'.after.toList)) E) a := by
          refine ⟨fun t v hv => ?_⟩
          rcases putP_get hv with ⟨p, op, ep, h1, h2, h3, h4, rfl⟩ | hv
          · rw [List.mem_filter] at h1
            exact ⟨hI.tmps p op ep t (hprR p (memS_iff.1 h1.2)) h2 h3 h4, ent_under hg hlen h3 hI.next⟩
          · exact hI.rel.get t v hv
        have hdo : ∀ t, o'.dst = some t → t < n := fun t ht => hdst _ o' t hoo ht
        -- what is behind it
        have cont : ∀ (wz : Option (List Nat)) (E' : Env) (H' : AHeap) (ρ' : Rho) (a' : Act) (w' : World), lateNext X sm all E0 H0 es o' (P.filter fun j => !(memS j (predsL esi o'.after.toList))) (fun E H => wpLate X sm cf all E0 H0 es rest (esi ++ [⟨.tup [], none, predsL esi o'.after.toList⟩]) (P.filter fun j => !(memS j (predsL esi o'.after.toList))) E H Q) wz E' H' → (∀ l, wz = some l → Keep l H H') →
            Step ρs Hs ws ρ' H' w' → RelE ρ' H'.next E' a' → a'.defers = Dfs.D → a'.tmps.size = n → Rho.agree H.next ρ ρ' → H.next ≤ H'.next → (∃ u, a'.tmps = (a.put o'.dst u).tmps) →
            wpAny X.P .any all.toArray (Lift ρs Hs ws n Q) fuel (listed.setIfInBounds esi.length true) a' w' := by
          intro wz E' H' ρ' a' w' hk hkp hS' hE' hd' hn' hag hnx ⟨u, htm⟩
          have hP1 : ∀ k, R k = true → k ∈ P.filter fun j => !(memS j (predsL esi o'.after.toList)) := fun k hk => by
            rw [List.mem_filter]
            refine ⟨(hI.inP k hk).1, ?_⟩
            cases hm : memS k (predsL esi o'.after.toList) with
            | false => rfl
            | true =>
              have := hprR k (memS_iff.1 hm)
              rw [hk] at this; cases this
          generalize hP1d : (P.filter fun j => !(memS j (predsL esi o'.after.toList))) = P1 at hk hP1 hop
          have hk' : noEnt all P1 E' = true ∧ (∀ p ∈ P1, ∀ q e, R p = true → all[p]? = some q → es[p]? = some e → skipD es q = false → growA X sm q (envK E0 all (es.take p) e.pr (tmpsOf q.op.operands.toList)) H' H'.next = some (true, e.v, none)) ∧ wpLate X sm cf all E0 H0 es rest (esi ++ [⟨.tup [], none, predsL esi o'.after.toList⟩]) P1 E' H' Q := by
            cases P1 with
            | nil => exact ⟨rfl, (fun p hp => by cases hp), hk⟩
            | cons p r =>
              simp only [lateNext] at hk
              split at hk
              · exact (not_stuck hk).elim
              · rename_i h1
                rw [forceN_eq] at hk
                obtain ⟨h3, h4⟩ := stableA_mem hk
                refine ⟨h1, fun p' hp' q e hR' hq he hsk => ?_, h3⟩
                cases hap : apartP all E0 es wz p' with
                | false => exact h4 p' (List.mem_filter.2 ⟨hp', by rw [hap]; rfl⟩) q e hq he hsk
                | true =>
                  unfold apartP at hap
                  rw [nthE_eq, hq, he] at hap
                  simp only at hap
                  split at hap
                  · rename_i rs hrs
                    refine growA_cong ((hI.stable p' q e hR' hq he).2 hsk) hrs (fun b x hb hx => ?_)
                    split at hap
                    · cases hb
                    · split at hap
                      · rename_i l
                        refine hkp l rfl b x hx ?_
                        unfold apartL at hap
                        rw [List.all_eq_true] at hap
                        simpa using hap b hb
                      · cases hap
                  · cases hap
          obtain ⟨hno, hsta, hwp'⟩ := hk'
          have hput : ∀ t, o'.dst ≠ some t → a'.tmps[t]? = a.tmps[t]? := fun t ht => by
            rw [htm]
            cases hd : o'.dst with
            | none => rfl
            | some d =>
              have hdt : d ≠ t := fun e => ht (by rw [hd, e])
              simp only [Act.put]
              rw [Array.getElem?_setIfInBounds_ne hdt]
          refine ih rest _ P1 R E' H' _ ρ' a' w' hwp' (fun j => by have := hrest (j + 1); simpa [Nat.add_assoc, Nat.add_comm 1 j] using this) ?_ (fun x e hx => ?_) (by simp; omega) (by simp; omega) (fun x e hx hxe j hj => ?_) (by simpa using hsz) (fun j hj => ?_) ?_ (hdown _ hil hu)
          · simp only [okTailG, Bool.and_eq_true] at htg
            simpa using htg.2
          · by_cases hxl : x < esi.length
            · rw [List.getElem?_append_left hxl] at hx
              exact hesi x e hx
            · rw [List.getElem?_append_right (by omega)] at hx
              have hx0 : x - esi.length = 0 := by
                by_cases h0 : x - esi.length = 0
                · exact h0
                · rw [List.getElem?_eq_none (by simp; omega)] at hx; cases hx
              rw [hx0] at hx
              simp only [List.getElem?_cons_zero, Option.some.injEq] at hx
              subst hx
              simp only [okTailG, Bool.and_eq_true] at htg
              have hb2 := ltS_spec htg.1.2
              exact .inr ⟨by omega, fun j hj => by have : j < esi.length := hb2 j hj
                                                   omega⟩
          · by_cases hxl : x < esi.length
            · rw [List.getElem?_append_left hxl] at hxe
              exact hnew x e hx hxe j hj
            · rw [List.getElem?_append_right (by omega)] at hxe
              have hx0 : x - esi.length = 0 := by
                by_cases h0 : x - esi.length = 0
                · exact h0
                · rw [List.getElem?_eq_none (by simp; omega)] at hxe; cases hxe
              rw [hx0] at hxe
              simp only [List.getElem?_cons_zero, Option.some.injEq] at hxe
              subst hxe
              exact hprR j hj
          · rw [hset _ hil, hlist j hj]
            by_cases hji : j = esi.length
            · subst hji
              have : Nat.blt esi.length (esi ++ [(⟨.tup [], none, predsL esi o'.after.toList⟩ : Ent)]).length = true := by rw [Nat.blt_eq]; simp
              rw [this, hRi]
              simp [Nat.beq_refl]
            · have : Nat.blt j (esi ++ [(⟨.tup [], none, predsL esi o'.after.toList⟩ : Ent)]).length = Nat.blt j esi.length := by
                rw [Bool.eq_iff_iff, Nat.blt_eq, Nat.blt_eq]
                simp; omega
              rw [this]
              simp [nat_beq_ne.2 hji]
          · have hvu : ∀ t v, getE E0 t = some v → tr ρ' v = tr ρ v := fun t v hv => tr_agree hag v (AVal.under_mono (Nat.le_trans (Nat.le_add_right _ _) hI.next) v (hE0 t v hv))
            refine ⟨hS', hE', Nat.le_trans hI.next hnx, fun k hk => ⟨hP1 k hk, (hI.inP k hk).2⟩, fun k hk q t hq ht => ?_, fun k q e t hk hq he ht => ?_, fun p q hp hq t htin v hv hno2 => ?_, hI.closed, fun p q e hp hq he => ⟨(hI.stable p q e hp hq he).1, fun hsk => hsta p (hP1 p hp) q e hp hq he hsk⟩, hd', hn'⟩
            · unfold noEnt at hno
              rw [List.all_eq_true] at hno
              have := hno k hk
              rw [hq] at this
              simp only [Option.bind_some, ht] at this
              simpa using this
            · rw [hput t (noDst_spec hnd k q e hq he t ht), hI.tmps k q e t hk hq he ht, tr_agree hag _ (ent_under hg hlen he hI.next)]
            · have hne : o'.dst ≠ some t := fun hd => by
                rw [List.all_eq_true] at hop
                have := hop p (hP1 p hp)
                rw [hq, hd] at this
                simp only [Bool.not_eq_true'] at this
                rw [memN_iff.2 htin] at this
                cases this
              rw [hput t hne, hI.old p q hp hq t htin v hv hno2, hvu t v hv]
        have yes : ∀ E1, RelE ρ H.next E1 a → stepA X sm cf o' E1 H (lateNext X sm all E0 H0 es o' (P.filter fun j => !(memS j (predsL esi o'.after.toList))) (fun E H => wpLate X sm cf all E0 H0 es rest (esi ++ [⟨.tup [], none, predsL esi o'.after.toList⟩]) (P.filter fun j => !(memS j (predsL esi o'.after.toList))) E H Q) (writesB X sm o' E1 H)) Q →
            o'.wp X.P a w (wpAny X.P .any all.toArray (Lift ρs Hs ws n Q) fuel (listed.setIfInBounds esi.length true)) (Lift ρs Hs ws n Q) := by
          intro E1 hE1 hs
          refine Oper.wp_put (stepA_sound hX hF hC (stepA_keep (fun b x hb => (hI.step.rel.blk b x hb).1) hs) hI.step hE1 hI.defers hI.size hdo (fun E' H' ρ' a' w' hk hS' hE' hd' hn' hag hnx htm => cont _ E' H' ρ' a' w' hk.1 hk.2 hS' hE' hd' hn' hag hnx htm))
        have no : ∀ E1, RelE ρ H.next E1 a → lateNext X sm all E0 H0 es o' (P.filter fun j => !(memS j (predsL esi o'.after.toList))) (fun E H => wpLate X sm cf all E0 H0 es rest (esi ++ [⟨.tup [], none, predsL esi o'.after.toList⟩]) (P.filter fun j => !(memS j (predsL esi o'.after.toList))) E H Q) (some []) (putE E1 o'.dst (.tup [])) H →
            wpAny X.P .any all.toArray (Lift ρs Hs ws n Q) fuel (listed.setIfInBounds esi.length true) (a.put o'.dst undef) w := by
          intro E1 hE1 hs
          have := hE1.put (v := .tup []) (dst := o'.dst) rfl (fun t ht => by rw [hI.size]; exact hdo t ht)
          exact cont _ _ H ρ _ w hs (fun l _ b x hb _ => hb) hI.step this (by rw [put_defers]; exact hI.defers) (by rw [put_size]; exact hI.size) (Rho.agree.refl _ _) (Nat.le_refl _) ⟨undef, rfl⟩
        split at hwp
        · rename_i hw
          rw [if_pos (wantA_yes (ops := all.toArray) hw a)]
          exact .inl (yes _ hE1 hwp)
        · rename_i hw
          rw [if_neg (by rw [wantA_no (ops := all.toArray) hw hE1]; simp)]
          exact no _ hE1 hwp
        · rename_i t b want hw
          obtain ⟨h1, h2⟩ := wantA_ask (ops := all.toArray) hw hE1
          rw [h1]
          split at hwp
          · rw [branch_iff] at hwp
            cases b with
            | true => rw [if_pos (show (true == true) = true from rfl)]; exact .inl (yes _ (hE1.over h2) (hwp.1 rfl))
            | false => rw [if_neg (by simp)]; exact no _ (hE1.over h2) (hwp.2 rfl)
          · rw [branch_iff] at hwp
            cases b with
            | true => rw [if_neg (by simp)]; exact no _ (hE1.over h2) (hwp.1 rfl)
            | false => rw [if_pos (show (false == false) = true from rfl)]; exact .inl (yes _ (hE1.over h2) (hwp.2 rfl))
        · exact (not_stuck hwp).elim

end

section
variable {X : Ctx} {sm : Bool} {cf : CallF} {all : List Oper} {E0 : Env} {H0 : AHeap} {Q : AExit → Env → AHeap → Prop}

theorem tail_any {es : List Ent} (ht : ∀ i, es.length ≤ i → i < all.length → ∃ o esi, TailAt all es i o esi) (hg : ∀ (x : Nat) (e : Ent), es[x]? = some e → ∀ j ∈ e.pr, j < x) {QQ : Exit → Act → World → Prop} :
    ∀ (fuel m : Nat) (listed : Array Bool) (a : Act) (w : World), es.length ≤ m → m ≤ all.length → listed.size = all.length → (∀ j, j < all.length → listed[j]? = some (decide (j < m))) → all.length - m ≤ fuel →
      wpOps X.P all.toArray QQ (List.range' m (all.length - m)) a w → wpAny X.P .any all.toArray QQ fuel listed a w := by
  intro fuel
  induction fuel with
  | zero =>
    intro m listed a w h1 h2 h3 h4 h5 h
    have hm : m = all.length := by omega
    subst hm
    refine ⟨?_, by simpa [wpOps] using h⟩
    cases hr : Region.ready .any all.toArray listed with
    | nil => rfl
    | cons i r =>
      have hi : i ∈ Region.ready .any all.toArray listed := by rw [hr]; simp
      obtain ⟨hu, o, ho, _⟩ := mem_ready.1 hi
      have hil : i < all.length := by have := (Array.getElem?_eq_some_iff.1 ho).1; simpa using this
      have := h4 i hil
      simp [this, hil] at hu
  | succ fuel ih =>
    intro m listed a w h1 h2 h3 h4 h5 h
    refine ⟨fun hr => ?_, fun i hi => ?_⟩
    · by_cases hm : m = all.length
      · subst hm; simpa [wpOps] using h
      · exfalso
        obtain ⟨o, esi, hT⟩ := ht m h1 (by omega)
        have : m ∈ Region.ready .any all.toArray listed := by
          rw [mem_ready]
          refine ⟨by simp [h4 m (by omega)], o, by simpa using hT.op, fun e he hb => ?_⟩
          have hon := hT.lt e.on (predsL_on (by simpa using he) hb)
          simp [h4 e.on (by omega), hon]
        rw [hr] at this
        cases this
    · obtain ⟨hu, o, ho, hall⟩ := mem_ready.1 hi
      have hil : i < all.length := by have := (Array.getElem?_eq_some_iff.1 ho).1; simpa using this
      have him : m ≤ i := by
        have := h4 i hil
        simp [this] at hu
        exact hu
      have hie : i = m := by
        by_cases hne : i = m
        · exact hne
        · exfalso
          obtain ⟨o', esi, hT⟩ := ht i (by omega) hil
          have hoo : o' = o := by
            have h1 := hT.op
            have h2 : all[i]? = some o := by simpa using ho
            rw [h1] at h2; injection h2
          subst hoo
          obtain ⟨ed, he, hb, hcase⟩ := predsL_mem (hT.all m (by omega))
          have hl := hall ed (by simpa using he) hb
          have hon := hT.lt ed.on (predsL_on he hb)
          have hon2 : ed.on < m := by
            have := h4 ed.on (by omega)
            simp [this] at hl
            exact hl
          rcases hcase with rfl | ⟨x, hx, hin⟩
          · omega
          · rcases hT.old _ _ hx with h | ⟨_, h⟩
            · have := hg _ _ h m hin; omega
            · have := h m hin; omega
      subst hie
      rw [show all.length - i = (all.length - (i + 1)) + 1 by omega, List.range'_succ, wpOps_cons] at h
      refine wpOp_mono (fun a w hk => ih (i + 1) _ a w (by omega) (by omega) (by simpa using h3) (fun j hj => ?_) (by omega) hk) h
      rw [Array.getElem?_setIfInBounds]
      by_cases hij : i = j
      · subst hij
        have hlt : i < listed.size := by omega
        simp [hlt]
      · rw [if_neg hij, h4 j hj]
        congr 1
        simp; omega

theorem draw_seq [Dfs] (hX : CtxRows X) (hF : FcOk X) (hC : CallOk X cf) {es : List Ent} {rest : List Oper} (hg : AllGood X sm all E0 H0 es) (hrest : ∀ j, rest[j]? = all[es.length + j]?) (hok1 : okTmps all es all es 0 = true) (hok2 : okTail es rest es.length = true) (hfin : wpSeq X sm cf all rest (putAll all es E0) (heapS H0 all.length (fun _ => true) es) Q)
    (hE0 : ∀ t v, getE E0 t = some v → v.under H0.next = true) (hH0 : ∀ b x, H0.get b = some x → b < H0.next ∧ x.under H0.next = true) {n : Nat} (hdst : ∀ (j : Nat) (o : Oper) (t : Nat), all[j]? = some o → o.dst = some t → t < n)
    {ρs : Rho} {Hs : AHeap} {ws : World} (hHs : Hs.next ≤ H0.next) :
    ∀ (fuel : Nat) (listed : Array Bool) (ρ : Rho) (a : Act) (w : World), listed.size = all.length → ((List.range all.length).filter fun j => !listed.getD j true).length ≤ fuel → (∀ k, listed.getD k false = true → k < es.length) →
      Inv all E0 H0 es n ρs Hs ws (fun k => listed.getD k false) ρ a w → wpAny X.P .any all.toArray (Lift ρs Hs ws n Q) fuel listed a w := by
  have hlen : es.length ≤ all.length := by
    rcases Nat.lt_or_ge all.length es.length with h | h
    · exfalso
      obtain ⟨o, e, hgd⟩ := hg all.length h
      have := hgd.op
      rw [List.getElem?_eq_none (Nat.le_refl _)] at this
      cases this
    · exact h
  have hlte : ∀ (x : Nat) (e : Ent), es[x]? = some e → ∀ j ∈ e.pr, j < x := fun x e he j hj => by
    obtain ⟨o, e', hgd⟩ := hg x (List.getElem?_eq_some_iff.1 he).1
    have : e' = e := by have := hgd.ent; rw [he] at this; injection this with this; exact this.symm
    subst this
    exact hgd.lt j hj
  have hT := okTail_spec (all := all) (es := es) rest es hok2 hrest (fun x e h => .inl h) (Nat.le_refl _)
  have hrl : rest.length = all.length - es.length := by
    rcases Nat.lt_or_ge rest.length (all.length - es.length) with h | h
    · have := hrest rest.length
      rw [List.getElem?_eq_none (Nat.le_refl _), List.getElem?_eq_getElem (by omega)] at this
      cases this
    · rcases Nat.lt_or_ge (all.length - es.length) rest.length with h2 | h2
      · have := hrest (all.length - es.length)
        rw [List.getElem?_eq_getElem h2, List.getElem?_eq_none (by omega)] at this
        cases this
      · omega
  -- when all that grows is done
  have stage2 : ∀ (fuel : Nat) (listed : Array Bool) (ρ : Rho) (a : Act) (w : World), listed.size = all.length → (∀ k, listed.getD k false = true → k < es.length) → (∀ k, k < es.length → listed.getD k false = true) → ((List.range all.length).filter fun j => !listed.getD j true).length ≤ fuel →
      Inv all E0 H0 es n ρs Hs ws (fun k => listed.getD k false) ρ a w → wpAny X.P .any all.toArray (Lift ρs Hs ws n Q) fuel listed a w := by
    intro fuel listed ρ a w hsz hL hAll hcount hI
    have hget : ∀ j, j < all.length → listed[j]? = some (decide (j < es.length)) := fun j hj => by
      have hjl : j < listed.size := by omega
      rw [Array.getElem?_eq_getElem hjl]
      congr 1
      by_cases hje : j < es.length
      · have := hAll j hje
        simp [hjl] at this
        simp [hje, this]
      · cases hv : listed[j] with
        | false => simp [hje]
        | true =>
          have := hL j (by simp [hjl, hv])
          omega
    refine tail_any hT hlte fuel es.length listed a w (Nat.le_refl _) hlen hsz hget ?_ ?_
    · refine Nat.le_trans ?_ hcount
      have : (List.range' es.length (all.length - es.length)).Sublist ((List.range all.length).filter fun j => !listed.getD j true) := by
        have e1 : List.range all.length = List.range' 0 es.length ++ List.range' es.length (all.length - es.length) := by
          have h := List.range'_append (s := 0) (m := es.length) (n := all.length - es.length) (step := 1)
          rw [show es.length + (all.length - es.length) = all.length by omega] at h
          rw [List.range_eq_range', ← h]
          simp
        rw [e1, List.filter_append]
        have e2 : (List.range' es.length (all.length - es.length)).filter (fun j => !listed.getD j true) = List.range' es.length (all.length - es.length) := by
          rw [List.filter_eq_self]
          intro j hj
          simp only [List.mem_range'_1] at hj
          have := hget j (by omega)
          have hjl : j < listed.size := by omega
          rw [Array.getElem?_eq_getElem hjl] at this
          simp only [Option.some.injEq] at this
          simp [hjl, this]
          omega
        rw [e2]
        exact List.sublist_append_right _ _
      have := this.length_le
      simpa using this
    · rw [← hrl]
      have hheap : ∀ b, (heapS H0 all.length (fun _ => true) es).get b = (heapS H0 all.length (fun k => listed.getD k false) es).get b := by
        intro b
        have : ∀ (es' : List Ent) (m : Nat), m + es'.length ≤ es.length → blkS H0.next (fun _ => true) es' m = blkS H0.next (fun k => listed.getD k false) es' m := by
          intro es'
          induction es' with
          | nil => intro m _; rfl
          | cons e' es' ih =>
            intro m hm
            have ih' := ih (m + 1) (by simp at hm; omega)
            have hm1 := hAll m (by simp at hm; omega)
            simp only [blkS, ih', hm1]
        show getB (blkS _ _ _ _ ++ _) _ = getB (blkS _ _ _ _ ++ _) _
        rw [this es 0 (by omega)]
      refine wpSeq_sound hX hF hC (ops := all.toArray) (by simpa using hdst) rest es.length (by simpa using hrest) (putAll all es E0) (heapS H0 all.length (fun _ => true) es) ρ a w (by simpa using hfin) (hI.step.ext rfl hheap) ⟨fun t v hv => ?_⟩ hI.defers hI.size
      rcases putAll_get hv with ⟨i, o, e, h1, h2, h3, rfl⟩ | ⟨h1, h2⟩
      · have hil : i < es.length := (List.getElem?_eq_some_iff.1 h2).1
        refine ⟨hI.tmps i o e t (hAll i hil) h1 h2 h3, ?_⟩
        obtain ⟨o', e', hgd⟩ := hg i hil
        have : e' = e := by have := hgd.ent; rw [h2] at this; injection this with this; exact this.symm
        subst this
        rw [AVal.under_pB]
        refine (okVal_pB hgd.val (fun b hb => ?_)).1
        rw [allowed_iff] at hb
        show Nat.blt b (H0.next + all.length) = true
        rw [Nat.blt_eq]
        rcases hb with h | ⟨_, h | h⟩
        · omega
        · omega
        · have := hgd.lt _ h; omega
      · exact ⟨hI.old t v h1 (fun k o e hk ho he => h2 k o e ho he), AVal.under_mono (Nat.le_add_right _ _) v (hE0 t v h1)⟩
  intro fuel
  induction fuel with
  | zero =>
    intro listed ρ a w hsz hcount hL hI
    refine stage2 0 listed ρ a w hsz hL (fun k hk => ?_) hcount hI
    cases hv : listed.getD k false with
    | true => rfl
    | false =>
      exfalso
      have hkl : k < listed.size := by omega
      have hnil : ((List.range all.length).filter fun j => !listed.getD j true) = [] := List.eq_nil_of_length_eq_zero (by omega)
      have : k ∈ ((List.range all.length).filter fun j => !listed.getD j true) := by
        rw [List.mem_filter, List.mem_range]
        refine ⟨by omega, ?_⟩
        simp [hkl] at hv ⊢
        exact hv
      rw [hnil] at this
      cases this
  | succ fuel ih =>
    intro listed ρ a w hsz hcount hL hI
    by_cases hAll : ∀ k, k < es.length → listed.getD k false = true
    · exact stage2 (fuel + 1) listed ρ a w hsz hL hAll hcount hI
    · refine ⟨fun hr => ?_, fun i hi => ?_⟩
      · exfalso
        -- the least one that is not listed is ready
        apply hAll
        intro k
        induction k using Nat.strongRecOn with
        | _ k ihk =>
          intro hk
          cases hv : listed.getD k false with
          | true => rfl
          | false =>
            exfalso
            obtain ⟨o, e, hgd⟩ := hg k hk
            have hkl : k < listed.size := by omega
            have : k ∈ Region.ready .any all.toArray listed := by
              rw [mem_ready]
              refine ⟨by simp [hkl] at hv ⊢; exact hv, o, by simpa using hgd.op, fun ed he hb => ?_⟩
              have hin : ed.on ∈ e.pr := by rw [hgd.pr]; exact predsL_on (by simpa using he) hb
              have := hgd.lt _ hin
              exact ihk ed.on this (by omega)
            rw [hr] at this
            cases this
      · obtain ⟨hu, o, ho, hall⟩ := mem_ready.1 hi
        have hil : i < all.length := by have := (Array.getElem?_eq_some_iff.1 ho).1; simpa using this
        have hoo : all[i]? = some o := by simpa using ho
        have hui : listed.getD i false = false := by
          have hkl : i < listed.size := by omega
          simp [hkl] at hu ⊢
          exact hu
        have hie : i < es.length := by
          rcases Nat.lt_or_ge i es.length with h | h
          · exact h
          · exfalso
            obtain ⟨o', esi, hTi⟩ := hT i h hil
            have : o' = o := by have h1 := hTi.op; rw [hoo] at h1; injection h1 with h1; exact h1.symm
            subst this
            apply hAll
            intro k hk
            obtain ⟨ed, he, hb, hcase⟩ := predsL_mem (hTi.all k (by omega))
            have hl := hall ed (by simpa using he) hb
            rcases hcase with rfl | ⟨x, hx, hin⟩
            · exact hl
            · have hxe : es[ed.on]? = some x := by
                have hlt := hL ed.on hl
                rcases hTi.old _ _ hx with h' | ⟨h', _⟩
                · exact h'
                · omega
              exact hI.closed ed.on x hl hxe k hin
        obtain ⟨o', e, hgd⟩ := hg i hie
        have : o' = o := by have h1 := hgd.op; rw [hoo] at h1; injection h1 with h1; exact h1.symm
        subst this
        have hready : ∀ j ∈ e.pr, listed.getD j false = true := by
          intro j hj
          rw [hgd.pr] at hj
          obtain ⟨ed, he, hb, hcase⟩ := predsL_mem hj
          have hl := hall ed (by simpa using he) hb
          rcases hcase with rfl | ⟨x, hx, hin⟩
          · exact hl
          · have hxe : es[ed.on]? = some x := by
              rw [List.getElem?_take] at hx
              split at hx
              · exact hx
              · cases hx
            exact hI.closed ed.on x hl hxe j hin
        have hset : ∀ k, (listed.setIfInBounds i true).getD k false = (listed.getD k false || Nat.beq k i) := by
          intro k
          by_cases hki : k = i
          · subst hki
            have hkl : k < listed.size := by omega
            simp [hkl, Nat.beq_refl]
          · simp [nat_beq_ne.2 hki, Array.getElem?_setIfInBounds, Ne.symm hki]
        have hmv := Inv.move hX hF hg hok1 hE0 hH0 hlen hHs hI hL hgd hui hready (fun t ht => hdst i o' t hoo ht) (next := wpAny X.P .any all.toArray (Lift ρs Hs ws n Q) fuel (listed.setIfInBounds i true)) (QQ := Lift ρs Hs ws n Q) (fun ρ' a' w' hI' => by
          refine ih (listed.setIfInBounds i true) ρ' a' w' (by simpa using hsz) ?_ (fun k hk => ?_) (by
            have : (fun k => (listed.setIfInBounds i true).getD k false) = (fun j => listed.getD j false || Nat.beq j i) := funext hset
            rw [this]; exact hI')
          · have hlt : ((List.range all.length).filter fun j => !(listed.setIfInBounds i true).getD j true).length < ((List.range all.length).filter fun j => !listed.getD j true).length := by
              have e1 : ((List.range all.length).filter fun j => !(listed.setIfInBounds i true).getD j true) = ((List.range all.length).filter fun j => !listed.getD j true).filter (fun j => !(Nat.beq j i)) := by
                rw [List.filter_filter]
                apply List.filter_congr
                intro j hj
                by_cases hji : j = i
                · subst hji
                  have hkl : j < listed.size := by omega
                  simp [hkl, Nat.beq_refl]
                · simp [nat_beq_ne.2 hji, Array.getElem?_setIfInBounds, Ne.symm hji]
              rw [e1, List.length_filter_lt_length_iff_exists]
              exact ⟨i, by rw [List.mem_filter, List.mem_range]; exact ⟨hil, by simp [hu]⟩, by simp [Nat.beq_refl]⟩
            omega
          · rw [hset, Bool.or_eq_true] at hk
            rcases hk with hk | hk
            · exact hL k hk
            · have := nat_beq_eq.1 hk; omega)
        unfold wpOp
        rw [ho]
        simp only
        rcases hmv with ⟨h1, h2⟩ | ⟨h1, h2⟩
        · rw [if_pos h1]; exact .inl h2
        · rw [if_neg (by rw [h1]; simp)]; exact h2

theorem draw_late [Dfs] (hX : CtxRows X) (hF : FcOk X) (hC : CallOk X cf) {es : List Ent} {rest : List Oper} (hg : AllGood X sm all E0 H0 es) (hrest : ∀ j, rest[j]? = all[es.length + j]?) (hok1 : okTmps all es all es 0 = true) {P : List Nat} (hokP : okP es P = true) (htg : okTailG es.length es rest es.length = true) (hms : okMiss es.length P es rest = true) (hsta : StableAt X sm all E0 es P (heapS H0 all.length (fun _ => true) es)) (hfin : wpLate X sm cf all E0 H0 es rest es P (dropP all P (putAll all es E0)) (heapS H0 all.length (fun _ => true) es) Q)
    (hE0 : ∀ t v, getE E0 t = some v → v.under H0.next = true) (hH0 : ∀ b x, H0.get b = some x → b < H0.next ∧ x.under H0.next = true) {n : Nat} (hdst : ∀ (j : Nat) (o : Oper) (t : Nat), all[j]? = some o → o.dst = some t → t < n)
    {ρs : Rho} {Hs : AHeap} {ws : World} (hHs : Hs.next ≤ H0.next) :
    ∀ (fuel : Nat) (listed : Array Bool) (ρ : Rho) (a : Act) (w : World), listed.size = all.length → ((List.range all.length).filter fun j => !listed.getD j true).length ≤ fuel → (∀ k, listed.getD k false = true → k < es.length) →
      Inv all E0 H0 es n ρs Hs ws (fun k => listed.getD k false) ρ a w → wpAny X.P .any all.toArray (Lift ρs Hs ws n Q) fuel listed a w := by
  have hlen : es.length ≤ all.length := by
    rcases Nat.lt_or_ge all.length es.length with h | h
    · exfalso
      obtain ⟨o, e, hgd⟩ := hg all.length h
      have := hgd.op
      rw [List.getElem?_eq_none (Nat.le_refl _)] at this
      cases this
    · exact h
  have hlte : ∀ (x : Nat) (e : Ent), es[x]? = some e → ∀ j ∈ e.pr, j < x := fun x e he j hj => by
    obtain ⟨o, e', hgd⟩ := hg x (List.getElem?_eq_some_iff.1 he).1
    have : e' = e := by have := hgd.ent; rw [he] at this; injection this with this; exact this.symm
    subst this
    exact hgd.lt j hj
  have hT := okMiss_spec (all := all) (es := es) (P := P) rest es hms hrest (fun x e h => .inl h) (Nat.le_refl _)
  have hnbP : ∀ k ∈ P, ∀ e, es[k]? = some e → e.nb = none := fun k hk e he => by
    unfold okP at hokP
    rw [List.all_eq_true] at hokP
    have := hokP k hk
    rw [nthE_eq, he] at this
    simpa using this
  have stage2 : ∀ (fuel : Nat) (listed : Array Bool) (ρ : Rho) (a : Act) (w : World), listed.size = all.length → (∀ k, listed.getD k false = true → k < es.length) → (∀ k, k < es.length → k ∉ P → listed.getD k false = true) → ((List.range all.length).filter fun j => !listed.getD j true).length ≤ fuel →
      Inv all E0 H0 es n ρs Hs ws (fun k => listed.getD k false) ρ a w → wpAny X.P .any all.toArray (Lift ρs Hs ws n Q) fuel listed a w := by
    intro fuel listed ρ a w hsz hL hAll hcount hI
    have hheap : ∀ b, (heapS H0 all.length (fun _ => true) es).get b = (heapS H0 all.length (fun k => listed.getD k false) es).get b := by
      intro b
      have : ∀ (es' : List Ent) (m : Nat), (∀ i ei, es'[i]? = some ei → es[m + i]? = some ei) → blkS H0.next (fun _ => true) es' m = blkS H0.next (fun k => listed.getD k false) es' m := by
        intro es'
        induction es' with
        | nil => intro m _; rfl
        | cons e' es' ih =>
          intro m hm
          have ih' := ih (m + 1) (fun i ei hi => by have := hm (i + 1) ei (by simpa using hi); rw [show m + 1 + i = m + (i + 1) by omega]; exact this)
          have h0 := hm 0 e' (by simp)
          rw [Nat.add_zero] at h0
          have hml : m < es.length := (List.getElem?_eq_some_iff.1 h0).1
          simp only [blkS, ih']
          by_cases hmP : m ∈ P
          · rw [hnbP m hmP e' h0]
          · have hm1 := hAll m hml hmP
            simp only [hm1]
      show getB (blkS _ _ _ _ ++ _) _ = getB (blkS _ _ _ _ ++ _) _
      rw [this es 0 (fun i ei hi => by rw [Nat.zero_add]; exact hi)]
    have hRspec : ∀ k, (Nat.blt k es.length && !(listed.getD k false)) = false → k < es.length → listed.getD k false = true := fun k hk hl => by
      have : Nat.blt k es.length = true := by rw [Nat.blt_eq]; exact hl
      rw [this] at hk
      simpa using hk
    refine late_any hX hF hC hg hok1 hE0 hlen hdst fuel rest es P (fun k => Nat.blt k es.length && !(listed.getD k false)) _ _ listed ρ a w hfin hrest htg (fun x e h => .inl h) (Nat.le_refl _) hlen (fun x e hx hxe => ?_) hsz (fun j hj => ?_) ?_ hcount
    · rw [List.getElem?_eq_none (by omega)] at hxe; cases hxe
    · cases hv : listed.getD j false with
      | true =>
        have : Nat.blt j es.length = true := by rw [Nat.blt_eq]; exact hL j hv
        simp [this]
      | false => cases Nat.blt j es.length <;> rfl
    · refine ⟨hI.step.ext rfl hheap, ⟨fun t v hv => ?_⟩, Nat.le_refl _, fun k hk => ?_, fun k hk o t ho ht => ?_, fun k o e t hk ho he ht => ?_, fun p o hp ho t htin v hv hno => ?_, fun k e hk he j hj => ?_, fun p o e hp ho he => ?_, hI.defers, hI.size⟩
      · obtain ⟨hv, hnP⟩ := dropP_get hv
        rcases putAll_get hv with ⟨i, o, e, h1, h2, h3, rfl⟩ | ⟨h1, h2⟩
        · have hil : i < es.length := (List.getElem?_eq_some_iff.1 h2).1
          have hiP : i ∉ P := fun hiP => hnP i hiP o h1 h3
          exact ⟨hI.tmps i o e t (hAll i hil hiP) h1 h2 h3, ent_under hg hlen h2 (Nat.le_refl _)⟩
        · exact ⟨hI.old t v h1 (fun k o e hk ho he => h2 k o e ho he), AVal.under_mono (Nat.le_add_right _ _) v (hE0 t v h1)⟩
      · simp only [Bool.and_eq_true, Bool.not_eq_true', Nat.blt_eq] at hk
        refine ⟨?_, hk.1⟩
        by_cases hkP : k ∈ P
        · exact hkP
        · have := hAll k hk.1 hkP
          rw [hk.2] at this; cases this
      · cases hq : getE (dropP all P (putAll all es E0)) t with
        | none => rfl
        | some v => exact absurd ht ((dropP_get hq).2 k hk o ho)
      · exact hI.tmps k o e t (hRspec k hk (List.getElem?_eq_some_iff.1 he).1) ho he ht
      · exact hI.old t v hv (fun k o' e' hk ho' he' => hno k o' e' (by simp at hk; simp [hk]) ho' he')
      · have hkl := (List.getElem?_eq_some_iff.1 he).1
        have := hI.closed k e (hRspec k hk hkl) he j hj
        simp at this
        simp [this]
      · have hpP : p ∈ P := by
          simp only [Bool.and_eq_true, Bool.not_eq_true', Nat.blt_eq] at hp
          by_cases hkP : p ∈ P
          · exact hkP
          · have := hAll p hp.1 hkP
            rw [hp.2] at this; cases this
        exact ⟨hnbP p hpP e he, fun hsk => hsta p hpP o e ho he hsk⟩
  intro fuel
  induction fuel with
  | zero =>
    intro listed ρ a w hsz hcount hL hI
    refine stage2 0 listed ρ a w hsz hL (fun k hk _ => ?_) hcount hI
    cases hv : listed.getD k false with
    | true => rfl
    | false =>
      exfalso
      have hkl : k < listed.size := by omega
      have hnil : ((List.range all.length).filter fun j => !listed.getD j true) = [] := List.eq_nil_of_length_eq_zero (by omega)
      have : k ∈ ((List.range all.length).filter fun j => !listed.getD j true) := by
        rw [List.mem_filter, List.mem_range]
        refine ⟨by omega, ?_⟩
        simp [hkl] at hv ⊢
        exact hv
      rw [hnil] at this
      cases this
  | succ fuel ih =>
    intro listed ρ a w hsz hcount hL hI
    by_cases hAll : ∀ k, k < es.length → k ∉ P → listed.getD k false = true
    · exact stage2 (fuel + 1) listed ρ a w hsz hL hAll hcount hI
    · refine ⟨fun hr => ?_, fun i hi => ?_⟩
      · exfalso
        -- the least one that is not listed is ready
        apply hAll
        intro k hk0 hnp
        clear hnp
        revert hk0
        induction k using Nat.strongRecOn with
        | _ k ihk =>
          intro hk
          cases hv : listed.getD k false with
          | true => rfl
          | false =>
            exfalso
            obtain ⟨o, e, hgd⟩ := hg k hk
            have hkl : k < listed.size := by omega
            have : k ∈ Region.ready .any all.toArray listed := by
              rw [mem_ready]
              refine ⟨by simp [hkl] at hv ⊢; exact hv, o, by simpa using hgd.op, fun ed he hb => ?_⟩
              have hin : ed.on ∈ e.pr := by rw [hgd.pr]; exact predsL_on (by simpa using he) hb
              have := hgd.lt _ hin
              exact ihk ed.on this (by omega)
            rw [hr] at this
            cases this
      · obtain ⟨hu, o, ho, hall⟩ := mem_ready.1 hi
        have hil : i < all.length := by have := (Array.getElem?_eq_some_iff.1 ho).1; simpa using this
        have hoo : all[i]? = some o := by simpa using ho
        have hui : listed.getD i false = false := by
          have hkl : i < listed.size := by omega
          simp [hkl] at hu ⊢
          exact hu
        have hie : i < es.length := by
          rcases Nat.lt_or_ge i es.length with h | h
          · exact h
          · exfalso
            obtain ⟨o', esi, hTop, hTall, hTold⟩ := hT i h hil
            have : o' = o := by rw [hoo] at hTop; injection hTop with h1; exact h1.symm
            subst this
            apply hAll
            intro k hk hkP
            obtain ⟨ed, he, hb, hcase⟩ := predsL_mem (hTall k hk hkP)
            have hl := hall ed (by simpa using he) hb
            rcases hcase with rfl | ⟨x, hx, hin⟩
            · exact hl
            · have hxe : es[ed.on]? = some x := by
                have hlt := hL ed.on hl
                rcases hTold _ _ hx with h' | h'
                · exact h'
                · omega
              exact hI.closed ed.on x hl hxe k hin
        obtain ⟨o', e, hgd⟩ := hg i hie
        have : o' = o := by have h1 := hgd.op; rw [hoo] at h1; injection h1 with h1; exact h1.symm
        subst this
        have hready : ∀ j ∈ e.pr, listed.getD j false = true := by
          intro j hj
          rw [hgd.pr] at hj
          obtain ⟨ed, he, hb, hcase⟩ := predsL_mem hj
          have hl := hall ed (by simpa using he) hb
          rcases hcase with rfl | ⟨x, hx, hin⟩
          · exact hl
          · have hxe : es[ed.on]? = some x := by
              rw [List.getElem?_take] at hx
              split at hx
              · exact hx
              · cases hx
            exact hI.closed ed.on x hl hxe j hin
        have hset : ∀ k, (listed.setIfInBounds i true).getD k false = (listed.getD k false || Nat.beq k i) := by
          intro k
          by_cases hki : k = i
          · subst hki
            have hkl : k < listed.size := by omega
            simp [hkl, Nat.beq_refl]
          · simp [nat_beq_ne.2 hki, Array.getElem?_setIfInBounds, Ne.symm hki]
        have hmv := Inv.move hX hF hg hok1 hE0 hH0 hlen hHs hI hL hgd hui hready (fun t ht => hdst i o' t hoo ht) (next := wpAny X.P .any all.toArray (Lift ρs Hs ws n Q) fuel (listed.setIfInBounds i true)) (QQ := Lift ρs Hs ws n Q) (fun ρ' a' w' hI' => by
          refine ih (listed.setIfInBounds i true) ρ' a' w' (by simpa using hsz) ?_ (fun k hk => ?_) (by
            have : (fun k => (listed.setIfInBounds i true).getD k false) = (fun j => listed.getD j false || Nat.beq j i) := funext hset
            rw [this]; exact hI')
          · have hlt : ((List.range all.length).filter fun j => !(listed.setIfInBounds i true).getD j true).length < ((List.range all.length).filter fun j => !listed.getD j true).length := by
              have e1 : ((List.range all.length).filter fun j => !(listed.setIfInBounds i true).getD j true) = ((List.range all.length).filter fun j => !listed.getD j true).filter (fun j => !(Nat.beq j i)) := by
                rw [List.filter_filter]
                apply List.filter_congr
                intro j hj
                by_cases hji : j = i
                · subst hji
                  have hkl : j < listed.size := by omega
                  simp [hkl, Nat.beq_refl]
                · simp [nat_beq_ne.2 hji, Array.getElem?_setIfInBounds, Ne.symm hji]
              rw [e1, List.length_filter_lt_length_iff_exists]
              exact ⟨i, by rw [List.mem_filter, List.mem_range]; exact ⟨hil, by simp [hu]⟩, by simp [Nat.beq_refl]⟩
            omega
          · rw [hset, Bool.or_eq_true] at hk
            rcases hk with hk | hk
            · exact hL k hk
            · have := nat_beq_eq.1 hk; omega)
        unfold wpOp
        rw [ho]
        simp only
        rcases hmv with ⟨h1, h2⟩ | ⟨h1, h2⟩
        · rw [if_pos h1]; exact .inl h2
        · rw [if_neg (by rw [h1]; simp)]; exact h2

theorem draw_any [Dfs] (hX : CtxRows X) (hF : FcOk X) (hC : CallOk X cf) {es : List Ent} {rest : List Oper} (hg : AllGood X sm all E0 H0 es) (hrest : ∀ j, rest[j]? = all[es.length + j]?) (hfin : finishD X sm cf all E0 H0 es rest Q)
    (hE0 : ∀ t v, getE E0 t = some v → v.under H0.next = true) (hH0 : ∀ b x, H0.get b = some x → b < H0.next ∧ x.under H0.next = true) {n : Nat} (hdst : ∀ (j : Nat) (o : Oper) (t : Nat), all[j]? = some o → o.dst = some t → t < n)
    {ρs : Rho} {Hs : AHeap} {ws : World} (hHs : Hs.next ≤ H0.next) :
    ∀ (fuel : Nat) (listed : Array Bool) (ρ : Rho) (a : Act) (w : World), listed.size = all.length → ((List.range all.length).filter fun j => !listed.getD j true).length ≤ fuel → (∀ k, listed.getD k false = true → k < es.length) →
      Inv all E0 H0 es n ρs Hs ws (fun k => listed.getD k false) ρ a w → wpAny X.P .any all.toArray (Lift ρs Hs ws n Q) fuel listed a w := by
  unfold finishD at hfin
  split at hfin
  · exact (not_stuck hfin).elim
  rename_i hok1
  obtain ⟨P, hfin⟩ := lateK_ex _ _ _ _ _ hfin
  cases P with
  | nil =>
    simp only at hfin
    split at hfin
    · rename_i hok2
      simp only [forceH_eq, forceV_eq] at hfin
      exact draw_seq hX hF hC hg hrest hok1 hok2 hfin hE0 hH0 hdst hHs
    · exact (not_stuck hfin).elim
  | cons p r =>
    simp only at hfin
    split at hfin
    · rename_i hh
      simp only [Bool.and_eq_true] at hh
      simp only [forceN_eq, forceH_eq, forceV_eq] at hfin
      obtain ⟨hf1, hf2⟩ := stable_old hg hh.1.1 hfin
      exact draw_late hX hF hC hg hrest hok1 hh.1.1 hh.1.2 hh.2 hf2 hf1 hE0 hH0 hdst hHs
    · exact (not_stuck hfin).elim

end

end Go.Proofs.Ytcgnoegejmhgmaa.Ev

/-
  Ev: regions of open order in another order of their text.
-/
namespace Go.Proofs.Ytcgnoegejmhgmaa.Ev
set_option linter.unusedVariables false
set_option linter.unusedSimpArgs false
open Go.RowKit

def idxN (i : Nat) : List Nat → Nat → Option Nat
  | [], _ => none
  | x :: r, k => match Nat.beq x i with
    | true => some k
    | false => idxN i r (k + 1)

/-- The new place of an old one. -/
def sigN (pm : List Nat) (i : Nat) : Nat := match idxN i pm 0 with
  | some k => k
  | none => i

def nthN : List Nat → Nat → Nat
  | [], _ => 0
  | x :: _, 0 => x
  | _ :: r, n + 1 => nthN r n

def reno (pm : List Nat) (o : Oper) : Oper := { o with after := o.after.map (fun e => { e with on := sigN pm e.on }), guard := match o.guard with
  | some (j, b) => some (sigN pm j, b)
  | none => none }

def permOps (pm : List Nat) (ops : List Oper) : List Oper := pm.map fun i => match ops[i]? with
  | some o => reno pm o
  | none => default

def okPerm (pm : List Nat) (n : Nat) : Bool :=
  Nat.beq pm.length n && (List.range n).all (fun i => Nat.blt (sigN pm i) n && Nat.beq (nthN pm (sigN pm i)) i) && (List.range n).all (fun j => Nat.blt (nthN pm j) n && Nat.beq (sigN pm (nthN pm j)) j) && pm.all (fun i => Nat.blt i n)

structure Perm (pm : List Nat) (n : Nat) : Prop where
  len : pm.length = n
  lt : ∀ i, i < n → sigN pm i < n
  back : ∀ i, i < n → nthN pm (sigN pm i) = i
  lt' : ∀ j, j < n → nthN pm j < n
  back' : ∀ j, j < n → sigN pm (nthN pm j) = j
  out : ∀ i, n ≤ i → sigN pm i = i

theorem idxN_mem {i : Nat} : ∀ {l : List Nat} {k m : Nat}, idxN i l k = some m → i ∈ l
  | [], k, m, h => by simp [idxN] at h
  | x :: r, k, m, h => by
    simp only [idxN] at h
    split at h
    · rename_i hx
      have := nat_beq_eq.1 hx
      simp [this]
    · exact List.mem_cons_of_mem _ (idxN_mem h)

theorem okPerm_spec {pm : List Nat} {n : Nat} (h : okPerm pm n = true) : Perm pm n := by
  unfold okPerm at h
  simp only [Bool.and_eq_true] at h
  obtain ⟨⟨⟨h1, h2⟩, h3⟩, h4⟩ := h
  rw [List.all_eq_true] at h2 h3 h4
  have q2 : ∀ i, i < n → sigN pm i < n ∧ nthN pm (sigN pm i) = i := fun i hi => by
    have := h2 i (by simpa using hi)
    rw [Bool.and_eq_true] at this
    exact ⟨by have := this.1; rw [Nat.blt_eq] at this; exact this, nat_beq_eq.1 this.2⟩
  have q3 : ∀ i, i < n → nthN pm i < n ∧ sigN pm (nthN pm i) = i := fun i hi => by
    have := h3 i (by simpa using hi)
    rw [Bool.and_eq_true] at this
    exact ⟨by have := this.1; rw [Nat.blt_eq] at this; exact this, nat_beq_eq.1 this.2⟩
  refine ⟨nat_beq_eq.1 h1, fun i hi => (q2 i hi).1, fun i hi => (q2 i hi).2, fun i hi => (q3 i hi).1, fun i hi => (q3 i hi).2, fun i hi => ?_⟩
  unfold sigN
  cases hx : idxN i pm 0 with
  | none => rfl
  | some k =>
    have := h4 i (idxN_mem hx)
    rw [Nat.blt_eq] at this
    omega

theorem nthN_eq : ∀ (l : List Nat) (j : Nat), j < l.length → l[j]? = some (nthN l j)
  | [], j, h => by simp at h
  | x :: l, 0, h => by simp [nthN]
  | x :: l, j + 1, h => by simpa [nthN] using nthN_eq l j (by simpa using h)

theorem permOps_get {pm : List Nat} {ops : List Oper} (h : Perm pm ops.length) {j : Nat} (hj : j < ops.length) : (permOps pm ops)[j]? = (ops[nthN pm j]?).map (reno pm) := by
  unfold permOps
  rw [List.getElem?_map, nthN_eq pm j (by rw [h.len]; exact hj)]
  simp only [Option.map_some]
  have := h.lt' j hj
  rw [List.getElem?_eq_getElem this]
  rfl

theorem permOps_sig {pm : List Nat} {ops : List Oper} (h : Perm pm ops.length) {i : Nat} (hi : i < ops.length) : (permOps pm ops)[sigN pm i]? = (ops[i]?).map (reno pm) := by
  rw [permOps_get h (h.lt i hi), h.back i hi]

theorem permOps_length {pm : List Nat} {ops : List Oper} (h : Perm pm ops.length) : (permOps pm ops).length = ops.length := by
  unfold permOps; rw [List.length_map, h.len]

theorem binds_reno {m : Region.Mode} {e : Edge} {k : Nat} : Region.binds m { e with on := k } = Region.binds m e := rfl

theorem wp_reno {P : Program} {pm : List Nat} {o : Oper} {a : Act} {w : World} {K : Act → World → Prop} {Q : Exit → Act → World → Prop} : (reno pm o).wp P a w K Q = o.wp P a w K Q := rfl

theorem wpAny_perm {P : Program} {md : Region.Mode} {ops : List Oper} {pm : List Nat} (h : Perm pm ops.length) {Q : Exit → Act → World → Prop} : ∀ (fuel : Nat) (listed listed' : Array Bool) (a : Act) (w : World), listed.size = ops.length → listed'.size = ops.length → (∀ k, k < ops.length → listed'.getD (sigN pm k) true = listed.getD k true) →
    wpAny P md (permOps pm ops).toArray Q fuel listed' a w → wpAny P md ops.toArray Q fuel listed a w := by
  have hyield : ∀ (a : Act) (j : Nat), yielded (permOps pm ops).toArray a.tmps (sigN pm j) = yielded ops.toArray a.tmps j := by
    intro a j
    unfold yielded
    rcases Nat.lt_or_ge j ops.length with hj | hj
    · have := permOps_sig h hj
      have e1 : (permOps pm ops).toArray[sigN pm j]? = (ops.toArray[j]?).map (reno pm) := by simpa using this
      rw [e1]
      cases hq : ops.toArray[j]? with
      | none => rfl
      | some o => rfl
    · have e1 : (permOps pm ops).toArray[sigN pm j]? = none := by
        rw [h.out j hj]
        simp only [List.getElem?_toArray]
        exact List.getElem?_eq_none (by rw [permOps_length h]; exact hj)
      have e2 : ops.toArray[j]? = none := by
        simp only [List.getElem?_toArray]
        exact List.getElem?_eq_none hj
      rw [e1, e2]
  have hD : ∀ {l : Array Bool} {k : Nat}, k < l.size → l.getD k false = l.getD k true := fun {l k} hk => by simp [hk]
  have hF : ∀ {l : Array Bool} {k : Nat}, l.size ≤ k → l.getD k false = false := fun {l k} hk => by
    have : ¬ k < l.size := by omega
    simp [this]
  -- who is ready
  have hready : ∀ (listed listed' : Array Bool), listed.size = ops.length → listed'.size = ops.length → (∀ k, k < ops.length → listed'.getD (sigN pm k) true = listed.getD k true) → ∀ i, i < ops.length → (i ∈ Region.ready md ops.toArray listed ↔ sigN pm i ∈ Region.ready md (permOps pm ops).toArray listed') := by
    intro listed listed' hs hs' hl i hi
    have hl2 : ∀ k, listed'.getD (sigN pm k) false = listed.getD k false := fun k => by
      rcases Nat.lt_or_ge k ops.length with hk | hk
      · rw [hD (by rw [hs']; exact h.lt k hk), hl k hk, hD (by omega)]
      · rw [h.out k hk, hF (by omega), hF (by omega)]
    have e1 : (permOps pm ops).toArray[sigN pm i]? = (ops.toArray[i]?).map (reno pm) := by simpa using permOps_sig h hi
    rw [mem_ready, mem_ready, hl i hi, e1]
    refine and_congr Iff.rfl ⟨?_, ?_⟩
    · rintro ⟨o, ho, hall⟩
      rw [ho]
      refine ⟨reno pm o, rfl, fun e he hb => ?_⟩
      simp only [reno, Array.mem_map] at he
      obtain ⟨e0, he0, rfl⟩ := he
      rw [binds_reno] at hb
      show listed'.getD (sigN pm e0.on) false = true
      rw [hl2]
      exact hall e0 he0 hb
    · rintro ⟨o', ho', hall⟩
      cases ho : ops.toArray[i]? with
      | none => rw [ho] at ho'; cases ho'
      | some o =>
        rw [ho] at ho'
        simp only [Option.map_some, Option.some.injEq] at ho'
        subst ho'
        refine ⟨o, rfl, fun e he hb => ?_⟩
        have := hall { e with on := sigN pm e.on } (by simp only [reno, Array.mem_map]; exact ⟨e, he, rfl⟩) (by rw [binds_reno]; exact hb)
        have h2 : listed'.getD (sigN pm e.on) false = true := this
        rw [hl2] at h2
        exact h2
  have hlt : ∀ (ops' : List Oper) (listed : Array Bool) (i : Nat), i ∈ Region.ready md ops'.toArray listed → i < ops'.length := fun ops' listed i hi => by
    obtain ⟨_, o, ho, _⟩ := mem_ready.1 hi
    have := (Array.getElem?_eq_some_iff.1 ho).1
    simpa using this
  have hnil : ∀ (listed listed' : Array Bool), listed.size = ops.length → listed'.size = ops.length → (∀ k, k < ops.length → listed'.getD (sigN pm k) true = listed.getD k true) → (Region.ready md ops.toArray listed = [] ↔ Region.ready md (permOps pm ops).toArray listed' = []) := by
    intro listed listed' hs hs' hl
    constructor
    · intro hr
      cases hq : Region.ready md (permOps pm ops).toArray listed' with
      | nil => rfl
      | cons j r =>
        have hj : j ∈ Region.ready md (permOps pm ops).toArray listed' := by rw [hq]; simp
        have hjl := hlt _ _ _ hj
        rw [permOps_length h] at hjl
        have := (hready listed listed' hs hs' hl (nthN pm j) (h.lt' j hjl)).2 (by rw [h.back' j hjl]; exact hj)
        rw [hr] at this; cases this
    · intro hr
      cases hq : Region.ready md ops.toArray listed with
      | nil => rfl
      | cons j r =>
        have hj : j ∈ Region.ready md ops.toArray listed := by rw [hq]; simp
        have := (hready listed listed' hs hs' hl j (hlt _ _ _ hj)).1 hj
        rw [hr] at this; cases this
  intro fuel
  induction fuel with
  | zero =>
    intro listed listed' a w hs hs' hl hw
    exact ⟨(hnil listed listed' hs hs' hl).2 hw.1, hw.2⟩
  | succ fuel ih =>
    intro listed listed' a w hs hs' hl hw
    refine ⟨fun hr => hw.1 ((hnil listed listed' hs hs' hl).1 hr), fun i hi => ?_⟩
    have hil := hlt _ _ _ hi
    have hwi := hw.2 (sigN pm i) ((hready listed listed' hs hs' hl i hil).1 hi)
    have hnext : ∀ a' w', wpAny P md (permOps pm ops).toArray Q fuel (listed'.setIfInBounds (sigN pm i) true) a' w' → wpAny P md ops.toArray Q fuel (listed.setIfInBounds i true) a' w' := by
      intro a' w' hk
      refine ih _ _ a' w' (by simpa using hs) (by simpa using hs') (fun k hk' => ?_) hk
      by_cases hki : k = i
      · subst hki
        have h1 : sigN pm k < listed'.size := by rw [hs']; exact h.lt k hil
        have h2 : k < listed.size := by omega
        simp [h1, h2]
      · have hne : sigN pm k ≠ sigN pm i := fun he => by
          have := congrArg (nthN pm) he
          rw [h.back k hk', h.back i hil] at this
          exact hki this
        have := hl k hk'
        simp only [Array.getD_eq_getD_getElem?, Array.getElem?_setIfInBounds, Ne.symm hne, Ne.symm hki, if_false] at this ⊢
        exact this
    have e1 : (permOps pm ops).toArray[sigN pm i]? = (ops.toArray[i]?).map (reno pm) := by simpa using permOps_sig h hil
    unfold wpOp at hwi ⊢
    rw [e1] at hwi
    cases ho : ops.toArray[i]? with
    | none => rw [ho] at hwi; exact hnext _ _ hwi
    | some o =>
      rw [ho] at hwi
      simp only [Option.map_some] at hwi ⊢
      have hwant : Region.wanted (reno pm o) (yielded (permOps pm ops).toArray a.tmps) = Region.wanted o (yielded ops.toArray a.tmps) := by
        unfold Region.wanted reno
        cases hg : o.guard with
        | none => rfl
        | some p =>
          obtain ⟨j, b⟩ := p
          simp only
          rw [hyield]
      rw [hwant] at hwi
      split
      · rename_i hy
        rw [if_pos hy] at hwi
        refine hwi.imp (fun hh => ?_) id
        rw [wp_reno] at hh
        exact Oper.wp_mono hnext hh
      · rename_i hy
        rw [if_neg hy] at hwi
        exact hnext _ _ hwi

/-! ### which order -/

/-- Does an operation write, or call what has no contract? -/
def isTail (X : Ctx) (o : Oper) : Bool := match o.op with
  | .store _ _ _ => true
  | .mapUpdate _ _ _ _ => true
  | .call c => match c.callee with
    | .value (.func f) => match X.fc f with
      | some _ => false
      | none => true
    | .value _ => true
    | .builtin .append => true
    | .builtin .copy => true
    | .builtin .clear => true
    | .builtin .delete => true
    | .builtin _ => false
    | .invoke _ _ => true
  | _ => false

def anyOn (T : List Nat) : List Edge → Bool
  | [] => false
  | e :: r => match Region.binds .any e with
    | true => match memN e.on T with
      | true => true
      | false => anyOn T r
    | false => anyOn T r

def revN : List Nat → List Nat → List Nat
  | [], l => l
  | x :: r, l => revN r (x :: l)

/-- Those that neither write nor wait for one that does first. -/
def permK (X : Ctx) : List Oper → Nat → List Nat → List Nat → (List Nat → Prop) → Prop
  | [], _, G, T, K => forceN (revN G (revN T [])) K
  | o :: r, k, G, T, K => match isTail X o with
    | true => permK X r (k + 1) G (k :: T) K
    | false => match anyOn T o.after.toList with
      | true => permK X r (k + 1) G (k :: T) K
      | false => permK X r (k + 1) (k :: G) T K

theorem permK_ex (X : Ctx) (K : List Nat → Prop) : ∀ (l : List Oper) (k : Nat) (G T : List Nat), permK X l k G T K → ∃ pm, K pm
  | [], k, G, T, h => by simp only [permK, forceN_eq] at h; exact ⟨_, h⟩
  | o :: r, k, G, T, h => by
    simp only [permK] at h
    split at h
    · exact permK_ex X K r _ _ _ h
    · split at h
      · exact permK_ex X K r _ _ _ h
      · exact permK_ex X K r _ _ _ h

def isId : List Nat → Nat → Bool
  | [], _ => true
  | x :: r, k => Nat.beq x k && isId r (k + 1)

end Go.Proofs.Ytcgnoegejmhgmaa.Ev

/-
  Ev: regions of open order, cut where all that is ahead is done before all that is behind.
-/
namespace Go.Proofs.Ytcgnoegejmhgmaa.Ev
set_option linter.unusedVariables false
set_option linter.unusedSimpArgs false
open Go.RowKit

/-- An edge to k, or to one behind it. -/
def edgeTo (p : Nat → Bool) : List Edge → Bool
  | [] => false
  | e :: r => match Region.binds .any e with
    | true => match p e.on with
      | true => true
      | false => edgeTo p r
    | false => edgeTo p r

theorem edgeTo_iff {p : Nat → Bool} : ∀ {l : List Edge}, edgeTo p l = true ↔ ∃ e ∈ l, Region.binds .any e = true ∧ p e.on = true
  | [] => by simp [edgeTo]
  | e :: r => by
    simp only [edgeTo]
    split
    · rename_i hb
      split
      · rename_i hp
        simp only [true_iff]
        exact ⟨e, by simp, hb, hp⟩
      · rename_i hp
        rw [edgeTo_iff]
        constructor
        · rintro ⟨e', h1, h2⟩; exact ⟨e', by simp [h1], h2⟩
        · rintro ⟨e', h1, h2, h3⟩
          rcases List.mem_cons.1 h1 with rfl | h1
          · rw [hp] at h3; cases h3
          · exact ⟨e', h1, h2, h3⟩
    · rename_i hb
      rw [edgeTo_iff]
      constructor
      · rintro ⟨e', h1, h2⟩; exact ⟨e', by simp [h1], h2⟩
      · rintro ⟨e', h1, h2, h3⟩
        rcases List.mem_cons.1 h1 with rfl | h1
        · rw [hb] at h2; cases h2
        · exact ⟨e', h1, h2, h3⟩

/-- Of the operations ahead of the cut: edges go to those ahead of oneself; each has one behind it that waits for it. -/
def cutA (k : Nat) : List Oper → Nat → Bool
  | [], _ => true
  | o :: r, i => match Nat.blt i (k + 1) with
    | true => (o.after.toList.all fun e => !(Region.binds .any e) || Nat.blt e.on i) && (match o.guard with
      | some (j, _) => Nat.blt j (k + 1)
      | none => true) && (Nat.beq i k || (r.take (k - i)).any fun q => edgeTo (fun j => Nat.beq j i) q.after.toList) && cutA k r (i + 1)
    | false => true

/-- Those behind it wait for it, or for one behind it. -/
def cutB (k : Nat) : List Oper → Nat → Bool
  | [], _ => true
  | o :: r, i => match Nat.blt i (k + 1) with
    | true => cutB k r (i + 1)
    | false => edgeTo (fun j => Nat.ble k j && Nat.blt j i) o.after.toList && (match o.guard with
      | some (j, _) => Nat.ble k j
      | none => true) && cutB k r (i + 1)

def shN (k j : Nat) : Nat := j - k

def shE (k : Nat) : List Edge → List Edge
  | [] => []
  | e :: r => match Nat.ble k e.on with
    | true => { e with on := shN k e.on } :: shE k r
    | false => shE k r

theorem mem_shE {k : Nat} {e' : Edge} : ∀ {l : List Edge}, e' ∈ shE k l ↔ ∃ e ∈ l, k ≤ e.on ∧ e' = { e with on := shN k e.on }
  | [] => by simp [shE]
  | e :: r => by
    simp only [shE]
    split
    · rename_i h
      have h := Nat.le_of_ble_eq_true h
      rw [List.mem_cons, mem_shE]
      constructor
      · rintro (rfl | ⟨e2, h1, h2⟩)
        · exact ⟨e, by simp, h, rfl⟩
        · exact ⟨e2, by simp [h1], h2⟩
      · rintro ⟨e2, h1, h2, h3⟩
        rcases List.mem_cons.1 h1 with rfl | h1
        · exact .inl h3
        · exact .inr ⟨e2, h1, h2, h3⟩
    · rename_i h
      rw [mem_shE]
      constructor
      · rintro ⟨e2, h1, h2⟩; exact ⟨e2, by simp [h1], h2⟩
      · rintro ⟨e2, h1, h2, h3⟩
        rcases List.mem_cons.1 h1 with rfl | h1
        · rw [Nat.ble_eq_true_of_le h2] at h; cases h
        · exact ⟨e2, h1, h2, h3⟩

def shO (k : Nat) (o : Oper) : Oper := { o with after := (shE k o.after.toList).toArray, guard := match o.guard with
  | some (j, b) => some (shN k j, b)
  | none => none }

/-- What lies behind the cut: first the cut's own value, as it is. -/
def behind (k t : Nat) (ops : List Oper) : List Oper :=
  { dst := some t, op := .move (.tmp t), type := 0, pos := "", after := #[], guard := none } :: (ops.drop (k + 1)).map (shO k)

theorem shO_wp {P : Program} {k : Nat} {o : Oper} {a : Act} {w : World} {K : Act → World → Prop} {Q : Exit → Act → World → Prop} : (shO k o).wp P a w K Q = o.wp P a w K Q := rfl

structure Cut (ops : List Oper) (k t : Nat) : Prop where
  at_ : ∃ o, ops[k]? = some o ∧ o.dst = some t
  up : ∀ i o, i ≤ k → ops[i]? = some o → ∀ e ∈ o.after.toList, Region.binds .any e = true → e.on < i
  succ : ∀ i, i < k → ∃ j o, i < j ∧ j ≤ k ∧ ops[j]? = some o ∧ ∃ e ∈ o.after.toList, Region.binds .any e = true ∧ e.on = i
  back : ∀ i o, k < i → ops[i]? = some o → ∃ e ∈ o.after.toList, Region.binds .any e = true ∧ k ≤ e.on ∧ e.on < i
  guard : ∀ i o j b, k < i → ops[i]? = some o → o.guard = some (j, b) → k ≤ j
  guardA : ∀ i o j b, i ≤ k → ops[i]? = some o → o.guard = some (j, b) → j ≤ k

theorem cutA_spec {k : Nat} : ∀ {ops : List Oper} {i0 : Nat}, cutA k ops i0 = true → (∀ i o, i0 + i ≤ k → ops[i]? = some o → ∀ e ∈ o.after.toList, Region.binds .any e = true → e.on < i0 + i) ∧
    (∀ i o, i0 + i < k → ops[i]? = some o → ∃ j q, i < j ∧ i0 + j ≤ k ∧ ops[j]? = some q ∧ ∃ e ∈ q.after.toList, Region.binds .any e = true ∧ e.on = i0 + i) ∧
    (∀ i o j b, i0 + i ≤ k → ops[i]? = some o → o.guard = some (j, b) → j ≤ k)
  | [], i0, h => ⟨fun i o _ ho => by simp at ho, fun i o _ ho => by simp at ho, fun i o j b _ ho => by simp at ho⟩
  | o :: r, i0, h => by
    simp only [cutA] at h
    split at h
    · rename_i hlt
      rw [Nat.blt_eq] at hlt
      simp only [Bool.and_eq_true] at h
      obtain ⟨⟨⟨h1, hgd⟩, h2⟩, h3⟩ := h
      obtain ⟨q1, q2, q3⟩ := cutA_spec h3
      refine ⟨fun i o' hi ho e he hb => ?_, fun i o' hi ho => ?_, fun i o' j b hi ho hg => ?_⟩
      · cases i with
        | zero =>
          simp only [List.getElem?_cons_zero, Option.some.injEq] at ho
          subst ho
          rw [List.all_eq_true] at h1
          have := h1 e he
          rw [hb] at this
          simpa using this
        | succ i =>
          have := q1 i o' (by omega) (by simpa using ho) e he hb
          omega
      · cases i with
        | zero =>
          rw [Bool.or_eq_true] at h2
          rcases h2 with h2 | h2
          · have := nat_beq_eq.1 h2; omega
          · rw [List.any_eq_true] at h2
            obtain ⟨q, hq, he⟩ := h2
            obtain ⟨j, hj, hje⟩ := List.getElem_of_mem hq
            obtain ⟨e, he1, he2, he3⟩ := edgeTo_iff.1 he
            rw [List.length_take] at hj
            rw [List.getElem_take] at hje
            refine ⟨j + 1, q, by omega, by omega, by rw [List.getElem?_cons_succ, ← hje]; exact List.getElem?_eq_getElem _, e, he1, he2, by have := nat_beq_eq.1 he3; omega⟩
        | succ i =>
          obtain ⟨j, q, a1, a2, a3, e, a4, a5, a6⟩ := q2 i o' (by omega) (by simpa using ho)
          exact ⟨j + 1, q, by omega, by omega, by simpa using a3, e, a4, a5, by omega⟩
      · cases i with
        | zero =>
          simp only [List.getElem?_cons_zero, Option.some.injEq] at ho
          subst ho
          rw [hg] at hgd
          simp only [Nat.blt_eq] at hgd
          omega
        | succ i => exact q3 i o' j b (by omega) (by simpa using ho) hg
    · rename_i hlt
      have hlt : ¬ i0 < k + 1 := fun h => by rw [show Nat.blt i0 (k + 1) = true from by rw [Nat.blt_eq]; exact h] at hlt; cases hlt
      exact ⟨fun i o' hi => by omega, fun i o' hi => by omega, fun i o' j b hi => by omega⟩

theorem cutB_spec {k : Nat} : ∀ {ops : List Oper} {i0 : Nat}, cutB k ops i0 = true → ∀ i o, k < i0 + i → ops[i]? = some o → (∃ e ∈ o.after.toList, Region.binds .any e = true ∧ k ≤ e.on ∧ e.on < i0 + i) ∧ (∀ j b, o.guard = some (j, b) → k ≤ j)
  | [], i0, h, i, o, _, ho => by simp at ho
  | o' :: r, i0, h, i, o, hi, ho => by
    simp only [cutB] at h
    split at h
    · rename_i hlt
      rw [Nat.blt_eq] at hlt
      cases i with
      | zero => omega
      | succ i =>
        have := cutB_spec h i o (by omega) (by simpa using ho)
        rw [show i0 + (i + 1) = i0 + 1 + i by omega]
        exact this
    · rename_i hlt
      simp only [Bool.and_eq_true] at h
      obtain ⟨⟨h1, h2⟩, h3⟩ := h
      cases i with
      | zero =>
        simp only [List.getElem?_cons_zero, Option.some.injEq] at ho
        subst ho
        obtain ⟨e, a1, a2, a3⟩ := edgeTo_iff.1 h1
        simp only [Bool.and_eq_true, Nat.blt_eq] at a3
        refine ⟨⟨e, a1, a2, Nat.le_of_ble_eq_true a3.1, by omega⟩, fun j b hg => ?_⟩
        rw [hg] at h2
        exact Nat.le_of_ble_eq_true h2
      | succ i =>
        have := cutB_spec h3 i o (by omega) (by simpa using ho)
        rw [show i0 + (i + 1) = i0 + 1 + i by omega]
        exact this

theorem cut_of {ops : List Oper} {k t : Nat} (h1 : cutA k ops 0 = true) (h2 : cutB k ops 0 = true) (h3 : ∃ o, ops[k]? = some o ∧ o.dst = some t) : Cut ops k t := by
  obtain ⟨a1, a2, a3⟩ := cutA_spec h1
  have hk : k < ops.length := by obtain ⟨o, ho, _⟩ := h3; exact (List.getElem?_eq_some_iff.1 ho).1
  refine ⟨h3, fun i o hi ho e he hb => by simpa using a1 i o (by omega) ho e he hb, fun i hi => ?_, fun i o hi ho => by simpa using (cutB_spec h2 i o (by omega) ho).1, fun i o j b hi ho hg => (cutB_spec h2 i o (by omega) ho).2 j b hg, fun i o j b hi ho hg => a3 i o j b (by omega) ho hg⟩
  obtain ⟨j, q, b1, b2, b3, e, b4, b5, b6⟩ := a2 i ops[i] (by omega) (List.getElem?_eq_getElem _)
  exact ⟨j, q, b1, by omega, b3, e, b4, b5, by omega⟩

/-! ### it is so -/

theorem wp_exits {P : Program} {o : Oper} {a : Act} {w : World} {K K' : Act → World → Prop} {Q Q' : Exit → Act → World → Prop} (hK : ∀ a w, K a w → K' a w) (hQ : ∀ c a w, Q (.panic c) a w → Q' (.panic c) a w) (hO : ¬ LetsOut Q) (h : o.wp P a w K Q) : o.wp P a w K' Q' := by
  unfold Oper.wp at *
  generalize (execOp a.eval o).run P w = r at *
  cases r with
  | ok n w' =>
    cases n <;> simp only [Oper.upon] at h ⊢ <;>
      first
        | exact hK _ _ h
        | exact Calls.mono h (fun e w'' he => by cases e <;> first | exact hK _ _ he | exact hQ _ _ _ he | exact (hO he).elim)
        | exact Rows.mono h (fun _ _ he => hK _ _ he)
  | halt x w' => cases x <;> simp only [Oper.upon] at h ⊢ <;> first | exact hQ _ _ _ h | exact h

theorem getD_lt {l : Array Bool} {k : Nat} (hk : k < l.size) : l.getD k false = l.getD k true := by simp [hk]
theorem getD_ge {l : Array Bool} {k : Nat} (hk : l.size ≤ k) : l.getD k false = false := by
  have : ¬ k < l.size := by omega
  simp [this]
theorem getD_ge' {l : Array Bool} {k : Nat} (hk : l.size ≤ k) : l.getD k true = true := by
  have : ¬ k < l.size := by omega
  simp [this]
theorem getD_set {l : Array Bool} {i k : Nat} (hi : i < l.size) : (l.setIfInBounds i true).getD k true = (l.getD k true || Nat.beq k i) := by
  by_cases hki : k = i
  · subst hki
    simp [hi, Nat.beq_refl]
  · simp [nat_beq_ne.2 hki, Array.getElem?_setIfInBounds, Ne.symm hki]

theorem behind_length {k t : Nat} {ops : List Oper} (hk : k < ops.length) : (behind k t ops).length = ops.length - k := by
  simp [behind]; omega

theorem behind_get {k t : Nat} {ops : List Oper} {j : Nat} (hj : k < j) : (behind k t ops)[j - k]? = (ops[j]?).map (shO k) := by
  obtain ⟨d, rfl⟩ : ∃ d, j = k + 1 + d := ⟨j - (k + 1), by omega⟩
  rw [show k + 1 + d - k = d + 1 by omega]
  unfold behind
  rw [List.getElem?_cons_succ, List.getElem?_map, List.getElem?_drop]

section
variable {P : Program} {ops : List Oper} {k t : Nat}

theorem wpAny_rest (hc : Cut ops k t) (hk : k < ops.length) {Q : Exit → Act → World → Prop} : ∀ (fuel : Nat) (listed listed' : Array Bool) (a : Act) (w : World), listed.size = ops.length → listed'.size = ops.length - k → (∀ j, j ≤ k → listed.getD j true = true) → (∀ j, k ≤ j → listed'.getD (j - k) true = listed.getD j true) →
    wpAny P .any (behind k t ops).toArray Q fuel listed' a w → wpAny P .any ops.toArray Q fuel listed a w := by
  have hyield : ∀ (a : Act) (j : Nat), k ≤ j → yielded (behind k t ops).toArray a.tmps (j - k) = yielded ops.toArray a.tmps j := by
    intro a j hj
    unfold yielded
    rcases Nat.lt_or_ge k j with h | h
    · have e1 : (behind k t ops).toArray[j - k]? = (ops.toArray[j]?).map (shO k) := by simpa using behind_get h
      rw [e1]
      cases ops.toArray[j]? <;> rfl
    · obtain rfl : j = k := by omega
      obtain ⟨o, ho, ht⟩ := hc.at_
      have e1 : ops.toArray[j]? = some o := by simpa using ho
      rw [e1, Nat.sub_self]
      simp only [Option.bind_some, ht]
      rfl
  have hready : ∀ (listed listed' : Array Bool), listed.size = ops.length → listed'.size = ops.length - k → (∀ j, j ≤ k → listed.getD j true = true) → (∀ j, k ≤ j → listed'.getD (j - k) true = listed.getD j true) → ∀ i, k < i → (i ∈ Region.ready .any ops.toArray listed ↔ i - k ∈ Region.ready .any (behind k t ops).toArray listed') := by
    intro listed listed' hs hs' hA hl i hi
    have hl2 : ∀ j, k ≤ j → listed'.getD (j - k) false = listed.getD j false := fun j hj => by
      rcases Nat.lt_or_ge j ops.length with h | h
      · rw [getD_lt (by omega), hl j hj, getD_lt (by omega)]
      · rw [getD_ge (by omega), getD_ge (by omega)]
    have e1 : (behind k t ops).toArray[i - k]? = (ops.toArray[i]?).map (shO k) := by simpa using behind_get hi
    rw [mem_ready, mem_ready, hl i (by omega), e1]
    refine and_congr Iff.rfl ⟨?_, ?_⟩
    · rintro ⟨o, ho, hall⟩
      rw [ho]
      refine ⟨shO k o, rfl, fun e he hb => ?_⟩
      simp only [shO, List.mem_toArray] at he
      obtain ⟨e0, he0, hk0, rfl⟩ := mem_shE.1 he
      show listed'.getD (e0.on - k) false = true
      rw [hl2 _ hk0]
      exact hall e0 (by simpa using he0) hb
    · rintro ⟨o', ho', hall⟩
      cases ho : ops.toArray[i]? with
      | none => rw [ho] at ho'; cases ho'
      | some o =>
        rw [ho] at ho'
        simp only [Option.map_some, Option.some.injEq] at ho'
        subst ho'
        refine ⟨o, rfl, fun e he hb => ?_⟩
        rcases Nat.lt_or_ge e.on k with h | h
        · rw [getD_lt (by omega)]
          exact hA _ (by omega)
        · have h2 : listed'.getD (e.on - k) false = true := hall { e with on := shN k e.on } (by simp only [shO, List.mem_toArray]; exact mem_shE.2 ⟨e, by simpa using he, h, rfl⟩) hb
          rw [hl2 _ h] at h2
          exact h2
  have hnot : ∀ (listed listed' : Array Bool), (∀ j, j ≤ k → listed.getD j true = true) → (∀ j, k ≤ j → listed'.getD (j - k) true = listed.getD j true) → (∀ i, i ∈ Region.ready .any ops.toArray listed → k < i) ∧ (∀ i, i ∈ Region.ready .any (behind k t ops).toArray listed' → 0 < i) := by
    intro listed listed' hA hl
    refine ⟨fun i hi => ?_, fun i hi => ?_⟩
    · rcases Nat.lt_or_ge k i with h | h
      · exact h
      · obtain ⟨hu, _⟩ := mem_ready.1 hi
        rw [hA i h] at hu; cases hu
    · rcases Nat.eq_zero_or_pos i with h | h
      · subst h
        obtain ⟨hu, _⟩ := mem_ready.1 hi
        have := hl k (Nat.le_refl _)
        rw [Nat.sub_self, hA k (Nat.le_refl _), hu] at this
        cases this
      · exact h
  have hnil : ∀ (listed listed' : Array Bool), listed.size = ops.length → listed'.size = ops.length - k → (∀ j, j ≤ k → listed.getD j true = true) → (∀ j, k ≤ j → listed'.getD (j - k) true = listed.getD j true) → (Region.ready .any ops.toArray listed = [] ↔ Region.ready .any (behind k t ops).toArray listed' = []) := by
    intro listed listed' hs hs' hA hl
    constructor
    · intro hr
      cases hq : Region.ready .any (behind k t ops).toArray listed' with
      | nil => rfl
      | cons j r =>
        have hj : j ∈ Region.ready .any (behind k t ops).toArray listed' := by rw [hq]; simp
        have h0 := (hnot listed listed' hA hl).2 j hj
        have := (hready listed listed' hs hs' hA hl (j + k) (by omega)).2 (by rw [Nat.add_sub_cancel]; exact hj)
        rw [hr] at this; cases this
    · intro hr
      cases hq : Region.ready .any ops.toArray listed with
      | nil => rfl
      | cons j r =>
        have hj : j ∈ Region.ready .any ops.toArray listed := by rw [hq]; simp
        have := (hready listed listed' hs hs' hA hl j ((hnot listed listed' hA hl).1 j hj)).1 hj
        rw [hr] at this; cases this
  intro fuel
  induction fuel with
  | zero =>
    intro listed listed' a w hs hs' hA hl hw
    exact ⟨(hnil listed listed' hs hs' hA hl).2 hw.1, hw.2⟩
  | succ fuel ih =>
    intro listed listed' a w hs hs' hA hl hw
    refine ⟨fun hr => hw.1 ((hnil listed listed' hs hs' hA hl).1 hr), fun i hi => ?_⟩
    have hki := (hnot listed listed' hA hl).1 i hi
    have hil : i < ops.length := by
      obtain ⟨_, o, ho, _⟩ := mem_ready.1 hi
      have := (Array.getElem?_eq_some_iff.1 ho).1
      simpa using this
    have hwi := hw.2 (i - k) ((hready listed listed' hs hs' hA hl i hki).1 hi)
    have hnext : ∀ a' w', wpAny P .any (behind k t ops).toArray Q fuel (listed'.setIfInBounds (i - k) true) a' w' → wpAny P .any ops.toArray Q fuel (listed.setIfInBounds i true) a' w' := by
      intro a' w' hk'
      refine ih _ _ a' w' (by simpa using hs) (by simpa using hs') (fun j hj => ?_) (fun j hj => ?_) hk'
      · rw [getD_set (by omega), hA j hj]; rfl
      · rw [getD_set (by omega), getD_set (by omega), hl j hj]
        congr 1
        by_cases hji : j = i
        · subst hji; simp [Nat.beq_refl]
        · rw [nat_beq_ne.2 hji, nat_beq_ne.2 (by omega)]
    have e1 : (behind k t ops).toArray[i - k]? = (ops.toArray[i]?).map (shO k) := by simpa using behind_get hki
    unfold wpOp at hwi ⊢
    rw [e1] at hwi
    cases ho : ops.toArray[i]? with
    | none => rw [ho] at hwi; exact hnext _ _ hwi
    | some o =>
      rw [ho] at hwi
      simp only [Option.map_some] at hwi ⊢
      have hwant : Region.wanted (shO k o) (yielded (behind k t ops).toArray a.tmps) = Region.wanted o (yielded ops.toArray a.tmps) := by
        unfold Region.wanted shO
        cases hg : o.guard with
        | none => rfl
        | some p =>
          obtain ⟨j, b⟩ := p
          have := hc.guard i o j b hki (by simpa using ho) hg
          simp only [shN]
          rw [hyield a j this]
      rw [hwant] at hwi
      split
      · rename_i hy
        rw [if_pos hy] at hwi
        refine hwi.imp (fun hh => ?_) id
        rw [shO_wp] at hh
        exact Oper.wp_mono hnext hh
      · rename_i hy
        rw [if_neg hy] at hwi
        exact hnext _ _ hwi

/-- Behind the cut. -/
theorem wpAny_behind (hc : Cut ops k t) (hk : k < ops.length) {Q : Exit → Act → World → Prop} (hO : ¬ LetsOut Q) {listed : Array Bool} {a : Act} {w : World} (hs : listed.size = ops.length) (hA : ∀ j, j ≤ k → listed.getD j true = true) (hB : ∀ j, k < j → j < ops.length → listed.getD j true = false)
    (h : wpAny P .any (behind k t ops).toArray Q (behind k t ops).length (Array.replicate (behind k t ops).length false) a w) : wpAny P .any ops.toArray Q (ops.length - (k + 1)) listed a w := by
  have hlen := behind_length (k := k) (t := t) hk
  rw [hlen, show ops.length - k = (ops.length - (k + 1)) + 1 by omega] at h
  have h0 : 0 ∈ Region.ready .any (behind k t ops).toArray (Array.replicate (ops.length - (k + 1) + 1) false) := by
    rw [mem_ready]
    exact ⟨by simp, { dst := some t, op := .move (.tmp t), type := 0, pos := "", after := #[], guard := none }, rfl, fun e he => by simp at he⟩
  have h1 := h.2 0 h0
  unfold wpOp at h1
  have e0 : (behind k t ops).toArray[0]? = some { dst := some t, op := .move (.tmp t), type := 0, pos := "", after := #[], guard := none } := rfl
  rw [e0] at h1
  simp only at h1
  have hw0 : Region.wanted { dst := some t, op := .move (.tmp t), type := 0, pos := "", after := #[], guard := none } (yielded (behind k t ops).toArray a.tmps) = true := rfl
  rw [if_pos hw0] at h1
  rcases h1 with h1 | ⟨_, h1⟩
  · have h2 : wpAny P .any (behind k t ops).toArray Q (ops.length - (k + 1)) ((Array.replicate (ops.length - (k + 1) + 1) false).setIfInBounds 0 true) (a.put (some t) (a.eval (.tmp t))) w := h1
    have hput : a.put (some t) (a.eval (.tmp t)) = a := by
      unfold Act.put Act.eval
      cases a with
      | mk tmps defers =>
        simp only [Act.mk.injEq, and_true]
        apply Array.ext_getElem?
        intro i
        rw [Array.getElem?_setIfInBounds]
        split
        · rename_i h; subst h
          split
          · rename_i h2; simp [h2]
          · rename_i h2; simp [h2]
        · rfl
    rw [hput] at h2
    refine wpAny_rest hc hk _ listed _ a w hs (by simp; omega) hA (fun j hj => ?_) h2
    rw [getD_set (by simp)]
    rcases Nat.lt_or_ge k j with hkj | hkj
    · rw [nat_beq_ne.2 (show j - k ≠ 0 by omega), Bool.or_false]
      rcases Nat.lt_or_ge j ops.length with hj2 | hj2
      · rw [hB j hkj hj2]
        have : j - k < ops.length - (k + 1) + 1 := by omega
        simp [this]
      · rw [getD_ge' (by simp; omega), getD_ge' (by omega)]
    · obtain rfl : j = k := by omega
      rw [hA j (Nat.le_refl _), Nat.sub_self]
      simp [Nat.beq_refl]
  · exact (hO h1).elim

/-- Ahead of the cut, and what is behind it. -/
def AtCut (P : Program) (ops : List Oper) (k : Nat) (Q : Exit → Act → World → Prop) : Exit → Act → World → Prop
  | .normal, a, w => ∀ listed : Array Bool, listed.size = ops.length → (∀ j, j ≤ k → listed.getD j true = true) → (∀ j, k < j → j < ops.length → listed.getD j true = false) → wpAny P .any ops.toArray Q (ops.length - (k + 1)) listed a w
  | x, a, w => Q x a w

theorem wpAny_cut (hc : Cut ops k t) (hk : k < ops.length) {Q : Exit → Act → World → Prop} (hO : ¬ LetsOut Q) : ∀ (fuel : Nat) (la listed : Array Bool) (a : Act) (w : World), la.size = k + 1 → listed.size = ops.length → (∀ j, j ≤ k → listed.getD j true = la.getD j true) → (∀ j, k < j → j < ops.length → listed.getD j true = false) →
    (∀ i o, i ≤ k → la.getD i true = true → ops[i]? = some o → ∀ e ∈ o.after.toList, Region.binds .any e = true → la.getD e.on true = true) → ((List.range (k + 1)).filter fun j => !la.getD j true).length = fuel →
    wpAny P .any (ops.take (k + 1)).toArray (AtCut P ops k Q) fuel la a w → wpAny P .any ops.toArray Q (fuel + (ops.length - (k + 1))) listed a w := by
  have hO' : ¬ LetsOut (AtCut P ops k Q) := fun ⟨a, w, h⟩ => hO ⟨a, w, h⟩
  have hta : ∀ i, i ≤ k → (ops.take (k + 1)).toArray[i]? = ops.toArray[i]? := fun i hi => by
    simp only [List.getElem?_toArray]
    rw [List.getElem?_take, if_pos (by omega)]
  intro fuel
  induction fuel with
  | zero =>
    intro la listed a w hs hs' hl hB hcl hcount hw
    have hall : ∀ j, j ≤ k → la.getD j true = true := fun j hj => by
      cases hv : la.getD j true with
      | true => rfl
      | false =>
        exfalso
        have hnil : ((List.range (k + 1)).filter fun j => !la.getD j true) = [] := List.eq_nil_of_length_eq_zero hcount
        have : j ∈ ((List.range (k + 1)).filter fun j => !la.getD j true) := by
          rw [List.mem_filter, List.mem_range]
          exact ⟨by omega, by rw [hv]; rfl⟩
        rw [hnil] at this
        cases this
    rw [Nat.zero_add]
    exact hw.2 listed hs' (fun j hj => by rw [hl j hj]; exact hall j hj) hB
  | succ fuel ih =>
    intro la listed a w hs hs' hl hB hcl hcount hw
    -- one of the first ones is open, so the last of them is
    have hex : ∃ i, i ≤ k ∧ la.getD i true = false := by
      cases hf : ((List.range (k + 1)).filter fun j => !la.getD j true) with
      | nil => rw [hf] at hcount; simp at hcount
      | cons i r =>
        have : i ∈ ((List.range (k + 1)).filter fun j => !la.getD j true) := by rw [hf]; simp
        rw [List.mem_filter, List.mem_range] at this
        exact ⟨i, by omega, by simpa using this.2⟩
    have hopen : la.getD k true = false := by
      obtain ⟨i, hi, hv⟩ := hex
      have : ∀ d i, k - i = d → i ≤ k → la.getD i true = false → la.getD k true = false := by
        intro d
        induction d using Nat.strongRecOn with
        | _ d ihd =>
          intro i hd hi hv
          rcases Nat.lt_or_ge i k with h | h
          · obtain ⟨j, o, h1, h2, h3, e, h4, h5, h6⟩ := hc.succ i h
            refine ihd (k - j) (by omega) j rfl h2 ?_
            cases hj : la.getD j true with
            | false => rfl
            | true =>
              have := hcl j o h2 hj h3 e h4 h5
              rw [h6, hv] at this; cases this
          · obtain rfl : i = k := by omega
            exact hv
      exact this _ i rfl hi hv
    have hready : ∀ i, (i ∈ Region.ready .any ops.toArray listed ↔ i ∈ Region.ready .any (ops.take (k + 1)).toArray la) := by
      intro i
      constructor
      · intro hi
        obtain ⟨hu, o, ho, hall⟩ := mem_ready.1 hi
        have hil : i < ops.length := by
          have := (Array.getElem?_eq_some_iff.1 ho).1
          simpa using this
        have hik : i ≤ k := by
          rcases Nat.lt_or_ge k i with h | h
          · exfalso
            obtain ⟨e, h1, h2, h3, h4⟩ := hc.back i o h (by simpa using ho)
            have h5 := hall e (by simpa using h1) h2
            rw [getD_lt (by omega)] at h5
            rcases Nat.lt_or_ge k e.on with h6 | h6
            · rw [hB _ h6 (by omega)] at h5; cases h5
            · obtain h7 : e.on = k := by omega
              rw [h7, hl k (Nat.le_refl _), hopen] at h5; cases h5
          · exact h
        rw [mem_ready]
        refine ⟨by rw [← hl i hik]; exact hu, o, by rw [hta i hik]; exact ho, fun e he hb => ?_⟩
        have hei := hc.up i o hik (by simpa using ho) e (by simpa using he) hb
        have := hall e he hb
        rw [getD_lt (by omega), hl _ (by omega)] at this
        rw [getD_lt (by omega)]
        exact this
      · intro hi
        obtain ⟨hu, o, ho, hall⟩ := mem_ready.1 hi
        have hik : i ≤ k := by
          have := (Array.getElem?_eq_some_iff.1 ho).1
          simp at this; omega
        rw [hta i hik] at ho
        rw [mem_ready]
        refine ⟨by rw [hl i hik]; exact hu, o, ho, fun e he hb => ?_⟩
        have hei := hc.up i o hik (by simpa using ho) e (by simpa using he) hb
        have := hall e he hb
        rw [getD_lt (by omega)] at this
        rw [getD_lt (by omega), hl _ (by omega)]
        exact this
    rw [show fuel + 1 + (ops.length - (k + 1)) = (fuel + (ops.length - (k + 1))) + 1 by omega]
    refine ⟨fun hr => ?_, fun i hi => ?_⟩
    · exfalso
      -- the least open one is ready
      have : ∀ i, i ≤ k → la.getD i true = true := by
        intro i
        induction i using Nat.strongRecOn with
        | _ i ihi =>
          intro hik
          cases hv : la.getD i true with
          | true => rfl
          | false =>
            exfalso
            have hil : i < ops.length := by omega
            have : i ∈ Region.ready .any (ops.take (k + 1)).toArray la := by
              rw [mem_ready]
              refine ⟨hv, ops[i], by rw [hta i hik]; simp [hil], fun e he hb => ?_⟩
              have hei := hc.up i ops[i] hik (List.getElem?_eq_getElem hil) e (by simpa using he) hb
              rw [getD_lt (by omega)]
              exact ihi _ hei (by omega)
            rw [← hready, hr] at this
            cases this
      rw [this k (Nat.le_refl _)] at hopen
      cases hopen
    · have hi' := (hready i).1 hi
      have hwi := hw.2 i hi'
      obtain ⟨hu, o, ho, hall⟩ := mem_ready.1 hi'
      have hik : i ≤ k := by
        have := (Array.getElem?_eq_some_iff.1 ho).1
        simp at this; omega
      have ho2 := ho
      rw [hta i hik] at ho2
      have hnext : ∀ a' w', wpAny P .any (ops.take (k + 1)).toArray (AtCut P ops k Q) fuel (la.setIfInBounds i true) a' w' → wpAny P .any ops.toArray Q (fuel + (ops.length - (k + 1))) (listed.setIfInBounds i true) a' w' := by
        intro a' w' hk'
        refine ih _ _ a' w' (by simpa using hs) (by simpa using hs') (fun j hj => ?_) (fun j hj hj2 => ?_) (fun j oj hj hv hoj e he hb => ?_) ?_ hk'
        · rw [getD_set (by omega), getD_set (by omega), hl j hj]
        · rw [getD_set (by omega), hB j hj hj2, nat_beq_ne.2 (by omega)]; rfl
        · rw [getD_set (by omega)] at hv ⊢
          by_cases hji : j = i
          · subst hji
            have hoo : oj = o := by
              have : ops.toArray[j]? = some oj := by simpa using hoj
              rw [ho2] at this; injection this with this; exact this.symm
            subst hoo
            have := hall e (by simpa using he) hb
            have hei := hc.up j oj hj hoj e he hb
            rw [getD_lt (by omega)] at this
            rw [this]; rfl
          · rw [nat_beq_ne.2 hji, Bool.or_false] at hv
            rw [hcl j oj hj hv hoj e he hb]; rfl
        · have e1 : ((List.range (k + 1)).filter fun j => !(la.setIfInBounds i true).getD j true) = ((List.range (k + 1)).filter fun j => !la.getD j true).erase i := by
            have hnd : ((List.range (k + 1)).filter fun j => !la.getD j true).Nodup := List.Pairwise.filter _ List.nodup_range
            rw [hnd.erase_eq_filter, List.filter_filter]
            apply List.filter_congr
            intro j hj
            rw [getD_set (by omega)]
            by_cases hji : j = i
            · subst hji; simp [Nat.beq_refl]
            · simp [nat_beq_ne.2 hji, hji]
          rw [e1, List.length_erase_of_mem (by rw [List.mem_filter, List.mem_range]; exact ⟨by omega, by rw [hu]; rfl⟩), hcount]
          rfl
      unfold wpOp at hwi ⊢
      rw [ho] at hwi
      rw [ho2]
      simp only at hwi ⊢
      have hwant : Region.wanted o (yielded (ops.take (k + 1)).toArray a.tmps) = Region.wanted o (yielded ops.toArray a.tmps) := by
        unfold Region.wanted
        cases hg : o.guard with
        | none => rfl
        | some p =>
          obtain ⟨j, b⟩ := p
          have hj := hc.guardA i o j b hik (by simpa using ho2) hg
          simp only
          unfold yielded
          rw [hta j hj]
      rw [hwant] at hwi
      split
      · rename_i hy
        rw [if_pos hy] at hwi
        rcases hwi with hh | ⟨h1, h2⟩
        · exact .inl (wp_exits hnext (fun c a w h => h) hO' hh)
        · exact (hO' h2).elim
      · rename_i hy
        rw [if_neg hy] at hwi
        exact hnext _ _ hwi

end

end Go.Proofs.Ytcgnoegejmhgmaa.Ev

/-
  Ev: regions of open order: one, and those that are cut.
-/
namespace Go.Proofs.Ytcgnoegejmhgmaa.Ev
set_option linter.unusedVariables false
set_option linter.unusedSimpArgs false
open Go.RowKit

section
variable {X : Ctx} {sm : Bool} {cf : CallF}

theorem draw_one [Dfs] (hX : CtxRows X) (hF : FcOk X) (hC : CallOk X cf) {all : List Oper} {E : Env} {H : AHeap} {Q : AExit → Env → AHeap → Prop} (hdr : wpDraw X sm cf all E H all [] Q) {N : Nat} (hda : ∀ (j : Nat) (o : Oper) (t : Nat), all[j]? = some o → o.dst = some t → t < N)
    {ρ0 : Rho} {H0 : AHeap} {w0 : World} {ρ : Rho} {a : Act} {w : World} (hS : Step ρ0 H0 w0 ρ H w) (hE : RelE ρ H.next E a) (hd : a.defers = Dfs.D) (hN : a.tmps.size = N) : wpAny X.P .any all.toArray (Lift ρ0 H0 w0 N Q) all.length (Array.replicate all.length false) a w := by
  obtain ⟨es, rest, hg, hr, hfin⟩ := wpDraw_good all [] hdr (by simp) (fun k hk => by simp at hk)
  have hw1 := hS
  have hinv : Inv all E H es N ρ0 H0 w0 (fun k => (Array.replicate all.length false).getD k false) ρ a w := by
    have hno : ∀ k, (Array.replicate all.length false).getD k false = false := fun k => by
      by_cases hk : k < all.length <;> simp [hk]
    refine ⟨?_, fun k o e t hk => ?_, fun t v hv _ => (hE.get t v hv).1, fun k e hk => ?_, hd, hN⟩
    · have hb : blkS H.next (fun k => (Array.replicate all.length false).getD k false) es 0 = [] := by
        have : ∀ (es' : List Ent) (m : Nat), blkS H.next (fun k => (Array.replicate all.length false).getD k false) es' m = [] := by
          intro es'
          induction es' with
          | nil => intro m; rfl
          | cons e es' ih' => intro m; simp only [blkS, hno m, ih' (m + 1)]; split <;> rfl
        exact this es 0
      have hgets : ∀ b, (heapS H all.length (fun k => (Array.replicate all.length false).getD k false) es).get b = H.get b := fun b => by
        show getB (blkS _ _ _ _ ++ _) _ = _
        rw [hb]; rfl
      refine ⟨hw1.agree, by show H0.next ≤ H.next + all.length; have := hw1.next; omega, ⟨fun b x hx => ?_, fun b b' x x' hx hx' => ?_⟩, hw1.os, hw1.tape, hw1.output, hw1.size, hw1.old, ?_⟩
      · rw [hgets] at hx
        obtain ⟨r1, r2, r3, r4⟩ := hw1.rel.blk b x hx
        refine ⟨by show b < H.next + all.length; omega, ?_, r3, r4⟩
        cases x with
        | cells e l => exact belowL_mono (Nat.le_add_right _ _) l r2
        | obj U s l => exact belowL_mono (Nat.le_add_right _ _) l r2
        | row => rfl
        | dead => rfl
      · rw [hgets] at hx hx'
        exact hw1.rel.inj b b' x x' hx hx'
      · rintro g ⟨b, x, hx, ho, hf⟩
        rw [hgets] at hx
        exact hw1.owns _ ⟨b, x, hx, ho, hf⟩
    · rw [hno] at hk; cases hk
    · rw [hno] at hk; cases hk
  have := draw_any hX hF hC hg hr hfin (fun t v hv => (hE.get t v hv).2) (fun b x hx => ⟨(hS.rel.blk b x hx).1, (hS.rel.blk b x hx).2.1⟩) (n := N) hda (ρs := ρ0) (Hs := H0) (ws := w0) hS.next all.length (Array.replicate all.length false) ρ a _ (by simp) (by
      refine Nat.le_trans (List.length_filter_le _ _) (by simp)) (fun k hk => by
      have hno : (Array.replicate all.length false).getD k false = false := by
        by_cases hk' : k < all.length <;> simp [hk']
      rw [hno] at hk; cases hk) hinv
  exact this

end

def forceEd : List Edge → (List Edge → Prop) → Prop
  | [], K => K []
  | ⟨i, g⟩ :: r, K => forceEd r (fun r => K (⟨i, g⟩ :: r))
theorem forceEd_eq : ∀ (l : List Edge) (K : List Edge → Prop), forceEd l K = K l
  | [], K => rfl
  | ⟨i, g⟩ :: r, K => by rw [forceEd, forceEd_eq r]
def forceO : List Oper → (List Oper → Prop) → Prop
  | [], K => K []
  | ⟨d, op, t, p, ⟨af⟩, g⟩ :: r, K => forceEd af fun af => match g with
    | none => forceO r (fun r => K (⟨d, op, t, p, ⟨af⟩, none⟩ :: r))
    | some (j, b) => forceO r (fun r => K (⟨d, op, t, p, ⟨af⟩, some (j, b)⟩ :: r))
theorem forceO_eq : ∀ (l : List Oper) (K : List Oper → Prop), forceO l K = K l
  | [], K => rfl
  | ⟨d, op, t, p, ⟨af⟩, none⟩ :: r, K => by simp only [forceO, forceEd_eq, forceO_eq r]
  | ⟨d, op, t, p, ⟨af⟩, some (j, b)⟩ :: r, K => by simp only [forceO, forceEd_eq, forceO_eq r]

/-- A region, in an order that suits. -/
noncomputable def wpOne (X : Ctx) (sm : Bool) (cf : CallF) (ops : List Oper) (E : Env) (H : AHeap) (Q : AExit → Env → AHeap → Prop) : Prop :=
  permK X ops 0 [] [] fun pm => match isId pm 0 with
    | true => wpDraw X sm cf ops E H ops [] Q
    | false => match okPerm pm ops.length with
      | true => forceO (permOps pm ops) fun ops => wpDraw X sm cf ops E H ops [] Q
      | false => Stuck 13 ops

theorem wpOne_any [Dfs] {X : Ctx} {sm : Bool} {cf : CallF} (hX : CtxRows X) (hF : FcOk X) (hC : CallOk X cf) {all : List Oper} {E : Env} {H : AHeap} {Q : AExit → Env → AHeap → Prop} (h : wpOne X sm cf all E H Q) {N : Nat} (hda : ∀ (j : Nat) (o : Oper) (t : Nat), all[j]? = some o → o.dst = some t → t < N)
    {ρ0 : Rho} {H0 : AHeap} {w0 : World} {ρ : Rho} {a : Act} {w : World} (hS : Step ρ0 H0 w0 ρ H w) (hE : RelE ρ H.next E a) (hd : a.defers = Dfs.D) (hN : a.tmps.size = N) : wpAny X.P .any all.toArray (Lift ρ0 H0 w0 N Q) all.length (Array.replicate all.length false) a w := by
  unfold wpOne at h
  obtain ⟨pm, h⟩ := permK_ex _ _ _ _ _ _ h
  split at h
  · exact draw_one hX hF hC h hda hS hE hd hN
  · split at h
    · rename_i hp
      rw [forceO_eq] at h
      have hP := okPerm_spec hp
      have h2 := draw_one hX hF hC h (fun j o t ho ht => by
        have hj : j < all.length := by rw [← permOps_length hP]; exact (List.getElem?_eq_some_iff.1 ho).1
        rw [permOps_get hP hj] at ho
        cases hq : all[nthN pm j]? with
        | none => rw [hq] at ho; cases ho
        | some o0 =>
          rw [hq] at ho
          simp only [Option.map_some, Option.some.injEq] at ho
          subst ho
          exact hda _ o0 t hq ht) hS hE hd hN
      rw [permOps_length hP] at h2
      exact wpAny_perm hP _ (Array.replicate all.length false) (Array.replicate all.length false) a _ (by simp) (by simp) (fun k hk => by
        have h1 : sigN pm k < all.length := hP.lt k hk
        simp [h1, hk]) h2
    · exact (not_stuck h).elim

/-- Where to cut: behind the first one that writes, at a move. -/
def findCut (X : Ctx) (all : List Oper) : List Oper → Nat → Bool → Option (Nat × Nat)
  | [], _, _ => none
  | o :: r, k, seen => match (match isTail X o with
      | true => true
      | false => seen) with
    | false => findCut X all r (k + 1) false
    | true => match o.op, o.dst with
      | .move _, some t => match r.any (isTail X) && (cutA k all 0 && cutB k all 0) with
        | true => some (k, t)
        | false => findCut X all r (k + 1) true
      | _, _ => findCut X all r (k + 1) true

theorem findCut_spec {X : Ctx} {all : List Oper} : ∀ {l : List Oper} {k0 : Nat} {seen : Bool} {k t : Nat}, findCut X all l k0 seen = some (k, t) → (∀ j, l[j]? = all[k0 + j]?) → Cut all k t ∧ k < all.length
  | [], k0, seen, k, t, h, _ => by simp [findCut] at h
  | o :: r, k0, seen, k, t, h, hl => by
    have hr : ∀ j, r[j]? = all[k0 + 1 + j]? := fun j => by have := hl (j + 1); simpa [Nat.add_assoc, Nat.add_comm 1 j] using this
    have ho : all[k0]? = some o := by simpa using (hl 0).symm
    simp only [findCut] at h
    generalize (match isTail X o with
      | true => true
      | false => seen) = s at h
    cases s with
    | false => exact findCut_spec h hr
    | true =>
      simp only at h
      split at h
      · rename_i x t' hop hdst
        split at h
        · rename_i hh
          simp only [Bool.and_eq_true] at hh
          simp only [Option.some.injEq, Prod.mk.injEq] at h
          obtain ⟨rfl, rfl⟩ := h
          exact ⟨cut_of hh.2.1 hh.2.2 ⟨o, ho, hdst⟩, (List.getElem?_eq_some_iff.1 ho).1⟩
        · exact findCut_spec h hr
      · exact findCut_spec h hr

noncomputable def wpReg (X : Ctx) (sm : Bool) (cf : CallF) : Nat → List Oper → Env → AHeap → (AExit → Env → AHeap → Prop) → Prop
  | 0, ops, _, _, _ => Stuck 14 ops
  | n + 1, ops, E, H, Q => match findCut X ops ops 0 false with
    | none => wpOne X sm cf ops E H Q
    | some (k, t) => forceO (ops.take (k + 1)) fun A => wpOne X sm cf A E H fun x E H => match x with
      | .normal => forceO (behind k t ops) fun ops => wpReg X sm cf n ops E H Q
      | .exit i => Q (.exit i) E H
      | .ret => Q .ret E H
      | .panic v => Q (.panic v) E H

theorem not_out [Dfs] {ρ0 : Rho} {H0 : AHeap} {w0 : World} {n : Nat} {Q : AExit → Env → AHeap → Prop} : ¬ LetsOut (Lift ρ0 H0 w0 n Q) := by
  rintro ⟨a, w, x', E, H, ρ, h, _⟩
  cases x' <;> exact h

theorem wpAny_exits {P : Program} {ops : Array Oper} {Q Q' : Exit → Act → World → Prop} (hQ : ∀ x a w, Q x a w → Q' x a w) (hO : ¬ LetsOut Q) : ∀ (fuel : Nat) (listed : Array Bool) (a : Act) (w : World), wpAny P .any ops Q fuel listed a w → wpAny P .any ops Q' fuel listed a w := by
  intro fuel
  induction fuel with
  | zero => intro listed a w h; exact ⟨h.1, hQ _ _ _ h.2⟩
  | succ fuel ih =>
    intro listed a w h
    refine ⟨fun hr => hQ _ _ _ (h.1 hr), fun i hi => ?_⟩
    have := h.2 i hi
    unfold wpOp at this ⊢
    split
    · rename_i ho
      rw [ho] at this
      exact ih _ _ _ this
    · rename_i o ho
      rw [ho] at this
      simp only at this
      split
      · rename_i hy
        rw [if_pos hy] at this
        rcases this with h1 | ⟨h1, h2⟩
        · exact .inl (wp_exits (ih _) (fun c a w h => hQ _ _ _ h) hO h1)
        · exact (hO h2).elim
      · rename_i hy
        rw [if_neg hy] at this
        exact ih _ _ _ this

theorem wpReg_any [Dfs] {X : Ctx} {sm : Bool} {cf : CallF} (hX : CtxRows X) (hF : FcOk X) (hC : CallOk X cf) {Q : AExit → Env → AHeap → Prop} {N : Nat} {ρ0 : Rho} {H0 : AHeap} {w0 : World} : ∀ (n : Nat) (all : List Oper) (E : Env) (H : AHeap), wpReg X sm cf n all E H Q → (∀ (j : Nat) (o : Oper) (t : Nat), all[j]? = some o → o.dst = some t → t < N) →
    ∀ {ρ : Rho} {a : Act} {w : World}, Step ρ0 H0 w0 ρ H w → RelE ρ H.next E a → a.defers = Dfs.D → a.tmps.size = N → wpAny X.P .any all.toArray (Lift ρ0 H0 w0 N Q) all.length (Array.replicate all.length false) a w := by
  intro n
  induction n with
  | zero => intro all E H h; exact (not_stuck h).elim
  | succ n ih =>
    intro all E H h hda ρ a w hS hE hd hN
    simp only [wpReg] at h
    split at h
    · exact wpOne_any hX hF hC h hda hS hE hd hN
    · rename_i k t hcut
      obtain ⟨hc, hk⟩ := findCut_spec hcut (fun j => by rw [Nat.zero_add])
      rw [forceO_eq] at h
      have h1 := wpOne_any hX hF hC h (fun j o t ho ht => by
        rw [List.getElem?_take] at ho
        split at ho
        · exact hda j o t ho ht
        · cases ho) hS hE hd hN
      have hlt : (all.take (k + 1)).length = k + 1 := by rw [List.length_take]; omega
      rw [hlt] at h1
      have h2 := wpAny_exits (Q' := AtCut X.P all k (Lift ρ0 H0 w0 N Q)) (fun x a w hx => by
        obtain ⟨x', E', H', ρ', q1, q2, q3, q4, q5, q6⟩ := hx
        cases x' with
        | normal =>
          cases x <;> simp only [AExit.rel] at q1
          intro listed hs hA hB
          rw [forceO_eq] at q2
          refine wpAny_behind hc hk not_out hs hA hB ?_
          refine ih _ E' H' q2 (fun j o t' ho ht => ?_) q6 q3 q4 q5
          unfold behind at ho
          cases j with
          | zero =>
            simp only [List.getElem?_cons_zero, Option.some.injEq] at ho
            subst ho
            obtain ⟨o2, ho2, ht2⟩ := hc.at_
            simp only [Option.some.injEq] at ht
            subst ht
            exact hda k o2 _ ho2 ht2
          | succ j =>
            rw [List.getElem?_cons_succ, List.getElem?_map, List.getElem?_drop] at ho
            cases hq : all[k + 1 + j]? with
            | none => rw [hq] at ho; cases ho
            | some o2 =>
              rw [hq] at ho
              simp only [Option.map_some, Option.some.injEq] at ho
              subst ho
              exact hda _ o2 t' hq ht
        | exit i =>
          cases x <;> simp only [AExit.rel] at q1
          exact ⟨.exit i, E', H', ρ', q1, q2, q3, q4, q5, q6⟩
        | ret =>
          cases x <;> simp only [AExit.rel] at q1
          exact ⟨.ret, E', H', ρ', trivial, q2, q3, q4, q5, q6⟩
        | panic v =>
          cases x <;> simp only [AExit.rel] at q1
          exact ⟨.panic v, E', H', ρ', q1, q2, q3, q4, q5, q6⟩) not_out _ _ _ _ h1
      have h3 := wpAny_cut hc hk not_out (k + 1) (Array.replicate (k + 1) false) (Array.replicate all.length false) a w (by simp) (by simp) (fun j hj => by
          have h1 : j < all.length := by omega
          have h2 : j < k + 1 := by omega
          simp [h1, h2]) (fun j hj hj2 => by simp [hj2]) (fun i o hi hv => by
          have h2 : i < k + 1 := by omega
          simp [h2] at hv) (by
          rw [List.filter_eq_self.2 (fun j hj => by
            have h2 : j < k + 1 := by simpa using hj
            simp [h2])]
          simp) h2
      rw [show k + 1 + (all.length - (k + 1)) = all.length by omega] at h3
      exact h3

end Go.Proofs.Ytcgnoegejmhgmaa.Ev

/-
  Ev: a region with one that may stand on either side of a call.
-/
namespace Go.Proofs.Ytcgnoegejmhgmaa.Ev
set_option linter.unusedVariables false
set_option linter.unusedSimpArgs false
open Go.RowKit

/-- The cut at number k. -/
noncomputable def wpCutAt (X : Ctx) (sm : Bool) (cf : CallF) (n : Nat) (ops : List Oper) (E : Env) (H : AHeap) (Q : AExit → Env → AHeap → Prop) (k t : Nat) : Prop :=
  forceO (ops.take (k + 1)) fun A => wpOne X sm cf A E H fun x E H => match x with
    | .normal => forceO (behind k t ops) fun ops => wpReg X sm cf n ops E H Q
    | .exit i => Q (.exit i) E H
    | .ret => Q .ret E H
    | .panic v => Q (.panic v) E H

theorem cutAt_any [Dfs] {X : Ctx} {sm : Bool} {cf : CallF} (hX : CtxRows X) (hF : FcOk X) (hC : CallOk X cf) {Q : AExit → Env → AHeap → Prop} {N : Nat} {ρ0 : Rho} {H0 : AHeap} {w0 : World} {n : Nat} {all : List Oper} {E : Env} {H : AHeap} {k t : Nat} (hc : Cut all k t) (hk : k < all.length) (h : wpCutAt X sm cf n all E H Q k t) (hda : ∀ (j : Nat) (o : Oper) (t : Nat), all[j]? = some o → o.dst = some t → t < N)
    {ρ : Rho} {a : Act} {w : World} (hS : Step ρ0 H0 w0 ρ H w) (hE : RelE ρ H.next E a) (hd : a.defers = Dfs.D) (hN : a.tmps.size = N) : wpAny X.P .any all.toArray (Lift ρ0 H0 w0 N Q) all.length (Array.replicate all.length false) a w := by
  unfold wpCutAt at h
  rw [forceO_eq] at h
  have h1 := wpOne_any hX hF hC h (fun j o t ho ht => by
    rw [List.getElem?_take] at ho
    split at ho
    · exact hda j o t ho ht
    · cases ho) hS hE hd hN
  have hlt : (all.take (k + 1)).length = k + 1 := by rw [List.length_take]; omega
  rw [hlt] at h1
  have h2 := wpAny_exits (Q' := AtCut X.P all k (Lift ρ0 H0 w0 N Q)) (fun x a w hx => by
    obtain ⟨x', E', H', ρ', q1, q2, q3, q4, q5, q6⟩ := hx
    cases x' with
    | normal =>
      cases x <;> simp only [AExit.rel] at q1
      intro listed hs hA hB
      rw [forceO_eq] at q2
      refine wpAny_behind hc hk not_out hs hA hB ?_
      refine wpReg_any hX hF hC _ _ E' H' q2 (fun j o t' ho ht => ?_) q6 q3 q4 q5
      unfold behind at ho
      cases j with
      | zero =>
        simp only [List.getElem?_cons_zero, Option.some.injEq] at ho
        subst ho
        obtain ⟨o2, ho2, ht2⟩ := hc.at_
        simp only [Option.some.injEq] at ht
        subst ht
        exact hda k o2 _ ho2 ht2
      | succ j =>
        rw [List.getElem?_cons_succ, List.getElem?_map, List.getElem?_drop] at ho
        cases hq : all[k + 1 + j]? with
        | none => rw [hq] at ho; cases ho
        | some o2 =>
          rw [hq] at ho
          simp only [Option.map_some, Option.some.injEq] at ho
          subst ho
          exact hda _ o2 t' hq ht
    | exit i =>
      cases x <;> simp only [AExit.rel] at q1
      exact ⟨.exit i, E', H', ρ', q1, q2, q3, q4, q5, q6⟩
    | ret =>
      cases x <;> simp only [AExit.rel] at q1
      exact ⟨.ret, E', H', ρ', trivial, q2, q3, q4, q5, q6⟩
    | panic v =>
      cases x <;> simp only [AExit.rel] at q1
      exact ⟨.panic v, E', H', ρ', q1, q2, q3, q4, q5, q6⟩) not_out _ _ _ _ h1
  have h3 := wpAny_cut hc hk not_out (k + 1) (Array.replicate (k + 1) false) (Array.replicate all.length false) a w (by simp) (by simp) (fun j hj => by
      have h1 : j < all.length := by omega
      have h2 : j < k + 1 := by omega
      simp [h1, h2]) (fun j hj hj2 => by simp [hj2]) (fun i o hi hv => by
      have h2 : i < k + 1 := by omega
      simp [h2] at hv) (by
      rw [List.filter_eq_self.2 (fun j hj => by
        have h2 : j < k + 1 := by simpa using hj
        simp [h2])]
      simp) h2
  rw [show k + 1 + (all.length - (k + 1)) = all.length by omega] at h3
  exact h3

/-! ### orders -/

def Lin (md : Region.Mode) (ops : Array Oper) : Array Bool → List Nat → Prop
  | listed, [] => Region.ready md ops listed = []
  | listed, i :: r => i ∈ Region.ready md ops listed ∧ Lin md ops (listed.setIfInBounds i true) r

theorem any_lin {P : Program} {md : Region.Mode} {ops : Array Oper} {Q : Exit → Act → World → Prop} : ∀ (ord : List Nat) (fuel : Nat) (listed : Array Bool) (a : Act) (w : World), wpAny P md ops Q fuel listed a w → Lin md ops listed ord → ord.length ≤ fuel → wpOps P ops Q ord a w
  | [], 0, listed, a, w, h, hl, _ => by simpa [wpOps] using h.2
  | [], fuel + 1, listed, a, w, h, hl, _ => by simpa [wpOps] using h.1 hl
  | i :: r, 0, listed, a, w, h, hl, hf => by simp at hf
  | i :: r, fuel + 1, listed, a, w, h, hl, hf => by
    rw [wpOps_cons]
    exact wpOp_mono (fun a w hh => any_lin r fuel _ a w hh hl.2 (by simpa using hf)) (h.2 i hl.1)

def uFirst (u c : Nat) : List Nat → Bool
  | [] => true
  | i :: r => match Nat.beq i u with
    | true => true
    | false => match Nat.beq i c with
      | true => false
      | false => uFirst u c r

theorem uFirst_or (u c : Nat) : ∀ l, uFirst u c l = true ∨ uFirst c u l = true
  | [] => .inl rfl
  | i :: r => by
    simp only [uFirst]
    cases Nat.beq i u <;> cases Nat.beq i c <;> simp
    exact uFirst_or u c r

/-- Number c waits for number u, too. -/
def addE : Nat → Nat → List Oper → List Oper
  | _, _, [] => []
  | 0, u, o :: r => { o with after := ⟨⟨u, .data⟩ :: o.after.toList⟩ } :: r
  | c + 1, u, o :: r => o :: addE c u r

theorem addE_length : ∀ (c u : Nat) (l : List Oper), (addE c u l).length = l.length
  | _, _, [] => by simp [addE]
  | 0, u, o :: r => by simp [addE]
  | c + 1, u, o :: r => by simp [addE, addE_length c u r]
theorem addE_ne {u : Nat} : ∀ {c i : Nat} {l : List Oper}, i ≠ c → (addE c u l)[i]? = l[i]?
  | _, _, [], _ => by simp [addE]
  | 0, i, o :: r, h => by cases i with
    | zero => exact absurd rfl h
    | succ i => simp [addE]
  | c + 1, i, o :: r, h => by cases i with
    | zero => simp [addE]
    | succ i => simpa [addE] using addE_ne (fun e => h (by rw [e]))
theorem addE_at {u : Nat} : ∀ {c : Nat} {l : List Oper}, (addE c u l)[c]? = (l[c]?).map fun o => { o with after := ⟨⟨u, .data⟩ :: o.after.toList⟩ }
  | _, [] => by simp [addE]
  | 0, o :: r => by simp [addE]
  | c + 1, o :: r => by simpa [addE] using addE_at

theorem addE_any {c u i : Nat} {l : List Oper} : ((addE c u l)[i]?).map (fun o => (o.op, o.dst, o.guard, o.type, o.pos)) = (l[i]?).map (fun o => (o.op, o.dst, o.guard, o.type, o.pos)) := by
  by_cases h : i = c
  · subst h
    rw [addE_at]
    cases l[i]? <;> rfl
  · rw [addE_ne h]

theorem addE_ready {md : Region.Mode} (hmd : Region.binds md ⟨0, .data⟩ = true) {c u i : Nat} {l : List Oper} {listed : Array Bool} (h : i ∈ Region.ready md l.toArray listed) (hc : i = c → listed.getD u false = true) : i ∈ Region.ready md (addE c u l).toArray listed := by
  unfold Region.ready at h ⊢
  simp only [List.mem_filter, List.mem_range, List.size_toArray, List.getElem?_toArray, addE_length] at h ⊢
  refine ⟨h.1, ?_⟩
  by_cases hi : i = c
  · have hu := hc hi
    subst hi
    rw [addE_at]
    cases ho : l[i]? with
    | none => rw [ho] at h; simpa using h.2
    | some o =>
      rw [ho] at h
      simp only [Option.map_some, Option.getD_some, Bool.and_eq_true] at h ⊢
      refine ⟨h.2.1, ?_⟩
      have := h.2.2
      simp only [Array.all_eq_true', List.mem_toArray, List.mem_cons] at this ⊢
      rintro e (rfl | he)
      · simp [hu]
      · exact this e (by simpa using he)
  · rw [addE_ne hi]; exact h.2

theorem addE_ready_sub {md : Region.Mode} {c u i : Nat} {l : List Oper} {listed : Array Bool} (h : i ∈ Region.ready md (addE c u l).toArray listed) : i ∈ Region.ready md l.toArray listed := by
  unfold Region.ready at h ⊢
  simp only [List.mem_filter, List.mem_range, List.size_toArray, List.getElem?_toArray, addE_length] at h ⊢
  refine ⟨h.1, ?_⟩
  by_cases hi : i = c
  · subst hi
    rw [addE_at] at h
    cases ho : l[i]? with
    | none => rw [ho] at h; simpa using h.2
    | some o =>
      rw [ho] at h
      simp only [Option.map_some, Option.getD_some, Bool.and_eq_true] at h ⊢
      refine ⟨h.2.1, ?_⟩
      have := h.2.2
      simp only [Array.all_eq_true', List.mem_toArray, List.mem_cons] at this ⊢
      intro e he
      exact this e (.inr (by simpa using he))
  · rw [addE_ne hi] at h; exact h.2

theorem addE_lin {md : Region.Mode} (hmd : Region.binds md ⟨0, .data⟩ = true) {c u : Nat} (hne : u ≠ c) {l : List Oper} (hu : u < l.length) : ∀ (ord : List Nat) (listed : Array Bool), listed.size = l.length → Lin md l.toArray listed ord → (listed.getD u false = true ∨ uFirst u c ord = true) → Lin md (addE c u l).toArray listed ord
  | [], listed, hs, h, _ => by
    show Region.ready md (addE c u l).toArray listed = []
    have h : Region.ready md l.toArray listed = [] := h
    rw [List.eq_nil_iff_forall_not_mem]
    intro i hi
    have := addE_ready_sub hi
    rw [h] at this; cases this
  | i :: r, listed, hs, h, hf => by
    have hil : i < l.length := by
      have := (List.mem_filter.1 h.1).1
      simpa using this
    refine ⟨addE_ready hmd h.1 (fun hic => ?_), addE_lin hmd hne hu r _ (by simpa using hs) h.2 ?_⟩
    · rcases hf with hf | hf
      · exact hf
      · simp only [uFirst] at hf
        by_cases hiu : i = u
        · exact absurd (hiu.symm.trans hic) hne
        · rw [nat_beq_ne.2 hiu, nat_beq_eq.2 hic] at hf; cases hf
    · rcases hf with hf | hf
      · left
        rw [getD_lt (by omega)] at hf
        rw [getD_lt (by simp; omega), getD_set (by rw [hs]; exact hil), hf]; rfl
      · simp only [uFirst] at hf
        by_cases hiu : i = u
        · left
          subst hiu
          rw [getD_lt (by simp; omega), getD_set (by rw [hs]; exact hil)]; simp [Nat.beq_refl]
        · rw [nat_beq_ne.2 hiu] at hf
          right
          cases hb : Nat.beq i c with
          | true => rw [hb] at hf; cases hf
          | false => rw [hb] at hf; exact hf

theorem lin_go {md : Region.Mode} {ops : Array Oper} : ∀ (fuel t : Nat) (listed : Array Bool), listed.size = ops.size → ((List.range ops.size).filter fun j => !listed.getD j true).length ≤ fuel → Lin md ops listed (Region.linearise.go md ops fuel t listed []) ∧ (Region.linearise.go md ops fuel t listed []).length ≤ fuel := by
  intro fuel
  induction fuel with
  | zero =>
    intro t listed hs hf
    refine ⟨?_, by simp [Region.linearise.go]⟩
    show Region.ready md ops listed = []
    have hnil := List.eq_nil_of_length_eq_zero (Nat.le_zero.1 hf)
    rw [List.eq_nil_iff_forall_not_mem]
    intro i hi
    obtain ⟨h1, h2⟩ := List.mem_filter.1 hi
    have : i ∈ ((List.range ops.size).filter fun j => !listed.getD j true) := List.mem_filter.2 ⟨h1, by simp only [Bool.and_eq_true] at h2; exact h2.1⟩
    rw [hnil] at this; cases this
  | succ fuel ih =>
    intro t listed hs hf
    simp only [Region.linearise.go]
    change Lin md ops listed (match (Region.ready md ops listed)[t % (Region.ready md ops listed).length]? with
      | some i => Region.linearise.go md ops fuel (t / (Region.ready md ops listed).length) (listed.setIfInBounds i true) [i]
      | none => [].reverse) ∧ (match (Region.ready md ops listed)[t % (Region.ready md ops listed).length]? with
      | some i => Region.linearise.go md ops fuel (t / (Region.ready md ops listed).length) (listed.setIfInBounds i true) [i]
      | none => [].reverse).length ≤ fuel + 1
    cases hi : (Region.ready md ops listed)[t % (Region.ready md ops listed).length]? with
    | none =>
      have hnil : Region.ready md ops listed = [] := by
        cases hr : Region.ready md ops listed with
        | nil => rfl
        | cons x xs =>
          rw [hr] at hi
          have hlt : t % (x :: xs).length < (x :: xs).length := Nat.mod_lt _ (by simp)
          simp at hi
          simp at hlt
          omega
      exact ⟨hnil, by simp⟩
    | some i =>
      simp only []
      rw [linearise_go_acc, List.reverse_singleton, List.singleton_append]
      have hm := List.mem_of_getElem? hi
      obtain ⟨h1, h2⟩ := List.mem_filter.1 hm
      simp only [Bool.and_eq_true] at h2
      have hil : i < ops.size := List.mem_range.1 h1
      have hdec : ((List.range ops.size).filter fun j => !(listed.setIfInBounds i true).getD j true).length ≤ fuel := by
        have e1 : ((List.range ops.size).filter fun j => !(listed.setIfInBounds i true).getD j true) = ((List.range ops.size).filter fun j => !listed.getD j true).erase i := by
          have hnd : ((List.range ops.size).filter fun j => !listed.getD j true).Nodup := List.Pairwise.filter _ List.nodup_range
          rw [hnd.erase_eq_filter, List.filter_filter]
          apply List.filter_congr
          intro j hj
          rw [getD_set (by omega)]
          by_cases hji : j = i
          · subst hji; simp [Nat.beq_refl]
          · simp [nat_beq_ne.2 hji, hji]
        have hmem : i ∈ ((List.range ops.size).filter fun j => !listed.getD j true) := List.mem_filter.2 ⟨h1, h2.1⟩
        rw [e1, List.length_erase_of_mem hmem]
        omega
      obtain ⟨k1, k2⟩ := ih (t / (Region.ready md ops listed).length) (listed.setIfInBounds i true) (by simpa using hs) hdec
      exact ⟨⟨hm, k1⟩, by simpa using k2⟩

theorem addE_yielded {c u : Nat} {l : List Oper} {tmps : Array Value} : yielded (addE c u l).toArray tmps = yielded l.toArray tmps := by
  funext j
  unfold yielded
  simp only [List.getElem?_toArray]
  by_cases h : j = c
  · subst h
    rw [addE_at]
    cases l[j]? <;> rfl
  · rw [addE_ne h]

theorem addE_ops {P : Program} {c u : Nat} {l : List Oper} {Q : Exit → Act → World → Prop} : ∀ (ord : List Nat) (a : Act) (w : World), wpOps P (addE c u l).toArray Q ord a w → wpOps P l.toArray Q ord a w
  | [], a, w, h => h
  | i :: r, a, w, h => by
    rw [wpOps_cons] at h ⊢
    have h2 := wpOp_mono (fun a w hh => addE_ops r a w hh) h
    unfold wpOp at h2 ⊢
    rw [addE_yielded] at h2
    simp only [List.getElem?_toArray] at h2 ⊢
    by_cases hc : i = c
    · subst hc
      rw [addE_at] at h2
      cases ho : l[i]? with
      | none => rw [ho] at h2; exact h2
      | some o => rw [ho] at h2; exact h2
    · rw [addE_ne hc] at h2; exact h2

/-- Behind the first call of an interface's method: a new cell that waits for nobody. -/
def freeU (X : Ctx) : List Oper → Nat → Option (Nat × Nat) → Option (Nat × Nat × Nat)
  | [], _, _ => none
  | o :: r, i, none => match o.op, o.dst, o.guard with
    | .call c, some t, none => match c.callee with
      | .invoke _ _ => freeU X r (i + 1) (some (i, t))
      | _ => none
    | _, _, _ => freeU X r (i + 1) none
  | o :: r, i, some (k, t) => match o.op, o.guard, o.after.toList with
    | .alloc _, none, [] => some (k, t, i)
    | _, _, _ => freeU X r (i + 1) (some (k, t))

def frontP (u n : Nat) : List Nat := u :: (List.range n).filter fun j => !(Nat.beq j u)

/-- Both. -/
def both (A B : Prop) : Prop := A ∧ B

noncomputable def wpRegS (X : Ctx) (sm : Bool) (cf : CallF) (n : Nat) (ops : List Oper) (E : Env) (H : AHeap) (Q : AExit → Env → AHeap → Prop) : Prop := match freeU X ops 0 none with
  | none => wpReg X sm cf n ops E H Q
  | some (k, t, u) => both
    (match okPerm (frontP u ops.length) ops.length && (Nat.blt u ops.length && Nat.blt k u) with
      | true => forceO (permOps (frontP u ops.length) (addE k u ops)) fun o1 => wpReg X sm cf n o1 E H Q
      | false => Stuck 17 ops)
    (forceO (addE u k ops) fun o2 => match cutA k o2 0 && cutB k o2 0 && (match (o2[k]?).bind (·.dst) with
        | some t' => Nat.beq t' t
        | none => false) with
      | true => wpCutAt X sm cf n o2 E H Q k t
      | false => Stuck 18 ops)

theorem wpRegS_region [Dfs] {X : Ctx} {sm : Bool} {cf : CallF} (hX : CtxRows X) (hF : FcOk X) (hC : CallOk X cf) (hm : X.P.follows .mixedOrders = true) {Q : AExit → Env → AHeap → Prop} {N : Nat} {ρ0 : Rho} {H0 : AHeap} {w0 : World} {n : Nat} {all : List Oper} {E : Env} {H : AHeap} (h : wpRegS X sm cf n all E H Q) (hda : ∀ (j : Nat) (o : Oper) (t : Nat), all[j]? = some o → o.dst = some t → t < N)
    {ρ : Rho} {a : Act} {w : World} {id : Nat} (hS : Step ρ0 H0 w0 ρ H { w with drawn := w.drawn + 1 }) (hE : RelE ρ H.next E a) (hd : a.defers = Dfs.D) (hN : a.tmps.size = N) : (Code.region id all.toArray true).wp X.P (Lift ρ0 H0 w0 N Q) a w := by
  unfold wpRegS at h
  split at h
  · refine wp_region_any hm ?_
    have := wpReg_any hX hF hC n all E H h hda hS hE hd hN
    simpa using this
  rename_i k t u hfree
  obtain ⟨h1, h2⟩ := h
  split at h1
  rotate_left
  · exact (not_stuck h1).elim
  rename_i hp
  simp only [Bool.and_eq_true, Nat.blt_eq] at hp
  obtain ⟨hp, hul, hku⟩ := hp
  rw [forceO_eq] at h1 h2
  have hdaE : ∀ (c v : Nat) (j : Nat) (o : Oper) (t : Nat), (addE c v all)[j]? = some o → o.dst = some t → t < N := by
    intro c v j o t ho ht
    have := addE_any (c := c) (u := v) (i := j) (l := all)
    rw [ho] at this
    cases hq : all[j]? with
    | none => rw [hq] at this; cases this
    | some o2 =>
      rw [hq] at this
      simp only [Option.map_some, Option.some.injEq, Prod.mk.injEq] at this
      exact hda j o2 t hq (by rw [← this.2.1]; exact ht)
  have a1 : wpAny X.P .any (addE k u all).toArray (Lift ρ0 H0 w0 N Q) all.length (Array.replicate all.length false) a { w with drawn := w.drawn + 1 } := by
    have hlen : (addE k u all).length = all.length := addE_length _ _ _
    have hP : Perm (frontP u all.length) (addE k u all).length := by rw [hlen]; exact okPerm_spec hp
    have h3 := wpReg_any hX hF hC n _ E H h1 (fun j o t ho ht => by
      have hj : j < (addE k u all).length := by rw [← permOps_length hP]; exact (List.getElem?_eq_some_iff.1 ho).1
      rw [permOps_get hP hj] at ho
      cases hq : (addE k u all)[nthN (frontP u all.length) j]? with
      | none => rw [hq] at ho; cases ho
      | some o0 =>
        rw [hq] at ho
        simp only [Option.map_some, Option.some.injEq] at ho
        subst ho
        exact hdaE _ _ _ o0 t hq ht) hS hE hd hN
    rw [permOps_length hP, hlen] at h3
    exact wpAny_perm hP _ (Array.replicate all.length false) (Array.replicate all.length false) a _ (by simp [hlen]) (by simp [hlen]) (fun j hj => by
      have h1 : sigN (frontP u all.length) j < (addE k u all).length := hP.lt j hj
      rw [hlen] at h1 hj
      simp [h1, hj]) h3
  have a2 : wpAny X.P .any (addE u k all).toArray (Lift ρ0 H0 w0 N Q) all.length (Array.replicate all.length false) a { w with drawn := w.drawn + 1 } := by
    split at h2
    rotate_left
    · exact (not_stuck h2).elim
    rename_i hh
    simp only [Bool.and_eq_true] at hh
    have hlen : (addE u k all).length = all.length := addE_length _ _ _
    obtain ⟨⟨hA, hB⟩, hT⟩ := hh
    have hat : ∃ o, (addE u k all)[k]? = some o ∧ o.dst = some t := by
      cases hq : (addE u k all)[k]? with
      | none => rw [hq] at hT; cases hT
      | some o =>
        rw [hq] at hT
        refine ⟨o, rfl, ?_⟩
        cases hd : o.dst with
        | none => simp only [Option.bind_some, hd] at hT; cases hT
        | some t' => simp only [Option.bind_some, hd] at hT; rw [nat_beq_eq.1 hT]
    have h3 := cutAt_any hX hF hC (cut_of hA hB hat) (by rw [hlen]; omega) h2 (hdaE u k) hS hE hd hN
    rw [hlen] at h3
    exact h3
  refine wp_region_draw fun tape => ?_
  simp only [Region.schedule, hm, Bool.true_or, if_true]
  obtain ⟨l1, l2⟩ := lin_go (md := .any) (ops := all.toArray) all.toArray.size tape (Array.replicate all.toArray.size false) (by simp) (Nat.le_trans (List.length_filter_le _ _) (by simp))
  have l2 : (Region.linearise.go .any all.toArray all.toArray.size tape (Array.replicate all.toArray.size false) []).length ≤ all.length := by simpa using l2
  show wpOps X.P all.toArray (Lift ρ0 H0 w0 N Q) (Region.linearise.go .any all.toArray all.toArray.size tape (Array.replicate all.toArray.size false) []) a _
  generalize Region.linearise.go .any all.toArray all.toArray.size tape (Array.replicate all.toArray.size false) [] = ord at l1 l2
  rw [List.size_toArray] at l1
  rcases uFirst_or u k ord with hf | hf
  · exact addE_ops ord _ _ (any_lin ord _ _ _ _ a1 (addE_lin (by rfl) (by omega) hul ord _ (by simp) l1 (.inr hf)) l2)
  · exact addE_ops ord _ _ (any_lin ord _ _ _ _ a2 (addE_lin (by rfl) (by omega) (by omega) ord _ (by simp) l1 (.inr hf)) l2)

end Go.Proofs.Ytcgnoegejmhgmaa.Ev

/-
  Ev: code and functions.
-/
namespace Go.Proofs.Ytcgnoegejmhgmaa.Ev
set_option linter.unusedVariables false
set_option linter.unusedSimpArgs false
open Go.RowKit

/-! ### how code is reckoned -/

def env0 : List AVal → Nat → Env
  | [], _ => []
  | v :: vs, k => (k, v) :: env0 vs (Nat.succ k)

/-- The results' values. -/
def resL (P : Program) (E : Env) (H : AHeap) : List ResultVar → Option (Bool × List AVal)
  | [] => some (true, [])
  | .tmp t :: r => match getE E t, resL P E H r with
    | some v, some (c, vs) => some (c, v :: vs)
    | _, _ => none
  | .cell a t :: r => match getE E a with
    | some x => match loadA P false H t x, resL P E H r with
      | some (c, v), some (c', vs) => some (c && c', v :: vs)
      | _, _ => none
    | none => none

def resA : List AVal → AVal
  | [v] => v
  | vs => .tup vs

def endA (P : Program) (fn : Func) (K : Out → AHeap → Prop) : AExit → Env → AHeap → Prop
  | .normal, E, H | .ret, E, H => match resL P E H fn.results.toList with
    | some (c, vs) => obl c (K (.ret (resA vs)) H)
    | none => False
  | .panic v, E, H => K (.panic v) H
  | .exit _, _, _ => False

def inBlk (id : Nat) (Q : AExit → Env → AHeap → Prop) : AExit → Env → AHeap → Prop
  | .exit i, E, H => match Nat.beq i id with
    | true => Q .normal E H
    | false => Q (.exit i) E H
  | .normal, E, H => Q .normal E H
  | .ret, E, H => Q .ret E H
  | .panic v, E, H => Q (.panic v) E H

noncomputable def wpC (X : Ctx) : Nat → FuncId → Nat → Code → Env → AHeap → (AExit → Env → AHeap → Prop) → Prop
  | 0, _, _, _, _, _, _ => Stuck 8 []
  | n + 1, f, base, c, E, H, Q =>
    let cf : CallF := fun f args H K => match X.gc f with
      | some g => g args H K
      | none => match X.fns f with
        | some fn => match fn.body with
          | some c => wpC X n f H.next c (env0 args 0) H (endA X.P fn K)
          | none => False
        | none => False
    match c with
    | .skip => Q .normal E H
    | .seq x y => wpC X n f base x E H fun e E H => match e with
      | .normal => wpC X n f base y E H Q
      | .exit i => Q (.exit i) E H
      | .ret => Q .ret E H
      | .panic v => Q (.panic v) E H
    | .cond b x y => match evalO E b with
      | some (.bool b) => branch b (wpC X n f base x E H Q) (wpC X n f base y E H Q)
      | _ => False
    | .block id c => match X.lcs f id with
      | some L => L base E H Q
      | none => wpC X n f base c E H (inBlk id Q)
    | .loop c => wpC X n f base c E H fun e E H => match e with
      | .normal => wpC X n f base (.loop c) E H Q
      | .exit i => Q (.exit i) E H
      | .ret => Q .ret E H
      | .panic v => Q (.panic v) E H
    | .exit id => Q (.exit id) E H
    | .ret => Q .ret E H
    | .scope c => wpC X n f base c E H Q
    | .label _ => Q .normal E H
    | .region _ ops draw => match draw with
      | false => wpSeq X (X.sms f) cf ops.toList ops.toList E H Q
      | true => wpRegS X (X.sms f) cf 40 ops.toList E H Q
    | _ => Stuck 9 []

noncomputable def callC (X : Ctx) (n : Nat) : CallF := fun f args H K => match X.gc f with
  | some g => g args H K
  | none => match X.fns f with
    | some fn => match fn.body with
      | some c => wpC X n f H.next c (env0 args 0) H (endA X.P fn K)
      | none => False
    | none => False

/-! ### what is asked of a program -/

/-- All temporaries that a piece of code writes are below n. -/
def okDst (n : Nat) : Code → Bool
  | .region _ ops _ => ops.toList.all fun o => match o.dst with
    | some t => Nat.blt t n
    | none => true
  | .seq a b => okDst n a && okDst n b
  | .cond _ a b => okDst n a && okDst n b
  | .block _ c => okDst n c
  | .loop c => okDst n c
  | .scope c => okDst n c
  | _ => true

/-- The blocks of a piece of code. -/
def blocksC : Code → List (Nat × Code)
  | .seq a b => blocksC a ++ blocksC b
  | .cond _ a b => blocksC a ++ blocksC b
  | .block id c => (id, c) :: blocksC c
  | .loop c => blocksC c
  | .scope c => blocksC c
  | _ => []

/-- What a block's law claims. -/
def LSound (P : Program) (id : Nat) (c : Code) (n : Nat) (L : LC) : Prop := ∀ base E H Q, L base E H Q → ∀ [Dfs], ∀ ρ0 H0 w0 ρ a w, H0.next ≤ base → Step ρ0 H0 w0 ρ H w → RelE ρ H.next E a → a.defers = Dfs.D → a.tmps.size = n → (Code.block id c).wp P (Lift ρ0 H0 w0 n Q) a w

structure CtxOk (X : Ctx) : Prop where
  rows : CtxRows X
  fcs : FcOk X
  mixed : X.P.follows .mixedOrders = true
  fns : ∀ f fn, X.fns f = some fn → X.P.funcs[f]? = some fn ∧ (∀ vs w, (callFunc f vs).run X.P w = .ok (.enter f vs) w) ∧ ∃ c, fn.body = some c ∧ okDst fn.ntmps c = true
  lcs : ∀ f fn c, X.fns f = some fn → fn.body = some c → ∀ p ∈ blocksC c, ∀ L, X.lcs f p.1 = some L → ∀ n, fn.ntmps ≤ n → LSound X.P p.1 p.2 n L
  gcs : ∀ f g, X.gc f = some g → ∀ args H K, g args H K → ∀ ρ w, Rel ρ H w → belowL H.next args = true → (∀ vs w, (callFunc f vs).run X.P w = .ok (.enter f vs) w) ∧
    Calls X.P f (trL ρ args).toArray w fun e w' => ∃ out H' ρ', Out.rel ρ' H'.next out e ∧ K out H' ∧ Step ρ H w ρ' H' w'

/-! ### it is so -/

section
variable {X : Ctx}

theorem env0_get : ∀ {vs : List AVal} {k t : Nat} {v : AVal}, getE (env0 vs k) t = some v → ∃ i, t = k + i ∧ vs[i]? = some v
  | [], k, t, v, h => by simp [env0, getE] at h
  | u :: vs, k, t, v, h => by
    simp only [env0, getE_cons] at h
    by_cases hkt : k = t
    · rw [if_pos hkt] at h
      simp only [Option.some.injEq] at h
      exact ⟨0, by omega, by simp [h]⟩
    · rw [if_neg hkt] at h
      obtain ⟨i, h1, h2⟩ := env0_get h
      exact ⟨i + 1, by omega, by simpa using h2⟩

def resOne (tmps : Array Value) : ResultVar → Sem Value
  | .tmp t => pure (tmps.getD t undef)
  | .cell x t => do loadVar t (← asAddr (tmps.getD x undef))

theorem results_eq (fn : Func) (tmps : Array Value) : results fn tmps = (do
    let vs ← fn.results.mapM (resOne tmps)
    pure (if h : vs.size = 1 then vs[0] else .tuple vs)) := rfl

theorem resL_sound {E : Env} {H : AHeap} {ρ : Rho} {N : Nat} {a : Act} {w : World} (hE : RelE ρ N E a) (hH : ∀ b y, H.get b = some y → y.under N = true ∧ y.ok ρ w b) : ∀ {rs : List ResultVar} {vs : List AVal}, resL X.P E H rs = some (true, vs) →
    (rs.mapM (resOne a.tmps)).run X.P w = Result.ok (trL ρ vs) w ∧ belowL N vs = true
  | [], vs, h => by simp only [resL, Option.some.injEq, Prod.mk.injEq, true_and] at h; subst h; simp [trL, belowL]
  | .tmp t :: rs, vs, h => by
    simp only [resL] at h
    split at h <;> try cases h
    rename_i v vs' hv hr
    obtain ⟨h1, h2⟩ := resL_sound hE hH hr
    obtain ⟨h3, h4⟩ := hE.get t v hv
    refine ⟨?_, by simp [belowL, h4, h2]⟩
    simp only [List.mapM_cons, resOne, Sem.run_bind, Sem.run_pure, Result.andThen_ok, h1, trL]
    simp [h3]
  | .cell x t :: rs, vs, h => by
    simp only [resL] at h
    split at h <;> try cases h
    rename_i u hu
    split at h <;> try cases h
    rename_i c v c' vs' hv hr
    simp only [Option.some.injEq, Prod.mk.injEq, Bool.and_eq_true] at h
    obtain ⟨⟨rfl, rfl⟩, rfl⟩ := h
    obtain ⟨h1, h2⟩ := resL_sound hE hH hr
    obtain ⟨h3, h4⟩ := hE.get x u hu
    obtain ⟨h5, h6⟩ := loadA_sound hv hH
    refine ⟨?_, by simp [belowL, h6, h2]⟩
    have hp : ∃ b i sz j, u = .ptr b i sz j := by
      unfold loadA at hv
      split at hv
      · exact ⟨_, _, _, _, rfl⟩
      · cases hv
    obtain ⟨b, i, sz, j, rfl⟩ := hp
    simp only [Instr.loadAt, tr, Instr.sureAddr, Sem.run_bind, Sem.run_pure, Result.andThen_ok] at h5
    have e : a.tmps.getD x undef = .pointer (some ⟨ρ.blk b, ρ.off b + (i * sz + j), none⟩) := by simp [h3, tr]
    have ha : (asAddr (a.tmps.getD x undef)).run X.P w = .ok ⟨ρ.blk b, ρ.off b + (i * sz + j), none⟩ w := by rw [e]; rfl
    simp only [List.mapM_cons, resOne, Sem.run_bind, ha, Sem.run_pure, Result.andThen_ok, h5, h1, trL]

theorem Lift.mono [Dfs] {ρ0 : Rho} {H0 : AHeap} {w0 : World} {n : Nat} {Q Q' : AExit → Env → AHeap → Prop} {x : Exit} {a : Act} {w : World} (h : Lift ρ0 H0 w0 n Q x a w) (hq : ∀ x E H, Q x E H → Q' x E H) : Lift ρ0 H0 w0 n Q' x a w := by
  obtain ⟨x', E, H, ρ, h1, h2, h3⟩ := h
  exact ⟨x', E, H, ρ, h1, hq _ _ _ h2, h3⟩

/-- A function, out of its body. -/
theorem fn_sound {f : FuncId} {fn : Func} {c : Code} (hf : X.P.funcs[f]? = some fn) (hb : fn.body = some c) {args : List AVal} {H : AHeap} {K : Out → AHeap → Prop} {ρ : Rho} {w : World} (hR : Rel ρ H w) (hargs : belowL H.next args = true)
    (h : ∀ a : Act, RelE ρ H.next (env0 args 0) a → a.defers = [] → fn.ntmps ≤ a.tmps.size → c.wp X.P (@Lift ⟨[]⟩ ρ H w a.tmps.size (endA X.P fn K)) a w) :
    Calls X.P f (trL ρ args).toArray w fun e w' => ∃ out H' ρ', Out.rel ρ' H'.next out e ∧ K out H' ∧ Step ρ H w ρ' H' w' := by
  refine calls_of_wp hf hb ?_
  have hE : RelE ρ H.next (env0 args 0) { tmps := (trL ρ args).toArray ++ Array.replicate (fn.ntmps - (trL ρ args).toArray.size) undef, defers := [] } := by
    refine ⟨fun t v hv => ?_⟩
    obtain ⟨i, rfl, hi⟩ := env0_get hv
    rw [Nat.zero_add]
    have hil : i < args.length := (List.getElem?_eq_some_iff.1 hi).1
    refine ⟨?_, ?_⟩
    · rw [Array.getElem?_append_left (by simp [trL_length, hil])]
      simp [trL_get, hi]
    · rw [belowL_eq, List.all_eq_true] at hargs
      exact hargs v (List.mem_of_getElem? hi)
  refine wp_mono (h _ hE rfl (by simp; omega)) ?_
  rintro x a' w' ⟨x', E, H', ρ', h1, h2, h3, h4, h5, h6⟩
  have hH : ∀ b y, H'.get b = some y → y.under H'.next = true ∧ y.ok ρ' w' b := fun b y hy => ⟨(h6.rel.blk b y hy).2.1, (h6.rel.blk b y hy).2.2.2⟩
  have fin : ∀ K' : Out → AHeap → Prop, (match resL X.P E H' fn.results.toList with
      | some (c, vs) => obl c (K' (.ret (resA vs)) H')
      | none => False) → (∀ out H, K' out H → K out H) → a'.defers = [] ∧ ∃ v, (results fn a'.tmps).run X.P w' = .ok v w' ∧ ∃ out H'' ρ'', Out.rel ρ'' H''.next out (.returned v) ∧ K out H'' ∧ Step ρ H w ρ'' H'' w' := by
    intro K' hk hKK
    split at hk
    · rename_i c vs hres
      obtain ⟨rfl, hk⟩ := obl_true hk
      obtain ⟨r1, r2⟩ := resL_sound h3 hH hres
      refine ⟨h4, tr ρ' (resA vs), ?_, .ret (resA vs), H', ρ', ⟨rfl, ?_⟩, hKK _ _ hk, h6⟩
      · rw [results_eq, Array.mapM_eq_mapM_toList]
        simp only [Sem.run_bind, Sem.run_map, r1, Result.andThen_ok, Sem.run_pure]
        congr 1
        cases vs with
        | nil => simp [trL, resA, tr]
        | cons v vs =>
          cases vs with
          | nil => simp [trL, resA]
          | cons v' vs => simp [trL, resA, tr]
      · cases vs with
        | nil => rfl
        | cons v vs =>
          cases vs with
          | nil => simpa [resA, belowL] using r2
          | cons v' vs => exact r2
    · exact hk.elim
  cases x' with
  | normal =>
    cases x <;> simp only [AExit.rel] at h1
    exact fin K h2 (fun _ _ h => h)
  | ret =>
    cases x <;> simp only [AExit.rel] at h1
    exact fin K h2 (fun _ _ h => h)
  | panic v =>
    cases x <;> simp only [AExit.rel] at h1
    exact ⟨h4, .panic v, H', ρ', h1, h2, h6⟩
  | exit i => exact h2.elim

theorem wpC_both (hX : CtxOk X) : ∀ (n : Nat) (f : FuncId) (base : Nat) (c : Code) (E : Env) (H : AHeap) (Q : AExit → Env → AHeap → Prop), wpC X n f base c E H Q →
    ∀ [Dfs] {ρ0 : Rho} {H0 : AHeap} {w0 : World} {N : Nat} {ρ : Rho} {a : Act} {w : World}, H0.next ≤ base → (∃ fn, X.fns f = some fn ∧ fn.ntmps ≤ N ∧ ∃ body, fn.body = some body ∧ (∀ p ∈ blocksC c, p ∈ blocksC body) ∧ okDst fn.ntmps c = true) →
      Step ρ0 H0 w0 ρ H w → RelE ρ H.next E a → a.defers = Dfs.D → a.tmps.size = N → c.wp X.P (Lift ρ0 H0 w0 N Q) a w ∧ (∀ c', c = .loop c' → Code.rounds X.P c' (Lift ρ0 H0 w0 N Q) n a w) := by
  intro n
  induction n with
  | zero => intro f base c E H Q h; exact (not_stuck h).elim
  | succ n ih2 =>
    have ih : ∀ (f : FuncId) (base : Nat) (c : Code) (E : Env) (H : AHeap) (Q : AExit → Env → AHeap → Prop), wpC X n f base c E H Q →
        ∀ [Dfs] {ρ0 : Rho} {H0 : AHeap} {w0 : World} {N : Nat} {ρ : Rho} {a : Act} {w : World}, H0.next ≤ base → (∃ fn, X.fns f = some fn ∧ fn.ntmps ≤ N ∧ ∃ body, fn.body = some body ∧ (∀ p ∈ blocksC c, p ∈ blocksC body) ∧ okDst fn.ntmps c = true) →
          Step ρ0 H0 w0 ρ H w → RelE ρ H.next E a → a.defers = Dfs.D → a.tmps.size = N → c.wp X.P (Lift ρ0 H0 w0 N Q) a w := fun f base c E H Q h _ _ _ _ _ _ _ _ h1 h2 h3 h4 h5 h6 => (ih2 f base c E H Q h h1 h2 h3 h4 h5 h6).1
    intro f base c E H Q h _ ρ0 H0 w0 N ρ a w hbase hfn hS hE hd hN
    obtain ⟨fn, hfn1, hfn2, body, hfn3, hfn4, hfn5⟩ := hfn
    suffices hmain : (match c with
        | .loop c' => Code.rounds X.P c' (Lift ρ0 H0 w0 N Q) (n + 1) a w
        | c => c.wp X.P (Lift ρ0 H0 w0 N Q) a w) by
      cases c with
      | loop c' => exact ⟨wp_loop_rounds (n + 1) hmain, fun c'' h => by cases h; exact hmain⟩
      | _ => exact ⟨hmain, fun c'' h => by cases h⟩
    have hC : CallOk X (callC X n) := by
      intro g args H K hg ρ w hR hargs
      unfold callC at hg
      split at hg
      · rename_i gg hgg
        exact hX.gcs g gg hgg args H K hg ρ w hR hargs
      · split at hg
        · rename_i fn' hfn'
          split at hg
          · rename_i c' hc'
            obtain ⟨q1, q2, c2, q3, q4⟩ := hX.fns g fn' hfn'
            rw [hc'] at q3
            cases q3
            refine ⟨q2, fn_sound q1 hc' hR hargs (fun a hE hd hN => ?_)⟩
            exact @ih g H.next c' _ H _ hg ⟨[]⟩ _ _ _ _ _ _ _ (Nat.le_refl _) ⟨fn', hfn', hN, c', hc', fun p hp => hp, q4⟩ (Step.refl hR) hE hd rfl
          · exact hg.elim
        · exact hg.elim
    have dstOk : ∀ {ops : Array Oper}, (ops.toList.all fun o => match o.dst with
        | some t => Nat.blt t fn.ntmps
        | none => true) = true → ∀ (j : Nat) (o : Oper) (t : Nat), ops[j]? = some o → o.dst = some t → t < N := by
      intro ops hops j o t hj ht
      rw [List.all_eq_true] at hops
      have := hops o (List.mem_of_getElem? (by simpa using hj))
      rw [ht] at this
      have hlt : t < fn.ntmps := by simpa using this
      omega
    unfold wpC at h
    cases c with
    | skip => exact wp_skip ⟨.normal, E, H, ρ, trivial, h, hE, hd, hN, hS⟩
    | ret => exact wp_ret ⟨.ret, E, H, ρ, trivial, h, hE, hd, hN, hS⟩
    | exit id => exact wp_exit ⟨.exit id, E, H, ρ, rfl, h, hE, hd, hN, hS⟩
    | label l => exact wp_label ⟨.normal, E, H, ρ, trivial, h, hE, hd, hN, hS⟩
    | scope c =>
      simp only [okDst] at hfn5
      refine wp_scope_straight (wp_mono (ih f base c E H Q h hbase ⟨fn, hfn1, hfn2, body, hfn3, fun p hp => hfn4 p (by simpa [blocksC] using hp), hfn5⟩ hS hE hd hN) ?_)
      rintro e a' w' ⟨x', E', H', ρ', h1, h2⟩
      cases e with
      | goto l => cases x' <;> cases h1
      | _ => exact ⟨x', E', H', ρ', h1, h2⟩
    | seq x y =>
      simp only [okDst, Bool.and_eq_true] at hfn5
      refine wp_seq (wp_mono (ih f base x E H _ h hbase ⟨fn, hfn1, hfn2, body, hfn3, fun p hp => hfn4 p (by simp [blocksC, hp]), hfn5.1⟩ hS hE hd hN) ?_)
      rintro e a' w' ⟨x', E', H', ρ', h1, h2, h3, h4, h5, h6⟩
      cases x' with
      | normal =>
        cases e <;> simp only [AExit.rel] at h1
        exact ih f base y E' H' Q h2 hbase ⟨fn, hfn1, hfn2, body, hfn3, fun p hp => hfn4 p (by simp [blocksC, hp]), hfn5.2⟩ h6 h3 h4 h5
      | exit i => cases e <;> simp only [AExit.rel] at h1; exact ⟨.exit i, E', H', ρ', h1, h2, h3, h4, h5, h6⟩
      | ret => cases e <;> simp only [AExit.rel] at h1; exact ⟨.ret, E', H', ρ', trivial, h2, h3, h4, h5, h6⟩
      | panic v => cases e <;> simp only [AExit.rel] at h1; exact ⟨.panic v, E', H', ρ', h1, h2, h3, h4, h5, h6⟩
    | cond b x y =>
      simp only [okDst, Bool.and_eq_true] at hfn5
      simp only at h
      split at h
      · rename_i b' hb
        obtain ⟨h1, h2⟩ := evalO_tr hE hb
        rw [branch_iff] at h
        refine wp_cond_split (t := b') (by rw [h1]; rfl) (fun ht => ?_) (fun ht => ?_)
        · exact ih f base x E H Q (h.1 ht) hbase ⟨fn, hfn1, hfn2, body, hfn3, fun p hp => hfn4 p (by simp [blocksC, hp]), hfn5.1⟩ hS hE hd hN
        · exact ih f base y E H Q (h.2 ht) hbase ⟨fn, hfn1, hfn2, body, hfn3, fun p hp => hfn4 p (by simp [blocksC, hp]), hfn5.2⟩ hS hE hd hN
      · exact h.elim
    | block id c =>
      simp only at h
      split at h
      · rename_i L hL
        exact hX.lcs f fn body hfn1 hfn3 (id, c) (hfn4 _ (by simp [blocksC])) L hL N hfn2 base E H Q h ρ0 H0 w0 ρ a w hbase hS hE hd hN
      · simp only [okDst] at hfn5
        refine wp_block (wp_mono (ih f base c E H _ h hbase ⟨fn, hfn1, hfn2, body, hfn3, fun p hp => hfn4 p (by simp [blocksC, hp]), hfn5⟩ hS hE hd hN) ?_)
        rintro e a' w' ⟨x', E', H', ρ', h1, h2, h3, h4, h5, h6⟩
        cases x' with
        | normal => cases e <;> simp only [AExit.rel] at h1; exact ⟨.normal, E', H', ρ', trivial, h2, h3, h4, h5, h6⟩
        | exit i =>
          cases e <;> simp only [AExit.rel] at h1
          subst h1
          simp only [inBlk] at h2
          split at h2
          · rename_i hi
            have := nat_beq_eq.1 hi
            simp only [Exit.inBlock, if_pos this]
            exact ⟨.normal, E', H', ρ', trivial, h2, h3, h4, h5, h6⟩
          · rename_i hi
            have := nat_beq_ne.1 hi
            simp only [Exit.inBlock, if_neg this]
            exact ⟨.exit i, E', H', ρ', rfl, h2, h3, h4, h5, h6⟩
        | ret => cases e <;> simp only [AExit.rel] at h1; exact ⟨.ret, E', H', ρ', trivial, h2, h3, h4, h5, h6⟩
        | panic v => cases e <;> simp only [AExit.rel] at h1; exact ⟨.panic v, E', H', ρ', h1, h2, h3, h4, h5, h6⟩
    | loop c =>
      simp only [okDst] at hfn5
      show Code.wp X.P c (Exit.then (Code.rounds X.P c (Lift ρ0 H0 w0 N Q) n) (Lift ρ0 H0 w0 N Q)) a w
      refine (wp_mono (ih f base c E H _ h hbase ⟨fn, hfn1, hfn2, body, hfn3, fun p hp => hfn4 p (by simpa [blocksC] using hp), hfn5⟩ hS hE hd hN) ?_)
      rintro e a' w' ⟨x', E', H', ρ', h1, h2, h3, h4, h5, h6⟩
      cases x' with
      | normal =>
        cases e <;> simp only [AExit.rel] at h1
        exact (ih2 f base (.loop c) E' H' Q h2 hbase ⟨fn, hfn1, hfn2, body, hfn3, fun p hp => hfn4 p (by simpa [blocksC] using hp), hfn5⟩ h6 h3 h4 h5).2 c rfl
      | exit i => cases e <;> simp only [AExit.rel] at h1; exact ⟨.exit i, E', H', ρ', h1, h2, h3, h4, h5, h6⟩
      | ret => cases e <;> simp only [AExit.rel] at h1; exact ⟨.ret, E', H', ρ', trivial, h2, h3, h4, h5, h6⟩
      | panic v => cases e <;> simp only [AExit.rel] at h1; exact ⟨.panic v, E', H', ρ', h1, h2, h3, h4, h5, h6⟩
    | region id ops draw =>
      simp only [okDst] at hfn5
      have hdst := dstOk hfn5
      cases draw with
      | false =>
        refine wp_region ?_
        have := wpSeq_sound hX.rows hX.fcs hC (ops := ops) hdst ops.toList 0 (by simp) E H ρ a w h hS hE hd hN
        rw [List.range_eq_range']
        simpa using this
      | true =>
        have := wpRegS_region hX.rows hX.fcs hC hX.mixed (id := id) h (by simpa using hdst) (hS.trans (Step.grow hS.rel (Below.drew (Below.refl _ _)))) hE hd hN
        simpa using this
    | _ => exact (not_stuck h).elim

theorem wpC_sound (hX : CtxOk X) [Dfs] {n : Nat} {f : FuncId} {base : Nat} {c : Code} {E : Env} {H : AHeap} {Q : AExit → Env → AHeap → Prop} (h : wpC X n f base c E H Q)
    {ρ0 : Rho} {H0 : AHeap} {w0 : World} {N : Nat} {ρ : Rho} {a : Act} {w : World} (hb : H0.next ≤ base) (hf : ∃ fn, X.fns f = some fn ∧ fn.ntmps ≤ N ∧ ∃ body, fn.body = some body ∧ (∀ p ∈ blocksC c, p ∈ blocksC body) ∧ okDst fn.ntmps c = true)
    (hS : Step ρ0 H0 w0 ρ H w) (hE : RelE ρ H.next E a) (hd : a.defers = Dfs.D) (hN : a.tmps.size = N) : c.wp X.P (Lift ρ0 H0 w0 N Q) a w := (wpC_both hX n f base c E H Q h hb hf hS hE hd hN).1

end

end Go.Proofs.Ytcgnoegejmhgmaa.Ev

