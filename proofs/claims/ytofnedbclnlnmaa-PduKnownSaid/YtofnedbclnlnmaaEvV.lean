/-
  Ev: code and functions.
-/
import Derived.Test.YtofnedbclnlnmaaEvU
import Derived.LoopN
namespace Go.Proofs.Ytofnedbclnlnmaa.Ev
set_option linter.unusedVariables false
set_option linter.unusedSimpArgs false
open Go.RowKit

/-! ### how code is reckoned -/

def env0 : List AVal → Nat → Env
  | [], _ => []
  | v :: vs, k => (k, v) :: env0 vs (Nat.succ k)

/-- The results' values. -/
def resL (P : Program) (E : Env) (H : AHeap) : List ResultVar → Option (Bool × List AVal)
  | [] => some (true, [])
  | .tmp t :: r => match getE E t, resL P E H r with
    | some v, some (c, vs) => some (c, v :: vs)
    | _, _ => none
  | .cell a t :: r => match getE E a with
    | some x => match loadA P false H t x, resL P E H r with
      | some (c, v), some (c', vs) => some (c && c', v :: vs)
      | _, _ => none
    | none => none

def resA : List AVal → AVal
  | [v] => v
  | vs => .tup vs

def endA (P : Program) (fn : Func) (K : Out → AHeap → Prop) : AExit → Env → AHeap → Prop
  | .normal, E, H | .ret, E, H => match resL P E H fn.results.toList with
    | some (c, vs) => obl c (K (.ret (resA vs)) H)
    | none => False
  | .panic v, E, H => K (.panic v) H
  | .exit _, _, _ => False

def inBlk (id : Nat) (Q : AExit → Env → AHeap → Prop) : AExit → Env → AHeap → Prop
  | .exit i, E, H => match Nat.beq i id with
    | true => Q .normal E H
    | false => Q (.exit i) E H
  | .normal, E, H => Q .normal E H
  | .ret, E, H => Q .ret E H
  | .panic v, E, H => Q (.panic v) E H

noncomputable def wpC (X : Ctx) : Nat → FuncId → Nat → Code → Env → AHeap → (AExit → Env → AHeap → Prop) → Prop
  | 0, _, _, _, _, _, _ => False
  | n + 1, f, base, c, E, H, Q =>
    let cf : CallF := fun f args H K => match X.gc f with
      | some g => g args H K
      | none => match X.fns f with
        | some fn => match fn.body with
          | some c => wpC X n f H.next c (env0 args 0) H (endA X.P fn K)
          | none => False
        | none => False
    match c with
    | .skip => Q .normal E H
    | .seq x y => wpC X n f base x E H fun e E H => match e with
      | .normal => wpC X n f base y E H Q
      | .exit i => Q (.exit i) E H
      | .ret => Q .ret E H
      | .panic v => Q (.panic v) E H
    | .cond b x y => match evalO E b with
      | some (.bool b) => branch b (wpC X n f base x E H Q) (wpC X n f base y E H Q)
      | _ => False
    | .block id c => match X.lcs f id with
      | some L => L base E H Q
      | none => wpC X n f base c E H (inBlk id Q)
    | .loop c => wpC X n f base c E H fun e E H => match e with
      | .normal => wpC X n f base (.loop c) E H Q
      | .exit i => Q (.exit i) E H
      | .ret => Q .ret E H
      | .panic v => Q (.panic v) E H
    | .exit id => Q (.exit id) E H
    | .ret => Q .ret E H
    | .region _ ops draw => match draw with
      | false => wpSeq X (X.sms f) cf ops.toList ops.toList E H Q
      | true => wpDraw X (X.sms f) cf ops.toList E H ops.toList [] Q
    | _ => False

noncomputable def callC (X : Ctx) (n : Nat) : CallF := fun f args H K => match X.gc f with
  | some g => g args H K
  | none => match X.fns f with
    | some fn => match fn.body with
      | some c => wpC X n f H.next c (env0 args 0) H (endA X.P fn K)
      | none => False
    | none => False

/-! ### what is asked of a program -/

/-- All temporaries that a piece of code writes are below n. -/
def okDst (n : Nat) : Code → Bool
  | .region _ ops _ => ops.toList.all fun o => match o.dst with
    | some t => Nat.blt t n
    | none => true
  | .seq a b => okDst n a && okDst n b
  | .cond _ a b => okDst n a && okDst n b
  | .block _ c => okDst n c
  | .loop c => okDst n c
  | _ => true

/-- The blocks of a piece of code. -/
def blocksC : Code → List (Nat × Code)
  | .seq a b => blocksC a ++ blocksC b
  | .cond _ a b => blocksC a ++ blocksC b
  | .block id c => (id, c) :: blocksC c
  | .loop c => blocksC c
  | _ => []

/-- What a block's law claims. -/
def LSound (P : Program) (id : Nat) (c : Code) (n : Nat) (L : LC) : Prop := ∀ base E H Q, L base E H Q → ∀ ρ0 H0 w0 ρ a w, H0.next ≤ base → Step ρ0 H0 w0 ρ H w → RelE ρ H.next E a → a.defers = [] → a.tmps.size = n → (Code.block id c).wp P (Lift ρ0 H0 w0 n Q) a w

structure CtxOk (X : Ctx) : Prop where
  rows : CtxRows X
  fcs : FcOk X
  mixed : X.P.follows .mixedOrders = true
  fns : ∀ f fn, X.fns f = some fn → X.P.funcs[f]? = some fn ∧ (∀ vs w, (callFunc f vs).run X.P w = .ok (.enter f vs) w) ∧ ∃ c, fn.body = some c ∧ okDst fn.ntmps c = true
  lcs : ∀ f fn c, X.fns f = some fn → fn.body = some c → ∀ p ∈ blocksC c, ∀ L, X.lcs f p.1 = some L → ∀ n, fn.ntmps ≤ n → LSound X.P p.1 p.2 n L
  gcs : ∀ f g, X.gc f = some g → ∀ args H K, g args H K → ∀ ρ w, Rel ρ H w → belowL H.next args = true → (∀ vs w, (callFunc f vs).run X.P w = .ok (.enter f vs) w) ∧
    Calls X.P f (trL ρ args).toArray w fun e w' => ∃ out H' ρ', Out.rel ρ' H'.next out e ∧ K out H' ∧ Step ρ H w ρ' H' w'

/-! ### it is so -/

section
variable {X : Ctx}

theorem env0_get : ∀ {vs : List AVal} {k t : Nat} {v : AVal}, getE (env0 vs k) t = some v → ∃ i, t = k + i ∧ vs[i]? = some v
  | [], k, t, v, h => by simp [env0, getE] at h
  | u :: vs, k, t, v, h => by
    simp only [env0, getE_cons] at h
    by_cases hkt : k = t
    · rw [if_pos hkt] at h
      simp only [Option.some.injEq] at h
      exact ⟨0, by omega, by simp [h]⟩
    · rw [if_neg hkt] at h
      obtain ⟨i, h1, h2⟩ := env0_get h
      exact ⟨i + 1, by omega, by simpa using h2⟩

def resOne (tmps : Array Value) : ResultVar → Sem Value
  | .tmp t => pure (tmps.getD t undef)
  | .cell x t => do loadVar t (← asAddr (tmps.getD x undef))

theorem results_eq (fn : Func) (tmps : Array Value) : results fn tmps = (do
    let vs ← fn.results.mapM (resOne tmps)
    pure (if h : vs.size = 1 then vs[0] else .tuple vs)) := rfl

theorem resL_sound {E : Env} {H : AHeap} {ρ : Rho} {N : Nat} {a : Act} {w : World} (hE : RelE ρ N E a) (hH : ∀ b y, H.get b = some y → y.under N = true ∧ y.ok ρ w b) : ∀ {rs : List ResultVar} {vs : List AVal}, resL X.P E H rs = some (true, vs) →
    (rs.mapM (resOne a.tmps)).run X.P w = Result.ok (trL ρ vs) w ∧ belowL N vs = true
  | [], vs, h => by simp only [resL, Option.some.injEq, Prod.mk.injEq, true_and] at h; subst h; simp [trL, belowL]
  | .tmp t :: rs, vs, h => by
    simp only [resL] at h
    split at h <;> try cases h
    rename_i v vs' hv hr
    obtain ⟨h1, h2⟩ := resL_sound hE hH hr
    obtain ⟨h3, h4⟩ := hE.get t v hv
    refine ⟨?_, by simp [belowL, h4, h2]⟩
    simp only [List.mapM_cons, resOne, Sem.run_bind, Sem.run_pure, Result.andThen_ok, h1, trL]
    simp [h3]
  | .cell x t :: rs, vs, h => by
    simp only [resL] at h
    split at h <;> try cases h
    rename_i u hu
    split at h <;> try cases h
    rename_i c v c' vs' hv hr
    simp only [Option.some.injEq, Prod.mk.injEq, Bool.and_eq_true] at h
    obtain ⟨⟨rfl, rfl⟩, rfl⟩ := h
    obtain ⟨h1, h2⟩ := resL_sound hE hH hr
    obtain ⟨h3, h4⟩ := hE.get x u hu
    obtain ⟨h5, h6⟩ := loadA_sound hv hH
    refine ⟨?_, by simp [belowL, h6, h2]⟩
    have hp : ∃ b i sz j, u = .ptr b i sz j := by
      unfold loadA at hv
      split at hv
      · exact ⟨_, _, _, _, rfl⟩
      · cases hv
    obtain ⟨b, i, sz, j, rfl⟩ := hp
    simp only [Instr.loadAt, tr, Instr.sureAddr, Sem.run_bind, Sem.run_pure, Result.andThen_ok] at h5
    have e : a.tmps.getD x undef = .pointer (some ⟨ρ.blk b, ρ.off b + (i * sz + j), none⟩) := by simp [h3, tr]
    have ha : (asAddr (a.tmps.getD x undef)).run X.P w = .ok ⟨ρ.blk b, ρ.off b + (i * sz + j), none⟩ w := by rw [e]; rfl
    simp only [List.mapM_cons, resOne, Sem.run_bind, ha, Sem.run_pure, Result.andThen_ok, h5, h1, trL]

theorem Lift.mono {ρ0 : Rho} {H0 : AHeap} {w0 : World} {n : Nat} {Q Q' : AExit → Env → AHeap → Prop} {x : Exit} {a : Act} {w : World} (h : Lift ρ0 H0 w0 n Q x a w) (hq : ∀ x E H, Q x E H → Q' x E H) : Lift ρ0 H0 w0 n Q' x a w := by
  obtain ⟨x', E, H, ρ, h1, h2, h3⟩ := h
  exact ⟨x', E, H, ρ, h1, hq _ _ _ h2, h3⟩

/-- A function, out of its body. -/
theorem fn_sound {f : FuncId} {fn : Func} {c : Code} (hf : X.P.funcs[f]? = some fn) (hb : fn.body = some c) {args : List AVal} {H : AHeap} {K : Out → AHeap → Prop} {ρ : Rho} {w : World} (hR : Rel ρ H w) (hargs : belowL H.next args = true)
    (h : ∀ a : Act, RelE ρ H.next (env0 args 0) a → a.defers = [] → fn.ntmps ≤ a.tmps.size → c.wp X.P (Lift ρ H w a.tmps.size (endA X.P fn K)) a w) :
    Calls X.P f (trL ρ args).toArray w fun e w' => ∃ out H' ρ', Out.rel ρ' H'.next out e ∧ K out H' ∧ Step ρ H w ρ' H' w' := by
  refine calls_of_wp hf hb ?_
  have hE : RelE ρ H.next (env0 args 0) { tmps := (trL ρ args).toArray ++ Array.replicate (fn.ntmps - (trL ρ args).toArray.size) undef, defers := [] } := by
    refine ⟨fun t v hv => ?_⟩
    obtain ⟨i, rfl, hi⟩ := env0_get hv
    rw [Nat.zero_add]
    have hil : i < args.length := (List.getElem?_eq_some_iff.1 hi).1
    refine ⟨?_, ?_⟩
    · rw [Array.getElem?_append_left (by simp [trL_length, hil])]
      simp [trL_get, hi]
    · rw [belowL_eq, List.all_eq_true] at hargs
      exact hargs v (List.mem_of_getElem? hi)
  refine wp_mono (h _ hE rfl (by simp; omega)) ?_
  rintro x a' w' ⟨x', E, H', ρ', h1, h2, h3, h4, h5, h6⟩
  have hH : ∀ b y, H'.get b = some y → y.under H'.next = true ∧ y.ok ρ' w' b := fun b y hy => ⟨(h6.rel.blk b y hy).2.1, (h6.rel.blk b y hy).2.2.2⟩
  have fin : ∀ K' : Out → AHeap → Prop, (match resL X.P E H' fn.results.toList with
      | some (c, vs) => obl c (K' (.ret (resA vs)) H')
      | none => False) → (∀ out H, K' out H → K out H) → a'.defers = [] ∧ ∃ v, (results fn a'.tmps).run X.P w' = .ok v w' ∧ ∃ out H'' ρ'', Out.rel ρ'' H''.next out (.returned v) ∧ K out H'' ∧ Step ρ H w ρ'' H'' w' := by
    intro K' hk hKK
    split at hk
    · rename_i c vs hres
      obtain ⟨rfl, hk⟩ := obl_true hk
      obtain ⟨r1, r2⟩ := resL_sound h3 hH hres
      refine ⟨h4, tr ρ' (resA vs), ?_, .ret (resA vs), H', ρ', ⟨rfl, ?_⟩, hKK _ _ hk, h6⟩
      · rw [results_eq, Array.mapM_eq_mapM_toList]
        simp only [Sem.run_bind, Sem.run_map, r1, Result.andThen_ok, Sem.run_pure]
        congr 1
        cases vs with
        | nil => simp [trL, resA, tr]
        | cons v vs =>
          cases vs with
          | nil => simp [trL, resA]
          | cons v' vs => simp [trL, resA, tr]
      · cases vs with
        | nil => rfl
        | cons v vs =>
          cases vs with
          | nil => simpa [resA, belowL] using r2
          | cons v' vs => exact r2
    · exact hk.elim
  cases x' with
  | normal =>
    cases x <;> simp only [AExit.rel] at h1
    exact fin K h2 (fun _ _ h => h)
  | ret =>
    cases x <;> simp only [AExit.rel] at h1
    exact fin K h2 (fun _ _ h => h)
  | panic v =>
    cases x <;> simp only [AExit.rel] at h1
    exact ⟨h4, .panic v, H', ρ', h1, h2, h6⟩
  | exit i => exact h2.elim

theorem wpC_both (hX : CtxOk X) : ∀ (n : Nat) (f : FuncId) (base : Nat) (c : Code) (E : Env) (H : AHeap) (Q : AExit → Env → AHeap → Prop), wpC X n f base c E H Q →
    ∀ {ρ0 : Rho} {H0 : AHeap} {w0 : World} {N : Nat} {ρ : Rho} {a : Act} {w : World}, H0.next ≤ base → (∃ fn, X.fns f = some fn ∧ fn.ntmps ≤ N ∧ ∃ body, fn.body = some body ∧ (∀ p ∈ blocksC c, p ∈ blocksC body) ∧ okDst fn.ntmps c = true) →
      Step ρ0 H0 w0 ρ H w → RelE ρ H.next E a → a.defers = [] → a.tmps.size = N → c.wp X.P (Lift ρ0 H0 w0 N Q) a w ∧ (∀ c', c = .loop c' → Code.rounds X.P c' (Lift ρ0 H0 w0 N Q) n a w) := by
  intro n
  induction n with
  | zero => intro f base c E H Q h; exact h.elim
  | succ n ih2 =>
    have ih : ∀ (f : FuncId) (base : Nat) (c : Code) (E : Env) (H : AHeap) (Q : AExit → Env → AHeap → Prop), wpC X n f base c E H Q →
        ∀ {ρ0 : Rho} {H0 : AHeap} {w0 : World} {N : Nat} {ρ : Rho} {a : Act} {w : World}, H0.next ≤ base → (∃ fn, X.fns f = some fn ∧ fn.ntmps ≤ N ∧ ∃ body, fn.body = some body ∧ (∀ p ∈ blocksC c, p ∈ blocksC body) ∧ okDst fn.ntmps c = true) →
          Step ρ0 H0 w0 ρ H w → RelE ρ H.next E a → a.defers = [] → a.tmps.size = N → c.wp X.P (Lift ρ0 H0 w0 N Q) a w := fun f base c E H Q h _ _ _ _ _ _ _ h1 h2 h3 h4 h5 h6 => (ih2 f base c E H Q h h1 h2 h3 h4 h5 h6).1
    intro f base c E H Q h ρ0 H0 w0 N ρ a w hbase hfn hS hE hd hN
    obtain ⟨fn, hfn1, hfn2, body, hfn3, hfn4, hfn5⟩ := hfn
    suffices hmain : (match c with
        | .loop c' => Code.rounds X.P c' (Lift ρ0 H0 w0 N Q) (n + 1) a w
        | c => c.wp X.P (Lift ρ0 H0 w0 N Q) a w) by
      cases c with
      | loop c' => exact ⟨wp_loop_rounds (n + 1) hmain, fun c'' h => by cases h; exact hmain⟩
      | _ => exact ⟨hmain, fun c'' h => by cases h⟩
    have hC : CallOk X (callC X n) := by
      intro g args H K hg ρ w hR hargs
      unfold callC at hg
      split at hg
      · rename_i gg hgg
        exact hX.gcs g gg hgg args H K hg ρ w hR hargs
      · split at hg
        · rename_i fn' hfn'
          split at hg
          · rename_i c' hc'
            obtain ⟨q1, q2, c2, q3, q4⟩ := hX.fns g fn' hfn'
            rw [hc'] at q3
            cases q3
            refine ⟨q2, fn_sound q1 hc' hR hargs (fun a hE hd hN => ?_)⟩
            exact ih g H.next c' _ H _ hg (Nat.le_refl _) ⟨fn', hfn', hN, c', hc', fun p hp => hp, q4⟩ (Step.refl hR) hE hd rfl
          · exact hg.elim
        · exact hg.elim
    have dstOk : ∀ {ops : Array Oper}, (ops.toList.all fun o => match o.dst with
        | some t => Nat.blt t fn.ntmps
        | none => true) = true → ∀ (j : Nat) (o : Oper) (t : Nat), ops[j]? = some o → o.dst = some t → t < N := by
      intro ops hops j o t hj ht
      rw [List.all_eq_true] at hops
      have := hops o (List.mem_of_getElem? (by simpa using hj))
      rw [ht] at this
      have hlt : t < fn.ntmps := by simpa using this
      omega
    unfold wpC at h
    cases c with
    | skip => exact wp_skip ⟨.normal, E, H, ρ, trivial, h, hE, hd, hN, hS⟩
    | ret => exact wp_ret ⟨.ret, E, H, ρ, trivial, h, hE, hd, hN, hS⟩
    | exit id => exact wp_exit ⟨.exit id, E, H, ρ, rfl, h, hE, hd, hN, hS⟩
    | seq x y =>
      simp only [okDst, Bool.and_eq_true] at hfn5
      refine wp_seq (wp_mono (ih f base x E H _ h hbase ⟨fn, hfn1, hfn2, body, hfn3, fun p hp => hfn4 p (by simp [blocksC, hp]), hfn5.1⟩ hS hE hd hN) ?_)
      rintro e a' w' ⟨x', E', H', ρ', h1, h2, h3, h4, h5, h6⟩
      cases x' with
      | normal =>
        cases e <;> simp only [AExit.rel] at h1
        exact ih f base y E' H' Q h2 hbase ⟨fn, hfn1, hfn2, body, hfn3, fun p hp => hfn4 p (by simp [blocksC, hp]), hfn5.2⟩ h6 h3 h4 h5
      | exit i => cases e <;> simp only [AExit.rel] at h1; exact ⟨.exit i, E', H', ρ', h1, h2, h3, h4, h5, h6⟩
      | ret => cases e <;> simp only [AExit.rel] at h1; exact ⟨.ret, E', H', ρ', trivial, h2, h3, h4, h5, h6⟩
      | panic v => cases e <;> simp only [AExit.rel] at h1; exact ⟨.panic v, E', H', ρ', h1, h2, h3, h4, h5, h6⟩
    | cond b x y =>
      simp only [okDst, Bool.and_eq_true] at hfn5
      simp only at h
      split at h
      · rename_i b' hb
        obtain ⟨h1, h2⟩ := evalO_tr hE hb
        rw [branch_iff] at h
        refine wp_cond_split (t := b') (by rw [h1]; rfl) (fun ht => ?_) (fun ht => ?_)
        · exact ih f base x E H Q (h.1 ht) hbase ⟨fn, hfn1, hfn2, body, hfn3, fun p hp => hfn4 p (by simp [blocksC, hp]), hfn5.1⟩ hS hE hd hN
        · exact ih f base y E H Q (h.2 ht) hbase ⟨fn, hfn1, hfn2, body, hfn3, fun p hp => hfn4 p (by simp [blocksC, hp]), hfn5.2⟩ hS hE hd hN
      · exact h.elim
    | block id c =>
      simp only at h
      split at h
      · rename_i L hL
        exact hX.lcs f fn body hfn1 hfn3 (id, c) (hfn4 _ (by simp [blocksC])) L hL N hfn2 base E H Q h ρ0 H0 w0 ρ a w hbase hS hE hd hN
      · simp only [okDst] at hfn5
        refine wp_block (wp_mono (ih f base c E H _ h hbase ⟨fn, hfn1, hfn2, body, hfn3, fun p hp => hfn4 p (by simp [blocksC, hp]), hfn5⟩ hS hE hd hN) ?_)
        rintro e a' w' ⟨x', E', H', ρ', h1, h2, h3, h4, h5, h6⟩
        cases x' with
        | normal => cases e <;> simp only [AExit.rel] at h1; exact ⟨.normal, E', H', ρ', trivial, h2, h3, h4, h5, h6⟩
        | exit i =>
          cases e <;> simp only [AExit.rel] at h1
          subst h1
          simp only [inBlk] at h2
          split at h2
          · rename_i hi
            have := nat_beq_eq.1 hi
            simp only [Exit.inBlock, if_pos this]
            exact ⟨.normal, E', H', ρ', trivial, h2, h3, h4, h5, h6⟩
          · rename_i hi
            have := nat_beq_ne.1 hi
            simp only [Exit.inBlock, if_neg this]
            exact ⟨.exit i, E', H', ρ', rfl, h2, h3, h4, h5, h6⟩
        | ret => cases e <;> simp only [AExit.rel] at h1; exact ⟨.ret, E', H', ρ', trivial, h2, h3, h4, h5, h6⟩
        | panic v => cases e <;> simp only [AExit.rel] at h1; exact ⟨.panic v, E', H', ρ', h1, h2, h3, h4, h5, h6⟩
    | loop c =>
      simp only [okDst] at hfn5
      show Code.wp X.P c (Exit.then (Code.rounds X.P c (Lift ρ0 H0 w0 N Q) n) (Lift ρ0 H0 w0 N Q)) a w
      refine (wp_mono (ih f base c E H _ h hbase ⟨fn, hfn1, hfn2, body, hfn3, fun p hp => hfn4 p (by simpa [blocksC] using hp), hfn5⟩ hS hE hd hN) ?_)
      rintro e a' w' ⟨x', E', H', ρ', h1, h2, h3, h4, h5, h6⟩
      cases x' with
      | normal =>
        cases e <;> simp only [AExit.rel] at h1
        exact (ih2 f base (.loop c) E' H' Q h2 hbase ⟨fn, hfn1, hfn2, body, hfn3, fun p hp => hfn4 p (by simpa [blocksC] using hp), hfn5⟩ h6 h3 h4 h5).2 c rfl
      | exit i => cases e <;> simp only [AExit.rel] at h1; exact ⟨.exit i, E', H', ρ', h1, h2, h3, h4, h5, h6⟩
      | ret => cases e <;> simp only [AExit.rel] at h1; exact ⟨.ret, E', H', ρ', trivial, h2, h3, h4, h5, h6⟩
      | panic v => cases e <;> simp only [AExit.rel] at h1; exact ⟨.panic v, E', H', ρ', h1, h2, h3, h4, h5, h6⟩
    | region id ops draw =>
      simp only [okDst] at hfn5
      have hdst := dstOk hfn5
      cases draw with
      | false =>
        refine wp_region ?_
        have := wpSeq_sound hX.rows hX.fcs hC (ops := ops) hdst ops.toList 0 (by simp) E H ρ a w h hS hE hd hN
        rw [List.range_eq_range']
        simpa using this
      | true =>
        obtain ⟨es, rest, hg, hr, hfin⟩ := wpDraw_good ops.toList [] h (by simp) (fun k hk => by simp at hk)
        have hlen : ops.toList.length = ops.size := by simp
        have hw1 : Step ρ0 H0 w0 ρ H { w with drawn := w.drawn + 1 } := hS.trans (Step.grow hS.rel (Below.drew (Below.refl _ _)))
        refine wp_region_any hX.mixed ?_
        have hinv : Inv ops.toList E H es N ρ0 H0 w0 (fun k => (Array.replicate ops.size false).getD k false) ρ a { w with drawn := w.drawn + 1 } := by
          have hno : ∀ k, (Array.replicate ops.size false).getD k false = false := fun k => by
            by_cases hk : k < ops.size <;> simp [hk]
          refine ⟨?_, fun k o e t hk => ?_, fun t v hv _ => (hE.get t v hv).1, fun k e hk => ?_, hd, hN⟩
          · have hb : blkS H.next (fun k => (Array.replicate ops.size false).getD k false) es 0 = [] := by
              have : ∀ (es' : List Ent) (m : Nat), blkS H.next (fun k => (Array.replicate ops.size false).getD k false) es' m = [] := by
                intro es'
                induction es' with
                | nil => intro m; rfl
                | cons e es' ih' => intro m; unfold blkS; rw [hno m]; exact ih' (m + 1)
              exact this es 0
            have hgets : ∀ b, (heapS H ops.toList.length (fun k => (Array.replicate ops.size false).getD k false) es).get b = H.get b := fun b => by
              show getB (blkS _ _ _ _ ++ _) _ = _
              rw [hb]; rfl
            refine ⟨hw1.agree, by show H0.next ≤ H.next + ops.toList.length; have := hw1.next; omega, ⟨fun b x hx => ?_, fun b b' x x' hx hx' => ?_⟩, hw1.os, hw1.tape, hw1.output, hw1.size, hw1.old, ?_⟩
            · rw [hgets] at hx
              obtain ⟨r1, r2, r3, r4⟩ := hw1.rel.blk b x hx
              refine ⟨by show b < H.next + ops.toList.length; omega, ?_, r3, r4⟩
              cases x with
              | cells e l => exact belowL_mono (Nat.le_add_right _ _) l r2
              | row => rfl
              | dead => rfl
            · rw [hgets] at hx hx'
              exact hw1.rel.inj b b' x x' hx hx'
            · rintro g ⟨b, x, hx, ho, rfl⟩
              rw [hgets] at hx
              exact hw1.owns _ ⟨b, x, hx, ho, rfl⟩
          · rw [hno] at hk; cases hk
          · rw [hno] at hk; cases hk
        have := draw_any hX.rows hX.fcs hC hg hr hfin (fun t v hv => (hE.get t v hv).2) (fun b x hx => ⟨(hS.rel.blk b x hx).1, (hS.rel.blk b x hx).2.1⟩) (n := N) (by simpa using hdst) (ρs := ρ0) (Hs := H0) (ws := w0) hS.next ops.size (Array.replicate ops.size false) ρ a _ (by simp) (by
            refine Nat.le_trans (List.length_filter_le _ _) (by simp)) (fun k hk => by
            have hno : (Array.replicate ops.size false).getD k false = false := by
              by_cases hk' : k < ops.size <;> simp [hk']
            rw [hno] at hk; cases hk) hinv
        simpa using this
    | _ => exact h.elim

theorem wpC_sound (hX : CtxOk X) {n : Nat} {f : FuncId} {base : Nat} {c : Code} {E : Env} {H : AHeap} {Q : AExit → Env → AHeap → Prop} (h : wpC X n f base c E H Q)
    {ρ0 : Rho} {H0 : AHeap} {w0 : World} {N : Nat} {ρ : Rho} {a : Act} {w : World} (hb : H0.next ≤ base) (hf : ∃ fn, X.fns f = some fn ∧ fn.ntmps ≤ N ∧ ∃ body, fn.body = some body ∧ (∀ p ∈ blocksC c, p ∈ blocksC body) ∧ okDst fn.ntmps c = true)
    (hS : Step ρ0 H0 w0 ρ H w) (hE : RelE ρ H.next E a) (hd : a.defers = []) (hN : a.tmps.size = N) : c.wp X.P (Lift ρ0 H0 w0 N Q) a w := (wpC_both hX n f base c E H Q h hb hf hS hE hd hN).1

end

end Go.Proofs.Ytofnedbclnlnmaa.Ev
