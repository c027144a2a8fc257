/-
  Ev: a function cut in two; a loop by its states.
-/
import Derived.Test.YtjacnjecggedhaaEvIn
namespace Go.Proofs.Ytjacnjecggedhaa.Ev
set_option linter.unusedVariables false
set_option linter.unusedSimpArgs false
open Go.RowKit

/-- A function's first part; It: what is asked where it ends. -/
noncomputable def wpCut (X : Ctx) (n f : Nat) (fn : Func) (c0 : Code) (args : List AVal) (H0 : AHeap) (It : Env → AHeap → Prop) (K : Out → AHeap → Prop) : Prop :=
  wpC X n f H0.next c0 (env0 args 0) H0 fun x E H => match x with
    | .normal => It E H
    | .ret => endA X.P fn K .ret E H
    | _ => False

theorem fn_cut {X : Ctx} (hX : CtxOk X) {n f : Nat} {fn : Func} {c0 r : Code} (hf : X.fns f = some fn) (hb : fn.body = some (.seq c0 r)) {args : List AVal} {H0 : AHeap} {It : Env → AHeap → Prop} {K : Out → AHeap → Prop} (h : wpCut X n f fn c0 args H0 It K)
    (hIt : ∀ E H, It E H → ∀ ρ0 w0 N ρ a w, fn.ntmps ≤ N → Step ρ0 H0 w0 ρ H w → RelE ρ H.next E a → a.defers = [] → a.tmps.size = N → r.wp X.P (@Lift ⟨[]⟩ ρ0 H0 w0 N (endA X.P fn K)) a w)
    {ρ : Rho} {w : World} (hR : Rel ρ H0 w) (hargs : belowL H0.next args = true) :
    Calls X.P f (trL ρ args).toArray w fun e w' => ∃ out H' ρ', Out.rel ρ' H'.next out e ∧ K out H' ∧ Step ρ H0 w ρ' H' w' := by
  obtain ⟨q1, q2, c2, q3, q4⟩ := hX.fns f fn hf
  rw [hb] at q3
  cases q3
  simp only [okDst, Bool.and_eq_true] at q4
  refine fn_sound q1 hb hR hargs (fun a hE hd hN => ?_)
  refine wp_seq (wp_mono (@wpC_sound X hX ⟨[]⟩ _ _ _ _ _ _ _ h _ _ _ _ _ _ _ (Nat.le_refl _) ⟨fn, hf, hN, _, hb, fun p hp => by simp [blocksC, hp], q4.1⟩ (Step.refl hR) hE hd rfl) ?_)
  rintro e a' w' ⟨x', E', H', ρ', h1, h2, h3, h4, h5, h6⟩
  cases x' with
  | normal =>
    cases e <;> simp only [AExit.rel] at h1
    exact hIt E' H' h2 ρ w _ ρ' a' w' hN h6 h3 h4 h5
  | ret => cases e <;> simp only [AExit.rel] at h1; exact ⟨.ret, E', H', ρ', trivial, h2, h3, h4, h5, h6⟩
  | exit i => exact h2.elim
  | panic v => exact h2.elim

theorem wpN_sound [Dfs] {X : Ctx} (hX : CtxOk X) {f base : Nat} {fn : Func} {body : Code} (hf : X.fns f = some fn) (hb : fn.body = some body) {ρ0 : Rho} {H0 : AHeap} {w0 : World} {N : Nat} (hbase : H0.next ≤ base) (hN : fn.ntmps ≤ N) {It : Env → AHeap → Prop} {Q : AExit → Env → AHeap → Prop} : ∀ (k n : Nat) (c : Code) (E : Env) (H : AHeap), isSeqs k c = true → (∀ p ∈ blocksC c, p ∈ blocksC body) → okDst fn.ntmps c = true → wpN X k n f base c E H It Q →
    (∀ E H, It E H → ∀ ρ a w, Step ρ0 H0 w0 ρ H w → RelE ρ H.next E a → a.defers = Dfs.D → a.tmps.size = N → (tailN k c).wp X.P (Lift ρ0 H0 w0 N Q) a w) →
    ∀ ρ a w, Step ρ0 H0 w0 ρ H w → RelE ρ H.next E a → a.defers = Dfs.D → a.tmps.size = N → c.wp X.P (Lift ρ0 H0 w0 N Q) a w
  | 0, n, c, E, H, _, _, _, h, hIt, ρ, a, w, hS, hE, hd, hn => hIt E H h ρ a w hS hE hd hn
  | k + 1, 0, c, E, H, _, _, _, h, _, _, _, _, _, _, _, _ => h.elim
  | k + 1, n + 1, c, E, H, hs, hsub, hok, h, hIt, ρ, a, w, hS, hE, hd, hn => by
    cases c with
    | seq x y =>
      simp only [okDst, Bool.and_eq_true] at hok
      refine wp_seq (wp_mono (wpC_sound hX h hbase ⟨fn, hf, hN, body, hb, fun p hp => hsub p (by simp [blocksC]; exact .inl hp), hok.1⟩ hS hE hd hn) ?_)
      rintro e a' w' ⟨x', E', H', ρ', h1, h2, h3, h4, h5, h6⟩
      cases x' with
      | normal =>
        cases e <;> simp only [AExit.rel] at h1
        exact wpN_sound hX hf hb hbase hN k n y E' H' hs (fun p hp => hsub p (by simp [blocksC]; exact .inr hp)) hok.2 h2 hIt ρ' a' w' h6 h3 h4 h5
      | exit i => cases e <;> simp only [AExit.rel] at h1; exact ⟨.exit i, E', H', ρ', h1, h2, h3, h4, h5, h6⟩
      | ret => cases e <;> simp only [AExit.rel] at h1; exact ⟨.ret, E', H', ρ', trivial, h2, h3, h4, h5, h6⟩
      | panic v => cases e <;> simp only [AExit.rel] at h1; exact ⟨.panic v, E', H', ρ', h1, h2, h3, h4, h5, h6⟩
    | _ => simp [isSeqs] at hs

/-- A function's first k parts. -/
theorem fn_cutN {X : Ctx} (hX : CtxOk X) {k n f : Nat} {fn : Func} {c : Code} (hf : X.fns f = some fn) (hb : fn.body = some c) (hs : isSeqs k c = true) {args : List AVal} {H0 : AHeap} {It : Env → AHeap → Prop} {K : Out → AHeap → Prop} (h : wpN X k n f H0.next c (env0 args 0) H0 It (endA X.P fn K))
    (hIt : ∀ E H, It E H → ∀ ρ0 w0 N ρ a w, fn.ntmps ≤ N → Step ρ0 H0 w0 ρ H w → RelE ρ H.next E a → a.defers = [] → a.tmps.size = N → (tailN k c).wp X.P (@Lift ⟨[]⟩ ρ0 H0 w0 N (endA X.P fn K)) a w)
    {ρ : Rho} {w : World} (hR : Rel ρ H0 w) (hargs : belowL H0.next args = true) :
    Calls X.P f (trL ρ args).toArray w fun e w' => ∃ out H' ρ', Out.rel ρ' H'.next out e ∧ K out H' ∧ Step ρ H0 w ρ' H' w' := by
  obtain ⟨q1, q2, c2, q3, q4⟩ := hX.fns f fn hf
  rw [hb] at q3
  cases q3
  refine fn_sound q1 hb hR hargs (fun a hE hd hN => ?_)
  exact @wpN_sound ⟨[]⟩ X hX f H0.next fn c hf hb ρ H0 w _ (Nat.le_refl _) hN It _ k n c _ _ hs (fun p hp => hp) q4 h (fun E H hi ρ' a' w' h1 h2 h3 h4 => hIt E H hi ρ w _ ρ' a' w' hN h1 h2 h3 h4) ρ a w (Step.refl hR) hE hd rfl

/-- A round. -/
def RoundC (base : Nat) {S : Type} (st : S → Env × AHeap) (μ : S → Nat) (T : S → Prop) (s : S) (Q : AExit → Env → AHeap → Prop) : AExit → Env → AHeap → Prop
  | .normal, E, H => ∃ s' σ, μ s' < μ s ∧ T s' ∧ sigOk base σ = true ∧ sigInj σ (st s').2.bs = true ∧ subER (st s').2.next σ (st s').1 E ∧ subHR (st s').2.next σ (st s').2.bs H
  | x, E, H => Q x E H

theorem loopC_sound [Dfs] {X : Ctx} (hX : CtxOk X) {ρ0 : Rho} {H0 : AHeap} {w0 : World} {N : Nat} {f n base : Nat} {fn : Func} {body c : Code} (hf : X.fns f = some fn) (hb : fn.body = some body) (hsub : ∀ p ∈ blocksC c, p ∈ blocksC body) (hok : okDst fn.ntmps c = true) (hN0 : fn.ntmps ≤ N)
    {S : Type} (st : S → Env × AHeap) (hbase : H0.next ≤ base) (hnx : ∀ s, base ≤ (st s).2.next) (μ : S → Nat) (T : S → Prop) (Q : AExit → Env → AHeap → Prop)
    (hround : ∀ s, T s → ∃ R, (∀ x E H, R x E H → RoundC base st μ T s Q x E H) ∧ wpC X n f base c (st s).1 (st s).2 R) :
    ∀ s, T s → ∀ ρ a w, Step ρ0 H0 w0 ρ (st s).2 w → RelE ρ (st s).2.next (st s).1 a → a.defers = Dfs.D → a.tmps.size = N → (Code.loop c).wp X.P (Lift ρ0 H0 w0 N Q) a w := by
  intro s hT ρ a w hS hE hd hN
  refine wp_loop_rounds (μ s + 1) ?_
  have key : ∀ (m : Nat) (s : S) (ρ : Rho) (a : Act) (w : World), μ s < m → T s → Step ρ0 H0 w0 ρ (st s).2 w → RelE ρ (st s).2.next (st s).1 a → a.defers = Dfs.D → a.tmps.size = N → Code.rounds X.P c (Lift ρ0 H0 w0 N Q) m a w := by
    intro m
    induction m with
    | zero => intro s ρ a w h; omega
    | succ m ih =>
      intro s ρ a w hm hT hS hE hd hN
      show Code.wp X.P c (Exit.then (Code.rounds X.P c (Lift ρ0 H0 w0 N Q) m) (Lift ρ0 H0 w0 N Q)) a w
      obtain ⟨R, hRR, hwp⟩ := hround s hT
      refine wp_mono (wpC_sound hX hwp hbase ⟨fn, hf, hN0, body, hb, hsub, hok⟩ hS hE hd hN) ?_
      rintro e a' w' ⟨x', E', H', ρ', q1, q2, q3, q4, q5, q6⟩
      have q2 := hRR _ _ _ q2
      cases x' with
      | normal =>
        cases e <;> simp only [AExit.rel] at q1
        obtain ⟨s', σ, g1, g2, g3, g4, g5, g6⟩ := q2
        obtain ⟨k1, k2⟩ := sub_stepR q6 q3 hbase g3 g4 g5 g6 (Nat.le_trans hbase (hnx s'))
        exact ih s' _ a' w' (by omega) g2 k1 k2 q4 q5
      | exit i => cases e <;> simp only [AExit.rel] at q1; exact ⟨.exit i, E', H', ρ', q1, q2, q3, q4, q5, q6⟩
      | ret => cases e <;> simp only [AExit.rel] at q1; exact ⟨.ret, E', H', ρ', trivial, q2, q3, q4, q5, q6⟩
      | panic v => cases e <;> simp only [AExit.rel] at q1; exact ⟨.panic v, E', H', ρ', q1, q2, q3, q4, q5, q6⟩
  exact key _ s ρ a w (Nat.lt_succ_self _) hT hS hE hd hN

/-- Numbers that are kept free. -/
theorem Step.more {ρ0 ρ : Rho} {H0 : AHeap} {w0 w : World} {n : Nat} {bs : List (Nat × ABlk)} (h : Step ρ0 H0 w0 ρ ⟨n, bs⟩ w) : Step ρ0 H0 w0 (ρ.set n 0 0) ⟨n + 1, bs⟩ w := by
  refine ⟨h.agree.trans (Rho.set_agree ρ n 0 0) h.next, Nat.le_succ_of_le h.next, h.rel.more 0 0, h.os, h.tape, h.output, h.size, h.old, fun g hg => ?_⟩
  obtain ⟨b, x, hx, ho, rfl⟩ := hg
  have e : (ρ.set n 0 0).blk b = ρ.blk b := (Rho.set_agree ρ n 0 0 b (h.rel.blk b x hx).1).1
  rw [e]
  exact h.owns _ ⟨b, x, hx, ho, rfl⟩
theorem RelE.more {ρ : Rho} {n : Nat} {E : Env} {a : Act} (h : RelE ρ n E a) : RelE (ρ.set n 0 0) (n + 1) E a := h.step (Rho.set_agree ρ n 0 0) (Nat.le_succ _)

/-- A part, a loop in a block, and the rest. -/
theorem seqloop_sound [Dfs] {X : Ctx} (hX : CtxOk X) {ρ0 : Rho} {H0 : AHeap} {w0 : World} {N : Nat} {f n base id : Nat} {fn : Func} {body a c r : Code} (hf : X.fns f = some fn) (hb : fn.body = some body) (hsub : ∀ p ∈ blocksC (Code.seq (.seq a (.block id (.loop c))) r), p ∈ blocksC body) (hok : okDst fn.ntmps (Code.seq (.seq a (.block id (.loop c))) r) = true) (hN0 : fn.ntmps ≤ N)
    {S : Type} (st : S → Env × AHeap) (hbase : H0.next ≤ base) (hnx : ∀ s, base ≤ (st s).2.next) (μ : S → Nat) (T : S → Prop) (Q : AExit → Env → AHeap → Prop) {E : Env} {H : AHeap}
    (ha : wpC X n f base a E H fun x E H => match x with
      | .normal => ∃ s σ, T s ∧ sigOk base σ = true ∧ sigInj σ (st s).2.bs = true ∧ subER (st s).2.next σ (st s).1 E ∧ subHR (st s).2.next σ (st s).2.bs H
      | _ => False)
    (hround : ∀ s, T s → ∃ R, (∀ x E H, R x E H → RoundC base st μ T s (fun x E H => match x with
      | .exit i => i = id ∧ wpC X n f base r E H Q
      | .ret => Q .ret E H
      | _ => False) x E H) ∧ wpC X n f base c (st s).1 (st s).2 R) :
    ∀ ρ act w, Step ρ0 H0 w0 ρ H w → RelE ρ H.next E act → act.defers = Dfs.D → act.tmps.size = N → (Code.seq (.seq a (.block id (.loop c))) r).wp X.P (Lift ρ0 H0 w0 N Q) act w := by
  intro ρ act w hS hE hd hN
  simp only [okDst, Bool.and_eq_true] at hok
  obtain ⟨⟨ok1, ok2⟩, ok3⟩ := hok
  refine wp_seq (wp_seq (wp_mono (wpC_sound hX ha hbase ⟨fn, hf, hN0, body, hb, fun p hp => hsub p (by simp only [blocksC, List.mem_append, List.mem_cons]; exact .inl (.inl hp)), ok1⟩ hS hE hd hN) ?_))
  rintro e a' w' ⟨x', E', H', ρ', q1, q2, q3, q4, q5, q6⟩
  cases x' with
  | exit i => exact q2.elim
  | ret => exact q2.elim
  | panic v => exact q2.elim
  | normal =>
    cases e <;> simp only [AExit.rel] at q1
    obtain ⟨s, σ, g2, g3, g4, g5, g6⟩ := q2
    obtain ⟨k1, k2⟩ := sub_stepR q6 q3 hbase g3 g4 g5 g6 (Nat.le_trans hbase (hnx s))
    refine wp_block (wp_mono (loopC_sound hX (n := n) (c := c) hf hb (fun p hp => hsub p (by simp only [blocksC, List.mem_append, List.mem_cons]; exact .inl (.inr (.inr hp)))) ok2 hN0 st hbase hnx μ T _ hround s g2 _ _ _ k1 k2 q4 q5) ?_)
    rintro e a2 w2 ⟨x2, E2, H2, ρ2, r1, r2, r3, r4, r5, r6⟩
    cases x2 with
    | normal => exact r2.elim
    | panic v => exact r2.elim
    | ret => cases e <;> simp only [AExit.rel] at r1; exact ⟨.ret, E2, H2, ρ2, trivial, r2, r3, r4, r5, r6⟩
    | exit i =>
      cases e <;> simp only [AExit.rel] at r1
      obtain ⟨rfl, r7⟩ := r2
      subst r1
      simp only [Exit.inBlock, if_pos]
      exact wpC_sound hX r7 hbase ⟨fn, hf, hN0, body, hb, fun p hp => hsub p (by simp only [blocksC, List.mem_append, List.mem_cons]; exact .inr hp), ok3⟩ r6 r3 r4 r5

/-- The same; the rest runs from a state that the exit bears. -/
theorem seqloopR_sound [Dfs] {X : Ctx} (hX : CtxOk X) {ρ0 : Rho} {H0 : AHeap} {w0 : World} {N : Nat} {f n base id : Nat} {fn : Func} {body a c r : Code} (hf : X.fns f = some fn) (hb : fn.body = some body) (hsub : ∀ p ∈ blocksC (Code.seq (.seq a (.block id (.loop c))) r), p ∈ blocksC body) (hok : okDst fn.ntmps (Code.seq (.seq a (.block id (.loop c))) r) = true) (hN0 : fn.ntmps ≤ N)
    {S : Type} (st : S → Env × AHeap) (hbase : H0.next ≤ base) (hnx : ∀ s, base ≤ (st s).2.next) (μ : S → Nat) (T : S → Prop) (Q : AExit → Env → AHeap → Prop) {E : Env} {H : AHeap}
    (ha : wpC X n f base a E H fun x E H => match x with
      | .normal => ∃ s σ, T s ∧ sigOk base σ = true ∧ sigInj σ (st s).2.bs = true ∧ subER (st s).2.next σ (st s).1 E ∧ subHR (st s).2.next σ (st s).2.bs H
      | _ => False)
    (hround : ∀ s, T s → ∃ R, (∀ x E H, R x E H → RoundC base st μ T s (fun x E H => match x with
      | .exit i => i = id ∧ ∃ E1 H1 σ, base ≤ H1.next ∧ sigOk base σ = true ∧ sigInj σ H1.bs = true ∧ subER H1.next σ E1 E ∧ subHR H1.next σ H1.bs H ∧ wpC X n f base r E1 H1 Q
      | .ret => Q .ret E H
      | _ => False) x E H) ∧ wpC X n f base c (st s).1 (st s).2 R) :
    ∀ ρ act w, Step ρ0 H0 w0 ρ H w → RelE ρ H.next E act → act.defers = Dfs.D → act.tmps.size = N → (Code.seq (.seq a (.block id (.loop c))) r).wp X.P (Lift ρ0 H0 w0 N Q) act w := by
  intro ρ act w hS hE hd hN
  simp only [okDst, Bool.and_eq_true] at hok
  obtain ⟨⟨ok1, ok2⟩, ok3⟩ := hok
  refine wp_seq (wp_seq (wp_mono (wpC_sound hX ha hbase ⟨fn, hf, hN0, body, hb, fun p hp => hsub p (by simp only [blocksC, List.mem_append, List.mem_cons]; exact .inl (.inl hp)), ok1⟩ hS hE hd hN) ?_))
  rintro e a' w' ⟨x', E', H', ρ', q1, q2, q3, q4, q5, q6⟩
  cases x' with
  | exit i => exact q2.elim
  | ret => exact q2.elim
  | panic v => exact q2.elim
  | normal =>
    cases e <;> simp only [AExit.rel] at q1
    obtain ⟨s, σ, g2, g3, g4, g5, g6⟩ := q2
    obtain ⟨k1, k2⟩ := sub_stepR q6 q3 hbase g3 g4 g5 g6 (Nat.le_trans hbase (hnx s))
    refine wp_block (wp_mono (loopC_sound hX (n := n) (c := c) hf hb (fun p hp => hsub p (by simp only [blocksC, List.mem_append, List.mem_cons]; exact .inl (.inr (.inr hp)))) ok2 hN0 st hbase hnx μ T _ hround s g2 _ _ _ k1 k2 q4 q5) ?_)
    rintro e a2 w2 ⟨x2, E2, H2, ρ2, r1, r2, r3, r4, r5, r6⟩
    cases x2 with
    | normal => exact r2.elim
    | panic v => exact r2.elim
    | ret => cases e <;> simp only [AExit.rel] at r1; exact ⟨.ret, E2, H2, ρ2, trivial, r2, r3, r4, r5, r6⟩
    | exit i =>
      cases e <;> simp only [AExit.rel] at r1
      obtain ⟨rfl, E1, H1, σ1, g1, g3, g4, g5, g6, r7⟩ := r2
      obtain ⟨k3, k4⟩ := sub_stepR r6 r3 hbase g3 g4 g5 g6 (Nat.le_trans hbase g1)
      subst r1
      simp only [Exit.inBlock, if_pos]
      exact wpC_sound hX r7 hbase ⟨fn, hf, hN0, body, hb, fun p hp => hsub p (by simp only [blocksC, List.mem_append, List.mem_cons]; exact .inr hp), ok3⟩ k3 k4 r4 r5

end Go.Proofs.Ytjacnjecggedhaa.Ev
