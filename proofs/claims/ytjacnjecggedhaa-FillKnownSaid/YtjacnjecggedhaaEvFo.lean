/-
  Ev: a small logic over abstract states: parts of a function, joined by hand.
-/
import Derived.Test.YtjacnjecggedhaaEvFn
namespace Go.Proofs.Ytjacnjecggedhaa.Ev
set_option linter.unusedVariables false
set_option linter.unusedSimpArgs false
open Go.RowKit

/-- A piece of a function's code. -/
def InFn (X : Ctx) (f : FuncId) (c : Code) : Prop := ∃ fn, X.fns f = some fn ∧ ∃ body, fn.body = some body ∧ (∀ p ∈ blocksC c, p ∈ blocksC body) ∧ okDst fn.ntmps c = true

/-- The way down into code: false: the left part, true: the right part; into blocks, loops, scopes by either. -/
def codeAt : List Bool → Code → Code
  | [], c => c
  | b :: p, c => codeAt p (match c with
    | .seq x y => match b with
      | false => x
      | true => y
    | .cond _ x y => match b with
      | false => x
      | true => y
    | .block _ c => c
    | .loop c => c
    | .scope c => c
    | c => c)

theorem codeAt_in {n : Nat} : ∀ (p : List Bool) (c : Code), okDst n c = true → (∀ q ∈ blocksC (codeAt p c), q ∈ blocksC c) ∧ okDst n (codeAt p c) = true
  | [], c, h => ⟨fun q hq => hq, h⟩
  | b :: p, c, h => by
    have key : ∀ c', okDst n c' = true → (∀ q ∈ blocksC c', q ∈ blocksC c) → (∀ q ∈ blocksC (codeAt p c'), q ∈ blocksC c) ∧ okDst n (codeAt p c') = true := fun c' h1 h2 =>
      ⟨fun q hq => h2 q ((codeAt_in p c' h1).1 q hq), (codeAt_in p c' h1).2⟩
    show (∀ q ∈ blocksC (codeAt p _), q ∈ blocksC c) ∧ okDst n (codeAt p _) = true
    refine key _ ?_ ?_ <;> clear key
    · cases c <;> cases b <;> simp only [okDst, Bool.and_eq_true] at h ⊢ <;> first | exact h | exact h.1 | exact h.2
    · cases c <;> cases b <;> intro q hq <;> simp only [blocksC, List.mem_append, List.mem_cons] at hq ⊢ <;> first | exact hq | exact .inl hq | exact .inr hq

theorem inFn_at {X : Ctx} (hX : CtxOk X) {f : FuncId} {fn : Func} {body : Code} (hf : X.fns f = some fn) (hb : fn.body = some body) (p : List Bool) : InFn X f (codeAt p body) := by
  obtain ⟨_, _, c, hc, hok⟩ := hX.fns f fn hf
  rw [hb] at hc
  cases hc
  obtain ⟨h1, h2⟩ := codeAt_in p body hok
  exact ⟨fn, hf, body, hb, h1, h2⟩

/-- From the state E, H the piece of code comes to an end, and Q holds there. -/
def Gd (X : Ctx) (f : FuncId) (H0 : AHeap) (c : Code) (Q : AExit → Env → AHeap → Prop) (E : Env) (H : AHeap) : Prop :=
  ∀ fn, X.fns f = some fn → ∀ N, fn.ntmps ≤ N → ∀ (d : Dfs) ρ0 w0 ρ a w, Step ρ0 H0 w0 ρ H w → RelE ρ H.next E a → a.defers = d.D → a.tmps.size = N → c.wp X.P (@Lift d ρ0 H0 w0 N Q) a w

section
variable {X : Ctx} {f : FuncId} {H0 : AHeap} {Q : AExit → Env → AHeap → Prop} {E : Env} {H : AHeap}

/-- By reckoning. -/
theorem Gd.walk (hX : CtxOk X) {n base : Nat} {c : Code} (hb : H0.next ≤ base) (hin : InFn X f c) (h : wpC X n f base c E H Q) : Gd X f H0 c Q E H := by
  intro fn hf N hN d ρ0 w0 ρ a w hS hE hd hn
  obtain ⟨fn', hf', body, q1, q2, q3⟩ := hin
  rw [hf] at hf'
  cases hf'
  exact @wpC_sound X hX d n f base c E H Q h ρ0 H0 w0 N ρ a w hb ⟨fn, hf, hN, body, q1, q2, q3⟩ hS hE hd hn

theorem Gd.mono {c : Code} {Q' : AExit → Env → AHeap → Prop} (h : Gd X f H0 c Q E H) (hq : ∀ x E H, Q x E H → Q' x E H) : Gd X f H0 c Q' E H := by
  intro fn hf N hN d ρ0 w0 ρ a w hS hE hd hn
  refine wp_mono (h fn hf N hN d ρ0 w0 ρ a w hS hE hd hn) ?_
  rintro e a' w' ⟨x, E', H', ρ', q1, q2, q3⟩
  exact ⟨x, E', H', ρ', q1, hq _ _ _ q2, q3⟩

/-- A state that has all that the other has, under other numbers. -/
theorem Gd.sub {c : Code} {base : Nat} {σ : List (Nat × Nat)} {E1 : Env} {H1 : AHeap} (hb : H0.next ≤ base) (hn1 : H0.next ≤ H1.next) (h : Gd X f H0 c Q E1 H1)
    (hσ : sigOk base σ = true) (hi : sigInj σ H1.bs = true) (h1 : subER H1.next σ E1 E) (h2 : subHR H1.next σ H1.bs H) : Gd X f H0 c Q E H := by
  intro fn hf N hN d ρ0 w0 ρ a w hS hE hd hn
  obtain ⟨k1, k2⟩ := sub_stepR hS hE hb hσ hi h1 h2 hn1
  exact h fn hf N hN d ρ0 w0 _ a w k1 k2 hd hn

theorem Gd.seq {c1 c2 : Code} (h : Gd X f H0 c1 (fun x E H => match x with
      | .normal => Gd X f H0 c2 Q E H
      | x => Q x E H) E H) : Gd X f H0 (.seq c1 c2) Q E H := by
  intro fn hf N hN d ρ0 w0 ρ a w hS hE hd hn
  refine wp_seq (wp_mono (h fn hf N hN d ρ0 w0 ρ a w hS hE hd hn) ?_)
  rintro e a' w' ⟨x, E', H', ρ', q1, q2, q3, q4, q5, q6⟩
  cases x with
  | normal => cases e <;> simp only [AExit.rel] at q1; exact q2 fn hf N hN d ρ0 w0 ρ' a' w' q6 q3 q4 q5
  | exit i => cases e <;> simp only [AExit.rel] at q1; exact ⟨.exit i, E', H', ρ', q1, q2, q3, q4, q5, q6⟩
  | ret => cases e <;> simp only [AExit.rel] at q1; exact ⟨.ret, E', H', ρ', trivial, q2, q3, q4, q5, q6⟩
  | panic v => cases e <;> simp only [AExit.rel] at q1; exact ⟨.panic v, E', H', ρ', q1, q2, q3, q4, q5, q6⟩

theorem Gd.block {c : Code} {i : Nat} (h : Gd X f H0 c (fun x E H => match x with
      | .exit j => if j = i then Q .normal E H else Q (.exit j) E H
      | x => Q x E H) E H) : Gd X f H0 (.block i c) Q E H := by
  intro fn hf N hN d ρ0 w0 ρ a w hS hE hd hn
  refine wp_block (wp_mono (h fn hf N hN d ρ0 w0 ρ a w hS hE hd hn) ?_)
  rintro e a' w' ⟨x, E', H', ρ', q1, q2, q3, q4, q5, q6⟩
  cases x with
  | normal => cases e <;> simp only [AExit.rel] at q1; exact ⟨.normal, E', H', ρ', trivial, q2, q3, q4, q5, q6⟩
  | exit j =>
    cases e <;> simp only [AExit.rel] at q1
    subst q1
    by_cases hj : j = i
    · simp only [Exit.inBlock, hj, if_true]
      simp only [hj, if_true] at q2
      exact ⟨.normal, E', H', ρ', trivial, q2, q3, q4, q5, q6⟩
    · simp only [Exit.inBlock, hj, if_false]
      simp only [hj, if_false] at q2
      exact ⟨.exit j, E', H', ρ', rfl, q2, q3, q4, q5, q6⟩
  | ret => cases e <;> simp only [AExit.rel] at q1; exact ⟨.ret, E', H', ρ', trivial, q2, q3, q4, q5, q6⟩
  | panic v => cases e <;> simp only [AExit.rel] at q1; exact ⟨.panic v, E', H', ρ', q1, q2, q3, q4, q5, q6⟩

theorem Gd.scope {c : Code} (h : Gd X f H0 c Q E H) : Gd X f H0 (.scope c) Q E H := by
  intro fn hf N hN d ρ0 w0 ρ a w hS hE hd hn
  refine wp_scope_straight (wp_mono (h fn hf N hN d ρ0 w0 ρ a w hS hE hd hn) ?_)
  rintro e a' w' ⟨x, E', H', ρ', q1, q2⟩
  cases e <;> cases x <;> simp only [AExit.rel] at q1 <;> exact ⟨_, E', H', ρ', by simpa only [AExit.rel] using q1, q2⟩

/-- A loop: I m: what holds ahead of a round, with at most m rounds to come. -/
theorem Gd.loop {c : Code} (I : Nat → Env → AHeap → Prop)
    (hr : ∀ m E H, I m E H → Gd X f H0 c (fun x E H => match x with
      | .normal => ∃ m', m' < m ∧ I m' E H
      | x => Q x E H) E H) : ∀ m E H, I m E H → Gd X f H0 (.loop c) Q E H := by
  intro m E H hI fn hf N hN d ρ0 w0 ρ a w hS hE hd hn
  refine wp_loop_rounds (m + 1) ?_
  have key : ∀ (k m : Nat) (E : Env) (H : AHeap) (ρ : Rho) (a : Act) (w : World), m < k → I m E H → Step ρ0 H0 w0 ρ H w → RelE ρ H.next E a → a.defers = d.D → a.tmps.size = N → Code.rounds X.P c (@Lift d ρ0 H0 w0 N Q) k a w := by
    intro k
    induction k with
    | zero => intro m E H ρ a w h; omega
    | succ k ih =>
      intro m E H ρ a w hm hI hS hE hd hn
      show Code.wp X.P c (Exit.then (Code.rounds X.P c (@Lift d ρ0 H0 w0 N Q) k) (@Lift d ρ0 H0 w0 N Q)) a w
      refine wp_mono (hr m E H hI fn hf N hN d ρ0 w0 ρ a w hS hE hd hn) ?_
      rintro e a' w' ⟨x, E', H', ρ', q1, q2, q3, q4, q5, q6⟩
      cases x with
      | normal =>
        cases e <;> simp only [AExit.rel] at q1
        obtain ⟨m', g1, g2⟩ := q2
        exact ih m' E' H' ρ' a' w' (by omega) g2 q6 q3 q4 q5
      | exit i => cases e <;> simp only [AExit.rel] at q1; exact ⟨.exit i, E', H', ρ', q1, q2, q3, q4, q5, q6⟩
      | ret => cases e <;> simp only [AExit.rel] at q1; exact ⟨.ret, E', H', ρ', trivial, q2, q3, q4, q5, q6⟩
      | panic v => cases e <;> simp only [AExit.rel] at q1; exact ⟨.panic v, E', H', ρ', q1, q2, q3, q4, q5, q6⟩
  exact key _ m E H ρ a w (Nat.lt_succ_self _) hI hS hE hd hn

/-- The same, by states. -/
theorem Gd.states {c : Code} {S : Type} (st : S → Env × AHeap) {base : Nat} (hb : H0.next ≤ base) (hnx : ∀ s, base ≤ (st s).2.next) (μ : S → Nat) (T : S → Prop)
    (hr : ∀ s, T s → Gd X f H0 c (RoundC base st μ T s Q) (st s).1 (st s).2) : ∀ s, T s → Gd X f H0 (.loop c) Q (st s).1 (st s).2 := by
  intro s hT
  refine Gd.loop (fun m E H => ∃ s, μ s = m ∧ T s ∧ ∀ c Q', Gd X f H0 c Q' (st s).1 (st s).2 → Gd X f H0 c Q' E H) (fun m E H hI => ?_) (μ s) _ _ ⟨s, rfl, hT, fun _ _ h => h⟩
  obtain ⟨s, rfl, hT, hs⟩ := hI
  refine hs _ _ (Gd.mono (hr s hT) (fun x E H h => ?_))
  cases x with
  | normal =>
    obtain ⟨s', σ, k1, k2, g1, g2, g3, g4⟩ := h
    exact ⟨μ s', k1, s', rfl, k2, fun c Q' h => Gd.sub hb (Nat.le_trans hb (hnx s')) h g1 g2 g3 g4⟩
  | exit i => exact h
  | ret => exact h
  | panic v => exact h

/-- The first k parts by reckoning. -/
theorem Gd.walkN (hX : CtxOk X) {base : Nat} (hb : H0.next ≤ base) {It : Env → AHeap → Prop} : ∀ (k n : Nat) (c : Code) (E : Env) (H : AHeap), isSeqs k c = true → InFn X f c → wpN X k n f base c E H It Q →
    (∀ E H, It E H → Gd X f H0 (tailN k c) Q E H) → Gd X f H0 c Q E H := by
  intro k n c E H hs hin h hIt fn hf N hN d ρ0 w0 ρ a w hS hE hd hn
  obtain ⟨fn', hf', body, q1, q2, q3⟩ := hin
  rw [hf] at hf'
  cases hf'
  exact @wpN_sound d X hX f base fn body hf q1 ρ0 H0 w0 N hb hN It Q k n c E H hs q2 q3 h (fun E H hi ρ a w h1 h2 h3 h4 => hIt E H hi fn hf N hN d ρ0 w0 ρ a w h1 h2 h3 h4) ρ a w hS hE hd hn

end

/-- A function by its body. -/
theorem fn_good {X : Ctx} (hX : CtxOk X) {f : FuncId} {fn : Func} {c : Code} (hf : X.fns f = some fn) (hb : fn.body = some c) {args : List AVal} {H0 : AHeap} {K : Out → AHeap → Prop}
    (h : Gd X f H0 c (endA X.P fn K) (env0 args 0) H0) {ρ : Rho} {w : World} (hR : Rel ρ H0 w) (hargs : belowL H0.next args = true) :
    Calls X.P f (trL ρ args).toArray w fun e w' => ∃ out H' ρ', Out.rel ρ' H'.next out e ∧ K out H' ∧ Step ρ H0 w ρ' H' w' := by
  obtain ⟨q1, q2, c2, q3, q4⟩ := hX.fns f fn hf
  exact fn_sound q1 hb hR hargs (fun a hE hd hN => h fn hf _ hN ⟨[]⟩ ρ w ρ a w (Step.refl hR) hE hd rfl)

/-- A law: no blocks at first. -/
theorem law_good {X : Ctx} (hX : CtxOk X) {f : FuncId} {fn : Func} {c : Code} (hf : X.fns f = some fn) (hb : fn.body = some c) {args : List AVal}
    (h : Gd X f ⟨0, []⟩ c (endA X.P fn (fun o _ => o = .ret (.bool true))) (env0 args 0) ⟨0, []⟩) (ha : belowL 0 args = true) (ρ : Rho) (w : World) :
    Calls X.P f (trL ρ args).toArray w fun e w' => e = .returned (.bool true) ∧ Below w.heap.size w w' := by
  refine (fn_good hX hf hb h (rel_nil ρ w) ha).mono ?_
  rintro e w' ⟨out, H', ρ', q1, rfl, q3⟩
  cases e <;> simp only [Out.rel] at q1
  exact ⟨by rw [q1.1]; rfl, q3.below (Nat.le_refl _) (fun g hg => by obtain ⟨b, x, hx, _⟩ := hg; simp [AHeap.get, getB] at hx)⟩

end Go.Proofs.Ytjacnjecggedhaa.Ev
