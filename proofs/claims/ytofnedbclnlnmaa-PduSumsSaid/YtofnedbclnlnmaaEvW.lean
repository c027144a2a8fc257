/-
  Ev: tables; contracts out of walks; loops.
-/
import Derived.Test.YtofnedbclnlnmaaEvV
namespace Go.Proofs.Ytofnedbclnlnmaa.Ev
set_option linter.unusedVariables false
set_option linter.unusedSimpArgs false
open Go.RowKit
universe u

/-! ### tables -/

def tab {α : Type u} : List (Nat × α) → Nat → Option α
  | [], _ => none
  | (g, x) :: r, f => match Nat.beq g f with
    | true => some x
    | false => tab r f

def tab2 {α : Type u} : List (Nat × Nat × α) → Nat → Nat → Option α
  | [], _, _ => none
  | (g, i, x) :: r, f, id => match Nat.beq g f, Nat.beq i id with
    | true, true => some x
    | _, _ => tab2 r f id

theorem tab_mem {α : Type u} {l : List (Nat × α)} {f : Nat} {x : α} (h : tab l f = some x) : (f, x) ∈ l := by
  induction l with
  | nil => simp [tab] at h
  | cons p l ih =>
    obtain ⟨g, y⟩ := p
    simp only [tab] at h
    split at h
    · rename_i hg
      have := nat_beq_eq.1 hg
      simp only [Option.some.injEq] at h
      subst this h
      simp
    · exact List.mem_cons_of_mem _ (ih h)

theorem tab2_mem {α : Type u} {l : List (Nat × Nat × α)} {f id : Nat} {x : α} (h : tab2 l f id = some x) : (f, id, x) ∈ l := by
  induction l with
  | nil => simp [tab2] at h
  | cons p l ih =>
    obtain ⟨g, i, y⟩ := p
    simp only [tab2] at h
    split at h
    · rename_i hg hi
      have e1 := nat_beq_eq.1 hg
      have e2 := nat_beq_eq.1 hi
      simp only [Option.some.injEq] at h
      subst e1 e2 h
      simp
    · exact List.mem_cons_of_mem _ (ih h)

structure Tabs where
  fns : List (Nat × Func)
  rows : List (Nat × RowTy)
  sms : List Nat
  fcs : List (Nat × FC)
  gcs : List (Nat × GC)
  lcs : List (Nat × Nat × LC)

def Tabs.ctx (T : Tabs) (P : Program) : Ctx where
  P := P
  fns := tab T.fns
  fc := tab T.fcs
  rowTy := tab T.rows
  gc := tab T.gcs
  lcs := tab2 T.lcs
  sms := fun f => memN f T.sms

def FnOk (P : Program) (f : Nat) (fn : Func) : Prop := P.funcs[f]? = some fn ∧ (∀ vs w, (callFunc f vs).run P w = .ok (.enter f vs) w) ∧ ∃ c, fn.body = some c ∧ okDst fn.ntmps c = true

def RowOk (P : Program) (e : Nat) (T : RowTy) : Prop := ∀ i, P.info? e = some i → ∃ z, i.zero = some z ∧ ∀ ρ, z.cells.toList = trL ρ (T.enc T.dflt)

def FcSound (P : Program) (f : Nat) (c : FC) : Prop := (∀ vs w, (callFunc f vs).run P w = .ok (.enter f vs) w) ∧
  ∀ args H v, c args H = some (true, v) → ∀ ρ w N, (∀ b y, H.get b = some y → y.under N = true ∧ ρ.blk b < w.heap.size ∧ y.ok ρ w b) → belowL N args = true →
    Calls P f (trL ρ args).toArray w (fun e w' => e = .returned (tr ρ v) ∧ Below w.heap.size w w') ∧ v.under N = true

def GcSound (P : Program) (f : Nat) (g : GC) : Prop := ∀ args H K, g args H K → ∀ ρ w, Rel ρ H w → belowL H.next args = true → (∀ vs w, (callFunc f vs).run P w = .ok (.enter f vs) w) ∧
    Calls P f (trL ρ args).toArray w fun e w' => ∃ out H' ρ', Out.rel ρ' H'.next out e ∧ K out H' ∧ Step ρ H w ρ' H' w'

def LcSound (P : Program) (fns : List (Nat × Func)) (f id : Nat) (L : LC) : Prop := ∀ fn c, tab fns f = some fn → fn.body = some c → ∀ p ∈ blocksC c, p.1 = id → ∀ n, fn.ntmps ≤ n → LSound P p.1 p.2 n L

theorem Tabs.ok {T : Tabs} {P : Program} (hm : P.follows .mixedOrders = true) (h1 : ∀ p ∈ T.fns, FnOk P p.1 p.2) (h2 : ∀ p ∈ T.rows, RowOk P p.1 p.2) (h3 : ∀ p ∈ T.fcs, FcSound P p.1 p.2) (h4 : ∀ p ∈ T.gcs, GcSound P p.1 p.2) (h5 : ∀ p ∈ T.lcs, LcSound P T.fns p.1 p.2.1 p.2.2) : CtxOk (T.ctx P) where
  rows := ⟨fun e T' h i hi => h2 _ (tab_mem h) i hi⟩
  fcs := ⟨fun f c h => (h3 _ (tab_mem h)).1, fun f c h => (h3 _ (tab_mem h)).2⟩
  mixed := hm
  fns := fun f fn h => h1 _ (tab_mem h)
  lcs := fun f fn c hf hc p hp L hL n hn => h5 _ (tab2_mem hL) fn c hf hc p hp rfl n hn
  gcs := fun f g h => h4 _ (tab_mem h)

/-! ### contracts -/

theorem callC_ok {X : Ctx} (hX : CtxOk X) (n : Nat) : CallOk X (callC X n) := by
  intro g args H K hg ρ w hR hargs
  unfold callC at hg
  split at hg
  · rename_i gg hgg
    exact hX.gcs g gg hgg args H K hg ρ w hR hargs
  · split at hg
    · rename_i fn' hfn'
      split at hg
      · rename_i c' hc'
        obtain ⟨q1, q2, c2, q3, q4⟩ := hX.fns g fn' hfn'
        rw [hc'] at q3
        cases q3
        refine ⟨q2, fn_sound q1 hc' hR hargs (fun a hE hd hN => ?_)⟩
        exact wpC_sound hX hg (Nat.le_refl _) ⟨fn', hfn', hN, c', hc', fun p hp => hp, q4⟩ (Step.refl hR) hE hd rfl
      · exact hg.elim
    · exact hg.elim

theorem rel_nil (ρ : Rho) (w : World) : Rel ρ ⟨0, []⟩ w := ⟨fun b x hx => by simp [AHeap.get, getB] at hx, fun b b' x x' hx => by simp [AHeap.get, getB] at hx⟩

/-- A function that is handed no memory. -/
theorem call_pure {X : Ctx} (hX : CtxOk X) {f n : Nat} {args : List AVal} {K : Out → Prop} (h : callC X n f args ⟨0, []⟩ (fun o _ => K o)) (ha : belowL 0 args = true) (ρ : Rho) (w : World) :
    Calls X.P f (trL ρ args).toArray w fun e w' => ∃ out ρ' N, Out.rel ρ' N out e ∧ K out ∧ Below w.heap.size w w' := by
  refine ((callC_ok hX n) f args ⟨0, []⟩ _ h ρ w (rel_nil ρ w) ha).2.mono ?_
  rintro e w' ⟨out, H', ρ', h1, h2, h3⟩
  exact ⟨out, ρ', _, h1, h2, h3.below (Nat.le_refl _) (fun g hg => by obtain ⟨b, x, hx, _⟩ := hg; simp [AHeap.get, getB] at hx)⟩

theorem under_mono0 {N : Nat} {v : AVal} (h : v.under 0 = true) : v.under N = true := AVal.under_mono (Nat.zero_le N) v h

theorem agree0 (ρ ρ' : Rho) : Rho.agree 0 ρ ρ' := fun b hb => by omega

/-- The contract of a function that is handed no memory. -/
theorem fc_pure {X : Ctx} (hX : CtxOk X) {f n : Nat} {c : FC} (he : ∀ vs w, (callFunc f vs).run X.P w = .ok (.enter f vs) w)
    (h : ∀ args H v, c args H = some (true, v) → belowL 0 args = true ∧ v.under 0 = true ∧ callC X n f args ⟨0, []⟩ (fun o _ => o = .ret v)) : FcSound X.P f c := by
  refine ⟨he, fun args H v hv ρ w N _ _ => ?_⟩
  obtain ⟨h1, h2, h3⟩ := h args H v hv
  refine ⟨(call_pure hX h3 h1 ρ w).mono ?_, under_mono0 h2⟩
  rintro e w' ⟨out, ρ', N', ho, rfl, hb⟩
  cases e <;> simp only [Out.rel] at ho
  obtain ⟨rfl, _⟩ := ho
  exact ⟨by rw [tr_agree (agree0 ρ ρ') v h2], hb⟩

/-- The other way: what is claimed of a function, for the row of a law. -/
theorem law_pure {X : Ctx} (hX : CtxOk X) {f n : Nat} {args : List AVal} {v : AVal} (h : callC X n f args ⟨0, []⟩ (fun o _ => o = .ret v)) (ha : belowL 0 args = true) (hv : v.under 0 = true) (ρ : Rho) (w : World) :
    Calls X.P f (trL ρ args).toArray w fun e w' => e = .returned (tr ρ v) ∧ Below w.heap.size w w' := by
  refine (call_pure hX h ha ρ w).mono ?_
  rintro e w' ⟨out, ρ', N', ho, rfl, hb⟩
  cases e <;> simp only [Out.rel] at ho
  obtain ⟨rfl, _⟩ := ho
  exact ⟨by rw [tr_agree (agree0 ρ ρ') v hv], hb⟩

/-! ### loops -/

/-- The temporaries E1 are among E2's. -/
def subE (N : Nat) : Env → Env → Prop
  | [], _ => True
  | (t, v) :: r, E2 => match getE E2 t, v.under N with
    | some u, true => u = v ∧ subE N r E2
    | _, _ => False

/-- The blocks are among H2's. -/
def subH (N : Nat) : List (Nat × ABlk) → AHeap → Prop
  | [], _ => True
  | (b, x) :: r, H2 => match H2.get b, Nat.blt b N, x.under N with
    | some y, true, true => y = x ∧ subH N r H2
    | _, _, _ => False

theorem subE_get {N : Nat} : ∀ {E1 E2 : Env}, subE N E1 E2 → ∀ t v, getE E1 t = some v → getE E2 t = some v ∧ v.under N = true
  | [], E2, h, t, v, hv => by simp [getE] at hv
  | (u, x) :: r, E2, h, t, v, hv => by
    simp only [subE] at h
    split at h
    · rename_i y h1 h2
      obtain ⟨rfl, h⟩ := h
      rw [getE_cons] at hv
      by_cases hut : u = t
      · rw [if_pos hut] at hv
        simp only [Option.some.injEq] at hv
        subst hv hut
        exact ⟨h1, h2⟩
      · rw [if_neg hut] at hv
        exact subE_get h t v hv
    · exact h.elim

theorem subH_get {N : Nat} : ∀ {bs : List (Nat × ABlk)} {H2 : AHeap}, subH N bs H2 → ∀ b x, getB bs b = some x → H2.get b = some x ∧ b < N ∧ x.under N = true
  | [], H2, h, b, x, hx => by simp [getB] at hx
  | (c, y) :: r, H2, h, b, x, hx => by
    simp only [subH] at h
    split at h
    · rename_i z h1 h2 h3
      obtain ⟨rfl, h⟩ := h
      rw [getB_cons] at hx
      by_cases hcb : c = b
      · rw [if_pos hcb] at hx
        have : z = x := by cases z <;> simp [ABlk.live] at hx <;> exact hx
        subst this hcb
        exact ⟨h1, by simpa using h2, h3⟩
      · rw [if_neg hcb] at hx
        exact subH_get h b x hx
    · exact h.elim

/-- A smaller memory (K) of a greater one. -/
theorem sub_step {ρ0 ρ : Rho} {H0 H K : AHeap} {w0 w : World} {E1 E2 : Env} {a : Act} (hS : Step ρ0 H0 w0 ρ H w) (hE : RelE ρ H.next E2 a) (h1 : subE K.next E1 E2) (h2 : subH K.next K.bs H) (hn : H0.next ≤ K.next) : Step ρ0 H0 w0 ρ K w ∧ RelE ρ K.next E1 a := by
  have hg := subH_get h2
  refine ⟨⟨hS.agree, hn, hS.rel.sub (fun b x hx => hg b x hx), hS.os, hS.tape, hS.output, hS.size, hS.old, fun g hgo => ?_⟩, ⟨fun t v hv => ?_⟩⟩
  · exact hS.owns g (Owns.sub (fun b x hx => (hg b x hx).1) hgo)
  · obtain ⟨q1, q2⟩ := subE_get h1 t v hv
    exact ⟨(hE.get t v q1).1, q2⟩

/-- What a loop's way out must give: a state of which the real one has more. -/
def Up (base : Nat) (Q : AExit → Env → AHeap → Prop) (x : AExit) (E : Env) (H : AHeap) : Prop := ∃ E' H', base ≤ H'.next ∧ subE H'.next E' E ∧ subH H'.next H'.bs H ∧ (match x with
  | .panic v => v.under H'.next = true
  | _ => True) ∧ Q x E' H'

/-- The round of a loop. -/
def Round (base id : Nat) {S : Type} (st : S → Env × AHeap) (good : S → Prop) (μ : S → Nat) (T : S → Prop) (s : S) (Q : AExit → Env → AHeap → Prop) : AExit → Env → AHeap → Prop
  | .normal, E, H => ∃ s', good s' ∧ μ s' < μ s ∧ T s' ∧ subE (st s').2.next (st s').1 E ∧ subH (st s').2.next (st s').2.bs H
  | .exit i, E, H => match Nat.beq i id with
    | true => Up base Q .normal E H
    | false => Up base Q (.exit i) E H
  | .ret, E, H => Up base Q .ret E H
  | .panic v, E, H => Up base Q (.panic v) E H

theorem up_lift {base : Nat} {Q : AExit → Env → AHeap → Prop} {x' : AExit} {E : Env} {H : AHeap} (h : Up base Q x' E H) {ρ0 ρ : Rho} {H0 : AHeap} {w0 w : World} {N : Nat} {a : Act} {x : Exit} (hb : H0.next ≤ base) (hx : AExit.rel ρ H.next x' x) (hE : RelE ρ H.next E a) (hd : a.defers = []) (hN : a.tmps.size = N) (hS : Step ρ0 H0 w0 ρ H w) : Lift ρ0 H0 w0 N Q x a w := by
  obtain ⟨E', H', h1, h2, h3, h4, h5⟩ := h
  obtain ⟨k1, k2⟩ := sub_step hS hE h2 h3 (Nat.le_trans hb h1)
  refine ⟨x', E', H', ρ, ?_, h5, k2, hd, hN, k1⟩
  cases x' <;> cases x <;> simp only [AExit.rel] at hx ⊢
  · exact hx
  · exact ⟨hx.1, h4⟩

/-- A LOOP: states 's', how they lie in temporaries and memory, what holds of them, what goes down, what is still to be (T), and a round. -/
theorem loop_sound {X : Ctx} (hX : CtxOk X) {f id n : Nat} {fn : Func} {body c : Code} (hf : X.fns f = some fn) (hb : fn.body = some body) (hin : (id, Code.loop c) ∈ blocksC body) (hok : okDst fn.ntmps c = true) (hsub : ∀ p ∈ blocksC c, p ∈ blocksC body)
    {S : Type} (st : S → Env × AHeap) (good : S → Prop) (μ : S → Nat) (T : S → (AExit → Env → AHeap → Prop) → Prop) {L : LC}
    (hL : ∀ base E H Q, L base E H Q → ∃ s, good s ∧ base ≤ (st s).2.next ∧ (∀ s', (st s').2.next = (st s).2.next) ∧ subE (st s).2.next (st s).1 E ∧ subH (st s).2.next (st s).2.bs H ∧ T s Q)
    (hround : ∀ base s Q, good s → base ≤ (st s).2.next → T s Q → wpC X n f base c (st s).1 (st s).2 (Round base id st good μ (fun s' => T s' Q) s Q)) (N : Nat) (hN0 : fn.ntmps ≤ N) : LSound X.P id (.loop c) N L := by
  intro base E H Q hLQ ρ0 H0 w0 ρ a w hbase hS hE hd hN
  obtain ⟨s, hg, hsb, hnx, h1, h2, hT⟩ := hL base E H Q hLQ
  have hnext : ∀ s', base ≤ (st s').2.next := fun s' => by rw [hnx s']; exact hsb
  refine wp_block (wp_loop_rounds (μ s + 1) ?_)
  have key : ∀ (m : Nat) (s : S) (ρ : Rho) (a : Act) (w : World), μ s < m → good s → T s Q → Step ρ0 H0 w0 ρ (st s).2 w → RelE ρ (st s).2.next (st s).1 a → a.defers = [] → a.tmps.size = N → Code.rounds X.P c (Exit.inBlock id (Lift ρ0 H0 w0 N Q)) m a w := by
    intro m
    induction m with
    | zero => intro s ρ a w h; omega
    | succ m ih =>
      intro s ρ a w hm hg hT hS hE hd hN
      show Code.wp X.P c (Exit.then (Code.rounds X.P c (Exit.inBlock id (Lift ρ0 H0 w0 N Q)) m) (Exit.inBlock id (Lift ρ0 H0 w0 N Q))) a w
      refine wp_mono (wpC_sound hX (hround base s Q hg (hnext s) hT) hbase ⟨fn, hf, hN0, body, hb, hsub, hok⟩ hS hE hd hN) ?_
      rintro e a' w' ⟨x', E', H', ρ', q1, q2, q3, q4, q5, q6⟩
      cases x' with
      | normal =>
        cases e <;> simp only [AExit.rel] at q1
        obtain ⟨s', g1, g2, g3, g4, g5⟩ := q2
        obtain ⟨k1, k2⟩ := sub_step q6 q3 g4 g5 (Nat.le_trans hbase (hnext s'))
        exact ih s' ρ' a' w' (by omega) g1 g3 k1 k2 q4 q5
      | exit i =>
        cases e <;> simp only [AExit.rel] at q1
        subst q1
        simp only [Round] at q2
        split at q2
        · rename_i hi
          have := nat_beq_eq.1 hi
          simp only [Exit.then, Exit.inBlock, if_pos this]
          exact up_lift q2 hbase (x := .normal) trivial q3 q4 q5 q6
        · rename_i hi
          have := nat_beq_ne.1 hi
          simp only [Exit.then, Exit.inBlock, if_neg this]
          exact up_lift q2 hbase (x := .exit i) rfl q3 q4 q5 q6
      | ret => cases e <;> simp only [AExit.rel] at q1; exact up_lift (show Up base Q .ret E' H' from q2) hbase (x := .ret) trivial q3 q4 q5 q6
      | panic v => cases e <;> simp only [AExit.rel] at q1; exact up_lift (show Up base Q (.panic v) E' H' from q2) hbase (x := .panic _) q1 q3 q4 q5 q6
  obtain ⟨k1, k2⟩ := sub_step hS hE h1 h2 (Nat.le_trans hbase hsb)
  exact key _ s ρ a w (Nat.lt_succ_self _) hg hT k1 k2 hd hN

end Go.Proofs.Ytofnedbclnlnmaa.Ev
