/-
  Ev, part 4.
-/
import Derived.Test.YtcgnoegejmhgmaaEm3
import Derived.Lib.SmallJoins
import Derived.ProofKit
import Derived.OpenShut
import Derived.Deep.Slices
import Derived.Recover
/-
  Ev: tables; contracts out of walks; loops.
-/
namespace Go.Proofs.Ytcgnoegejmhgmaa.Ev
set_option linter.unusedVariables false
set_option linter.unusedSimpArgs false
open Go.RowKit
universe u

/-! ### tables -/

def tab {α : Type u} : List (Nat × α) → Nat → Option α
  | [], _ => none
  | (g, x) :: r, f => match Nat.beq g f with
    | true => some x
    | false => tab r f

def tab2 {α : Type u} : List (Nat × Nat × α) → Nat → Nat → Option α
  | [], _, _ => none
  | (g, i, x) :: r, f, id => match Nat.beq g f, Nat.beq i id with
    | true, true => some x
    | _, _ => tab2 r f id

theorem tab_mem {α : Type u} {l : List (Nat × α)} {f : Nat} {x : α} (h : tab l f = some x) : (f, x) ∈ l := by
  induction l with
  | nil => simp [tab] at h
  | cons p l ih =>
    obtain ⟨g, y⟩ := p
    simp only [tab] at h
    split at h
    · rename_i hg
      have := nat_beq_eq.1 hg
      simp only [Option.some.injEq] at h
      subst this h
      simp
    · exact List.mem_cons_of_mem _ (ih h)

theorem tab2_mem {α : Type u} {l : List (Nat × Nat × α)} {f id : Nat} {x : α} (h : tab2 l f id = some x) : (f, id, x) ∈ l := by
  induction l with
  | nil => simp [tab2] at h
  | cons p l ih =>
    obtain ⟨g, i, y⟩ := p
    simp only [tab2] at h
    split at h
    · rename_i hg hi
      have e1 := nat_beq_eq.1 hg
      have e2 := nat_beq_eq.1 hi
      simp only [Option.some.injEq] at h
      subst e1 e2 h
      simp
    · exact List.mem_cons_of_mem _ (ih h)

/-- Further operations: a panic. -/
def opBase (o : Oper) (E : Env) (H : AHeap) : Option ((Out → AHeap → Prop) → Prop) :=
  match o.op with
  | .panic x => match evalO E x with
    | some (.iface t v) => some fun K => K (.panic (.iface t v)) H
    | _ => none
  | _ => none

theorem opBase_sound (P : Program) : OpSound P opBase := by
  intro o E H g h K hK ρ w a hR hE
  unfold opBase at h
  split at h <;> try cases h
  rename_i x ho
  split at h <;> cases h
  rename_i t v hx
  obtain ⟨h1, h2⟩ := evalO_tr hE hx
  refine ⟨.panic (.iface t v), H, ρ, w, hK, Step.refl hR, ?_, h2⟩
  simp [execOp, ho, h1, tr, Instr.panic, goPanic, Sem.run]

structure Tabs where
  fns : List (Nat × Func)
  rows : List (Nat × RowTy)
  sms : List Nat
  fcs : List (Nat × FC)
  gcs : List (Nat × GC)
  lcs : List (Nat × Nat × LC)
  op : Oper → Env → AHeap → Option ((Out → AHeap → Prop) → Prop)

def Tabs.ctx (T : Tabs) (P : Program) : Ctx where
  P := P
  fns := tab T.fns
  fc := tab T.fcs
  rowTy := tab T.rows
  gc := tab T.gcs
  lcs := tab2 T.lcs
  sms := fun f => memN f T.sms
  op := T.op

def FnOk (P : Program) (f : Nat) (fn : Func) : Prop := P.funcs[f]? = some fn ∧ (∀ vs w, (callFunc f vs).run P w = .ok (.enter f vs) w) ∧ ∃ c, fn.body = some c ∧ okDst fn.ntmps c = true

def RowOk (P : Program) (e : Nat) (T : RowTy) : Prop := ∀ i, P.info? e = some i → ∃ z, i.zero = some z ∧ ∀ ρ, z.cells.toList = trL ρ (T.enc T.dflt)

def FcSound (P : Program) (f : Nat) (c : FC) : Prop := (∀ vs w, (callFunc f vs).run P w = .ok (.enter f vs) w) ∧
  ∀ args H v, c args H = some (true, v) → ∀ ρ w N, (∀ b y, H.get b = some y → y.under N = true ∧ ρ.blk b < w.heap.size ∧ y.ok ρ w b) → belowL N args = true →
    Calls P f (trL ρ args).toArray w (fun e w' => e = .returned (tr ρ v) ∧ Below w.heap.size w w') ∧ v.under N = true

def GcSound (P : Program) (f : Nat) (g : GC) : Prop := ∀ args H K, g args H K → ∀ ρ w, Rel ρ H w → belowL H.next args = true → (∀ vs w, (callFunc f vs).run P w = .ok (.enter f vs) w) ∧
    Calls P f (trL ρ args).toArray w fun e w' => ∃ out H' ρ', Out.rel ρ' H'.next out e ∧ K out H' ∧ Step ρ H w ρ' H' w'

def LcSound (P : Program) (fns : List (Nat × Func)) (f id : Nat) (L : LC) : Prop := ∀ fn c, tab fns f = some fn → fn.body = some c → ∀ p ∈ blocksC c, p.1 = id → ∀ n, fn.ntmps ≤ n → LSound P p.1 p.2 n L

theorem Tabs.ok {T : Tabs} {P : Program} (hm : P.follows .mixedOrders = true) (h1 : ∀ p ∈ T.fns, FnOk P p.1 p.2) (h2 : ∀ p ∈ T.rows, RowOk P p.1 p.2) (h3 : ∀ p ∈ T.fcs, FcSound P p.1 p.2) (h4 : ∀ p ∈ T.gcs, GcSound P p.1 p.2) (h5 : ∀ p ∈ T.lcs, LcSound P T.fns p.1 p.2.1 p.2.2) (h6 : OpSound P T.op) : CtxOk (T.ctx P) where
  rows := ⟨fun e T' h i hi => h2 _ (tab_mem h) i hi⟩
  fcs := ⟨h6, fun f c h => (h3 _ (tab_mem h)).1, fun f c h => (h3 _ (tab_mem h)).2⟩
  mixed := hm
  fns := fun f fn h => h1 _ (tab_mem h)
  lcs := fun f fn c hf hc p hp L hL n hn => h5 _ (tab2_mem hL) fn c hf hc p hp rfl n hn
  gcs := fun f g h => h4 _ (tab_mem h)

/-! ### contracts -/

theorem callC_ok {X : Ctx} (hX : CtxOk X) (n : Nat) : CallOk X (callC X n) := by
  intro g args H K hg ρ w hR hargs
  unfold callC at hg
  split at hg
  · rename_i gg hgg
    exact hX.gcs g gg hgg args H K hg ρ w hR hargs
  · split at hg
    · rename_i fn' hfn'
      split at hg
      · rename_i c' hc'
        obtain ⟨q1, q2, c2, q3, q4⟩ := hX.fns g fn' hfn'
        rw [hc'] at q3
        cases q3
        refine ⟨q2, fn_sound q1 hc' hR hargs (fun a hE hd hN => ?_)⟩
        exact @wpC_sound X hX ⟨[]⟩ _ _ _ _ _ _ _ hg _ _ _ _ _ _ _ (Nat.le_refl _) ⟨fn', hfn', hN, c', hc', fun p hp => hp, q4⟩ (Step.refl hR) hE hd rfl
      · exact hg.elim
    · exact hg.elim

theorem rel_nil (ρ : Rho) (w : World) : Rel ρ ⟨0, []⟩ w := ⟨fun b x hx => by simp [AHeap.get, getB] at hx, fun b b' x x' hx => by simp [AHeap.get, getB] at hx⟩

/-- A function that is handed no memory. -/
theorem call_pure {X : Ctx} (hX : CtxOk X) {f n : Nat} {args : List AVal} {K : Out → Prop} (h : callC X n f args ⟨0, []⟩ (fun o _ => K o)) (ha : belowL 0 args = true) (ρ : Rho) (w : World) :
    Calls X.P f (trL ρ args).toArray w fun e w' => ∃ out ρ' N, Out.rel ρ' N out e ∧ K out ∧ Below w.heap.size w w' := by
  refine ((callC_ok hX n) f args ⟨0, []⟩ _ h ρ w (rel_nil ρ w) ha).2.mono ?_
  rintro e w' ⟨out, H', ρ', h1, h2, h3⟩
  exact ⟨out, ρ', _, h1, h2, h3.below (Nat.le_refl _) (fun g hg => by obtain ⟨b, x, hx, _⟩ := hg; simp [AHeap.get, getB] at hx)⟩

theorem under_mono0 {N : Nat} {v : AVal} (h : v.under 0 = true) : v.under N = true := AVal.under_mono (Nat.zero_le N) v h

theorem agree0 (ρ ρ' : Rho) : Rho.agree 0 ρ ρ' := fun b hb => by omega

/-- The contract of a function that is handed no memory. -/
theorem fc_pure {X : Ctx} (hX : CtxOk X) {f n : Nat} {c : FC} (he : ∀ vs w, (callFunc f vs).run X.P w = .ok (.enter f vs) w)
    (h : ∀ args H v, c args H = some (true, v) → belowL 0 args = true ∧ v.under 0 = true ∧ callC X n f args ⟨0, []⟩ (fun o _ => o = .ret v)) : FcSound X.P f c := by
  refine ⟨he, fun args H v hv ρ w N _ _ => ?_⟩
  obtain ⟨h1, h2, h3⟩ := h args H v hv
  refine ⟨(call_pure hX h3 h1 ρ w).mono ?_, under_mono0 h2⟩
  rintro e w' ⟨out, ρ', N', ho, rfl, hb⟩
  cases e <;> simp only [Out.rel] at ho
  obtain ⟨rfl, _⟩ := ho
  exact ⟨by rw [tr_agree (agree0 ρ ρ') v h2], hb⟩

/-- The other way: what is claimed of a function, for the row of a law. -/
theorem law_pure {X : Ctx} (hX : CtxOk X) {f n : Nat} {args : List AVal} {v : AVal} (h : callC X n f args ⟨0, []⟩ (fun o _ => o = .ret v)) (ha : belowL 0 args = true) (hv : v.under 0 = true) (ρ : Rho) (w : World) :
    Calls X.P f (trL ρ args).toArray w fun e w' => e = .returned (tr ρ v) ∧ Below w.heap.size w w' := by
  refine (call_pure hX h ha ρ w).mono ?_
  rintro e w' ⟨out, ρ', N', ho, rfl, hb⟩
  cases e <;> simp only [Out.rel] at ho
  obtain ⟨rfl, _⟩ := ho
  exact ⟨by rw [tr_agree (agree0 ρ ρ') v hv], hb⟩

/-! ### loops -/

/-- The temporaries E1 are among E2's. -/
def subE (N : Nat) : Env → Env → Prop
  | [], _ => True
  | (t, v) :: r, E2 => match getE E2 t, v.under N with
    | some u, true => u = v ∧ subE N r E2
    | _, _ => False

/-- The blocks are among H2's. -/
def subH (N : Nat) : List (Nat × ABlk) → AHeap → Prop
  | [], _ => True
  | (b, x) :: r, H2 => match H2.get b, Nat.blt b N, x.under N with
    | some y, true, true => y = x ∧ subH N r H2
    | _, _, _ => False

theorem subE_get {N : Nat} : ∀ {E1 E2 : Env}, subE N E1 E2 → ∀ t v, getE E1 t = some v → getE E2 t = some v ∧ v.under N = true
  | [], E2, h, t, v, hv => by simp [getE] at hv
  | (u, x) :: r, E2, h, t, v, hv => by
    simp only [subE] at h
    split at h
    · rename_i y h1 h2
      obtain ⟨rfl, h⟩ := h
      rw [getE_cons] at hv
      by_cases hut : u = t
      · rw [if_pos hut] at hv
        simp only [Option.some.injEq] at hv
        subst hv hut
        exact ⟨h1, h2⟩
      · rw [if_neg hut] at hv
        exact subE_get h t v hv
    · exact h.elim

theorem subH_get {N : Nat} : ∀ {bs : List (Nat × ABlk)} {H2 : AHeap}, subH N bs H2 → ∀ b x, getB bs b = some x → H2.get b = some x ∧ b < N ∧ x.under N = true
  | [], H2, h, b, x, hx => by simp [getB] at hx
  | (c, y) :: r, H2, h, b, x, hx => by
    simp only [subH] at h
    split at h
    · rename_i z h1 h2 h3
      obtain ⟨rfl, h⟩ := h
      rw [getB_cons] at hx
      by_cases hcb : c = b
      · rw [if_pos hcb] at hx
        have : z = x := by cases z <;> simp [ABlk.live] at hx <;> exact hx
        subst this hcb
        exact ⟨h1, by simpa using h2, h3⟩
      · rw [if_neg hcb] at hx
        exact subH_get h b x hx
    · exact h.elim

/-- A smaller memory (K) of a greater one. -/
theorem sub_step {ρ0 ρ : Rho} {H0 H K : AHeap} {w0 w : World} {E1 E2 : Env} {a : Act} (hS : Step ρ0 H0 w0 ρ H w) (hE : RelE ρ H.next E2 a) (h1 : subE K.next E1 E2) (h2 : subH K.next K.bs H) (hn : H0.next ≤ K.next) : Step ρ0 H0 w0 ρ K w ∧ RelE ρ K.next E1 a := by
  have hg := subH_get h2
  refine ⟨⟨hS.agree, hn, hS.rel.sub (fun b x hx => hg b x hx), hS.os, hS.tape, hS.output, hS.size, hS.old, fun g hgo => ?_⟩, ⟨fun t v hv => ?_⟩⟩
  · exact hS.owns g (Owns.sub (fun b x hx => (hg b x hx).1) hgo)
  · obtain ⟨q1, q2⟩ := subE_get h1 t v hv
    exact ⟨(hE.get t v q1).1, q2⟩

/-! ### blocks under other numbers -/

/-- The number that stands for b. -/
def sigA (σ : List (Nat × Nat)) (b : Nat) : Nat := match tab σ b with
  | some c => c
  | none => b
mutual
def renV (σ : List (Nat × Nat)) : AVal → AVal
  | .ptr b i z j => .ptr (sigA σ b) i z j
  | .sl b i z j n c => .sl (sigA σ b) i z j n c
  | .map b => .map (sigA σ b)
  | .yld b => .yld (sigA σ b)
  | .func f a c => .func f (renL σ a) (renL σ c)
  | .agg l => .agg (renL σ l)
  | .tup l => .tup (renL σ l)
  | .iface t v => .iface t (renV σ v)
  | .meth m v => .meth m (renV σ v)
  | v => v
def renL (σ : List (Nat × Nat)) : List AVal → List AVal
  | [] => []
  | v :: r => renV σ v :: renL σ r
end
def renB (σ : List (Nat × Nat)) : ABlk → ABlk
  | .cells e l => .cells e (renL σ l)
  | .obj U s l => .obj U s (renL σ l)
  | x => x
def Rho.pull (ρ : Rho) (σ : List (Nat × Nat)) : Rho := ⟨fun b => ρ.blk (sigA σ b), fun b => ρ.off (sigA σ b), fun b => ρ.cap (sigA σ b), fun b => ρ.fp (sigA σ b)⟩
mutual
theorem tr_ren (ρ : Rho) (σ : List (Nat × Nat)) : ∀ v : AVal, tr ρ (renV σ v) = tr (ρ.pull σ) v
  | .int _ _ | .bool _ | .str _ | .nilp | .nils | .nilm | .nilf | .niface => rfl
  | .ptr b i z j => rfl
  | .sl b i z j n c => rfl
  | .map b => rfl
  | .yld b => rfl
  | .func f a c => by simp only [renV, tr, trL_ren ρ σ a, trL_ren ρ σ c]
  | .agg l => by simp only [renV, tr, trL_ren ρ σ l]
  | .tup l => by simp only [renV, tr, trL_ren ρ σ l]
  | .iface t v => by simp only [renV, tr, tr_ren ρ σ v]
  | .meth m v => by simp only [renV, tr, tr_ren ρ σ v]
theorem trL_ren (ρ : Rho) (σ : List (Nat × Nat)) : ∀ l : List AVal, trL ρ (renL σ l) = trL (ρ.pull σ) l
  | [] => rfl
  | v :: r => by simp only [renL, trL, tr_ren ρ σ v, trL_ren ρ σ r]
end
theorem renL_length (σ : List (Nat × Nat)) : ∀ l, (renL σ l).length = l.length
  | [] => rfl
  | v :: r => by simp [renL, renL_length σ r]
theorem renV_scalar (σ : List (Nat × Nat)) (v : AVal) : (renV σ v).scalar = v.scalar := by cases v <;> rfl
theorem renL_scalar (σ : List (Nat × Nat)) : ∀ l, (renL σ l).all AVal.scalar = l.all AVal.scalar
  | [] => rfl
  | v :: r => by simp only [renL, List.all_cons, renV_scalar, renL_scalar σ r]
theorem ren_ok {σ : List (Nat × Nat)} {ρ : Rho} {w : World} {b : Nat} {x : ABlk} (h : (renB σ x).ok ρ w (sigA σ b)) : x.ok (ρ.pull σ) w b := by
  cases x with
  | cells e l =>
    obtain ⟨h1, h2, fz, h3, h4⟩ := h
    rw [renL_scalar] at h2
    rw [trL_ren] at h3
    rw [renL_length] at h4
    exact ⟨h1, h2, fz, h3, h4⟩
  | row e T l md =>
    have hd : ∀ a, a ∈ T.flat l → tr ρ a = tr (ρ.pull σ) a := fun a ha => AVal.data_tr ((List.all_eq_true.1 (flat_data T l)) a ha) _ _
    have hL : trL ρ (T.flat l) = trL (ρ.pull σ) (T.flat l) := by rw [trL_eq, trL_eq]; exact List.map_congr_left hd
    cases md with
    | plain =>
      obtain ⟨h1, h2, h3, cur, fz, h4, h5, h6, h7⟩ := h
      exact ⟨h1, h2, h3, cur, fz, h4, h5, h6, hL ▸ h7⟩
    | strish =>
      obtain ⟨h1, h2, h3, cur, fz, h4, h5, h6, h7⟩ := h
      exact ⟨h1, h2, h3, cur, fz, h4, h5, h6, hL ▸ h7⟩
    | ro =>
      obtain ⟨h1, h2, h3, h4⟩ := h
      refine ⟨h1, h2, h3, fun i v hv => ?_⟩
      rw [← hd v (List.mem_of_getElem? hv)]
      exact h4 i v hv
  | obj U s l =>
    obtain ⟨h1, h2⟩ := h
    rw [trL_ren] at h2
    exact ⟨h1, h2⟩
  | dead => trivial
/-- The temporaries E1, renamed, are among E2's. -/
def subER (N : Nat) (σ : List (Nat × Nat)) : Env → Env → Prop
  | [], _ => True
  | (t, v) :: r, E2 => match getE E2 t, v.under N with
    | some u, true => u = renV σ v ∧ subER N σ r E2
    | _, _ => False
def subHR (N : Nat) (σ : List (Nat × Nat)) : List (Nat × ABlk) → AHeap → Prop
  | [], _ => True
  | (b, x) :: r, H2 => match H2.get (sigA σ b), Nat.blt b N, x.under N with
    | some y, true, true => y = renB σ x ∧ subHR N σ r H2
    | _, _, _ => False
theorem subER_get {N : Nat} {σ : List (Nat × Nat)} : ∀ {E1 E2 : Env}, subER N σ E1 E2 → ∀ t v, getE E1 t = some v → getE E2 t = some (renV σ v) ∧ v.under N = true
  | [], E2, h, t, v, hv => by simp [getE] at hv
  | (u, x) :: r, E2, h, t, v, hv => by
    simp only [subER] at h
    split at h
    · rename_i y h1 h2
      obtain ⟨rfl, h⟩ := h
      rw [getE_cons] at hv
      by_cases hut : u = t
      · rw [if_pos hut] at hv
        simp only [Option.some.injEq] at hv
        subst hv hut
        exact ⟨h1, h2⟩
      · rw [if_neg hut] at hv
        exact subER_get h t v hv
    · exact h.elim
theorem subHR_get {N : Nat} {σ : List (Nat × Nat)} : ∀ {bs : List (Nat × ABlk)} {H2 : AHeap}, subHR N σ bs H2 → ∀ b x, getB bs b = some x → H2.get (sigA σ b) = some (renB σ x) ∧ b < N ∧ x.under N = true
  | [], H2, h, b, x, hx => by simp [getB] at hx
  | (c, y) :: r, H2, h, b, x, hx => by
    simp only [subHR] at h
    split at h
    · rename_i z h1 h2 h3
      obtain ⟨rfl, h⟩ := h
      rw [getB_cons] at hx
      by_cases hcb : c = b
      · rw [if_pos hcb] at hx
        subst hcb
        have : y = x := by cases y <;> simp [ABlk.live] at hx <;> exact hx
        subst this
        rw [Nat.blt_eq] at h2
        exact ⟨h1, h2, h3⟩
      · rw [if_neg hcb] at hx
        exact subHR_get h b x hx
    · exact h.elim
def sigOk (base : Nat) (σ : List (Nat × Nat)) : Bool := σ.all fun p => Nat.ble base p.1
def sigInj (σ : List (Nat × Nat)) : List (Nat × ABlk) → Bool
  | [] => true
  | (b, _) :: r => (r.all fun q => Nat.beq b q.1 || !(Nat.beq (sigA σ b) (sigA σ q.1))) && sigInj σ r
theorem sigOk_lt {base : Nat} {σ : List (Nat × Nat)} (h : sigOk base σ = true) {b : Nat} (hb : b < base) : sigA σ b = b := by
  unfold sigA
  split
  · rename_i c hc
    have := tab_mem hc
    unfold sigOk at h
    rw [List.all_eq_true] at h
    have := h _ this
    have := Nat.le_of_ble_eq_true this
    simp at this; omega
  · rfl
theorem sigInj_ne {σ : List (Nat × Nat)} : ∀ {bs : List (Nat × ABlk)}, sigInj σ bs = true → ∀ b b' x x', (b, x) ∈ bs → (b', x') ∈ bs → b ≠ b' → sigA σ b ≠ sigA σ b'
  | [], _, b, b', x, x', hb, _, _ => by cases hb
  | (c, y) :: r, h, b, b', x, x', hb, hb', hne => by
    simp only [sigInj, Bool.and_eq_true, List.all_eq_true, Bool.or_eq_true, Bool.not_eq_true'] at h
    rcases List.mem_cons.1 hb with h1 | h1 <;> rcases List.mem_cons.1 hb' with h2 | h2
    · cases h1; cases h2; exact absurd rfl hne
    · cases h1
      rcases h.1 _ h2 with h3 | h3
      · exact absurd (nat_beq_eq.1 h3) hne
      · exact nat_beq_ne.1 h3
    · cases h2
      rcases h.1 _ h1 with h3 | h3
      · exact absurd (nat_beq_eq.1 h3).symm hne
      · exact (nat_beq_ne.1 h3).symm
    · exact sigInj_ne h.2 b b' x x' h1 h2 hne
theorem renB_own (σ : List (Nat × Nat)) (x : ABlk) : (renB σ x).own = x.own := by cases x <;> rfl
theorem renB_big (σ : List (Nat × Nat)) (x : ABlk) : (renB σ x).big = x.big := by cases x <;> rfl
theorem renB_fp (σ : List (Nat × Nat)) (ρ : Rho) (b : Nat) (x : ABlk) (g : Nat) : (renB σ x).fp ρ (sigA σ b) g ↔ x.fp (ρ.pull σ) b g := by
  simp only [ABlk.fp, renB_big, Rho.pull]
/-- A smaller memory (K) of a greater one, under other numbers. -/
theorem sub_stepR {ρ0 ρ : Rho} {H0 H K : AHeap} {w0 w : World} {E1 E2 : Env} {a : Act} {σ : List (Nat × Nat)} {base : Nat} (hS : Step ρ0 H0 w0 ρ H w) (hE : RelE ρ H.next E2 a) (hb : H0.next ≤ base) (hσ : sigOk base σ = true) (hi : sigInj σ K.bs = true)
    (h1 : subER K.next σ E1 E2) (h2 : subHR K.next σ K.bs H) (hn : H0.next ≤ K.next) : Step ρ0 H0 w0 (ρ.pull σ) K w ∧ RelE (ρ.pull σ) K.next E1 a := by
  have hg := subHR_get h2
  have hown : ∀ g, Owns (ρ.pull σ) K g → Owns ρ H g := by
    rintro g ⟨b, x, hx, ho, hf⟩
    exact ⟨sigA σ b, renB σ x, (hg b x hx).1, by rw [renB_own]; exact ho, (renB_fp σ ρ b x g).2 hf⟩
  refine ⟨⟨fun b hlt => ?_, hn, ⟨fun b x hx => ?_, fun b b' x x' hx hx' ho hne => ?_⟩, hS.os, hS.tape, hS.output, hS.size, hS.old, fun g hgo => hS.owns g (hown g hgo)⟩, ⟨fun t v hv => ?_⟩⟩
  · have e := sigOk_lt hσ (b := b) (by omega)
    obtain ⟨q1, q2, q3⟩ := hS.agree b hlt
    simp only [Rho.pull, e]
    exact ⟨q1, q2, q3⟩
  · obtain ⟨q1, q2, q3⟩ := hg b x hx
    obtain ⟨r1, r2, r3, r4⟩ := hS.rel.blk _ _ q1
    exact ⟨q2, q3, r3, ren_ok r4⟩
  · intro g hf hf'
    exact hS.rel.inj _ _ _ _ (hg b x hx).1 (hg b' x' hx').1 (by rw [renB_own]; exact ho) (sigInj_ne hi b b' x x' (getB_mem hx) (getB_mem hx') hne) g ((renB_fp σ ρ b x g).2 hf) ((renB_fp σ ρ b' x' g).2 hf')
  · obtain ⟨q1, q2⟩ := subER_get h1 t v hv
    refine ⟨?_, q2⟩
    rw [(hE.get t _ q1).1, tr_ren]

/-- What a loop's way out must give: a state of which the real one has more. -/
def Up (base : Nat) (Q : AExit → Env → AHeap → Prop) (x : AExit) (E : Env) (H : AHeap) : Prop := ∃ E' H', base ≤ H'.next ∧ subE H'.next E' E ∧ subH H'.next H'.bs H ∧ (match x with
  | .panic v => v.under H'.next = true
  | _ => True) ∧ Q x E' H'

/-- The round of a loop. -/
def Round (base id : Nat) {S : Type} (st : S → Env × AHeap) (good : S → Prop) (μ : S → Nat) (T : S → Prop) (s : S) (Q : AExit → Env → AHeap → Prop) : AExit → Env → AHeap → Prop
  | .normal, E, H => ∃ s', good s' ∧ μ s' < μ s ∧ T s' ∧ ((subE (st s').2.next (st s').1 E ∧ subH (st s').2.next (st s').2.bs H) ∨ ∃ σ, sigOk base σ = true ∧ sigInj σ (st s').2.bs = true ∧ subER (st s').2.next σ (st s').1 E ∧ subHR (st s').2.next σ (st s').2.bs H)
  | .exit i, E, H => match Nat.beq i id with
    | true => Up base Q .normal E H
    | false => Up base Q (.exit i) E H
  | .ret, E, H => Up base Q .ret E H
  | .panic v, E, H => Up base Q (.panic v) E H

theorem up_lift [Dfs] {base : Nat} {Q : AExit → Env → AHeap → Prop} {x' : AExit} {E : Env} {H : AHeap} (h : Up base Q x' E H) {ρ0 ρ : Rho} {H0 : AHeap} {w0 w : World} {N : Nat} {a : Act} {x : Exit} (hb : H0.next ≤ base) (hx : AExit.rel ρ H.next x' x) (hE : RelE ρ H.next E a) (hd : a.defers = Dfs.D) (hN : a.tmps.size = N) (hS : Step ρ0 H0 w0 ρ H w) : Lift ρ0 H0 w0 N Q x a w := by
  obtain ⟨E', H', h1, h2, h3, h4, h5⟩ := h
  obtain ⟨k1, k2⟩ := sub_step hS hE h2 h3 (Nat.le_trans hb h1)
  refine ⟨x', E', H', ρ, ?_, h5, k2, hd, hN, k1⟩
  cases x' <;> cases x <;> simp only [AExit.rel] at hx ⊢
  · exact hx
  · exact ⟨hx.1, h4⟩

/-- A LOOP: states 's', how they lie in temporaries and memory, what holds of them, what goes down, what is still to be (T), and a round. -/
theorem loop_sound {X : Ctx} (hX : CtxOk X) {f id n : Nat} {fn : Func} {body c : Code} (hf : X.fns f = some fn) (hb : fn.body = some body) (hin : (id, Code.loop c) ∈ blocksC body) (hok : okDst fn.ntmps c = true) (hsub : ∀ p ∈ blocksC c, p ∈ blocksC body)
    {S : Type} (pb : Nat → Prop) (st : S → Env × AHeap) (good : S → Prop) (μ : S → Nat) (T : S → (AExit → Env → AHeap → Prop) → Prop) {L : LC}
    (hL : ∀ base E H Q, L base E H Q → ∃ s, pb base ∧ good s ∧ base ≤ (st s).2.next ∧ (∀ s', (st s').2.next = (st s).2.next) ∧ subE (st s).2.next (st s).1 E ∧ subH (st s).2.next (st s).2.bs H ∧ T s Q)
    (hround : ∀ base s Q, pb base → good s → base ≤ (st s).2.next → T s Q → ∃ R, (∀ x E H, R x E H → Round base id st good μ (fun s' => T s' Q) s Q x E H) ∧ wpC X n f base c (st s).1 (st s).2 R) (N : Nat) (hN0 : fn.ntmps ≤ N) : LSound X.P id (.loop c) N L := by
  intro base E H Q hLQ _ ρ0 H0 w0 ρ a w hbase hS hE hd hN
  obtain ⟨s, hpb, hg, hsb, hnx, h1, h2, hT⟩ := hL base E H Q hLQ
  have hnext : ∀ s', base ≤ (st s').2.next := fun s' => by rw [hnx s']; exact hsb
  refine wp_block (wp_loop_rounds (μ s + 1) ?_)
  have key : ∀ (m : Nat) (s : S) (ρ : Rho) (a : Act) (w : World), μ s < m → good s → T s Q → Step ρ0 H0 w0 ρ (st s).2 w → RelE ρ (st s).2.next (st s).1 a → a.defers = Dfs.D → a.tmps.size = N → Code.rounds X.P c (Exit.inBlock id (Lift ρ0 H0 w0 N Q)) m a w := by
    intro m
    induction m with
    | zero => intro s ρ a w h; omega
    | succ m ih =>
      intro s ρ a w hm hg hT hS hE hd hN
      show Code.wp X.P c (Exit.then (Code.rounds X.P c (Exit.inBlock id (Lift ρ0 H0 w0 N Q)) m) (Exit.inBlock id (Lift ρ0 H0 w0 N Q))) a w
      obtain ⟨R, hRR, hwp⟩ := hround base s Q hpb hg (hnext s) hT
      refine wp_mono (wpC_sound hX hwp hbase ⟨fn, hf, hN0, body, hb, hsub, hok⟩ hS hE hd hN) ?_
      rintro e a' w' ⟨x', E', H', ρ', q1, q2, q3, q4, q5, q6⟩
      have q2 := hRR _ _ _ q2
      cases x' with
      | normal =>
        cases e <;> simp only [AExit.rel] at q1
        obtain ⟨s', g1, g2, g3, g4⟩ := q2
        rcases g4 with ⟨g4, g5⟩ | ⟨σ, g4, g5, g6, g7⟩
        · obtain ⟨k1, k2⟩ := sub_step q6 q3 g4 g5 (Nat.le_trans hbase (hnext s'))
          exact ih s' ρ' a' w' (by omega) g1 g3 k1 k2 q4 q5
        · obtain ⟨k1, k2⟩ := sub_stepR q6 q3 hbase g4 g5 g6 g7 (Nat.le_trans hbase (hnext s'))
          exact ih s' _ a' w' (by omega) g1 g3 k1 k2 q4 q5
      | exit i =>
        cases e <;> simp only [AExit.rel] at q1
        subst q1
        simp only [Round] at q2
        split at q2
        · rename_i hi
          have := nat_beq_eq.1 hi
          simp only [Exit.then, Exit.inBlock, if_pos this]
          exact up_lift q2 hbase (x := .normal) trivial q3 q4 q5 q6
        · rename_i hi
          have := nat_beq_ne.1 hi
          simp only [Exit.then, Exit.inBlock, if_neg this]
          exact up_lift q2 hbase (x := .exit i) rfl q3 q4 q5 q6
      | ret => cases e <;> simp only [AExit.rel] at q1; exact up_lift (show Up base Q .ret E' H' from q2) hbase (x := .ret) trivial q3 q4 q5 q6
      | panic v => cases e <;> simp only [AExit.rel] at q1; exact up_lift (show Up base Q (.panic v) E' H' from q2) hbase (x := .panic _) q1 q3 q4 q5 q6
  obtain ⟨k1, k2⟩ := sub_step hS hE h1 h2 (Nat.le_trans hbase hsb)
  exact key _ s ρ a w (Nat.lt_succ_self _) hg hT k1 k2 hd hN

end Go.Proofs.Ytcgnoegejmhgmaa.Ev

/-
  Ev: rows of bytes, of strings, of numbers; functions that read one block.
-/
namespace Go.Proofs.Ytcgnoegejmhgmaa.Ev
set_option linter.unusedVariables false
set_option linter.unusedSimpArgs false
open Go.RowKit

abbrev byteRow : RowTy where
  α := UInt8
  sz := 1
  dflt := 0
  enc := fun c => [.int .u8 (c.toNat : Int)]
  dec := fun cs => match cs with
    | [.int .u8 n] => some (decide (0 ≤ n ∧ n < 256), UInt8.ofNat n.toNat)
    | _ => none
  len := fun _ => rfl
  isData := fun _ => rfl
  dec_enc := fun cs a h => by
    split at h
    · simp only [Option.some.injEq, Prod.mk.injEq, decide_eq_true_eq] at h
      obtain ⟨⟨h0, h1⟩, rfl⟩ := h
      rename_i n
      have : (UInt8.ofNat n.toNat).toNat = n.toNat := by rw [UInt8.toNat_ofNat']; omega
      rw [this, Int.toNat_of_nonneg h0]
    · cases h
  bytes := some (fun l => l, fun l => l)
  toB := fun f g h => by
    simp only [Option.some.injEq, Prod.mk.injEq] at h
    obtain ⟨rfl, rfl⟩ := h
    exact ⟨rfl, fun l => by induction l <;> simp_all, fun l => by induction l <;> simp_all⟩

abbrev strRow : RowTy where
  α := List UInt8
  sz := 1
  dflt := []
  enc := fun s => [.str s]
  dec := fun cs => match cs with
    | [.str s] => some (true, s)
    | _ => none
  len := fun _ => rfl
  isData := fun _ => rfl
  dec_enc := fun cs a h => by
    split at h
    · simp only [Option.some.injEq, Prod.mk.injEq, true_and] at h
      subst h; rfl
    · cases h
  bytes := none
  toB := fun f g h => by cases h

abbrev intRow (k : IntKind) : RowTy where
  α := Int
  sz := 1
  dflt := 0
  enc := fun n => [.int k n]
  dec := fun cs => match cs with
    | [.int k' n] => if k' = k then some (true, n) else none
    | _ => none
  len := fun _ => rfl
  isData := fun _ => rfl
  dec_enc := fun cs a h => by
    split at h
    · split at h <;> try cases h
      rename_i hk
      subst hk
      rfl
    · cases h
  bytes := none
  toB := fun f g h => by cases h

theorem get_one {n c : Nat} {x y : ABlk} (h : AHeap.get ⟨n, [(0, x)]⟩ c = some y) : c = 0 ∧ x.live = some y := by
  have h' : getB [(0, x)] c = some y := h
  rw [getB_cons] at h'
  by_cases hc : 0 = c
  · rw [if_pos hc] at h'; exact ⟨hc.symm, h'⟩
  · rw [if_neg hc] at h'; simp [getB] at h'

/-- What lies in a block of ours, read only. -/
theorem ro_of {x : ABlk} {ρ : Rho} {w : World} {b : Nat} (h : x.ok ρ w b) (hlt : ρ.blk b < w.heap.size) {e : TypeId} {T : RowTy} {as : List T.α} (hx : (∃ e', x = .cells e' (T.flat as)) ∨ ∃ e' md, x = .row e' T as md) (hl : as.length ≤ maxLen) :
    Rel ⟨fun _ => ρ.blk b, fun _ => ρ.off b, fun _ => max (ρ.cap b) as.length, fun _ _ => False⟩ ⟨1, [(0, .row e T as .ro)]⟩ w ∨ maxLen < max (ρ.cap b) as.length := by
  by_cases hm : maxLen < max (ρ.cap b) as.length
  · exact .inr hm
  left
  refine ⟨fun c y hy => ?_, fun c c' y y' hy hy' ho hne => ?_⟩
  · have : c = 0 ∧ y = .row e T as .ro := by
      obtain ⟨h1, h2⟩ := get_one hy
      simp only [ABlk.live, Option.some.injEq] at h2
      exact ⟨h1, h2.symm⟩
    clear hy
    obtain ⟨rfl, rfl⟩ := this
    refine ⟨Nat.zero_lt_one, rfl, hlt, by simp only; omega, by simp only; omega, hlt, fun i v hv => ?_⟩
    rcases hx with ⟨e', rfl⟩ | ⟨e', md, rfl⟩
    · obtain ⟨h0, _, fz, hh, _⟩ := h
      have hd := flat_data T as
      rw [List.all_eq_true] at hd
      simp only [h0, Nat.zero_add]
      rw [cell_of_heap hh]
      have : (trL ρ (T.flat as)).toArray[i]? = some (tr ρ v) := by simp [trL_get, hv]
      rw [this, AVal.data_tr (hd v (List.mem_of_getElem? hv)) ρ _]
    · have := row_cell h hv
      have hd := flat_data T as
      rw [List.all_eq_true] at hd
      simp only
      rw [this, AVal.data_tr (hd v (List.mem_of_getElem? hv)) ρ _]
  · have hc : ∀ {c y}, AHeap.get ⟨1, [(0, .row e T as .ro)]⟩ c = some y → c = 0 := by
      intro c y hy
      exact (get_one hy).1
    exact absurd ((hc hy).trans (hc hy').symm) hne

/-- The contract of a function that is handed a slice and reads it, beside what has no memory. -/
theorem fc_reads {X : Ctx} (hX : CtxOk X) {f n : Nat} {c : FC} (he : ∀ vs w, (callFunc f vs).run X.P w = .ok (.enter f vs) w)
    (h : ∀ args H v, c args H = some (true, v) → ∃ b x e T as i sz j m k pre post, args = pre ++ .sl b i sz j m (some k) :: post ∧ belowL 0 pre = true ∧ belowL 0 post = true ∧ H.get b = some x ∧ (∃ e', x = .cells e' (RowTy.flat T as)) ∧ as.length ≤ 1000 ∧ v.under 0 = true ∧
      callC X n f (pre ++ .sl 0 i sz j m (some k) :: post) ⟨1, [(0, .row e T as .ro)]⟩ (fun o _ => o = .ret v)) : FcSound X.P f c := by
  refine ⟨he, fun args H v hv ρ w N hH _ => ?_⟩
  obtain ⟨b, x, e, T, as, i, sz, j, m, k, pre, post, rfl, hpre, hpost, hb, ⟨e', rfl⟩, hl, hvu, hcall⟩ := h args H v hv
  obtain ⟨q1, q2, q3⟩ := hH b _ hb
  refine ⟨?_, under_mono0 hvu⟩
  -- the capacity does not matter
  have hrel : Rel ⟨fun _ => ρ.blk b, fun _ => ρ.off b, fun _ => as.length, fun _ _ => False⟩ ⟨1, [(0, .row e T as .ro)]⟩ w := by
    have hok : (ABlk.cells e' (T.flat as)).ok ⟨ρ.blk, ρ.off, fun _ => 0, fun _ _ => False⟩ w b := by
      obtain ⟨h0, h1, fz, h2, h3⟩ := q3
      refine ⟨h0, h1, fz, ?_, h3⟩
      rw [h2]
      congr 2
      rw [trL_eq, trL_eq]
      congr 1
      apply List.map_congr_left
      intro y hy
      have hd := flat_data T as
      rw [List.all_eq_true] at hd
      exact AVal.data_tr (hd y hy) _ _
    rcases ro_of (e := e) hok q2 (.inl ⟨e', rfl⟩) (by unfold maxLen; omega) with h | h
    · simpa using h
    · simp only at h; unfold maxLen at h; omega
  have htr : trL ⟨fun _ => ρ.blk b, fun _ => ρ.off b, fun _ => as.length, fun _ _ => False⟩ (pre ++ .sl 0 i sz j m (some k) :: post) = trL ρ (pre ++ .sl b i sz j m (some k) :: post) := by
    rw [trL_append, trL_append]
    simp only [trL, tr]
    rw [trL_agree (agree0 ρ _) pre hpre, trL_agree (agree0 ρ _) post hpost]
  have hcl := (callC_ok hX n) f _ _ _ hcall _ w hrel (by
    rw [belowL_eq]
    simp only [List.all_append, List.all_cons, Bool.and_eq_true]
    rw [← belowL_eq, ← belowL_eq]
    exact ⟨belowL_mono (Nat.zero_le _) _ hpre, rfl, belowL_mono (Nat.zero_le _) _ hpost⟩)
  rw [htr] at hcl
  refine hcl.2.mono ?_
  rintro e w' ⟨out, H', ρ', h1, rfl, h3⟩
  cases e <;> simp only [Out.rel] at h1
  obtain ⟨rfl, _⟩ := h1
  refine ⟨by rw [tr_agree (agree0 ρ ρ') v hvu], h3.below (Nat.le_refl _) (fun g hg => ?_)⟩
  obtain ⟨c, y, hy, ho, _⟩ := hg
  have h2 := (get_one hy).2
  simp only [ABlk.live, Option.some.injEq] at h2
  subst h2
  cases ho

/-! ### tables that grow -/

structure TabsOk (T : Tabs) (P : Program) : Prop where
  mixed : P.follows .mixedOrders = true
  fns : ∀ p ∈ T.fns, FnOk P p.1 p.2
  rows : ∀ p ∈ T.rows, RowOk P p.1 p.2
  fcs : ∀ p ∈ T.fcs, FcSound P p.1 p.2
  gcs : ∀ p ∈ T.gcs, GcSound P p.1 p.2
  lcs : ∀ p ∈ T.lcs, LcSound P T.fns p.1 p.2.1 p.2.2
  op : OpSound P T.op

theorem TabsOk.ctx {T : Tabs} {P : Program} (h : TabsOk T P) : CtxOk (T.ctx P) := Tabs.ok h.mixed h.fns h.rows h.fcs h.gcs h.lcs h.op

def Tabs.addFc (T : Tabs) (f : Nat) (c : FC) : Tabs := { T with fcs := (f, c) :: T.fcs }
def Tabs.addGc (T : Tabs) (f : Nat) (c : GC) : Tabs := { T with gcs := (f, c) :: T.gcs }
def Tabs.addLc (T : Tabs) (f id : Nat) (c : LC) : Tabs := { T with lcs := (f, id, c) :: T.lcs }

theorem TabsOk.addFc {T : Tabs} {P : Program} (h : TabsOk T P) {f : Nat} {c : FC} (hc : FcSound P f c) : TabsOk (T.addFc f c) P :=
  ⟨h.mixed, h.fns, h.rows, fun p hp => by rcases List.mem_cons.1 hp with rfl | hp <;> first | exact hc | exact h.fcs p hp, h.gcs, h.lcs, h.op⟩
theorem TabsOk.addGc {T : Tabs} {P : Program} (h : TabsOk T P) {f : Nat} {c : GC} (hc : GcSound P f c) : TabsOk (T.addGc f c) P :=
  ⟨h.mixed, h.fns, h.rows, h.fcs, fun p hp => by rcases List.mem_cons.1 hp with rfl | hp <;> first | exact hc | exact h.gcs p hp, h.lcs, h.op⟩
theorem TabsOk.addLc {T : Tabs} {P : Program} (h : TabsOk T P) {f id : Nat} {c : LC} (hc : LcSound P T.fns f id c) : TabsOk (T.addLc f id c) P :=
  ⟨h.mixed, h.fns, h.rows, h.fcs, h.gcs, fun p hp => by rcases List.mem_cons.1 hp with rfl | hp <;> first | exact hc | exact h.lcs p hp, h.op⟩

/-- The contract of a function out of Lean's old way of contracts: no memory is handed over. -/
theorem fc_of_calls {P : Program} {f : FuncId} {c : FC} (he : ∀ vs w, (callFunc f vs).run P w = .ok (.enter f vs) w)
    (h : ∀ args H v, c args H = some (true, v) → belowL 0 args = true ∧ v.under 0 = true ∧ ∀ ρ w, Calls P f (trL ρ args).toArray w fun e w' => e = .returned (tr ρ v) ∧ Below w.heap.size w w') : FcSound P f c := by
  refine ⟨he, fun args H v hv ρ w N _ _ => ?_⟩
  obtain ⟨h1, h2, h3⟩ := h args H v hv
  exact ⟨h3 ρ w, under_mono0 h2⟩

end Go.Proofs.Ytcgnoegejmhgmaa.Ev

/-
  Ev: arguments of plain data that come in, opened: whole numbers, truth values, texts, and structs and arrays of them.
-/
namespace Go.Proofs.Ytcgnoegejmhgmaa.Ev
set_option linter.unusedVariables false
set_option linter.unusedSimpArgs false
open Go.RowKit Go.Joins Go.ChangeShapes Go.WideShapes
open Go.ChangeMaps (open_string)

/-- What a cell is. -/
inductive CT where
  | int (k : IntKind)
  | bool
  | str

def Of1 : CT → AVal → Prop
  | .int k, v => ∃ n, v = .int k n ∧ (Lit.int k n).wf = true
  | .bool, v => ∃ b, v = .bool b
  | .str, v => ∃ s, v = .str s ∧ s.length ≤ maxLen
def OfL : List CT → List AVal → Prop
  | [], vs => vs = []
  | c :: cs, vs => ∃ v r, vs = v :: r ∧ Of1 c v ∧ OfL cs r

theorem OfL_append : ∀ {l1 l2 : List CT} {v1 v2 : List AVal}, OfL l1 v1 → OfL l2 v2 → OfL (l1 ++ l2) (v1 ++ v2)
  | [], l2, v1, v2, h, k => by cases h; exact k
  | c :: l1, l2, v1, v2, h, k => by
    obtain ⟨v, r, rfl, h1, h2⟩ := h
    exact ⟨v, r ++ v2, rfl, h1, OfL_append h2 k⟩

def flatFs (P : Program) (g : TypeId → Option (List CT)) : Nat → Nat → List Field → Option (List CT)
  | o, c, [] => if o = c then some [] else none
  | o, c, f :: fs => match g f.type, flatFs P g (o + P.cellsOf f.type) c fs with
    | some l, some r => if f.offset = o ∧ l.length = P.cellsOf f.type then some (l ++ r) else none
    | _, _ => none

/-- The cells of a type. -/
def flat (P : Program) : Nat → TypeId → Option (List CT)
  | 0, _ => none
  | n + 1, t => match P.underlying t with
    | some .bool => some [.bool]
    | some (.int k) => some [.int k]
    | some .string => some [.str]
    | some (.struct fs) => flatFs P (flat P n) 0 (P.cellsOf t) fs.toList
    | some (.array m e) => match flat P n e with
      | some l => if l.length = P.cellsOf e ∧ P.cellsOf t = m * P.cellsOf e then some ((List.replicate m l).flatten) else none
      | none => none
    | _ => none

/-- The cells, as ours. -/
def Opens (l : List CT) (cs : List Value) : Prop := ∃ avs, (∀ ρ, trL ρ avs = cs) ∧ OfL l avs

theorem Opens.append {l1 l2 : List CT} {c1 c2 : List Value} : Opens l1 c1 → Opens l2 c2 → Opens (l1 ++ l2) (c1 ++ c2) := by
  rintro ⟨a1, h1, k1⟩ ⟨a2, h2, k2⟩
  exact ⟨a1 ++ a2, fun ρ => by rw [trL_append, h1, h2], OfL_append k1 k2⟩

theorem str_tr (s : ByteArray) (ρ : Rho) : tr ρ (.str s.data.toList) = .string s := by
  simp [tr]

theorem opens_fs {P : Program} {R : TypeId → List Value → Prop} {g : TypeId → Option (List CT)} (ih : ∀ t cs l, g t = some l → R t cs → Opens l cs) : ∀ (fs : List Field) (o c : Nat) (l : List CT) (cs : List Value), flatFs P g o c fs = some l → cs.length = c → (∀ f ∈ fs, R f.type ((cs.drop f.offset).take (P.cellsOf f.type))) → Opens l (cs.drop o)
  | [], o, c, l, cs, h, hc, _ => by
    unfold flatFs at h
    split at h
    · rename_i he
      simp only [Option.some.injEq] at h
      subst h
      exact ⟨[], fun ρ => by rw [List.drop_eq_nil_of_le (by omega)]; rfl, rfl⟩
    · cases h
  | f :: fs, o, c, l, cs, h, hc, hr => by
    unfold flatFs at h
    split at h
    · rename_i l1 r h1 h2
      split at h
      · rename_i hh
        simp only [Option.some.injEq] at h
        subst h
        have q1 := ih _ _ _ h1 (hr f (List.mem_cons_self ..))
        have q2 := opens_fs ih fs _ c r cs h2 hc (fun f' hf' => hr f' (List.mem_cons_of_mem _ hf'))
        rw [hh.1] at q1
        have := q1.append q2
        rw [← List.drop_drop, List.take_append_drop] at this
        exact this
      · cases h
    · cases h

theorem opens_arr {l : List CT} {k : Nat} : ∀ (m : Nat) (cs : List Value), cs.length = m * k → (∀ i, i < m → Opens l ((cs.drop (i * k)).take k)) → Opens ((List.replicate m l).flatten) cs
  | 0, cs, hc, _ => by
    obtain rfl : cs = [] := List.eq_nil_of_length_eq_zero (by omega)
    exact ⟨[], fun _ => rfl, rfl⟩
  | m + 1, cs, hc, h => by
    have h0 := h 0 (by omega)
    simp only [Nat.zero_mul, List.drop_zero] at h0
    have h1 : Opens ((List.replicate m l).flatten) (cs.drop k) := by
      refine opens_arr (k := k) m (cs.drop k) (by rw [List.length_drop, hc, Nat.succ_mul]; omega) (fun i hi => ?_)
      have := h (i + 1) (by omega)
      rw [List.drop_drop]
      rw [Nat.succ_mul, Nat.add_comm] at this
      exact this
    have := h0.append h1
    rw [List.take_append_drop] at this
    rw [List.replicate_succ, List.flatten_cons]
    exact this

theorem opens {H : Type} {enc : TypeId × Value → H} {P : Program} {w : World} {base : Nat} {spare : Nat → Bool} {held : Bool} : ∀ (n : Nat) (t : TypeId) (cs : List Value) (l : List CT), flat P n t = some l → (∃ fuel x, DataW.trod enc P w base spare held fuel t cs = some x) → Opens l cs
  | 0, t, cs, l, h, _ => by simp [flat] at h
  | n + 1, t, cs, l, h, ⟨fuel, x, hx⟩ => by
    unfold flat at h
    split at h
    · rename_i ht
      simp only [Option.some.injEq] at h
      subst h
      cases fuel with
      | zero => simp [DataW.trod] at hx
      | succ f =>
        unfold DataW.trod at hx
        rw [ht] at hx
        split at hx <;> first | cases hx; done | (simp_all; done) | skip
        rename_i b _
        exact ⟨[.bool b], fun _ => rfl, _, _, rfl, ⟨b, rfl⟩, rfl⟩
    · rename_i k ht
      simp only [Option.some.injEq] at h
      subst h
      obtain ⟨m, rfl, _, hw⟩ := DataW.trod_int ht hx
      exact ⟨[.int k m], fun _ => rfl, _, _, rfl, ⟨m, rfl, hw⟩, rfl⟩
    · rename_i ht
      simp only [Option.some.injEq] at h
      subst h
      obtain ⟨s, rfl, _, hw⟩ := DataW.trod_string ht hx
      exact ⟨[.str s.data.toList], fun ρ => by simp [trL, str_tr], _, _, rfl, ⟨s.data.toList, rfl, (by rw [Array.length_toList]; exact hw)⟩, rfl⟩
    · rename_i fs ht
      obtain ⟨xs, m, rfl, _, hl, hlen, hf⟩ := DataW.trod_struct ht hx
      have := opens_fs (P := P) (R := fun t cs => ∃ fuel x, DataW.trod enc P w base spare held fuel t cs = some x) (opens n) fs.toList 0 _ l cs h hl (fun f hfm => by
        obtain ⟨i, hi, he⟩ := List.getElem_of_mem hfm
        have hfi : fs[i]? = some f := by rw [← he]; simp
        have hi' : i < xs.length := by rw [hlen]; simpa using hi
        exact ⟨m, xs[i], by rw [hf i f hfi]; simp [hi']⟩)
      simpa using this
    · rename_i m e ht
      split at h
      · rename_i l1 h1
        split at h
        · rename_i hh
          simp only [Option.some.injEq] at h
          subst h
          obtain ⟨xs, k, rfl, _, hl, hlen, hf⟩ := DataW.trod_array ht hx
          refine opens_arr m cs (hl.trans hh.2) (fun i hi => opens n e _ l1 h1 ⟨k, xs[i]'(by omega), by rw [hf i hi]; simp [hlen, hi]⟩)
        · cases h
      · cases h
    · cases h

/-- What an argument is. -/
inductive CK where
  | one (c : CT)
  | agg (l : List CT)
def kindOf (P : Program) (t : TypeId) : Option CK := match P.underlying t with
  | some .bool => some (.one .bool)
  | some (.int k) => some (.one (.int k))
  | some .string => some (.one .str)
  | some (.struct _) | some (.array _ _) => (flat P 8 t).map CK.agg
  | _ => none
def OfK : CK → AVal → Prop
  | .one c, v => Of1 c v
  | .agg l, v => ∃ vs, v = .agg vs ∧ OfL l vs

theorem open_any {H : Type} {enc : TypeId × Value → H} {P : Program} {w : World} {base : Nat} {spare : Nat → Bool} {held : Bool} {r : Reach} {b0 : Nat} {t : TypeId} {v : Value} {d : DataW H} {p : List MemPlace} {K : CK} (hK : kindOf P t = some K)
    (hv : Value.okWide P w r b0 t v) (h : DataW.Trod enc P w base spare held t v d p) : ∃ a, (∀ ρ, v = tr ρ a) ∧ OfK K a := by
  unfold kindOf at hK
  split at hK
  · rename_i ht
    simp only [Option.some.injEq] at hK
    subst hK
    obtain ⟨b, rfl, _⟩ := open_bool ht hv h
    exact ⟨.bool b, fun _ => rfl, b, rfl⟩
  · rename_i k ht
    simp only [Option.some.injEq] at hK
    subst hK
    obtain ⟨n, rfl, _, _, hw⟩ := open_int ht hv h
    exact ⟨.int k n, fun _ => rfl, n, rfl, hw⟩
  · rename_i ht
    simp only [Option.some.injEq] at hK
    subst hK
    obtain ⟨s, rfl, _, _, hw⟩ := open_string ht hv h
    exact ⟨.str s.data.toList, fun ρ => (str_tr s ρ).symm, _, rfl, (by rw [Array.length_toList]; exact hw)⟩
  · rename_i fs ht
    obtain ⟨cs, rfl, hsz⟩ := okWide_struct ht hv
    simp only [Option.map_eq_some_iff] at hK
    obtain ⟨l, hl, rfl⟩ := hK
    obtain ⟨fuel, hf⟩ := h
    obtain ⟨avs, h1, h2⟩ := opens 8 t cs.toList l hl ⟨fuel, _, hf⟩
    exact ⟨.agg avs, fun ρ => by simp [tr, h1], avs, rfl, h2⟩
  · rename_i m e ht
    have : ∃ cs, v = .agg cs ∧ cs.size = P.cellsOf t := by
      simp only [Value.okWide, ht] at hv
      obtain ⟨cs, h1, h2, _⟩ := hv
      exact ⟨cs, h1, h2⟩
    obtain ⟨cs, rfl, hsz⟩ := this
    simp only [Option.map_eq_some_iff] at hK
    obtain ⟨l, hl, rfl⟩ := hK
    obtain ⟨fuel, hf⟩ := h
    obtain ⟨avs, h1, h2⟩ := opens 8 t cs.toList l hl ⟨fuel, _, hf⟩
    exact ⟨.agg avs, fun ρ => by simp [tr, h1], avs, rfl, h2⟩
  · cases hK

/-! ### slices of plain data -/

theorem okWide_has {P : Program} {w : World} {r : Reach} {b0 : Nat} {t e : TypeId} {a : Addr} {len cap : Nat} (ht : P.underlying t = some (.slice e)) (hv : Value.okWide P w r b0 t (.slice (some a) len cap)) : a.spot = none ∧ a.block < w.heap.size := by
  unfold Value.okWide at hv
  rw [ht] at hv
  simp only at hv
  unfold Cell.okWide at hv
  rw [ht] at hv
  simp only at hv
  unfold Cell.ok at hv
  rw [ht] at hv
  simp only at hv
  obtain ⟨_, _, h⟩ := hv
  obtain ⟨_, h1, row, cells, h2, _⟩ := h
  refine ⟨h1, ?_⟩
  unfold World.shape? at h2
  rcases Nat.lt_or_ge a.block w.heap.size with h3 | h3
  · exact h3
  · rw [Array.getElem?_eq_none h3] at h2; cases h2

/-- A slice of plain data that comes in: nil, or a row that is read. -/
theorem open_row {H : Type} {enc : TypeId × Value → H} {P : Program} {w : World} {base : Nat} {spare : Nat → Bool} {held : Bool} {b0 : Nat} {t e : TypeId} {v : Value} {d : DataW H} {p : List MemPlace} {T : RowTy} {l : List CT}
    (ht : P.underlying t = some (.slice e)) (hf : flat P 8 e = some l) (hsz : P.cellsOf e = T.sz) (hpos : 0 < T.sz) (hT : ∀ avs, OfL l avs → ∃ a, T.enc a = avs)
    (hv : Value.okWide P w .any b0 t v) (h : DataW.Trod enc P w base spare held t v d p) :
    (∀ ρ, v = tr ρ .nils) ∨ ∃ (ρ : Rho) (as : List T.α), v = tr ρ (.sl 0 0 T.sz 0 as.length none) ∧ as.length ≤ maxLen ∧ (∀ a ∈ as, OfL l (T.enc a)) ∧ Rel ρ ⟨1, [(0, .row e T as .ro)]⟩ w := by
  obtain ⟨a0, len0, cap0, rfl⟩ := okWide_slice ht hv
  obtain ⟨fuel, hfu⟩ := h
  rcases Go.Deep.open_slice ht hfu with ⟨hcs, _⟩ | ⟨x, len, cap, m, n, D, Pl, hcs, hb, hl, hm, hmm, hx, hi⟩
  · simp [Value.cells] at hcs
    obtain ⟨rfl, rfl, rfl⟩ := hcs
    exact .inl (fun ρ => rfl)
  · simp [Value.cells] at hcs
    obtain ⟨rfl, rfl, rfl⟩ := hcs
    obtain ⟨hsp, hlt⟩ := okWide_has ht hv
    obtain ⟨bk, off, spot⟩ := x
    simp only at hsp hlt
    subst hsp
    have hlm : len0 ≤ m := by rw [hmm]; split <;> omega
    have key : ∀ i, ∃ a : T.α, i < len0 → (∀ ρ, w.cells? base ((⟨bk, off, none⟩ : Addr).add (i * T.sz)) T.sz = some (trL ρ (T.enc a))) ∧ OfL l (T.enc a) := by
      intro i
      by_cases hi' : i < len0
      · obtain ⟨cs', h1, h2⟩ := hi i (by omega)
        obtain ⟨avs, h3, h4⟩ := opens 8 e cs' l hf ⟨_, _, h2⟩
        obtain ⟨a, rfl⟩ := hT avs h4
        rw [hsz] at h1
        exact ⟨a, fun _ => ⟨fun ρ => by rw [h3]; exact h1, h4⟩⟩
      · exact ⟨T.dflt, fun h => absurd h hi'⟩
    obtain ⟨f, hfk⟩ := Classical.axiomOfChoice key
    let ρ : Rho := ⟨fun _ => bk, fun _ => off, fun _ => cap0, fun _ _ => False⟩
    have hlen : ((List.range len0).map f).length = len0 := by rw [List.length_map, List.length_range]
    refine .inr ⟨ρ, (List.range len0).map f, ?_, by rw [hlen]; omega, ?_, ?_⟩
    · show Value.slice (some ⟨bk, off, none⟩) len0 cap0 = Value.slice (some ⟨bk, off + (0 * T.sz + 0), none⟩) ((List.range len0).map f).length (cap0 - 0)
      rw [hlen]; simp
    · intro a ha
      obtain ⟨i, hi', rfl⟩ := List.mem_map.1 ha
      exact (hfk i (List.mem_range.1 hi')).2
    · refine ⟨fun b y hy => ?_, fun b b' y y' hy hy' ho hne => ?_⟩
      · obtain ⟨rfl, hy⟩ := get_one hy
        cases (show some (ABlk.row e T ((List.range len0).map f) .ro) = some y from hy)
        refine ⟨Nat.zero_lt_one, rfl, hlt, ?_⟩
        refine ⟨by rw [hlen]; exact hl, hm, hlt, fun j u hu => ?_⟩
        have hj : j < ((List.range len0).map f).length * T.sz := by
          rw [← flat_length]
          exact (List.getElem?_eq_some_iff.1 hu).1
        rw [hlen] at hj
        have hq : j / T.sz < len0 := by
          rw [Nat.div_lt_iff_lt_mul hpos]; exact hj
        have hr : j % T.sz < T.sz := Nat.mod_lt _ hpos
        have hjj : j = j / T.sz * T.sz + j % T.sz := by rw [Nat.mul_comm]; exact (Nat.div_add_mod j T.sz).symm
        have hget : ((List.range len0).map f)[j / T.sz]? = some (f (j / T.sz)) := by
          rw [List.getElem?_map, List.getElem?_range hq]; rfl
        rw [hjj, flat_get T _ _ _ _ hget hr] at hu
        obtain ⟨_, _, hat⟩ := World.cells?_some ((hfk (j / T.sz) hq).1 ρ)
        have := hat (j % T.sz) hr
        rw [addr_add, addr_add] at this
        show w.cell? ⟨bk, off + j, none⟩ = some (tr ρ u)
        rw [show off + j = off + j / T.sz * T.sz + j % T.sz by omega, this, trL_eq, List.getElem?_map, hu]
        rfl
      · obtain ⟨rfl, hy⟩ := get_one hy
        obtain ⟨rfl, _⟩ := get_one hy'
        exact absurd rfl hne

def rho0 : Rho := ⟨fun _ => 0, fun _ => 0, fun _ => 0, fun _ _ => False⟩

end Go.Proofs.Ytcgnoegejmhgmaa.Ev

/-
  Ev: laws of loops, of a function's body.
-/
namespace Go.Proofs.Ytcgnoegejmhgmaa.Ev
set_option linter.unusedVariables false
set_option linter.unusedSimpArgs false
open Go.RowKit

/-- The block of that number, in a list of blocks, is a loop, and no other has it. -/
def loopIn : List (Nat × Code) → Nat → Option Code
  | [], _ => none
  | (i, c) :: r, id => match Nat.beq i id with
    | true => match c, loopIn r id, r.all (fun p => !(Nat.beq p.1 id)) with
      | .loop c, none, true => some c
      | _, _, _ => none
    | false => loopIn r id

theorem loopIn_spec : ∀ {l : List (Nat × Code)} {id : Nat} {c : Code}, loopIn l id = some c → (id, Code.loop c) ∈ l ∧ ∀ p ∈ l, p.1 = id → p = (id, Code.loop c)
  | [], id, c, h => by simp [loopIn] at h
  | (i, x) :: r, id, c, h => by
    unfold loopIn at h
    split at h
    · rename_i hi
      have hi := nat_beq_eq.1 hi
      subst hi
      split at h
      · rename_i y _ hall
        simp only [Option.some.injEq] at h
        subst h
        refine ⟨List.mem_cons_self .., fun p hp h => ?_⟩
        rcases List.mem_cons.1 hp with rfl | hp
        · rfl
        · rw [List.all_eq_true] at hall
          have := hall p hp
          simp only [Bool.not_eq_true'] at this
          exact absurd h (nat_beq_ne.1 this)
      · cases h
    · rename_i hi
      have hi := nat_beq_ne.1 hi
      obtain ⟨h1, h2⟩ := loopIn_spec h
      refine ⟨List.mem_cons_of_mem _ h1, fun p hp h => ?_⟩
      rcases List.mem_cons.1 hp with rfl | hp
      · exact absurd h hi
      · exact h2 p hp h

/-- The body of the loop that is a block. -/
def loopOf (fn : Func) (id : Nat) : Code := match fn.body with
  | some c => match loopIn (blocksC c) id with
    | some c => c
    | none => .ret
  | none => .ret
def loopIs (fn : Func) (id : Nat) : Bool := match fn.body with
  | some c => match loopIn (blocksC c) id with
    | some x => okDst fn.ntmps x
    | none => false
  | none => false

theorem blocks_sub : ∀ (c : Code) (id : Nat) (x : Code), (id, x) ∈ blocksC c → ∀ p ∈ blocksC x, p ∈ blocksC c := by
  intro c
  induction c with
  | seq a b iha ihb =>
    intro id x h p hp
    simp only [blocksC, List.mem_append] at h ⊢
    rcases h with h | h
    · exact .inl (iha id x h p hp)
    · exact .inr (ihb id x h p hp)
  | cond o a b iha ihb =>
    intro id x h p hp
    simp only [blocksC, List.mem_append] at h ⊢
    rcases h with h | h
    · exact .inl (iha id x h p hp)
    · exact .inr (ihb id x h p hp)
  | block i c ih =>
    intro id x h p hp
    simp only [blocksC, List.mem_cons, Prod.mk.injEq] at h ⊢
    rcases h with ⟨rfl, rfl⟩ | h
    · exact .inr hp
    · exact .inr (ih id x h p hp)
  | loop c ih =>
    intro id x h p hp
    simp only [blocksC] at h ⊢
    exact ih id x h p hp
  | scope c ih =>
    intro id x h p hp
    simp only [blocksC] at h ⊢
    exact ih id x h p hp
  | _ => intro id x h; simp [blocksC] at h

/-- A LOOP OF A FUNCTION: states, how they lie, what holds of them, what goes down, what is still to be, and a round. -/
theorem lc_sound {T : Tabs} {P : Program} (hT : TabsOk T P) {f id n : Nat} {fn : Func} (hf : tab T.fns f = some fn) (hl : loopIs fn id = true)
    {S : Type} (pb : Nat → Prop) (st : S → Env × AHeap) (good : S → Prop) (μ : S → Nat) (Tt : S → (AExit → Env → AHeap → Prop) → Prop) {L : LC}
    (hL : ∀ base E H Q, L base E H Q → ∃ s, pb base ∧ good s ∧ base ≤ (st s).2.next ∧ (∀ s', (st s').2.next = (st s).2.next) ∧ subE (st s).2.next (st s).1 E ∧ subH (st s).2.next (st s).2.bs H ∧ Tt s Q)
    (hround : ∀ base s Q, pb base → good s → base ≤ (st s).2.next → Tt s Q → ∃ R, (∀ x E H, R x E H → Round base id st good μ (fun s' => Tt s' Q) s Q x E H) ∧ wpC (T.ctx P) n f base (loopOf fn id) (st s).1 (st s).2 R) : LcSound P T.fns f id L := by
  intro fn' c hf' hb p hp hid N hN
  rw [hf] at hf'
  simp only [Option.some.injEq] at hf'
  subst hf'
  unfold loopIs at hl
  rw [hb] at hl
  simp only at hl
  split at hl
  · rename_i x hx
    obtain ⟨h1, h2⟩ := loopIn_spec hx
    have hlo : loopOf fn id = x := by unfold loopOf; rw [hb]; simp only [hx]
    rw [hlo] at hround
    obtain rfl := h2 p hp hid
    exact loop_sound hT.ctx (f := f) hf hb h1 hl (blocks_sub c id (.loop x) h1) pb st good μ Tt hL hround N hN
  · cases hl

/-! ### laws of loops that find their state themselves -/

theorem subE_nil {N : Nat} {E : Env} : subE N [] E := trivial
theorem subE_cons {N : Nat} {t : Nat} {v u : AVal} {r E2 : Env} (h1 : getE E2 t = some u) (h2 : v.under N = true) (h3 : u = v) (h4 : subE N r E2) : subE N ((t, v) :: r) E2 := by
  unfold subE; rw [h1, h2]; exact ⟨h3, h4⟩
theorem subH_nil {N : Nat} {H : AHeap} : subH N [] H := trivial
theorem subH_cons {N b : Nat} {x y : ABlk} {r : List (Nat × ABlk)} {H2 : AHeap} (h1 : H2.get b = some y) (h2 : Nat.blt b N = true) (h3 : x.under N = true) (h4 : y = x) (h5 : subH N r H2) : subH N ((b, x) :: r) H2 := by
  unfold subH; rw [h1, h2, h3]; exact ⟨h4, h5⟩

/-- Some of the temporaries. -/
def restr : List Nat → Env → Env
  | [], _ => []
  | t :: r, E => match getE E t with
    | some v => (t, v) :: restr r E
    | none => restr r E
def restrB : List Nat → AHeap → List (Nat × ABlk)
  | [], _ => []
  | b :: r, H => match H.get b with
    | some x => (b, x) :: restrB r H
    | none => restrB r H
/-- Some of the blocks. -/
def restrH (bs : List Nat) (n : Nat) (H : AHeap) : AHeap := ⟨n, restrB bs H⟩
theorem getE_restr {E : Env} {t : Nat} {v : AVal} : ∀ {ts : List Nat}, getE (restr ts E) t = some v → getE E t = some v
  | [], h => by simp [restr, getE] at h
  | u :: r, h => by
    simp only [restr] at h
    split at h
    · rename_i v' hv
      rw [getE_cons] at h
      split at h
      · rename_i e; subst e; cases h; exact hv
      · exact getE_restr h
    · exact getE_restr h
theorem getB_restr {H : AHeap} {b : Nat} {x : ABlk} : ∀ {bs : List Nat}, getB (restrB bs H) b = some x → H.get b = some x
  | [], h => by simp [restrB, getB] at h
  | c :: r, h => by
    simp only [restrB] at h
    split at h
    · rename_i y hy
      rw [getB_cons] at h
      split at h
      · rename_i e; subst e; rw [get_live hy] at h; cases h; exact hy
      · exact getB_restr h
    · exact getB_restr h
theorem subE_more {N : Nat} {E2 E3 : Env} (hm : ∀ t v, getE E2 t = some v → getE E3 t = some v) : ∀ {E1 : Env}, subE N E1 E2 → subE N E1 E3
  | [], _ => trivial
  | (t, v) :: r, h => by
    simp only [subE] at h
    split at h
    · rename_i u h1 h2
      exact subE_cons (hm t u h1) h2 h.1 (subE_more hm h.2)
    · exact h.elim
theorem subH_more {N : Nat} {H2 H3 : AHeap} (hm : ∀ b x, H2.get b = some x → H3.get b = some x) : ∀ {bs : List (Nat × ABlk)}, subH N bs H2 → subH N bs H3
  | [], _ => trivial
  | (b, x) :: r, h => by
    simp only [subH] at h
    split at h
    · rename_i y h1 h2 h3
      exact subH_cons (hm b y h1) h2 h3 h.1 (subH_more hm h.2)
    · exact h.elim
theorem subER_nil {N : Nat} {σ : List (Nat × Nat)} {E : Env} : subER N σ [] E := trivial
theorem subER_cons {N : Nat} {σ : List (Nat × Nat)} {t : Nat} {v u : AVal} {r E2 : Env} (h1 : getE E2 t = some u) (h2 : v.under N = true) (h3 : u = renV σ v) (h4 : subER N σ r E2) : subER N σ ((t, v) :: r) E2 := by
  unfold subER; rw [h1, h2]; exact ⟨h3, h4⟩
theorem subHR_nil {N : Nat} {σ : List (Nat × Nat)} {H : AHeap} : subHR N σ [] H := trivial
theorem subHR_cons {N b : Nat} {σ : List (Nat × Nat)} {x y : ABlk} {r : List (Nat × ABlk)} {H2 : AHeap} (h1 : H2.get (sigA σ b) = some y) (h2 : Nat.blt b N = true) (h3 : x.under N = true) (h4 : y = renB σ x) (h5 : subHR N σ r H2) : subHR N σ ((b, x) :: r) H2 := by
  unfold subHR; rw [h1, h2, h3]; exact ⟨h4, h5⟩
theorem subER_more {N : Nat} {σ : List (Nat × Nat)} {E2 E3 : Env} (hm : ∀ t v, getE E2 t = some v → getE E3 t = some v) : ∀ {E1 : Env}, subER N σ E1 E2 → subER N σ E1 E3
  | [], _ => trivial
  | (t, v) :: r, h => by
    simp only [subER] at h
    split at h
    · rename_i u h1 h2
      exact subER_cons (hm t u h1) h2 h.1 (subER_more hm h.2)
    · exact h.elim
theorem subHR_more {N : Nat} {σ : List (Nat × Nat)} {H2 H3 : AHeap} (hm : ∀ b x, H2.get b = some x → H3.get b = some x) : ∀ {bs : List (Nat × ABlk)}, subHR N σ bs H2 → subHR N σ bs H3
  | [], _ => trivial
  | (b, x) :: r, h => by
    simp only [subHR] at h
    split at h
    · rename_i y h1 h2 h3
      exact subHR_cons (hm _ y h1) h2 h3 h.1 (subHR_more hm h.2)
    · exact h.elim
theorem round_restr {base id : Nat} {S : Type} {st : S → Env × AHeap} {good : S → Prop} {μ : S → Nat} {T : S → Prop} {s : S} {Q : AExit → Env → AHeap → Prop} {ts bs : List Nat} {m : Nat} {x : AExit} {E : Env} {H : AHeap}
    (h : Round base id st good μ T s Q x (restr ts E) (restrH bs m H)) : Round base id st good μ T s Q x E H := by
  have hE : ∀ t v, getE (restr ts E) t = some v → getE E t = some v := fun t v h => getE_restr h
  have hH : ∀ b x, (restrH bs m H).get b = some x → H.get b = some x := fun b x h => getB_restr h
  have up : ∀ {x : AExit}, Up base Q x (restr ts E) (restrH bs m H) → Up base Q x E H := by
    rintro x ⟨E', H', h1, h2, h3, h4, h5⟩
    exact ⟨E', H', h1, subE_more hE h2, subH_more hH h3, h4, h5⟩
  cases x with
  | normal =>
    obtain ⟨s', g1, g2, g3, g4⟩ := h
    rcases g4 with ⟨g4, g5⟩ | ⟨σ, g4, g5, g6, g7⟩
    · exact ⟨s', g1, g2, g3, .inl ⟨subE_more hE g4, subH_more hH g5⟩⟩
    · exact ⟨s', g1, g2, g3, .inr ⟨σ, g4, g5, subER_more hE g6, subHR_more hH g7⟩⟩
  | exit i =>
    simp only [Round] at h ⊢
    split
    · rename_i hi; rw [hi] at h; exact up h
    · rename_i hi; rw [hi] at h; exact up h
  | ret => exact up (show Up base Q .ret (restr ts E) (restrH bs m H) from h)
  | panic v => exact up (show Up base Q (.panic v) (restr ts E) (restrH bs m H) from h)

/-- The loop is left in this state. -/
def contSt (p : Env × AHeap) (Q : AExit → Env → AHeap → Prop) : Prop := match p with
  | (E, ⟨n, bs⟩) => Q .normal E ⟨n, bs⟩
theorem contSt_iff {p : Env × AHeap} {Q : AExit → Env → AHeap → Prop} : contSt p Q ↔ Q .normal p.1 p.2 := by obtain ⟨E, ⟨n, bs⟩⟩ := p; exact Iff.rfl

/-- The law of a loop: what finds the state; what is asked of it; what is still to be. -/
noncomputable def lcOf {S : Type} (N0 : Nat) (find : Env → AHeap → Option S) (pre : S → Bool) (T : S → (AExit → Env → AHeap → Prop) → Prop) : LC := fun base E H Q => match find E H with
  | some s => match Nat.ble base N0 with
    | true => obl (pre s) (T s Q)
    | false => Stuck 21 []
  | none => Stuck 20 []

theorem lcOf_sound {T : Tabs} {P : Program} (hT : TabsOk T P) {f id n : Nat} {fn : Func} (hf : tab T.fns f = some fn) (hl : loopIs fn id = true) {S : Type} {N0 : Nat} (st : S → Env × AHeap) (hN : ∀ s, (st s).2.next = N0) {find : Env → AHeap → Option S}
    (hfind : ∀ E H s, find E H = some s → subE N0 (st s).1 E ∧ subH N0 (st s).2.bs H) {pre : S → Bool} (good : S → Prop) (hpre : ∀ s, pre s = true → good s) (μ : S → Nat) {Tt : S → (AExit → Env → AHeap → Prop) → Prop}
    (ts bs : List Nat) (m : Nat) (hround : ∀ base s Q, good s → base ≤ N0 → Tt s Q → wpC (T.ctx P) n f base (loopOf fn id) (st s).1 (st s).2 (fun x E H => Round base id st good μ (fun s' => Tt s' Q) s Q x (restr ts E) (restrH bs m H))) : LcSound P T.fns f id (lcOf N0 find pre Tt) := by
  refine lc_sound hT hf hl (fun _ => True) st good μ Tt (fun base E H Q h => ?_) (fun base s Q _ hg hb ht => ⟨_, fun x E H => round_restr, hround base s Q hg (by rw [← hN s]; exact hb) ht⟩)
  unfold lcOf at h
  split at h
  · rename_i s hs
    split at h
    · rename_i hb
      obtain ⟨h1, h2⟩ := obl_true h
      obtain ⟨h3, h4⟩ := hfind E H s hs
      exact ⟨s, trivial, hpre s h1, by rw [hN]; exact Nat.le_of_ble_eq_true hb, fun s' => by rw [hN, hN], by rw [hN]; exact h3, by rw [hN]; exact h4, h2⟩
    · exact (not_stuck h).elim
  · exact (not_stuck h).elim

/-- The law of a loop that asks something of memory besides. -/
noncomputable def lcRow {S : Type} (rows : AHeap → Prop) (B0 N0 : Nat) (find : Env → AHeap → Option S) (pre : S → Bool) (T : S → (AExit → Env → AHeap → Prop) → Prop) : LC := fun base E H Q => rows H ∧ Nat.ble base B0 = true ∧ lcOf N0 find pre T base E H Q

theorem lcRow_sound {T : Tabs} {P : Program} (hT : TabsOk T P) {f id n : Nat} {fn : Func} (hf : tab T.fns f = some fn) (hl : loopIs fn id = true) {S : Type} {B0 N0 : Nat} (rows : AHeap → Prop) (st : S → Env × AHeap) (hN : ∀ s, (st s).2.next = N0) {find : Env → AHeap → Option S}
    (hfind : ∀ E H s, rows H → find E H = some s → subE N0 (st s).1 E ∧ subH N0 (st s).2.bs H) {pre : S → Bool} (good : S → Prop) (hpre : ∀ s, pre s = true → good s) (μ : S → Nat) {Tt : S → (AExit → Env → AHeap → Prop) → Prop}
    (ts bs : List Nat) (m : Nat) (hround : ∀ base s Q, base ≤ B0 → good s → base ≤ N0 → Tt s Q → wpC (T.ctx P) n f base (loopOf fn id) (st s).1 (st s).2 (fun x E H => Round base id st good μ (fun s' => Tt s' Q) s Q x (restr ts E) (restrH bs m H))) : LcSound P T.fns f id (lcRow rows B0 N0 find pre Tt) := by
  refine lc_sound hT hf hl (fun b => b ≤ B0) st good μ Tt (fun base E H Q h => ?_) (fun base s Q hp hg hb ht => ⟨_, fun x E H => round_restr, hround base s Q hp hg (by rw [← hN s]; exact hb) ht⟩)
  obtain ⟨hr, hbb, h⟩ := h
  unfold lcOf at h
  split at h
  · rename_i s hs
    split at h
    · rename_i hb
      obtain ⟨h1, h2⟩ := obl_true h
      obtain ⟨h3, h4⟩ := hfind E H s hr hs
      exact ⟨s, Nat.le_of_ble_eq_true hbb, hpre s h1, by rw [hN]; exact Nat.le_of_ble_eq_true hb, fun s' => by rw [hN, hN], by rw [hN]; exact h3, by rw [hN]; exact h4, h2⟩
    · exact (not_stuck h).elim
  · exact (not_stuck h).elim

/-! ### what finds a state -/

def unI (k : IntKind) : AVal → Option Int
  | .int k' n => match decide (k' = k) with
    | true => some n
    | false => none
  | _ => none
def unB : AVal → Option Bool
  | .bool b => some b
  | _ => none
def unS : AVal → Option (List UInt8)
  | .str s => some s
  | _ => none
def unP (b : Nat) : AVal → Option Unit
  | .ptr b' i z j => match Nat.beq b' b && (Nat.beq i 0 && (Nat.beq z 0 && Nat.beq j 0)) with
    | true => some ()
    | false => none
  | _ => none
theorem unI_ok {k : IntKind} {v : AVal} {n : Int} (h : unI k v = some n) : v = .int k n := by
  cases v <;> simp only [unI, reduceCtorEq] at h
  split at h
  · rename_i hk; rw [decide_eq_true_eq] at hk; cases h; rw [hk]
  · cases h
theorem unB_ok {v : AVal} {n : Bool} (h : unB v = some n) : v = .bool n := by cases v <;> simp_all [unB]
theorem unS_ok {v : AVal} {n : List UInt8} (h : unS v = some n) : v = .str n := by cases v <;> simp_all [unS]
theorem unP_ok {b : Nat} {v : AVal} {u : Unit} (h : unP b v = some u) : v = .ptr b 0 0 0 := by
  cases v <;> simp only [unP, reduceCtorEq] at h
  split at h
  · rename_i hk
    simp only [Bool.and_eq_true, nat_beq_eq] at hk
    obtain ⟨rfl, rfl, rfl, rfl⟩ := hk; rfl
  · cases h
/-- A slice of a whole row. -/
def unR (b sz : Nat) : AVal → Option Nat
  | .sl b' i z j n c => match Nat.beq b' b && (Nat.beq i 0 && (Nat.beq z sz && Nat.beq j 0)), c with
    | true, none => some n
    | _, _ => none
  | _ => none
theorem unR_ok {b sz : Nat} {v : AVal} {n : Nat} (h : unR b sz v = some n) : v = .sl b 0 sz 0 n none := by
  cases v <;> simp only [unR, reduceCtorEq] at h
  split at h
  · rename_i hk
    simp only [Bool.and_eq_true, nat_beq_eq] at hk
    obtain ⟨rfl, rfl, rfl, rfl⟩ := hk
    cases h; rfl
  · cases h
def unNil : AVal → Option Unit
  | .nils => some ()
  | _ => none
theorem unNil_ok {v : AVal} {u : Unit} (h : unNil v = some u) : v = .nils := by cases v <;> simp_all [unNil]
def hCells (H : AHeap) (b e : Nat) : Option (List AVal) := match H.get b with
  | some (.cells e' l) => match Nat.beq e' e with
    | true => some l
    | false => none
  | _ => none
theorem hCells_ok {H : AHeap} {b e : Nat} {l : List AVal} (h : hCells H b e = some l) : H.get b = some (.cells e l) := by
  unfold hCells at h
  split at h
  · rename_i e' l' hg
    split at h
    · rename_i he; rw [nat_beq_eq] at he; cases h; rw [hg, he]
    · cases h
  · cases h
def unC : List AVal → Option (AVal × List AVal)
  | v :: r => some (v, r)
  | [] => none
def unN : List AVal → Option Unit
  | [] => some ()
  | _ => none
theorem unC_ok {l : List AVal} {p : AVal × List AVal} (h : unC l = some p) : l = p.1 :: p.2 := by cases l with
  | nil => cases h
  | cons v r => cases h; rfl
theorem unN_ok {l : List AVal} {u : Unit} (h : unN l = some u) : l = [] := by cases l <;> simp_all [unN]

/-! ### laws -/

/-- A law holds of these arguments. -/
structure LawT (X : Ctx) (f : FuncId) (args : List AVal) : Prop where
  h : callC X 100 f args ⟨0, []⟩ (fun o _ => o = .ret (.bool true))

theorem law_true {X : Ctx} (hX : CtxOk X) {f : FuncId} {args : List AVal} (h : LawT X f args) (ha : belowL 0 args = true) (ρ : Rho) (w : World) :
    Calls X.P f (trL ρ args).toArray w fun e w' => e = .returned (.bool true) ∧ Below w.heap.size w w' :=
  law_pure hX (n := 100) (v := .bool true) h.h ha rfl ρ w

end Go.Proofs.Ytcgnoegejmhgmaa.Ev

/-
  Ev: a function that defers a closure which recovers.
-/
namespace Go.Proofs.Ytcgnoegejmhgmaa.Ev
set_option linter.unusedVariables false
set_option linter.unusedSimpArgs false
open Go.RowKit

def seqL : Code → Code
  | .seq a _ => a
  | c => c
def seqR : Code → Code
  | .seq _ b => b
  | c => c
def bodyC (fn : Func) : Code := match fn.body with
  | some c => c
  | none => .ret

/-- What is asked of a function that first runs c0, then defers a closure (t: its temporary), then runs the rest; the closure asks first what has come to grief (u, u'). -/
noncomputable def wpD (X : Ctx) (n : Nat) (f g t u u' : Nat) (caps : List Operand) (fn : Func) (c0 rest grest : Code) (args : List AVal) (H0 : AHeap) (K : Out → AHeap → Prop) : Prop :=
  wpC X n f H0.next c0 (env0 args 0) H0 fun x E H => match x with
    | .normal => match evalL E caps with
      | some cs => wpC X n f H.next rest ((t, .func g [] cs) :: E) H fun x E' H' => match x with
        | .normal | .ret => wpC X n g H'.next grest ((u', .niface) :: (u, .niface) :: env0 cs 0) H' fun x _ H'' => match x with
          | .normal | .ret => endA X.P fn K .ret E' H''
          | _ => False
        | .panic v => wpC X n g H'.next grest ((u', v) :: (u, v) :: env0 cs 0) H' fun x _ H'' => match x with
          | .normal | .ret => endA X.P fn K .ret E' H''
          | _ => False
        | .exit _ => False
      | none => False
    | _ => False

/-- The results of a function, out of what was reckoned. -/
theorem end_results {X : Ctx} {fn : Func} {E : Env} {H : AHeap} {K : Out → AHeap → Prop} (h : endA X.P fn K .ret E H) {ρ0 ρ : Rho} {H0 : AHeap} {w0 w : World} {a : Act} (hE : RelE ρ H.next E a) (hS : Step ρ0 H0 w0 ρ H w) :
    ∃ v, (results fn a.tmps).run X.P w = .ok v w ∧ ∃ out H'' ρ'', Out.rel ρ'' H''.next out (.returned v) ∧ K out H'' ∧ Step ρ0 H0 w0 ρ'' H'' w := by
  have hH : ∀ b y, H.get b = some y → y.under H.next = true ∧ y.ok ρ w b := fun b y hy => ⟨(hS.rel.blk b y hy).2.1, (hS.rel.blk b y hy).2.2.2⟩
  simp only [endA] at h
  split at h
  · rename_i c vs hres
    obtain ⟨rfl, hk⟩ := obl_true h
    obtain ⟨r1, r2⟩ := resL_sound hE hH hres
    refine ⟨tr ρ (resA vs), ?_, .ret (resA vs), H, ρ, ⟨rfl, ?_⟩, hk, hS⟩
    · rw [results_eq, Array.mapM_eq_mapM_toList]
      simp only [Sem.run_bind, Sem.run_map, r1, Result.andThen_ok, Sem.run_pure]
      congr 1
      cases vs with
      | nil => simp [trL, resA, tr]
      | cons v vs =>
        cases vs with
        | nil => simp [trL, resA]
        | cons v' vs => simp [trL, resA, tr]
    · cases vs with
      | nil => rfl
      | cons v vs =>
        cases vs with
        | nil => simpa [resA, belowL] using r2
        | cons v' vs => exact r2
  · exact h.elim

theorem env0_rel {ρ : Rho} {N : Nat} {args : List AVal} (hargs : belowL N args = true) (m : Nat) : RelE ρ N (env0 args 0) { tmps := (trL ρ args).toArray ++ Array.replicate m undef, defers := [] } := by
  refine ⟨fun t v hv => ?_⟩
  obtain ⟨i, rfl, hi⟩ := env0_get hv
  rw [Nat.zero_add]
  have hil : i < args.length := (List.getElem?_eq_some_iff.1 hi).1
  refine ⟨?_, ?_⟩
  · rw [Array.getElem?_append_left (by simp [trL_length, hil])]
    simp [trL_get, hi]
  · rw [belowL_eq, List.all_eq_true] at hargs
    exact hargs v (List.mem_of_getElem? hi)

theorem blocksC_none {c : Code} (h : blocksC c = []) (l : List (Nat × Code)) : ∀ p ∈ blocksC c, p ∈ l := by rw [h]; simp

/-- THE FUNCTION's CONTRACT. -/
theorem wpD_sound {X : Ctx} (hX : CtxOk X) {n f g t u u' : Nat} {caps : List Operand} {fn gn : Func} {c0 rest grest : Code} {i j ty1 ty2 ty3 ty4 : Nat} {p1 p2 p3 p4 : String} {af2 af4 : Array Edge}
    (hf : X.fns f = some fn) (hg : X.fns g = some gn)
    (hb : fn.body = some (.seq c0 (.seq (.region i #[⟨some t, .makeFunc (.func g) #[] caps.toArray, ty1, p1, #[], none⟩, ⟨none, .defer { callee := .value (.tmp t), args := #[], argTypes := #[] }, ty2, p2, af2, none⟩] false) rest)))
    (hgb : gn.body = some (.seq (.region j #[⟨some u, .call { callee := .builtin .recover, args := #[], argTypes := #[] }, ty3, p3, #[], none⟩, ⟨some u', .assign (.tmp u), ty4, p4, af4, none⟩] false) grest))
    (hgr : gn.results = #[]) (hcaps : caps.length ≤ u ∧ caps.length ≤ u' ∧ u ≠ u' ∧ u < gn.ntmps ∧ u' < gn.ntmps)
    {args : List AVal} {H0 : AHeap} {K : Out → AHeap → Prop} (h : wpD X n f g t u u' caps fn c0 rest grest args H0 K) {ρ0 : Rho} {w0 : World} (hR : Rel ρ0 H0 w0) (hargs : belowL H0.next args = true) :
    Calls X.P f (trL ρ0 args).toArray w0 fun e w' => ∃ out H' ρ', Out.rel ρ' H'.next out e ∧ K out H' ∧ Step ρ0 H0 w0 ρ' H' w' := by
  obtain ⟨q1, q2, c2, q3, q4⟩ := hX.fns f fn hf
  rw [hb] at q3
  cases q3
  obtain ⟨g1, g2, c3, g3, g4⟩ := hX.fns g gn hg
  rw [hgb] at g3
  cases g3
  simp only [okDst, Bool.and_eq_true, List.all_cons, List.all_nil] at q4 g4
  refine calls_of_wp_defers q1 hb ?_
  have hE0 := env0_rel (ρ := ρ0) hargs (fn.ntmps - (trL ρ0 args).toArray.size)
  generalize ha0 : (Act.mk ((trL ρ0 args).toArray ++ Array.replicate (fn.ntmps - (trL ρ0 args).toArray.size) undef) []) = a0 at hE0 ⊢
  have hN0 : fn.ntmps ≤ a0.tmps.size := by rw [← ha0]; simp; omega
  have hd0 : a0.defers = [] := by rw [← ha0]
  have sub0 : ∀ {c : Code}, (∀ p ∈ blocksC c, p ∈ blocksC (.seq c0 (.seq (.region i #[⟨some t, .makeFunc (.func g) #[] caps.toArray, ty1, p1, #[], none⟩, ⟨none, .defer { callee := .value (.tmp t), args := #[], argTypes := #[] }, ty2, p2, af2, none⟩] false) rest))) → okDst fn.ntmps c = true → ∃ fn', X.fns f = some fn' ∧ fn'.ntmps ≤ a0.tmps.size ∧ ∃ body, fn'.body = some body ∧ (∀ p ∈ blocksC c, p ∈ blocksC body) ∧ okDst fn'.ntmps c = true :=
    fun hc ho => ⟨fn, hf, hN0, _, hb, hc, ho⟩
  unfold wpD at h
  refine wp_seq (wp_mono (@wpC_sound X hX ⟨[]⟩ _ _ _ _ _ _ _ h _ _ _ _ _ _ _ (Nat.le_refl _) (sub0 (fun p hp => by simp [blocksC, hp]) q4.1) (Step.refl hR) hE0 hd0 rfl) ?_)
  rintro e a1 w1 ⟨x', E1, H1, ρ1, h1, h2, h3, h4, h5, h6⟩
  cases x' with
  | exit i => exact h2.elim
  | ret => exact h2.elim
  | panic v => exact h2.elim
  | normal =>
    cases e <;> simp only [AExit.rel] at h1
    simp only at h2
    split at h2
    · rename_i cs hcs
      obtain ⟨k1, k2⟩ := evalL_tr h3 hcs
      -- the closure is made and deferred
      refine wp_seq (wp_region ?_)
      have hta : t < a1.tmps.size := by
        have := q4.2.1
        simp at this
        omega
      have ht1 : (a1.put (some t) (.func (.func g) #[] (trL ρ1 cs).toArray)).tmps[t]? = some (.func (.func g) #[] (trL ρ1 cs).toArray) := by
        simp [Act.put, hta]
      have hcm : caps.toArray.map a1.eval = (trL ρ1 cs).toArray := by rw [← k1]; simp
      have r1 : ∀ o : Oper, o.op = .makeFunc (.func g) #[] caps.toArray → (execOp a1.eval o).run X.P w1 = .ok (.value (.func (.func g) #[] (trL ρ1 cs).toArray)) w1 := by
        intro o ho
        simp only [execOp, ho, hcm]
        simp [Instr.makeFunc]
      have r2 : ∀ (a : Act) (o : Oper), a.tmps[t]? = some (.func (.func g) #[] (trL ρ1 cs).toArray) → o.op = .defer { callee := .value (.tmp t), args := #[], argTypes := #[] } → (execOp a.eval o).run X.P w1 = .ok (.defer { target := .fn (.func g) (trL ρ1 cs).toArray, args := #[] }) w1 := by
        intro a o ha ho
        have hev : a.eval (.tmp t) = .func (.func g) #[] (trL ρ1 cs).toArray := by simp [Act.eval, Array.getD_eq_getD_getElem?, ha]
        simp only [execOp, ho, resolve, Sem.run_bind, Sem.run_pure, Result.andThen_ok, hev, Deferred.ofValue]
        simp
      show wpOps X.P _ _ [0, 1] a1 w1
      unfold wpOps
      simp only [List.getElem?_toArray, List.getElem?_cons_zero]
      rw [if_pos (show Region.wanted _ _ = true from rfl)]
      refine .inl ?_
      unfold Oper.wp
      rw [r1 _ rfl, Oper.upon_value]
      unfold wpOps
      simp only [List.getElem?_toArray, List.getElem?_cons_zero, List.getElem?_cons_succ]
      rw [if_pos (show Region.wanted _ _ = true from rfl)]
      refine .inl ?_
      unfold Oper.wp
      rw [r2 _ _ ht1 rfl, Oper.upon_defer]
      unfold wpOps
      simp only [Exit.then]
      -- the rest
      generalize hD : (Deferred.mk (.fn (.func g) (trL ρ1 cs).toArray) #[]) = D
      have hE2 : RelE ρ1 H1.next ((t, .func g [] cs) :: E1) ({ (a1.put (some t) (.func (.func g) #[] (trL ρ1 cs).toArray)) with defers := D :: (a1.put (some t) (.func (.func g) #[] (trL ρ1 cs).toArray)).defers }.put none undef) := by
        have := h3.put (v := .func g [] cs) (dst := some t) (by simp [AVal.under, belowL, k2]) (fun t' ht' => by cases ht'; exact hta)
        exact ⟨fun t' v' hv' => this.get t' v' hv'⟩
      have hdD : ({ (a1.put (some t) (.func (.func g) #[] (trL ρ1 cs).toArray)) with defers := D :: (a1.put (some t) (.func (.func g) #[] (trL ρ1 cs).toArray)).defers }.put none undef).defers = [D] := by
        show D :: (a1.put (some t) _).defers = [D]
        rw [put_defers, h4]
        rfl
      have hnD : ({ (a1.put (some t) (.func (.func g) #[] (trL ρ1 cs).toArray)) with defers := D :: (a1.put (some t) (.func (.func g) #[] (trL ρ1 cs).toArray)).defers }.put none undef).tmps.size = a0.tmps.size := by
        show (a1.put (some t) _).tmps.size = _
        rw [put_size]
        exact h5
      refine wp_mono (@wpC_sound X hX ⟨[D]⟩ _ _ _ _ _ _ _ h2 _ _ _ _ _ _ _ (Nat.le_refl _) (sub0 (fun p hp => by simp [blocksC, hp]) q4.2.2) (Step.refl h6.rel) hE2 hdD hnD) ?_
      rintro e a2 w2 ⟨x2, E2, H2, ρ2, m1, m2, m3, m4, m5, m6⟩
      -- the closure runs
      have hcs2 : trL ρ2 cs = trL ρ1 cs ∧ belowL H2.next cs = true := ⟨trL_agree m6.agree cs k2, belowL_mono m6.next cs k2⟩
      have hcl : cs.length = caps.length := by
        have := congrArg List.length k1
        simpa [trL_length] using this.symm
      obtain ⟨c1, c2, c3, c4, c5⟩ := hcaps
      have gfr : ∀ (v : AVal), v.under H2.next = true → RelE ρ2 H2.next ((u', v) :: (u, v) :: env0 cs 0) ((({ tmps := (trL ρ1 cs).toArray ++ Array.replicate (gn.ntmps - (trL ρ1 cs).toArray.size) undef, defers := [] } : Act).put (some u) (tr ρ2 v)).put (some u') (tr ρ2 v)) := by
        intro v hv
        rw [← hcs2.1]
        have e0 := env0_rel (ρ := ρ2) hcs2.2 (gn.ntmps - (trL ρ2 cs).toArray.size)
        have hsz : gn.ntmps ≤ ((trL ρ2 cs).toArray ++ Array.replicate (gn.ntmps - (trL ρ2 cs).toArray.size) undef).size := by simp; omega
        have e1 := e0.put (v := v) (dst := some u) hv (fun t' ht' => by cases ht'; exact Nat.lt_of_lt_of_le c4 hsz)
        exact e1.put (v := v) (dst := some u') hv (fun t' ht' => by cases ht'; rw [put_size]; exact Nat.lt_of_lt_of_le c5 hsz)
      have hgs : ∃ fn', X.fns g = some fn' ∧ fn'.ntmps ≤ ((trL ρ1 cs).toArray ++ Array.replicate (gn.ntmps - (trL ρ1 cs).toArray.size) undef).size ∧ ∃ body, fn'.body = some body ∧ (∀ p ∈ blocksC grest, p ∈ blocksC body) ∧ okDst fn'.ntmps grest = true :=
        ⟨gn, hg, by simp; omega, _, hgb, fun p hp => by simp [blocksC, hp], g4.2⟩
      -- the closure's call, in either state
      have leave : ∀ (v : AVal) (um : FrameMode) (um' : FrameMode), v.under H2.next = true → settle um' = .returning → um ≠ .run →
          (∀ (c : Frame) (cs' : List Frame), c.mode = um → (match recoverD (c :: cs') with | some (v', cs'') => v' = tr ρ2 v ∧ cs'' = { c with mode := um' } :: cs' | none => tr ρ2 v = .nilIface ∧ um' = um)) →
          (wpC X n g H2.next grest ((u', v) :: (u, v) :: env0 cs 0) H2 fun x _ H'' => match x with
            | .normal | .ret => endA X.P fn K .ret E2 H''
            | _ => False) →
          Leaves X.P fn a2.tmps (fun e w' => ∃ out H' ρ', Out.rel ρ' H'.next out e ∧ K out H' ∧ Step ρ0 H0 w0 ρ' H' w') a2.defers um w2 := by
        intro v um um' hv hset hum hrec hw
        rw [m4]
        show Leaves X.P fn a2.tmps _ [D] um w2
        rw [← hD]
        refine leaves_cons hum (by show (callFunc g (#[] ++ (trL ρ1 cs).toArray)).run X.P w2 = .ok (.enter g (trL ρ1 cs).toArray) w2; rw [Array.empty_append]; exact g2 _ _) ?_
        refine callsD_of_wpS g1 hgb (fun c₀ cs₀ hc₀ => ?_)
        -- the closure's first region: recover, assign
        have hsz : gn.ntmps ≤ ((trL ρ1 cs).toArray ++ Array.replicate (gn.ntmps - (trL ρ1 cs).toArray.size) undef).size := by simp; omega
        generalize hb0 : ({ tmps := (trL ρ1 cs).toArray ++ Array.replicate (gn.ntmps - (trL ρ1 cs).toArray.size) undef, defers := [] } : Act) = b0 at gfr hsz ⊢
        have hsz' : gn.ntmps ≤ b0.tmps.size := by rw [← hb0]; exact hsz
        have rrec : ∀ o : Oper, o.op = .call { callee := .builtin .recover, args := #[], argTypes := #[] } → (execOp b0.eval o).run X.P w2 = .ok .recover w2 := by
          intro o ho
          simp [execOp, ho, resolve, invoke, builtin]
        have rasg : ∀ (o : Oper) (y : Value), o.op = .assign (.tmp u) → (execOp (b0.put (some u) y).eval o).run X.P w2 = .ok (.value y) w2 := by
          intro o y ho
          have hlt : u < b0.tmps.size := Nat.lt_of_lt_of_le c4 hsz'
          have hev : (b0.put (some u) y).eval (.tmp u) = y := by simp [Act.eval, Act.put, Array.getD_eq_getD_getElem?, hlt]
          simp only [execOp, ho, hev]
          rfl
        have fin : ∀ cs'', cs'' = { c₀ with mode := um' } :: cs₀ → grest.wpS X.P (bodyPostS X.P gn c₀ cs₀ fun
            | .returned _, u', w' => Leaves X.P fn a2.tmps (fun e w' => ∃ out H' ρ', Out.rel ρ' H'.next out e ∧ K out H' ∧ Step ρ0 H0 w0 ρ' H' w') [] (settle u') w'
            | .panicked chain, u', w' => Leaves X.P fn a2.tmps (fun e w' => ∃ out H' ρ', Out.rel ρ' H'.next out e ∧ K out H' ∧ Step ρ0 H0 w0 ρ' H' w') [] (raised u' chain) w'
            | .outgrown, _, w' => (fun e w' => ∃ out H' ρ', Out.rel ρ' H'.next out e ∧ K out H' ∧ Step ρ0 H0 w0 ρ' H' w') .outgrown w') ((b0.put (some u) (tr ρ2 v)).put (some u') (tr ρ2 v)) cs'' w2 := by
          rintro cs'' rfl
          refine wpS_of_wp (wp_mono (@wpC_sound X hX ⟨[]⟩ _ _ _ _ _ _ _ hw _ _ _ _ _ _ _ (Nat.le_refl _) (by
            obtain ⟨fn', z1, z2, z3⟩ := hgs
            rw [hg] at z1
            cases z1
            exact ⟨gn, hg, (by rw [put_size, put_size]; exact hsz'), z3⟩) (Step.refl m6.rel) (gfr v hv) (by rw [put_defers, put_defers, ← hb0]; rfl) rfl) ?_)
          rintro e3 a3 w3 ⟨x3, E3, H3, ρ3, n1, n2, n3, n4, n5, n6⟩
          have hfin : endA X.P fn K .ret E2 H3 → bodyPostS X.P gn c₀ cs₀ (fun
              | .returned _, u', w' => Leaves X.P fn a2.tmps (fun e w' => ∃ out H' ρ', Out.rel ρ' H'.next out e ∧ K out H' ∧ Step ρ0 H0 w0 ρ' H' w') [] (settle u') w'
              | .panicked chain, u', w' => Leaves X.P fn a2.tmps (fun e w' => ∃ out H' ρ', Out.rel ρ' H'.next out e ∧ K out H' ∧ Step ρ0 H0 w0 ρ' H' w') [] (raised u' chain) w'
              | .outgrown, _, w' => (fun e w' => ∃ out H' ρ', Out.rel ρ' H'.next out e ∧ K out H' ∧ Step ρ0 H0 w0 ρ' H' w') .outgrown w') .ret a3 ({ c₀ with mode := um' } :: cs₀) w3 := by
            intro he
            refine ⟨n4, um', rfl, .tuple #[], ?_, ?_⟩
            · simp [results, hgr]
            · show Leaves X.P fn a2.tmps _ [] (settle um') w3
              rw [hset]
              obtain ⟨vr, hr1, hr2⟩ := end_results he (m3.step n6.agree n6.next) (h6.trans (m6.trans n6))
              exact ⟨vr, hr1, hr2⟩
          cases x3 with
          | normal => cases e3 <;> simp only [AExit.rel] at n1; exact hfin n2
          | ret => cases e3 <;> simp only [AExit.rel] at n1; exact hfin n2
          | exit i => exact n2.elim
          | panic v => exact n2.elim
        refine wpS_seq (wpS_region ?_)
        show wpOpsS X.P _ _ [0, 1] b0 (c₀ :: cs₀) w2
        have hrc := hrec c₀ cs₀ hc₀
        unfold wpOpsS
        simp only [List.getElem?_toArray, List.getElem?_cons_zero]
        rw [if_pos (show Region.wanted _ _ = true from rfl), rrec _ rfl]
        simp only
        have snd : ∀ (y : Value) (cs'' : List Frame), y = tr ρ2 v → cs'' = { c₀ with mode := um' } :: cs₀ → wpOpsS X.P #[⟨some u, .call { callee := .builtin .recover, args := #[], argTypes := #[] }, ty3, p3, #[], none⟩, ⟨some u', .assign (.tmp u), ty4, p4, af4, none⟩] (Exit.thenS (grest.wpS X.P (bodyPostS X.P gn c₀ cs₀ fun
            | .returned _, u', w' => Leaves X.P fn a2.tmps (fun e w' => ∃ out H' ρ', Out.rel ρ' H'.next out e ∧ K out H' ∧ Step ρ0 H0 w0 ρ' H' w') [] (settle u') w'
            | .panicked chain, u', w' => Leaves X.P fn a2.tmps (fun e w' => ∃ out H' ρ', Out.rel ρ' H'.next out e ∧ K out H' ∧ Step ρ0 H0 w0 ρ' H' w') [] (raised u' chain) w'
            | .outgrown, _, w' => (fun e w' => ∃ out H' ρ', Out.rel ρ' H'.next out e ∧ K out H' ∧ Step ρ0 H0 w0 ρ' H' w') .outgrown w')) (bodyPostS X.P gn c₀ cs₀ fun
            | .returned _, u', w' => Leaves X.P fn a2.tmps (fun e w' => ∃ out H' ρ', Out.rel ρ' H'.next out e ∧ K out H' ∧ Step ρ0 H0 w0 ρ' H' w') [] (settle u') w'
            | .panicked chain, u', w' => Leaves X.P fn a2.tmps (fun e w' => ∃ out H' ρ', Out.rel ρ' H'.next out e ∧ K out H' ∧ Step ρ0 H0 w0 ρ' H' w') [] (raised u' chain) w'
            | .outgrown, _, w' => (fun e w' => ∃ out H' ρ', Out.rel ρ' H'.next out e ∧ K out H' ∧ Step ρ0 H0 w0 ρ' H' w') .outgrown w')) [1] (b0.put (some u) y) cs'' w2 := by
          rintro y cs'' rfl hcs''
          unfold wpOpsS
          simp only [List.getElem?_toArray, List.getElem?_cons_zero, List.getElem?_cons_succ]
          rw [if_pos (show Region.wanted _ _ = true from rfl), rasg _ _ rfl]
          simp only [Oper.upon_value]
          unfold wpOpsS
          exact fin cs'' hcs''
        split at hrc
        · rename_i v' cs'' hrr
          rw [hrr]
          exact snd v' cs'' hrc.1 hrc.2
        · rename_i hrr
          rw [hrr]
          refine snd .nilIface (c₀ :: cs₀) hrc.1.symm ?_
          rw [hrc.2, ← hc₀]
      have ok2 : ∀ um um' v, v.under H2.next = true → settle um' = .returning → um ≠ .run → (∀ (c : Frame) (cs' : List Frame), c.mode = um → (match recoverD (c :: cs') with | some (v', cs'') => v' = tr ρ2 v ∧ cs'' = { c with mode := um' } :: cs' | none => tr ρ2 v = .nilIface ∧ um' = um)) → (wpC X n g H2.next grest ((u', v) :: (u, v) :: env0 cs 0) H2 fun x _ H'' => match x with
            | .normal | .ret => endA X.P fn K .ret E2 H''
            | _ => False) → Leaves X.P fn a2.tmps (fun e w' => ∃ out H' ρ', Out.rel ρ' H'.next out e ∧ K out H' ∧ Step ρ0 H0 w0 ρ' H' w') a2.defers um w2 := fun um um' v q1 q2 q3 q4 q5 => leave v um um' q1 q2 q3 q4 q5
      have rret : ∀ (c : Frame) (cs' : List Frame), c.mode = .returning → (match recoverD (c :: cs') with | some (v', cs'') => v' = tr ρ2 .niface ∧ cs'' = { c with mode := .returning } :: cs' | none => tr ρ2 .niface = .nilIface ∧ FrameMode.returning = .returning) := by
        intro c cs' hc
        simp [recoverD, hc, tr]
      cases x2 with
      | normal => cases e <;> simp only [AExit.rel] at m1; exact ok2 .returning .returning .niface rfl rfl (by simp) rret m2
      | ret => cases e <;> simp only [AExit.rel] at m1; exact ok2 .returning .returning .niface rfl rfl (by simp) rret m2
      | exit i => exact m2.elim
      | panic v =>
        cases e <;> simp only [AExit.rel] at m1
        obtain ⟨rfl, hv⟩ := m1
        refine ok2 (.panicking [{ v := tr ρ2 v, recovered := false }]) (.panicking [{ v := tr ρ2 v, recovered := true }]) v hv rfl (by simp) (fun c cs' hc => ?_) m2
        simp [recoverD, hc]
    · exact h2.elim

/-- Its contract, where it is handed no memory. -/
theorem fc_wpD {X : Ctx} (hX : CtxOk X) {f : Nat} {c : FC} (he : ∀ vs w, (callFunc f vs).run X.P w = .ok (.enter f vs) w)
    (h : ∀ args H v, c args H = some (true, v) → belowL 0 args = true ∧ v.under 0 = true ∧ ∀ ρ w, Calls X.P f (trL ρ args).toArray w fun e w' => ∃ out H' ρ', Out.rel ρ' H'.next out e ∧ out = .ret v ∧ Step ρ ⟨0, []⟩ w ρ' H' w') : FcSound X.P f c := by
  refine fc_of_calls he (fun args H v hv => ?_)
  obtain ⟨h1, h2, h3⟩ := h args H v hv
  refine ⟨h1, h2, fun ρ w => (h3 ρ w).mono ?_⟩
  rintro e w' ⟨out, H', ρ', q1, rfl, q3⟩
  cases e <;> simp only [Out.rel] at q1
  refine ⟨by rw [q1.1, tr_agree (agree0 ρ ρ') v h2], q3.below (Nat.le_refl _) (fun g hg => ?_)⟩
  obtain ⟨b, x, hx, _⟩ := hg
  simp [AHeap.get, getB] at hx

end Go.Proofs.Ytcgnoegejmhgmaa.Ev

/-
  Ev: contracts of functions that write into cells of their caller's, or that may panic: out of walks over little memory.
-/
namespace Go.Proofs.Ytcgnoegejmhgmaa.Ev
set_option linter.unusedVariables false
set_option linter.unusedSimpArgs false
open Go.RowKit

/-- An outcome that names no block. -/
def Out.data : Out → Bool
  | .ret v => v.under 0
  | .panic v => v.under 0

/-- A function that is handed a pointer to cells of its caller's, and data. -/
noncomputable def gcCell (e : TypeId) (F : List AVal → List AVal → (Out → List AVal → Prop) → Prop) : GC := fun args H K => match args with
  | .ptr b 0 0 0 :: r => match H.get b with
    | some (.cells e' l) => match Nat.beq e' e && (belowL 0 l && belowL 0 r) with
      | true => F l r (fun out l' => forceH (H.put b (.cells e l')) (K out))
      | false => Stuck 30 []
    | _ => Stuck 31 []
  | _ => Stuck 32 []

/-- A function that is handed data alone, and writes nothing of its caller's. -/
noncomputable def gcData (F : List AVal → (Out → Prop) → Prop) : GC := fun args H K => match belowL 0 args with
  | true => F args (fun out => K out H)
  | false => Stuck 33 []

theorem trL_data {l : List AVal} (h : belowL 0 l = true) (ρ ρ' : Rho) : trL ρ l = trL ρ' l := trL_agree (agree0 ρ' ρ) l h
theorem tr_data {v : AVal} (h : v.under 0 = true) (ρ ρ' : Rho) : tr ρ v = tr ρ' v := tr_agree (agree0 ρ' ρ) v h

theorem Out.rel_data {ρ ρ' : Rho} {N N' : Nat} {out : Out} {e : Ending} (h : Out.rel ρ N out e) (hd : out.data = true) : Out.rel ρ' N' out e := by
  cases out <;> cases e <;> simp only [Out.rel] at h ⊢
  · exact ⟨by rw [h.1]; exact tr_data hd _ _, AVal.under_mono (Nat.zero_le _) _ hd⟩
  · exact ⟨by rw [h.1, tr_data hd ρ ρ'], AVal.under_mono (Nat.zero_le _) _ hd⟩

theorem gc_data {X : Ctx} (hX : CtxOk X) {f n : Nat} {F : List AVal → (Out → Prop) → Prop} (he : ∀ vs w, (callFunc f vs).run X.P w = .ok (.enter f vs) w)
    (h : ∀ r k, F r k → callC X n f r ⟨0, []⟩ (fun out _ => out.data = true ∧ k out)) : GcSound X.P f (gcData F) := by
  intro args H K hK ρ w hR hargs
  refine ⟨he, ?_⟩
  unfold gcData at hK
  split at hK
  · rename_i hd
    refine ((callC_ok hX n) f _ _ _ (h _ _ hK) ρ w (rel_nil ρ w) hd).2.mono ?_
    rintro e w' ⟨out, H', ρ', h1, ⟨h2, h3⟩, h4⟩
    refine ⟨out, H, ρ, Out.rel_data h1 h2, h3, Step.grow hR (h4.below (Nat.le_refl _) (fun g hg => ?_))⟩
    obtain ⟨b, x, hx, _⟩ := hg
    simp [AHeap.get, getB] at hx
  · exact (not_stuck hK).elim

theorem gc_cell {X : Ctx} (hX : CtxOk X) {f n e : Nat} {F : List AVal → List AVal → (Out → List AVal → Prop) → Prop} (he : ∀ vs w, (callFunc f vs).run X.P w = .ok (.enter f vs) w)
    (h : ∀ l r k, F l r k → callC X n f (.ptr 0 0 0 0 :: r) ⟨1, [(0, .cells e l)]⟩ (fun out H' => ∃ l', H'.get 0 = some (.cells e l') ∧ belowL 0 l' = true ∧ out.data = true ∧ k out l')) : GcSound X.P f (gcCell e F) := by
  intro args H K hK ρ w hR hargs
  refine ⟨he, ?_⟩
  unfold gcCell at hK
  split at hK
  · rename_i b r
    split at hK
    · rename_i e' l hb
      split at hK
      · rename_i hd
        simp only [Bool.and_eq_true] at hd
        obtain ⟨hee, hl, hr⟩ := hd
        have hee := nat_beq_eq.1 hee
        subst hee
        obtain ⟨q1, q2, q3, q4⟩ := hR.blk b _ hb
        obtain ⟨c1, c2, fz, c3, c4⟩ := q4
        have hrel : Rel ⟨fun _ => ρ.blk b, fun _ => 0, fun _ => 0, fun _ _ => False⟩ ⟨1, [(0, .cells e' l)]⟩ w := by
          refine ⟨fun c x hx => ?_, fun c c' x x' hx hx' ho hne => ?_⟩
          · obtain ⟨rfl, hx⟩ := get_one hx
            have hx2 : some (ABlk.cells e' l) = some x := hx
            cases hx2
            refine ⟨Nat.one_pos, belowL_mono (Nat.zero_le _) _ hl, q3, rfl, c2, fz, ?_, c4⟩
            show w.heap[ρ.blk b]? = _
            rw [c3, trL_data hl]
          · obtain ⟨rfl, _⟩ := get_one hx
            obtain ⟨rfl, _⟩ := get_one hx'
            exact absurd rfl hne
        have hcall := ((callC_ok hX n) f _ _ _ (h _ _ _ hK) _ w hrel (by
          simp only [belowL, AVal.under, Bool.and_eq_true]
          exact ⟨rfl, belowL_mono (Nat.zero_le _) _ hr⟩)).2
        have hargs' : trL ⟨fun _ => ρ.blk b, fun _ => 0, fun _ => 0, fun _ _ => False⟩ (.ptr 0 0 0 0 :: r) = trL ρ (.ptr b 0 0 0 :: r) := by
          simp only [trL, tr, c1]
          rw [trL_data hr]
        rw [hargs'] at hcall
        refine hcall.mono ?_
        rintro en w' ⟨out, H', ρ', h1, ⟨l', h2, h3, h4, h5⟩, h6⟩
        have h5 : K out (H.put b (.cells e' l')) := by
          have h5' : forceH (H.put b (.cells e' l')) (K out) := h5
          rwa [forceH_eq] at h5'
        have hown1 : ∀ g, Owns ⟨fun _ => ρ.blk b, fun _ => 0, fun _ => 0, fun _ _ => False⟩ ⟨1, [(0, .cells e' l)]⟩ g → g = ρ.blk b := by
          rintro g ⟨c, x, hx, _, hf⟩
          rcases hf with hf | ⟨_, hf⟩
          · exact hf
          · exact hf.elim
        have hownb : Owns ρ H (ρ.blk b) := ⟨b, _, hb, rfl, .inl rfl⟩
        obtain ⟨a1, a2, _⟩ := h6.agree 0 (Nat.one_pos : 0 < 1)
        obtain ⟨_, _, r3, r4⟩ := h6.rel.blk 0 _ h2
        obtain ⟨d1, d2, fz', d3, d4⟩ := r4
        rw [a1] at r3 d3
        have hstep : Step ρ H w ρ (H.put b (.cells e' l')) w' := by
          refine ⟨Rho.agree.refl _ _, Nat.le_refl _, ⟨fun c x hx => ?_, fun c c' x x' hx hx' ho hne g0 hf hf' => ?_⟩, h6.os, h6.tape, h6.output, h6.size, fun g hg hn => ?_, fun g hg => ?_⟩
          · rw [AHeap.get_put] at hx
            by_cases hc : b = c
            · rw [if_pos hc] at hx
              subst hc
              simp only [ABlk.live, Option.some.injEq] at hx
              subst hx
              refine ⟨q1, belowL_mono (Nat.zero_le _) _ h3, r3, c1, d2, fz', ?_, d4⟩
              rw [d3, trL_data h3]
            · rw [if_neg hc] at hx
              obtain ⟨s1, s2, s3, s4⟩ := hR.blk c x hx
              refine ⟨s1, s2, Nat.lt_of_lt_of_le s3 h6.size, ABlk.ok_keep s4 s2 (Rho.agree.refl _ _) s1 h6.size rfl fun g hg => h6.old _ (hR.low hx hg) fun ho => ?_⟩
              exact hR.inj b c _ x hb hx rfl hc g (.inl (hown1 _ ho)) hg
          · rw [AHeap.get_put] at hx hx'
            by_cases hc : b = c
            · subst hc
              rw [if_neg hne] at hx'
              rw [if_pos rfl] at hx
              cases hx
              exact hR.inj b c' _ x' hb hx' rfl hne g0 hf hf'
            · rw [if_neg hc] at hx
              by_cases hc' : b = c'
              · subst hc'
                rw [if_pos rfl] at hx'
                cases hx'
                exact hR.inj c b x _ hx hb ho hne g0 hf hf'
              · rw [if_neg hc'] at hx'
                exact hR.inj c c' x x' hx hx' ho hne g0 hf hf'
          · exact h6.old g hg fun ho => hn (by rw [hown1 g ho]; exact hownb)
          · obtain ⟨c, x, hx, ho, hf⟩ := hg
            rw [AHeap.get_put] at hx
            by_cases hc : b = c
            · subst hc
              rw [if_pos rfl] at hx
              cases hx
              rw [ABlk.fp_small rfl] at hf
              subst hf
              exact .inr hownb
            · rw [if_neg hc] at hx
              exact .inr ⟨c, x, hx, ho, hf⟩
        exact ⟨out, H.put b (.cells e' l'), ρ, Out.rel_data h1 h4, h5, hstep⟩
      · exact (not_stuck hK).elim
    · exact (not_stuck hK).elim
  · exact (not_stuck hK).elim

/-- One outcome of two. -/
def out2 (c : Bool) (A B : Prop) : Prop := branch c A B

end Go.Proofs.Ytcgnoegejmhgmaa.Ev

/-
  Ev: a function's body, reckoned as far as its k-th part.
-/
namespace Go.Proofs.Ytcgnoegejmhgmaa.Ev
set_option linter.unusedVariables false
set_option linter.unusedSimpArgs false
open Go.RowKit

/-- The first k parts; KK: what is asked where they end. -/
noncomputable def wpN (X : Ctx) : Nat → Nat → Nat → Nat → Code → Env → AHeap → (Env → AHeap → Prop) → (AExit → Env → AHeap → Prop) → Prop
  | 0, _, _, _, _, E, H, KK, _ => KK E H
  | _ + 1, 0, _, _, _, _, _, _, _ => False
  | k + 1, n + 1, f, base, c, E, H, KK, Q => wpC X n f base (seqL c) E H fun x E H => match x with
    | .normal => wpN X k n f base (seqR c) E H KK Q
    | .exit i => Q (.exit i) E H
    | .ret => Q .ret E H
    | .panic v => Q (.panic v) E H

def isSeqs : Nat → Code → Bool
  | 0, _ => true
  | k + 1, .seq _ b => isSeqs k b
  | _ + 1, _ => false
def tailN : Nat → Code → Code
  | 0, c => c
  | k + 1, c => tailN k (seqR c)

theorem wpN_wpC {X : Ctx} {f base : Nat} {Q : AExit → Env → AHeap → Prop} : ∀ (k n : Nat) (c : Code) (E : Env) (H : AHeap), isSeqs k c = true →
    wpN X k (n + k) f base c E H (fun E H => wpC X n f base (tailN k c) E H Q) Q = wpC X (n + k) f base c E H Q
  | 0, n, c, E, H, _ => rfl
  | k + 1, n, c, E, H, h => by
    cases c with
    | seq a b =>
      show wpC X (n + k) f base a E H (fun x E H => match x with
        | .normal => wpN X k (n + k) f base b E H (fun E H => wpC X n f base (tailN k b) E H Q) Q
        | .exit i => Q (.exit i) E H
        | .ret => Q .ret E H
        | .panic v => Q (.panic v) E H) = wpC X ((n + k) + 1) f base (.seq a b) E H Q
      have e : ∀ E H, wpN X k (n + k) f base b E H (fun E H => wpC X n f base (tailN k b) E H Q) Q = wpC X (n + k) f base b E H Q := fun E H => wpN_wpC k n b E H h
      simp only [e]
      rfl
    | _ => simp [isSeqs] at h

/-- A call, in two parts. -/
theorem callC_cut {X : Ctx} {f k n : Nat} {fn : Func} {c : Code} {args : List AVal} {H : AHeap} {K : Out → AHeap → Prop} (hg : X.gc f = none) (hf : X.fns f = some fn) (hb : fn.body = some c) (hs : isSeqs k c = true)
    (h : wpN X k (n + k) f H.next c (env0 args 0) H (fun E H' => wpC X n f H.next (tailN k c) E H' (endA X.P fn K)) (endA X.P fn K)) : callC X (n + k) f args H K := by
  rw [wpN_wpC k n c _ _ hs] at h
  unfold callC
  rw [hg, hf]
  simp only [hb]
  exact h

end Go.Proofs.Ytcgnoegejmhgmaa.Ev

