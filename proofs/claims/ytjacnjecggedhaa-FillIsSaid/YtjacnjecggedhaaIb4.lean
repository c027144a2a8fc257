/-
  Texts for RowFillIs: of the reckoner, walks, contracts and plain laws that its row stands on.
-/
import Derived.Test.YtjacnjecggedhaaIb3
import Derived.Lib.SmallJoins
import Derived.ProofKit
import Derived.OpenShut
import Derived.Deep.Slices
import Derived.Recover
namespace Go.Proofs.Ytjacnjecggedhaa.Ev
set_option linter.unusedVariables false
set_option linter.unusedSimpArgs false
open Go.RowKit
universe u
def tab {α : Type u} : List (Nat × α) → Nat → Option α
  | [], _ => none
  | (g, x) :: r, f => match Nat.beq g f with
    | true => some x
    | false => tab r f
def tab2 {α : Type u} : List (Nat × Nat × α) → Nat → Nat → Option α
  | [], _, _ => none
  | (g, i, x) :: r, f, id => match Nat.beq g f, Nat.beq i id with
    | true, true => some x
    | _, _ => tab2 r f id
theorem tab_mem {α : Type u} {l : List (Nat × α)} {f : Nat} {x : α} (h : tab l f = some x) : (f, x) ∈ l := by
  induction l with
  | nil => simp [tab] at h
  | cons p l ih =>
    obtain ⟨g, y⟩ := p
    simp only [tab] at h
    split at h
    · rename_i hg
      have := nat_beq_eq.1 hg
      simp only [Option.some.injEq] at h
      subst this h
      simp
    · exact List.mem_cons_of_mem _ (ih h)
theorem tab2_mem {α : Type u} {l : List (Nat × Nat × α)} {f id : Nat} {x : α} (h : tab2 l f id = some x) : (f, id, x) ∈ l := by
  induction l with
  | nil => simp [tab2] at h
  | cons p l ih =>
    obtain ⟨g, i, y⟩ := p
    simp only [tab2] at h
    split at h
    · rename_i hg hi
      have e1 := nat_beq_eq.1 hg
      have e2 := nat_beq_eq.1 hi
      simp only [Option.some.injEq] at h
      subst e1 e2 h
      simp
    · exact List.mem_cons_of_mem _ (ih h)
def opBase (o : Oper) (E : Env) (H : AHeap) : Option ((Out → AHeap → Prop) → Prop) :=
  match o.op with
  | .panic x => match evalO E x with
    | some (.iface t v) => some fun K => K (.panic (.iface t v)) H
    | _ => none
  | _ => none
theorem opBase_sound (P : Program) : OpSound P opBase := by
  intro o E H g h K hK ρ w a hR hE
  unfold opBase at h
  split at h <;> try cases h
  rename_i x ho
  split at h <;> cases h
  rename_i t v hx
  obtain ⟨h1, h2⟩ := evalO_tr hE hx
  refine ⟨.panic (.iface t v), H, ρ, w, hK, Step.refl hR, ?_, h2⟩
  simp [execOp, ho, h1, tr, Instr.panic, goPanic, Sem.run]
structure Tabs where
  fns : List (Nat × Func)
  rows : List (Nat × RowTy)
  sms : List Nat
  fcs : List (Nat × FC)
  gcs : List (Nat × GC)
  lcs : List (Nat × Nat × LC)
  op : Oper → Env → AHeap → Option ((Out → AHeap → Prop) → Prop)
def Tabs.ctx (T : Tabs) (P : Program) : Ctx where
  P := P
  fns := tab T.fns
  fc := tab T.fcs
  rowTy := tab T.rows
  gc := tab T.gcs
  lcs := tab2 T.lcs
  sms := fun f => memN f T.sms
  op := T.op
def FnOk (P : Program) (f : Nat) (fn : Func) : Prop := P.funcs[f]? = some fn ∧ (∀ vs w, (callFunc f vs).run P w = .ok (.enter f vs) w) ∧ ∃ c, fn.body = some c ∧ okDst fn.ntmps c = true
def RowOk (P : Program) (e : Nat) (T : RowTy) : Prop := ∀ i, P.info? e = some i → ∃ z, i.zero = some z ∧ ∀ ρ, z.cells.toList = trL ρ (T.enc T.dflt)
def FcSound (P : Program) (f : Nat) (c : FC) : Prop := (∀ vs w, (callFunc f vs).run P w = .ok (.enter f vs) w) ∧
  ∀ args H v, c args H = some (true, v) → ∀ ρ w N, (∀ b y, H.get b = some y → y.under N = true ∧ ρ.blk b < w.heap.size ∧ y.ok ρ w b) → belowL N args = true →
    Calls P f (trL ρ args).toArray w (fun e w' => e = .returned (tr ρ v) ∧ Below w.heap.size w w') ∧ v.under N = true
def GcSound (P : Program) (f : Nat) (g : GC) : Prop := ∀ args H K, g args H K → ∀ ρ w, Rel ρ H w → belowL H.next args = true → (∀ vs w, (callFunc f vs).run P w = .ok (.enter f vs) w) ∧
    Calls P f (trL ρ args).toArray w fun e w' => ∃ out H' ρ', Out.rel ρ' H'.next out e ∧ K out H' ∧ Step ρ H w ρ' H' w'
def LcSound (P : Program) (fns : List (Nat × Func)) (f id : Nat) (L : LC) : Prop := ∀ fn c, tab fns f = some fn → fn.body = some c → ∀ p ∈ blocksC c, p.1 = id → ∀ n, fn.ntmps ≤ n → LSound P p.1 p.2 n L
theorem Tabs.ok {T : Tabs} {P : Program} (hm : P.follows .mixedOrders = true) (h1 : ∀ p ∈ T.fns, FnOk P p.1 p.2) (h2 : ∀ p ∈ T.rows, RowOk P p.1 p.2) (h3 : ∀ p ∈ T.fcs, FcSound P p.1 p.2) (h4 : ∀ p ∈ T.gcs, GcSound P p.1 p.2) (h5 : ∀ p ∈ T.lcs, LcSound P T.fns p.1 p.2.1 p.2.2) (h6 : OpSound P T.op) : CtxOk (T.ctx P) where
  rows := ⟨fun e T' h i hi => h2 _ (tab_mem h) i hi⟩
  fcs := ⟨h6, fun f c h => (h3 _ (tab_mem h)).1, fun f c h => (h3 _ (tab_mem h)).2⟩
  mixed := hm
  fns := fun f fn h => h1 _ (tab_mem h)
  lcs := fun f fn c hf hc p hp L hL n hn => h5 _ (tab2_mem hL) fn c hf hc p hp rfl n hn
  gcs := fun f g h => h4 _ (tab_mem h)
theorem callC_ok {X : Ctx} (hX : CtxOk X) (n : Nat) : CallOk X (callC X n) := by
  intro g args H K hg ρ w hR hargs
  unfold callC at hg
  split at hg
  · rename_i gg hgg
    exact hX.gcs g gg hgg args H K hg ρ w hR hargs
  · split at hg
    · rename_i fn' hfn'
      split at hg
      · rename_i c' hc'
        obtain ⟨q1, q2, c2, q3, q4⟩ := hX.fns g fn' hfn'
        rw [hc'] at q3
        cases q3
        refine ⟨q2, fn_sound q1 hc' hR hargs (fun a hE hd hN => ?_)⟩
        exact @wpC_sound X hX ⟨[]⟩ _ _ _ _ _ _ _ hg _ _ _ _ _ _ _ (Nat.le_refl _) ⟨fn', hfn', hN, c', hc', fun p hp => hp, q4⟩ (Step.refl hR) hE hd rfl
      · exact hg.elim
    · exact hg.elim
theorem rel_nil (ρ : Rho) (w : World) : Rel ρ ⟨0, []⟩ w := ⟨fun b x hx => by simp [AHeap.get, getB] at hx, fun b b' x x' hx => by simp [AHeap.get, getB] at hx⟩
theorem call_pure {X : Ctx} (hX : CtxOk X) {f n : Nat} {args : List AVal} {K : Out → Prop} (h : callC X n f args ⟨0, []⟩ (fun o _ => K o)) (ha : belowL 0 args = true) (ρ : Rho) (w : World) :
    Calls X.P f (trL ρ args).toArray w fun e w' => ∃ out ρ' N, Out.rel ρ' N out e ∧ K out ∧ Below w.heap.size w w' := by
  refine ((callC_ok hX n) f args ⟨0, []⟩ _ h ρ w (rel_nil ρ w) ha).2.mono ?_
  rintro e w' ⟨out, H', ρ', h1, h2, h3⟩
  exact ⟨out, ρ', _, h1, h2, h3.below (Nat.le_refl _) (fun g hg => by obtain ⟨b, x, hx, _⟩ := hg; simp [AHeap.get, getB] at hx)⟩
theorem under_mono0 {N : Nat} {v : AVal} (h : v.under 0 = true) : v.under N = true := AVal.under_mono (Nat.zero_le N) v h
theorem agree0 (ρ ρ' : Rho) : Rho.agree 0 ρ ρ' := fun b hb => by omega
theorem fc_pure {X : Ctx} (hX : CtxOk X) {f n : Nat} {c : FC} (he : ∀ vs w, (callFunc f vs).run X.P w = .ok (.enter f vs) w)
    (h : ∀ args H v, c args H = some (true, v) → belowL 0 args = true ∧ v.under 0 = true ∧ callC X n f args ⟨0, []⟩ (fun o _ => o = .ret v)) : FcSound X.P f c := by
  refine ⟨he, fun args H v hv ρ w N _ _ => ?_⟩
  obtain ⟨h1, h2, h3⟩ := h args H v hv
  refine ⟨(call_pure hX h3 h1 ρ w).mono ?_, under_mono0 h2⟩
  rintro e w' ⟨out, ρ', N', ho, rfl, hb⟩
  cases e <;> simp only [Out.rel] at ho
  obtain ⟨rfl, _⟩ := ho
  exact ⟨by rw [tr_agree (agree0 ρ ρ') v h2], hb⟩
theorem law_pure {X : Ctx} (hX : CtxOk X) {f n : Nat} {args : List AVal} {v : AVal} (h : callC X n f args ⟨0, []⟩ (fun o _ => o = .ret v)) (ha : belowL 0 args = true) (hv : v.under 0 = true) (ρ : Rho) (w : World) :
    Calls X.P f (trL ρ args).toArray w fun e w' => e = .returned (tr ρ v) ∧ Below w.heap.size w w' := by
  refine (call_pure hX h ha ρ w).mono ?_
  rintro e w' ⟨out, ρ', N', ho, rfl, hb⟩
  cases e <;> simp only [Out.rel] at ho
  obtain ⟨rfl, _⟩ := ho
  exact ⟨by rw [tr_agree (agree0 ρ ρ') v hv], hb⟩
def sigA (σ : List (Nat × Nat)) (b : Nat) : Nat := match tab σ b with
  | some c => c
  | none => b
mutual
def renV (σ : List (Nat × Nat)) : AVal → AVal
  | .ptr b i z j => .ptr (sigA σ b) i z j
  | .sl b i z j n c => .sl (sigA σ b) i z j n c
  | .map b => .map (sigA σ b)
  | .yld b => .yld (sigA σ b)
  | .func f a c => .func f (renL σ a) (renL σ c)
  | .agg l => .agg (renL σ l)
  | .tup l => .tup (renL σ l)
  | .iface t v => .iface t (renV σ v)
  | .meth m v => .meth m (renV σ v)
  | v => v
def renL (σ : List (Nat × Nat)) : List AVal → List AVal
  | [] => []
  | v :: r => renV σ v :: renL σ r
end
def renB (σ : List (Nat × Nat)) : ABlk → ABlk
  | .cells e l => .cells e (renL σ l)
  | x => x
def Rho.pull (ρ : Rho) (σ : List (Nat × Nat)) : Rho := ⟨fun b => ρ.blk (sigA σ b), fun b => ρ.off (sigA σ b), fun b => ρ.cap (sigA σ b)⟩
mutual
theorem tr_ren (ρ : Rho) (σ : List (Nat × Nat)) : ∀ v : AVal, tr ρ (renV σ v) = tr (ρ.pull σ) v
  | .int _ _ | .bool _ | .str _ | .nilp | .nils | .nilm | .nilf | .niface => rfl
  | .ptr b i z j => rfl
  | .sl b i z j n c => rfl
  | .map b => rfl
  | .yld b => rfl
  | .func f a c => by simp only [renV, tr, trL_ren ρ σ a, trL_ren ρ σ c]
  | .agg l => by simp only [renV, tr, trL_ren ρ σ l]
  | .tup l => by simp only [renV, tr, trL_ren ρ σ l]
  | .iface t v => by simp only [renV, tr, tr_ren ρ σ v]
  | .meth m v => by simp only [renV, tr, tr_ren ρ σ v]
theorem trL_ren (ρ : Rho) (σ : List (Nat × Nat)) : ∀ l : List AVal, trL ρ (renL σ l) = trL (ρ.pull σ) l
  | [] => rfl
  | v :: r => by simp only [renL, trL, tr_ren ρ σ v, trL_ren ρ σ r]
end
theorem renL_length (σ : List (Nat × Nat)) : ∀ l, (renL σ l).length = l.length
  | [] => rfl
  | v :: r => by simp [renL, renL_length σ r]
theorem renV_scalar (σ : List (Nat × Nat)) (v : AVal) : (renV σ v).scalar = v.scalar := by cases v <;> rfl
theorem renL_scalar (σ : List (Nat × Nat)) : ∀ l, (renL σ l).all AVal.scalar = l.all AVal.scalar
  | [] => rfl
  | v :: r => by simp only [renL, List.all_cons, renV_scalar, renL_scalar σ r]
theorem ren_ok {σ : List (Nat × Nat)} {ρ : Rho} {w : World} {b : Nat} {x : ABlk} (h : (renB σ x).ok ρ w (sigA σ b)) : x.ok (ρ.pull σ) w b := by
  cases x with
  | cells e l =>
    obtain ⟨h1, h2, fz, h3, h4⟩ := h
    rw [renL_scalar] at h2
    rw [trL_ren] at h3
    rw [renL_length] at h4
    exact ⟨h1, h2, fz, h3, h4⟩
  | row e T l md =>
    have hd : ∀ a, a ∈ T.flat l → tr ρ a = tr (ρ.pull σ) a := fun a ha => AVal.data_tr ((List.all_eq_true.1 (flat_data T l)) a ha) _ _
    have hL : trL ρ (T.flat l) = trL (ρ.pull σ) (T.flat l) := by rw [trL_eq, trL_eq]; exact List.map_congr_left hd
    cases md with
    | plain =>
      obtain ⟨h1, h2, h3, cur, fz, h4, h5, h6, h7⟩ := h
      exact ⟨h1, h2, h3, cur, fz, h4, h5, h6, hL ▸ h7⟩
    | strish =>
      obtain ⟨h1, h2, h3, cur, fz, h4, h5, h6, h7⟩ := h
      exact ⟨h1, h2, h3, cur, fz, h4, h5, h6, hL ▸ h7⟩
    | ro =>
      obtain ⟨h1, h2, h3, h4⟩ := h
      refine ⟨h1, h2, h3, fun i v hv => ?_⟩
      rw [← hd v (List.mem_of_getElem? hv)]
      exact h4 i v hv
  | dead => trivial
def subER (N : Nat) (σ : List (Nat × Nat)) : Env → Env → Prop
  | [], _ => True
  | (t, v) :: r, E2 => match getE E2 t, v.under N with
    | some u, true => u = renV σ v ∧ subER N σ r E2
    | _, _ => False
def subHR (N : Nat) (σ : List (Nat × Nat)) : List (Nat × ABlk) → AHeap → Prop
  | [], _ => True
  | (b, x) :: r, H2 => match H2.get (sigA σ b), Nat.blt b N, x.under N with
    | some y, true, true => y = renB σ x ∧ subHR N σ r H2
    | _, _, _ => False
theorem subER_get {N : Nat} {σ : List (Nat × Nat)} : ∀ {E1 E2 : Env}, subER N σ E1 E2 → ∀ t v, getE E1 t = some v → getE E2 t = some (renV σ v) ∧ v.under N = true
  | [], E2, h, t, v, hv => by simp [getE] at hv
  | (u, x) :: r, E2, h, t, v, hv => by
    simp only [subER] at h
    split at h
    · rename_i y h1 h2
      obtain ⟨rfl, h⟩ := h
      rw [getE_cons] at hv
      by_cases hut : u = t
      · rw [if_pos hut] at hv
        simp only [Option.some.injEq] at hv
        subst hv hut
        exact ⟨h1, h2⟩
      · rw [if_neg hut] at hv
        exact subER_get h t v hv
    · exact h.elim
theorem subHR_get {N : Nat} {σ : List (Nat × Nat)} : ∀ {bs : List (Nat × ABlk)} {H2 : AHeap}, subHR N σ bs H2 → ∀ b x, getB bs b = some x → H2.get (sigA σ b) = some (renB σ x) ∧ b < N ∧ x.under N = true
  | [], H2, h, b, x, hx => by simp [getB] at hx
  | (c, y) :: r, H2, h, b, x, hx => by
    simp only [subHR] at h
    split at h
    · rename_i z h1 h2 h3
      obtain ⟨rfl, h⟩ := h
      rw [getB_cons] at hx
      by_cases hcb : c = b
      · rw [if_pos hcb] at hx
        subst hcb
        have : y = x := by cases y <;> simp [ABlk.live] at hx <;> exact hx
        subst this
        rw [Nat.blt_eq] at h2
        exact ⟨h1, h2, h3⟩
      · rw [if_neg hcb] at hx
        exact subHR_get h b x hx
    · exact h.elim
def sigOk (base : Nat) (σ : List (Nat × Nat)) : Bool := σ.all fun p => Nat.ble base p.1
def sigInj (σ : List (Nat × Nat)) : List (Nat × ABlk) → Bool
  | [] => true
  | (b, _) :: r => (r.all fun q => Nat.beq b q.1 || !(Nat.beq (sigA σ b) (sigA σ q.1))) && sigInj σ r
theorem sigOk_lt {base : Nat} {σ : List (Nat × Nat)} (h : sigOk base σ = true) {b : Nat} (hb : b < base) : sigA σ b = b := by
  unfold sigA
  split
  · rename_i c hc
    have := tab_mem hc
    unfold sigOk at h
    rw [List.all_eq_true] at h
    have := h _ this
    have := Nat.le_of_ble_eq_true this
    simp at this; omega
  · rfl
theorem sigInj_ne {σ : List (Nat × Nat)} : ∀ {bs : List (Nat × ABlk)}, sigInj σ bs = true → ∀ b b' x x', (b, x) ∈ bs → (b', x') ∈ bs → b ≠ b' → sigA σ b ≠ sigA σ b'
  | [], _, b, b', x, x', hb, _, _ => by cases hb
  | (c, y) :: r, h, b, b', x, x', hb, hb', hne => by
    simp only [sigInj, Bool.and_eq_true, List.all_eq_true, Bool.or_eq_true, Bool.not_eq_true'] at h
    rcases List.mem_cons.1 hb with h1 | h1 <;> rcases List.mem_cons.1 hb' with h2 | h2
    · cases h1; cases h2; exact absurd rfl hne
    · cases h1
      rcases h.1 _ h2 with h3 | h3
      · exact absurd (nat_beq_eq.1 h3) hne
      · exact nat_beq_ne.1 h3
    · cases h2
      rcases h.1 _ h1 with h3 | h3
      · exact absurd (nat_beq_eq.1 h3).symm hne
      · exact (nat_beq_ne.1 h3).symm
    · exact sigInj_ne h.2 b b' x x' h1 h2 hne
theorem renB_own (σ : List (Nat × Nat)) (x : ABlk) : (renB σ x).own = x.own := by cases x <;> rfl
theorem sub_stepR {ρ0 ρ : Rho} {H0 H K : AHeap} {w0 w : World} {E1 E2 : Env} {a : Act} {σ : List (Nat × Nat)} {base : Nat} (hS : Step ρ0 H0 w0 ρ H w) (hE : RelE ρ H.next E2 a) (hb : H0.next ≤ base) (hσ : sigOk base σ = true) (hi : sigInj σ K.bs = true)
    (h1 : subER K.next σ E1 E2) (h2 : subHR K.next σ K.bs H) (hn : H0.next ≤ K.next) : Step ρ0 H0 w0 (ρ.pull σ) K w ∧ RelE (ρ.pull σ) K.next E1 a := by
  have hg := subHR_get h2
  have hown : ∀ g, Owns (ρ.pull σ) K g → Owns ρ H g := by
    rintro g ⟨b, x, hx, ho, rfl⟩
    exact ⟨sigA σ b, renB σ x, (hg b x hx).1, by rw [renB_own]; exact ho, rfl⟩
  refine ⟨⟨fun b hlt => ?_, hn, ⟨fun b x hx => ?_, fun b b' x x' hx hx' ho hne => ?_⟩, hS.os, hS.tape, hS.output, hS.size, hS.old, fun g hgo => hS.owns g (hown g hgo)⟩, ⟨fun t v hv => ?_⟩⟩
  · have e := sigOk_lt hσ (b := b) (by omega)
    obtain ⟨q1, q2, q3⟩ := hS.agree b hlt
    simp only [Rho.pull, e]
    exact ⟨q1, q2, q3⟩
  · obtain ⟨q1, q2, q3⟩ := hg b x hx
    obtain ⟨r1, r2, r3, r4⟩ := hS.rel.blk _ _ q1
    exact ⟨q2, q3, r3, ren_ok r4⟩
  · exact hS.rel.inj _ _ _ _ (hg b x hx).1 (hg b' x' hx').1 (by rw [renB_own]; exact ho) (sigInj_ne hi b b' x x' (getB_mem hx) (getB_mem hx') hne)
  · obtain ⟨q1, q2⟩ := subER_get h1 t v hv
    refine ⟨?_, q2⟩
    rw [(hE.get t _ q1).1, tr_ren]
end Go.Proofs.Ytjacnjecggedhaa.Ev
namespace Go.Proofs.Ytjacnjecggedhaa.Ev
set_option linter.unusedVariables false
set_option linter.unusedSimpArgs false
open Go.RowKit
abbrev byteRow : RowTy where
  α := UInt8
  sz := 1
  dflt := 0
  enc := fun c => [.int .u8 (c.toNat : Int)]
  dec := fun cs => match cs with
    | [.int .u8 n] => some (decide (0 ≤ n ∧ n < 256), UInt8.ofNat n.toNat)
    | _ => none
  len := fun _ => rfl
  isData := fun _ => rfl
  dec_enc := fun cs a h => by
    split at h
    · simp only [Option.some.injEq, Prod.mk.injEq, decide_eq_true_eq] at h
      obtain ⟨⟨h0, h1⟩, rfl⟩ := h
      rename_i n
      have : (UInt8.ofNat n.toNat).toNat = n.toNat := by rw [UInt8.toNat_ofNat']; omega
      rw [this, Int.toNat_of_nonneg h0]
    · cases h
  bytes := some (fun l => l, fun l => l)
  toB := fun f g h => by
    simp only [Option.some.injEq, Prod.mk.injEq] at h
    obtain ⟨rfl, rfl⟩ := h
    exact ⟨rfl, fun l => by induction l <;> simp_all, fun l => by induction l <;> simp_all⟩
abbrev strRow : RowTy where
  α := List UInt8
  sz := 1
  dflt := []
  enc := fun s => [.str s]
  dec := fun cs => match cs with
    | [.str s] => some (true, s)
    | _ => none
  len := fun _ => rfl
  isData := fun _ => rfl
  dec_enc := fun cs a h => by
    split at h
    · simp only [Option.some.injEq, Prod.mk.injEq, true_and] at h
      subst h; rfl
    · cases h
  bytes := none
  toB := fun f g h => by cases h
abbrev intRow (k : IntKind) : RowTy where
  α := Int
  sz := 1
  dflt := 0
  enc := fun n => [.int k n]
  dec := fun cs => match cs with
    | [.int k' n] => if k' = k then some (true, n) else none
    | _ => none
  len := fun _ => rfl
  isData := fun _ => rfl
  dec_enc := fun cs a h => by
    split at h
    · split at h <;> try cases h
      rename_i hk
      subst hk
      rfl
    · cases h
  bytes := none
  toB := fun f g h => by cases h
theorem get_one {n c : Nat} {x y : ABlk} (h : AHeap.get ⟨n, [(0, x)]⟩ c = some y) : c = 0 ∧ x.live = some y := by
  have h' : getB [(0, x)] c = some y := h
  rw [getB_cons] at h'
  by_cases hc : 0 = c
  · rw [if_pos hc] at h'; exact ⟨hc.symm, h'⟩
  · rw [if_neg hc] at h'; simp [getB] at h'
theorem ro_of {x : ABlk} {ρ : Rho} {w : World} {b : Nat} (h : x.ok ρ w b) (hlt : ρ.blk b < w.heap.size) {e : TypeId} {T : RowTy} {as : List T.α} (hx : (∃ e', x = .cells e' (T.flat as)) ∨ ∃ e' md, x = .row e' T as md) (hl : as.length ≤ maxLen) :
    Rel ⟨fun _ => ρ.blk b, fun _ => ρ.off b, fun _ => max (ρ.cap b) as.length⟩ ⟨1, [(0, .row e T as .ro)]⟩ w ∨ maxLen < max (ρ.cap b) as.length := by
  by_cases hm : maxLen < max (ρ.cap b) as.length
  · exact .inr hm
  left
  refine ⟨fun c y hy => ?_, fun c c' y y' hy hy' ho hne => ?_⟩
  · have : c = 0 ∧ y = .row e T as .ro := by
      obtain ⟨h1, h2⟩ := get_one hy
      simp only [ABlk.live, Option.some.injEq] at h2
      exact ⟨h1, h2.symm⟩
    clear hy
    obtain ⟨rfl, rfl⟩ := this
    refine ⟨Nat.zero_lt_one, rfl, hlt, by simp only; omega, by simp only; omega, hlt, fun i v hv => ?_⟩
    rcases hx with ⟨e', rfl⟩ | ⟨e', md, rfl⟩
    · obtain ⟨h0, _, fz, hh, _⟩ := h
      have hd := flat_data T as
      rw [List.all_eq_true] at hd
      simp only [h0, Nat.zero_add]
      rw [cell_of_heap hh]
      have : (trL ρ (T.flat as)).toArray[i]? = some (tr ρ v) := by simp [trL_get, hv]
      rw [this, AVal.data_tr (hd v (List.mem_of_getElem? hv)) ρ _]
    · have := row_cell h hv
      have hd := flat_data T as
      rw [List.all_eq_true] at hd
      simp only
      rw [this, AVal.data_tr (hd v (List.mem_of_getElem? hv)) ρ _]
  · have hc : ∀ {c y}, AHeap.get ⟨1, [(0, .row e T as .ro)]⟩ c = some y → c = 0 := by
      intro c y hy
      exact (get_one hy).1
    exact absurd ((hc hy).trans (hc hy').symm) hne
theorem fc_reads {X : Ctx} (hX : CtxOk X) {f n : Nat} {c : FC} (he : ∀ vs w, (callFunc f vs).run X.P w = .ok (.enter f vs) w)
    (h : ∀ args H v, c args H = some (true, v) → ∃ b x e T as i sz j m k pre post, args = pre ++ .sl b i sz j m (some k) :: post ∧ belowL 0 pre = true ∧ belowL 0 post = true ∧ H.get b = some x ∧ (∃ e', x = .cells e' (RowTy.flat T as)) ∧ as.length ≤ 1000 ∧ v.under 0 = true ∧
      callC X n f (pre ++ .sl 0 i sz j m (some k) :: post) ⟨1, [(0, .row e T as .ro)]⟩ (fun o _ => o = .ret v)) : FcSound X.P f c := by
  refine ⟨he, fun args H v hv ρ w N hH _ => ?_⟩
  obtain ⟨b, x, e, T, as, i, sz, j, m, k, pre, post, rfl, hpre, hpost, hb, ⟨e', rfl⟩, hl, hvu, hcall⟩ := h args H v hv
  obtain ⟨q1, q2, q3⟩ := hH b _ hb
  refine ⟨?_, under_mono0 hvu⟩
  -- the capacity does not matter
  have hrel : Rel ⟨fun _ => ρ.blk b, fun _ => ρ.off b, fun _ => as.length⟩ ⟨1, [(0, .row e T as .ro)]⟩ w := by
    have hok : (ABlk.cells e' (T.flat as)).ok ⟨ρ.blk, ρ.off, fun _ => 0⟩ w b := by
      obtain ⟨h0, h1, fz, h2, h3⟩ := q3
      refine ⟨h0, h1, fz, ?_, h3⟩
      rw [h2]
      congr 2
      rw [trL_eq, trL_eq]
      congr 1
      apply List.map_congr_left
      intro y hy
      have hd := flat_data T as
      rw [List.all_eq_true] at hd
      exact AVal.data_tr (hd y hy) _ _
    rcases ro_of (e := e) hok q2 (.inl ⟨e', rfl⟩) (by unfold maxLen; omega) with h | h
    · simpa using h
    · simp only at h; unfold maxLen at h; omega
  have htr : trL ⟨fun _ => ρ.blk b, fun _ => ρ.off b, fun _ => as.length⟩ (pre ++ .sl 0 i sz j m (some k) :: post) = trL ρ (pre ++ .sl b i sz j m (some k) :: post) := by
    rw [trL_append, trL_append]
    simp only [trL, tr]
    rw [trL_agree (agree0 ρ _) pre hpre, trL_agree (agree0 ρ _) post hpost]
  have hcl := (callC_ok hX n) f _ _ _ hcall _ w hrel (by
    rw [belowL_eq]
    simp only [List.all_append, List.all_cons, Bool.and_eq_true]
    rw [← belowL_eq, ← belowL_eq]
    exact ⟨belowL_mono (Nat.zero_le _) _ hpre, rfl, belowL_mono (Nat.zero_le _) _ hpost⟩)
  rw [htr] at hcl
  refine hcl.2.mono ?_
  rintro e w' ⟨out, H', ρ', h1, rfl, h3⟩
  cases e <;> simp only [Out.rel] at h1
  obtain ⟨rfl, _⟩ := h1
  refine ⟨by rw [tr_agree (agree0 ρ ρ') v hvu], h3.below (Nat.le_refl _) (fun g hg => ?_)⟩
  obtain ⟨c, y, hy, ho, _⟩ := hg
  have h2 := (get_one hy).2
  simp only [ABlk.live, Option.some.injEq] at h2
  subst h2
  cases ho
structure TabsOk (T : Tabs) (P : Program) : Prop where
  mixed : P.follows .mixedOrders = true
  fns : ∀ p ∈ T.fns, FnOk P p.1 p.2
  rows : ∀ p ∈ T.rows, RowOk P p.1 p.2
  fcs : ∀ p ∈ T.fcs, FcSound P p.1 p.2
  gcs : ∀ p ∈ T.gcs, GcSound P p.1 p.2
  lcs : ∀ p ∈ T.lcs, LcSound P T.fns p.1 p.2.1 p.2.2
  op : OpSound P T.op
theorem TabsOk.ctx {T : Tabs} {P : Program} (h : TabsOk T P) : CtxOk (T.ctx P) := Tabs.ok h.mixed h.fns h.rows h.fcs h.gcs h.lcs h.op
def Tabs.addFc (T : Tabs) (f : Nat) (c : FC) : Tabs := { T with fcs := (f, c) :: T.fcs }
def Tabs.addGc (T : Tabs) (f : Nat) (c : GC) : Tabs := { T with gcs := (f, c) :: T.gcs }
theorem TabsOk.addFc {T : Tabs} {P : Program} (h : TabsOk T P) {f : Nat} {c : FC} (hc : FcSound P f c) : TabsOk (T.addFc f c) P :=
  ⟨h.mixed, h.fns, h.rows, fun p hp => by rcases List.mem_cons.1 hp with rfl | hp <;> first | exact hc | exact h.fcs p hp, h.gcs, h.lcs, h.op⟩
theorem TabsOk.addGc {T : Tabs} {P : Program} (h : TabsOk T P) {f : Nat} {c : GC} (hc : GcSound P f c) : TabsOk (T.addGc f c) P :=
  ⟨h.mixed, h.fns, h.rows, h.fcs, fun p hp => by rcases List.mem_cons.1 hp with rfl | hp <;> first | exact hc | exact h.gcs p hp, h.lcs, h.op⟩
theorem fc_of_calls {P : Program} {f : FuncId} {c : FC} (he : ∀ vs w, (callFunc f vs).run P w = .ok (.enter f vs) w)
    (h : ∀ args H v, c args H = some (true, v) → belowL 0 args = true ∧ v.under 0 = true ∧ ∀ ρ w, Calls P f (trL ρ args).toArray w fun e w' => e = .returned (tr ρ v) ∧ Below w.heap.size w w') : FcSound P f c := by
  refine ⟨he, fun args H v hv ρ w N _ _ => ?_⟩
  obtain ⟨h1, h2, h3⟩ := h args H v hv
  exact ⟨h3 ρ w, under_mono0 h2⟩
end Go.Proofs.Ytjacnjecggedhaa.Ev
namespace Go.Proofs.Ytjacnjecggedhaa.Ev
set_option linter.unusedVariables false
set_option linter.unusedSimpArgs false
open Go.RowKit Go.Joins Go.ChangeShapes Go.WideShapes
open Go.ChangeMaps (open_string)
inductive CT where
  | int (k : IntKind)
  | bool
  | str
def Of1 : CT → AVal → Prop
  | .int k, v => ∃ n, v = .int k n ∧ (Lit.int k n).wf = true
  | .bool, v => ∃ b, v = .bool b
  | .str, v => ∃ s, v = .str s ∧ s.length ≤ maxLen
def OfL : List CT → List AVal → Prop
  | [], vs => vs = []
  | c :: cs, vs => ∃ v r, vs = v :: r ∧ Of1 c v ∧ OfL cs r
theorem OfL_append : ∀ {l1 l2 : List CT} {v1 v2 : List AVal}, OfL l1 v1 → OfL l2 v2 → OfL (l1 ++ l2) (v1 ++ v2)
  | [], l2, v1, v2, h, k => by cases h; exact k
  | c :: l1, l2, v1, v2, h, k => by
    obtain ⟨v, r, rfl, h1, h2⟩ := h
    exact ⟨v, r ++ v2, rfl, h1, OfL_append h2 k⟩
def flatFs (P : Program) (g : TypeId → Option (List CT)) : Nat → Nat → List Field → Option (List CT)
  | o, c, [] => if o = c then some [] else none
  | o, c, f :: fs => match g f.type, flatFs P g (o + P.cellsOf f.type) c fs with
    | some l, some r => if f.offset = o ∧ l.length = P.cellsOf f.type then some (l ++ r) else none
    | _, _ => none
def flat (P : Program) : Nat → TypeId → Option (List CT)
  | 0, _ => none
  | n + 1, t => match P.underlying t with
    | some .bool => some [.bool]
    | some (.int k) => some [.int k]
    | some .string => some [.str]
    | some (.struct fs) => flatFs P (flat P n) 0 (P.cellsOf t) fs.toList
    | some (.array m e) => match flat P n e with
      | some l => if l.length = P.cellsOf e ∧ P.cellsOf t = m * P.cellsOf e then some ((List.replicate m l).flatten) else none
      | none => none
    | _ => none
def Opens (l : List CT) (cs : List Value) : Prop := ∃ avs, (∀ ρ, trL ρ avs = cs) ∧ OfL l avs
theorem Opens.append {l1 l2 : List CT} {c1 c2 : List Value} : Opens l1 c1 → Opens l2 c2 → Opens (l1 ++ l2) (c1 ++ c2) := by
  rintro ⟨a1, h1, k1⟩ ⟨a2, h2, k2⟩
  exact ⟨a1 ++ a2, fun ρ => by rw [trL_append, h1, h2], OfL_append k1 k2⟩
theorem str_tr (s : ByteArray) (ρ : Rho) : tr ρ (.str s.data.toList) = .string s := by
  simp [tr]
theorem opens_fs {P : Program} {R : TypeId → List Value → Prop} {g : TypeId → Option (List CT)} (ih : ∀ t cs l, g t = some l → R t cs → Opens l cs) : ∀ (fs : List Field) (o c : Nat) (l : List CT) (cs : List Value), flatFs P g o c fs = some l → cs.length = c → (∀ f ∈ fs, R f.type ((cs.drop f.offset).take (P.cellsOf f.type))) → Opens l (cs.drop o)
  | [], o, c, l, cs, h, hc, _ => by
    unfold flatFs at h
    split at h
    · rename_i he
      simp only [Option.some.injEq] at h
      subst h
      exact ⟨[], fun ρ => by rw [List.drop_eq_nil_of_le (by omega)]; rfl, rfl⟩
    · cases h
  | f :: fs, o, c, l, cs, h, hc, hr => by
    unfold flatFs at h
    split at h
    · rename_i l1 r h1 h2
      split at h
      · rename_i hh
        simp only [Option.some.injEq] at h
        subst h
        have q1 := ih _ _ _ h1 (hr f (List.mem_cons_self ..))
        have q2 := opens_fs ih fs _ c r cs h2 hc (fun f' hf' => hr f' (List.mem_cons_of_mem _ hf'))
        rw [hh.1] at q1
        have := q1.append q2
        rw [← List.drop_drop, List.take_append_drop] at this
        exact this
      · cases h
    · cases h
theorem opens_arr {l : List CT} {k : Nat} : ∀ (m : Nat) (cs : List Value), cs.length = m * k → (∀ i, i < m → Opens l ((cs.drop (i * k)).take k)) → Opens ((List.replicate m l).flatten) cs
  | 0, cs, hc, _ => by
    obtain rfl : cs = [] := List.eq_nil_of_length_eq_zero (by omega)
    exact ⟨[], fun _ => rfl, rfl⟩
  | m + 1, cs, hc, h => by
    have h0 := h 0 (by omega)
    simp only [Nat.zero_mul, List.drop_zero] at h0
    have h1 : Opens ((List.replicate m l).flatten) (cs.drop k) := by
      refine opens_arr (k := k) m (cs.drop k) (by rw [List.length_drop, hc, Nat.succ_mul]; omega) (fun i hi => ?_)
      have := h (i + 1) (by omega)
      rw [List.drop_drop]
      rw [Nat.succ_mul, Nat.add_comm] at this
      exact this
    have := h0.append h1
    rw [List.take_append_drop] at this
    rw [List.replicate_succ, List.flatten_cons]
    exact this
theorem opens {H : Type} {enc : TypeId × Value → H} {P : Program} {w : World} {base : Nat} {spare : Nat → Bool} {held : Bool} : ∀ (n : Nat) (t : TypeId) (cs : List Value) (l : List CT), flat P n t = some l → (∃ fuel x, DataW.trod enc P w base spare held fuel t cs = some x) → Opens l cs
  | 0, t, cs, l, h, _ => by simp [flat] at h
  | n + 1, t, cs, l, h, ⟨fuel, x, hx⟩ => by
    unfold flat at h
    split at h
    · rename_i ht
      simp only [Option.some.injEq] at h
      subst h
      cases fuel with
      | zero => simp [DataW.trod] at hx
      | succ f =>
        unfold DataW.trod at hx
        rw [ht] at hx
        split at hx <;> first | cases hx; done | (simp_all; done) | skip
        rename_i b _
        exact ⟨[.bool b], fun _ => rfl, _, _, rfl, ⟨b, rfl⟩, rfl⟩
    · rename_i k ht
      simp only [Option.some.injEq] at h
      subst h
      obtain ⟨m, rfl, _, hw⟩ := DataW.trod_int ht hx
      exact ⟨[.int k m], fun _ => rfl, _, _, rfl, ⟨m, rfl, hw⟩, rfl⟩
    · rename_i ht
      simp only [Option.some.injEq] at h
      subst h
      obtain ⟨s, rfl, _, hw⟩ := DataW.trod_string ht hx
      exact ⟨[.str s.data.toList], fun ρ => by simp [trL, str_tr], _, _, rfl, ⟨s.data.toList, rfl, (by rw [Array.length_toList]; exact hw)⟩, rfl⟩
    · rename_i fs ht
      obtain ⟨xs, m, rfl, _, hl, hlen, hf⟩ := DataW.trod_struct ht hx
      have := opens_fs (P := P) (R := fun t cs => ∃ fuel x, DataW.trod enc P w base spare held fuel t cs = some x) (opens n) fs.toList 0 _ l cs h hl (fun f hfm => by
        obtain ⟨i, hi, he⟩ := List.getElem_of_mem hfm
        have hfi : fs[i]? = some f := by rw [← he]; simp
        have hi' : i < xs.length := by rw [hlen]; simpa using hi
        exact ⟨m, xs[i], by rw [hf i f hfi]; simp [hi']⟩)
      simpa using this
    · rename_i m e ht
      split at h
      · rename_i l1 h1
        split at h
        · rename_i hh
          simp only [Option.some.injEq] at h
          subst h
          obtain ⟨xs, k, rfl, _, hl, hlen, hf⟩ := DataW.trod_array ht hx
          refine opens_arr m cs (hl.trans hh.2) (fun i hi => opens n e _ l1 h1 ⟨k, xs[i]'(by omega), by rw [hf i hi]; simp [hlen, hi]⟩)
        · cases h
      · cases h
    · cases h
inductive CK where
  | one (c : CT)
  | agg (l : List CT)
def kindOf (P : Program) (t : TypeId) : Option CK := match P.underlying t with
  | some .bool => some (.one .bool)
  | some (.int k) => some (.one (.int k))
  | some .string => some (.one .str)
  | some (.struct _) | some (.array _ _) => (flat P 8 t).map CK.agg
  | _ => none
def OfK : CK → AVal → Prop
  | .one c, v => Of1 c v
  | .agg l, v => ∃ vs, v = .agg vs ∧ OfL l vs
theorem open_any {H : Type} {enc : TypeId × Value → H} {P : Program} {w : World} {base : Nat} {spare : Nat → Bool} {held : Bool} {r : Reach} {b0 : Nat} {t : TypeId} {v : Value} {d : DataW H} {p : List MemPlace} {K : CK} (hK : kindOf P t = some K)
    (hv : Value.okWide P w r b0 t v) (h : DataW.Trod enc P w base spare held t v d p) : ∃ a, (∀ ρ, v = tr ρ a) ∧ OfK K a := by
  unfold kindOf at hK
  split at hK
  · rename_i ht
    simp only [Option.some.injEq] at hK
    subst hK
    obtain ⟨b, rfl, _⟩ := open_bool ht hv h
    exact ⟨.bool b, fun _ => rfl, b, rfl⟩
  · rename_i k ht
    simp only [Option.some.injEq] at hK
    subst hK
    obtain ⟨n, rfl, _, _, hw⟩ := open_int ht hv h
    exact ⟨.int k n, fun _ => rfl, n, rfl, hw⟩
  · rename_i ht
    simp only [Option.some.injEq] at hK
    subst hK
    obtain ⟨s, rfl, _, _, hw⟩ := open_string ht hv h
    exact ⟨.str s.data.toList, fun ρ => (str_tr s ρ).symm, _, rfl, (by rw [Array.length_toList]; exact hw)⟩
  · rename_i fs ht
    obtain ⟨cs, rfl, hsz⟩ := okWide_struct ht hv
    simp only [Option.map_eq_some_iff] at hK
    obtain ⟨l, hl, rfl⟩ := hK
    obtain ⟨fuel, hf⟩ := h
    obtain ⟨avs, h1, h2⟩ := opens 8 t cs.toList l hl ⟨fuel, _, hf⟩
    exact ⟨.agg avs, fun ρ => by simp [tr, h1], avs, rfl, h2⟩
  · rename_i m e ht
    have : ∃ cs, v = .agg cs ∧ cs.size = P.cellsOf t := by
      simp only [Value.okWide, ht] at hv
      obtain ⟨cs, h1, h2, _⟩ := hv
      exact ⟨cs, h1, h2⟩
    obtain ⟨cs, rfl, hsz⟩ := this
    simp only [Option.map_eq_some_iff] at hK
    obtain ⟨l, hl, rfl⟩ := hK
    obtain ⟨fuel, hf⟩ := h
    obtain ⟨avs, h1, h2⟩ := opens 8 t cs.toList l hl ⟨fuel, _, hf⟩
    exact ⟨.agg avs, fun ρ => by simp [tr, h1], avs, rfl, h2⟩
  · cases hK
theorem okWide_has {P : Program} {w : World} {r : Reach} {b0 : Nat} {t e : TypeId} {a : Addr} {len cap : Nat} (ht : P.underlying t = some (.slice e)) (hv : Value.okWide P w r b0 t (.slice (some a) len cap)) : a.spot = none ∧ a.block < w.heap.size := by
  unfold Value.okWide at hv
  rw [ht] at hv
  simp only at hv
  unfold Cell.okWide at hv
  rw [ht] at hv
  simp only at hv
  unfold Cell.ok at hv
  rw [ht] at hv
  simp only at hv
  obtain ⟨_, _, h⟩ := hv
  obtain ⟨_, h1, row, cells, h2, _⟩ := h
  refine ⟨h1, ?_⟩
  unfold World.shape? at h2
  rcases Nat.lt_or_ge a.block w.heap.size with h3 | h3
  · exact h3
  · rw [Array.getElem?_eq_none h3] at h2; cases h2
def rho0 : Rho := ⟨fun _ => 0, fun _ => 0, fun _ => 0⟩
end Go.Proofs.Ytjacnjecggedhaa.Ev
namespace Go.Proofs.Ytjacnjecggedhaa.Ev
set_option linter.unusedVariables false
set_option linter.unusedSimpArgs false
open Go.RowKit
theorem subER_nil {N : Nat} {σ : List (Nat × Nat)} {E : Env} : subER N σ [] E := trivial
theorem subER_cons {N : Nat} {σ : List (Nat × Nat)} {t : Nat} {v u : AVal} {r E2 : Env} (h1 : getE E2 t = some u) (h2 : v.under N = true) (h3 : u = renV σ v) (h4 : subER N σ r E2) : subER N σ ((t, v) :: r) E2 := by
  unfold subER; rw [h1, h2]; exact ⟨h3, h4⟩
theorem subHR_nil {N : Nat} {σ : List (Nat × Nat)} {H : AHeap} : subHR N σ [] H := trivial
theorem subHR_cons {N b : Nat} {σ : List (Nat × Nat)} {x y : ABlk} {r : List (Nat × ABlk)} {H2 : AHeap} (h1 : H2.get (sigA σ b) = some y) (h2 : Nat.blt b N = true) (h3 : x.under N = true) (h4 : y = renB σ x) (h5 : subHR N σ r H2) : subHR N σ ((b, x) :: r) H2 := by
  unfold subHR; rw [h1, h2, h3]; exact ⟨h4, h5⟩
end Go.Proofs.Ytjacnjecggedhaa.Ev
namespace Go.Proofs.Ytjacnjecggedhaa.Ev
set_option linter.unusedVariables false
set_option linter.unusedSimpArgs false
open Go.RowKit
def seqL : Code → Code
  | .seq a _ => a
  | c => c
def seqR : Code → Code
  | .seq _ b => b
  | c => c
def bodyC (fn : Func) : Code := match fn.body with
  | some c => c
  | none => .ret
noncomputable def wpD (X : Ctx) (n : Nat) (f g t u u' : Nat) (caps : List Operand) (fn : Func) (c0 rest grest : Code) (args : List AVal) (H0 : AHeap) (K : Out → AHeap → Prop) : Prop :=
  wpC X n f H0.next c0 (env0 args 0) H0 fun x E H => match x with
    | .normal => match evalL E caps with
      | some cs => wpC X n f H.next rest ((t, .func g [] cs) :: E) H fun x E' H' => match x with
        | .normal | .ret => wpC X n g H'.next grest ((u', .niface) :: (u, .niface) :: env0 cs 0) H' fun x _ H'' => match x with
          | .normal | .ret => endA X.P fn K .ret E' H''
          | _ => False
        | .panic v => wpC X n g H'.next grest ((u', v) :: (u, v) :: env0 cs 0) H' fun x _ H'' => match x with
          | .normal | .ret => endA X.P fn K .ret E' H''
          | _ => False
        | .exit _ => False
      | none => False
    | _ => False
theorem end_results {X : Ctx} {fn : Func} {E : Env} {H : AHeap} {K : Out → AHeap → Prop} (h : endA X.P fn K .ret E H) {ρ0 ρ : Rho} {H0 : AHeap} {w0 w : World} {a : Act} (hE : RelE ρ H.next E a) (hS : Step ρ0 H0 w0 ρ H w) :
    ∃ v, (results fn a.tmps).run X.P w = .ok v w ∧ ∃ out H'' ρ'', Out.rel ρ'' H''.next out (.returned v) ∧ K out H'' ∧ Step ρ0 H0 w0 ρ'' H'' w := by
  have hH : ∀ b y, H.get b = some y → y.under H.next = true ∧ y.ok ρ w b := fun b y hy => ⟨(hS.rel.blk b y hy).2.1, (hS.rel.blk b y hy).2.2.2⟩
  simp only [endA] at h
  split at h
  · rename_i c vs hres
    obtain ⟨rfl, hk⟩ := obl_true h
    obtain ⟨r1, r2⟩ := resL_sound hE hH hres
    refine ⟨tr ρ (resA vs), ?_, .ret (resA vs), H, ρ, ⟨rfl, ?_⟩, hk, hS⟩
    · rw [results_eq, Array.mapM_eq_mapM_toList]
      simp only [Sem.run_bind, Sem.run_map, r1, Result.andThen_ok, Sem.run_pure]
      congr 1
      cases vs with
      | nil => simp [trL, resA, tr]
      | cons v vs =>
        cases vs with
        | nil => simp [trL, resA]
        | cons v' vs => simp [trL, resA, tr]
    · cases vs with
      | nil => rfl
      | cons v vs =>
        cases vs with
        | nil => simpa [resA, belowL] using r2
        | cons v' vs => exact r2
  · exact h.elim
theorem env0_rel {ρ : Rho} {N : Nat} {args : List AVal} (hargs : belowL N args = true) (m : Nat) : RelE ρ N (env0 args 0) { tmps := (trL ρ args).toArray ++ Array.replicate m undef, defers := [] } := by
  refine ⟨fun t v hv => ?_⟩
  obtain ⟨i, rfl, hi⟩ := env0_get hv
  rw [Nat.zero_add]
  have hil : i < args.length := (List.getElem?_eq_some_iff.1 hi).1
  refine ⟨?_, ?_⟩
  · rw [Array.getElem?_append_left (by simp [trL_length, hil])]
    simp [trL_get, hi]
  · rw [belowL_eq, List.all_eq_true] at hargs
    exact hargs v (List.mem_of_getElem? hi)
theorem wpD_sound {X : Ctx} (hX : CtxOk X) {n f g t u u' : Nat} {caps : List Operand} {fn gn : Func} {c0 rest grest : Code} {i j ty1 ty2 ty3 ty4 : Nat} {p1 p2 p3 p4 : String} {af2 af4 : Array Edge}
    (hf : X.fns f = some fn) (hg : X.fns g = some gn)
    (hb : fn.body = some (.seq c0 (.seq (.region i #[⟨some t, .makeFunc (.func g) #[] caps.toArray, ty1, p1, #[], none⟩, ⟨none, .defer { callee := .value (.tmp t), args := #[], argTypes := #[] }, ty2, p2, af2, none⟩] false) rest)))
    (hgb : gn.body = some (.seq (.region j #[⟨some u, .call { callee := .builtin .recover, args := #[], argTypes := #[] }, ty3, p3, #[], none⟩, ⟨some u', .assign (.tmp u), ty4, p4, af4, none⟩] false) grest))
    (hgr : gn.results = #[]) (hcaps : caps.length ≤ u ∧ caps.length ≤ u' ∧ u ≠ u' ∧ u < gn.ntmps ∧ u' < gn.ntmps)
    {args : List AVal} {H0 : AHeap} {K : Out → AHeap → Prop} (h : wpD X n f g t u u' caps fn c0 rest grest args H0 K) {ρ0 : Rho} {w0 : World} (hR : Rel ρ0 H0 w0) (hargs : belowL H0.next args = true) :
    Calls X.P f (trL ρ0 args).toArray w0 fun e w' => ∃ out H' ρ', Out.rel ρ' H'.next out e ∧ K out H' ∧ Step ρ0 H0 w0 ρ' H' w' := by
  obtain ⟨q1, q2, c2, q3, q4⟩ := hX.fns f fn hf
  rw [hb] at q3
  cases q3
  obtain ⟨g1, g2, c3, g3, g4⟩ := hX.fns g gn hg
  rw [hgb] at g3
  cases g3
  simp only [okDst, Bool.and_eq_true, List.all_cons, List.all_nil] at q4 g4
  refine calls_of_wp_defers q1 hb ?_
  have hE0 := env0_rel (ρ := ρ0) hargs (fn.ntmps - (trL ρ0 args).toArray.size)
  generalize ha0 : (Act.mk ((trL ρ0 args).toArray ++ Array.replicate (fn.ntmps - (trL ρ0 args).toArray.size) undef) []) = a0 at hE0 ⊢
  have hN0 : fn.ntmps ≤ a0.tmps.size := by rw [← ha0]; simp; omega
  have hd0 : a0.defers = [] := by rw [← ha0]
  have sub0 : ∀ {c : Code}, (∀ p ∈ blocksC c, p ∈ blocksC (.seq c0 (.seq (.region i #[⟨some t, .makeFunc (.func g) #[] caps.toArray, ty1, p1, #[], none⟩, ⟨none, .defer { callee := .value (.tmp t), args := #[], argTypes := #[] }, ty2, p2, af2, none⟩] false) rest))) → okDst fn.ntmps c = true → ∃ fn', X.fns f = some fn' ∧ fn'.ntmps ≤ a0.tmps.size ∧ ∃ body, fn'.body = some body ∧ (∀ p ∈ blocksC c, p ∈ blocksC body) ∧ okDst fn'.ntmps c = true :=
    fun hc ho => ⟨fn, hf, hN0, _, hb, hc, ho⟩
  unfold wpD at h
  refine wp_seq (wp_mono (@wpC_sound X hX ⟨[]⟩ _ _ _ _ _ _ _ h _ _ _ _ _ _ _ (Nat.le_refl _) (sub0 (fun p hp => by simp [blocksC, hp]) q4.1) (Step.refl hR) hE0 hd0 rfl) ?_)
  rintro e a1 w1 ⟨x', E1, H1, ρ1, h1, h2, h3, h4, h5, h6⟩
  cases x' with
  | exit i => exact h2.elim
  | ret => exact h2.elim
  | panic v => exact h2.elim
  | normal =>
    cases e <;> simp only [AExit.rel] at h1
    simp only at h2
    split at h2
    · rename_i cs hcs
      obtain ⟨k1, k2⟩ := evalL_tr h3 hcs
      -- the closure is made and deferred
      refine wp_seq (wp_region ?_)
      have hta : t < a1.tmps.size := by
        have := q4.2.1
        simp at this
        omega
      have ht1 : (a1.put (some t) (.func (.func g) #[] (trL ρ1 cs).toArray)).tmps[t]? = some (.func (.func g) #[] (trL ρ1 cs).toArray) := by
        simp [Act.put, hta]
      have hcm : caps.toArray.map a1.eval = (trL ρ1 cs).toArray := by rw [← k1]; simp
      have r1 : ∀ o : Oper, o.op = .makeFunc (.func g) #[] caps.toArray → (execOp a1.eval o).run X.P w1 = .ok (.value (.func (.func g) #[] (trL ρ1 cs).toArray)) w1 := by
        intro o ho
        simp only [execOp, ho, hcm]
        simp [Instr.makeFunc]
      have r2 : ∀ (a : Act) (o : Oper), a.tmps[t]? = some (.func (.func g) #[] (trL ρ1 cs).toArray) → o.op = .defer { callee := .value (.tmp t), args := #[], argTypes := #[] } → (execOp a.eval o).run X.P w1 = .ok (.defer { target := .fn (.func g) (trL ρ1 cs).toArray, args := #[] }) w1 := by
        intro a o ha ho
        have hev : a.eval (.tmp t) = .func (.func g) #[] (trL ρ1 cs).toArray := by simp [Act.eval, Array.getD_eq_getD_getElem?, ha]
        simp only [execOp, ho, resolve, Sem.run_bind, Sem.run_pure, Result.andThen_ok, hev, Deferred.ofValue]
        simp
      show wpOps X.P _ _ [0, 1] a1 w1
      unfold wpOps
      simp only [List.getElem?_toArray, List.getElem?_cons_zero]
      rw [if_pos (show Region.wanted _ _ = true from rfl)]
      refine .inl ?_
      unfold Oper.wp
      rw [r1 _ rfl, Oper.upon_value]
      unfold wpOps
      simp only [List.getElem?_toArray, List.getElem?_cons_zero, List.getElem?_cons_succ]
      rw [if_pos (show Region.wanted _ _ = true from rfl)]
      refine .inl ?_
      unfold Oper.wp
      rw [r2 _ _ ht1 rfl, Oper.upon_defer]
      unfold wpOps
      simp only [Exit.then]
      -- the rest
      generalize hD : (Deferred.mk (.fn (.func g) (trL ρ1 cs).toArray) #[]) = D
      have hE2 : RelE ρ1 H1.next ((t, .func g [] cs) :: E1) ({ (a1.put (some t) (.func (.func g) #[] (trL ρ1 cs).toArray)) with defers := D :: (a1.put (some t) (.func (.func g) #[] (trL ρ1 cs).toArray)).defers }.put none undef) := by
        have := h3.put (v := .func g [] cs) (dst := some t) (by simp [AVal.under, belowL, k2]) (fun t' ht' => by cases ht'; exact hta)
        exact ⟨fun t' v' hv' => this.get t' v' hv'⟩
      have hdD : ({ (a1.put (some t) (.func (.func g) #[] (trL ρ1 cs).toArray)) with defers := D :: (a1.put (some t) (.func (.func g) #[] (trL ρ1 cs).toArray)).defers }.put none undef).defers = [D] := by
        show D :: (a1.put (some t) _).defers = [D]
        rw [put_defers, h4]
        rfl
      have hnD : ({ (a1.put (some t) (.func (.func g) #[] (trL ρ1 cs).toArray)) with defers := D :: (a1.put (some t) (.func (.func g) #[] (trL ρ1 cs).toArray)).defers }.put none undef).tmps.size = a0.tmps.size := by
        show (a1.put (some t) _).tmps.size = _
        rw [put_size]
        exact h5
      refine wp_mono (@wpC_sound X hX ⟨[D]⟩ _ _ _ _ _ _ _ h2 _ _ _ _ _ _ _ (Nat.le_refl _) (sub0 (fun p hp => by simp [blocksC, hp]) q4.2.2) (Step.refl h6.rel) hE2 hdD hnD) ?_
      rintro e a2 w2 ⟨x2, E2, H2, ρ2, m1, m2, m3, m4, m5, m6⟩
      -- the closure runs
      have hcs2 : trL ρ2 cs = trL ρ1 cs ∧ belowL H2.next cs = true := ⟨trL_agree m6.agree cs k2, belowL_mono m6.next cs k2⟩
      have hcl : cs.length = caps.length := by
        have := congrArg List.length k1
        simpa [trL_length] using this.symm
      obtain ⟨c1, c2, c3, c4, c5⟩ := hcaps
      have gfr : ∀ (v : AVal), v.under H2.next = true → RelE ρ2 H2.next ((u', v) :: (u, v) :: env0 cs 0) ((({ tmps := (trL ρ1 cs).toArray ++ Array.replicate (gn.ntmps - (trL ρ1 cs).toArray.size) undef, defers := [] } : Act).put (some u) (tr ρ2 v)).put (some u') (tr ρ2 v)) := by
        intro v hv
        rw [← hcs2.1]
        have e0 := env0_rel (ρ := ρ2) hcs2.2 (gn.ntmps - (trL ρ2 cs).toArray.size)
        have hsz : gn.ntmps ≤ ((trL ρ2 cs).toArray ++ Array.replicate (gn.ntmps - (trL ρ2 cs).toArray.size) undef).size := by simp; omega
        have e1 := e0.put (v := v) (dst := some u) hv (fun t' ht' => by cases ht'; exact Nat.lt_of_lt_of_le c4 hsz)
        exact e1.put (v := v) (dst := some u') hv (fun t' ht' => by cases ht'; rw [put_size]; exact Nat.lt_of_lt_of_le c5 hsz)
      have hgs : ∃ fn', X.fns g = some fn' ∧ fn'.ntmps ≤ ((trL ρ1 cs).toArray ++ Array.replicate (gn.ntmps - (trL ρ1 cs).toArray.size) undef).size ∧ ∃ body, fn'.body = some body ∧ (∀ p ∈ blocksC grest, p ∈ blocksC body) ∧ okDst fn'.ntmps grest = true :=
        ⟨gn, hg, by simp; omega, _, hgb, fun p hp => by simp [blocksC, hp], g4.2⟩
      -- the closure's call, in either state
      have leave : ∀ (v : AVal) (um : FrameMode) (um' : FrameMode), v.under H2.next = true → settle um' = .returning → um ≠ .run →
          (∀ (c : Frame) (cs' : List Frame), c.mode = um → (match recoverD (c :: cs') with | some (v', cs'') => v' = tr ρ2 v ∧ cs'' = { c with mode := um' } :: cs' | none => tr ρ2 v = .nilIface ∧ um' = um)) →
          (wpC X n g H2.next grest ((u', v) :: (u, v) :: env0 cs 0) H2 fun x _ H'' => match x with
            | .normal | .ret => endA X.P fn K .ret E2 H''
            | _ => False) →
          Leaves X.P fn a2.tmps (fun e w' => ∃ out H' ρ', Out.rel ρ' H'.next out e ∧ K out H' ∧ Step ρ0 H0 w0 ρ' H' w') a2.defers um w2 := by
        intro v um um' hv hset hum hrec hw
        rw [m4]
        show Leaves X.P fn a2.tmps _ [D] um w2
        rw [← hD]
        refine leaves_cons hum (by show (callFunc g (#[] ++ (trL ρ1 cs).toArray)).run X.P w2 = .ok (.enter g (trL ρ1 cs).toArray) w2; rw [Array.empty_append]; exact g2 _ _) ?_
        refine callsD_of_wpS g1 hgb (fun c₀ cs₀ hc₀ => ?_)
        -- the closure's first region: recover, assign
        have hsz : gn.ntmps ≤ ((trL ρ1 cs).toArray ++ Array.replicate (gn.ntmps - (trL ρ1 cs).toArray.size) undef).size := by simp; omega
        generalize hb0 : ({ tmps := (trL ρ1 cs).toArray ++ Array.replicate (gn.ntmps - (trL ρ1 cs).toArray.size) undef, defers := [] } : Act) = b0 at gfr hsz ⊢
        have hsz' : gn.ntmps ≤ b0.tmps.size := by rw [← hb0]; exact hsz
        have rrec : ∀ o : Oper, o.op = .call { callee := .builtin .recover, args := #[], argTypes := #[] } → (execOp b0.eval o).run X.P w2 = .ok .recover w2 := by
          intro o ho
          simp [execOp, ho, resolve, invoke, builtin]
        have rasg : ∀ (o : Oper) (y : Value), o.op = .assign (.tmp u) → (execOp (b0.put (some u) y).eval o).run X.P w2 = .ok (.value y) w2 := by
          intro o y ho
          have hlt : u < b0.tmps.size := Nat.lt_of_lt_of_le c4 hsz'
          have hev : (b0.put (some u) y).eval (.tmp u) = y := by simp [Act.eval, Act.put, Array.getD_eq_getD_getElem?, hlt]
          simp only [execOp, ho, hev]
          rfl
        have fin : ∀ cs'', cs'' = { c₀ with mode := um' } :: cs₀ → grest.wpS X.P (bodyPostS X.P gn c₀ cs₀ fun
            | .returned _, u', w' => Leaves X.P fn a2.tmps (fun e w' => ∃ out H' ρ', Out.rel ρ' H'.next out e ∧ K out H' ∧ Step ρ0 H0 w0 ρ' H' w') [] (settle u') w'
            | .panicked chain, u', w' => Leaves X.P fn a2.tmps (fun e w' => ∃ out H' ρ', Out.rel ρ' H'.next out e ∧ K out H' ∧ Step ρ0 H0 w0 ρ' H' w') [] (raised u' chain) w'
            | .outgrown, _, w' => (fun e w' => ∃ out H' ρ', Out.rel ρ' H'.next out e ∧ K out H' ∧ Step ρ0 H0 w0 ρ' H' w') .outgrown w') ((b0.put (some u) (tr ρ2 v)).put (some u') (tr ρ2 v)) cs'' w2 := by
          rintro cs'' rfl
          refine wpS_of_wp (wp_mono (@wpC_sound X hX ⟨[]⟩ _ _ _ _ _ _ _ hw _ _ _ _ _ _ _ (Nat.le_refl _) (by
            obtain ⟨fn', z1, z2, z3⟩ := hgs
            rw [hg] at z1
            cases z1
            exact ⟨gn, hg, (by rw [put_size, put_size]; exact hsz'), z3⟩) (Step.refl m6.rel) (gfr v hv) (by rw [put_defers, put_defers, ← hb0]; rfl) rfl) ?_)
          rintro e3 a3 w3 ⟨x3, E3, H3, ρ3, n1, n2, n3, n4, n5, n6⟩
          have hfin : endA X.P fn K .ret E2 H3 → bodyPostS X.P gn c₀ cs₀ (fun
              | .returned _, u', w' => Leaves X.P fn a2.tmps (fun e w' => ∃ out H' ρ', Out.rel ρ' H'.next out e ∧ K out H' ∧ Step ρ0 H0 w0 ρ' H' w') [] (settle u') w'
              | .panicked chain, u', w' => Leaves X.P fn a2.tmps (fun e w' => ∃ out H' ρ', Out.rel ρ' H'.next out e ∧ K out H' ∧ Step ρ0 H0 w0 ρ' H' w') [] (raised u' chain) w'
              | .outgrown, _, w' => (fun e w' => ∃ out H' ρ', Out.rel ρ' H'.next out e ∧ K out H' ∧ Step ρ0 H0 w0 ρ' H' w') .outgrown w') .ret a3 ({ c₀ with mode := um' } :: cs₀) w3 := by
            intro he
            refine ⟨n4, um', rfl, .tuple #[], ?_, ?_⟩
            · simp [results, hgr]
            · show Leaves X.P fn a2.tmps _ [] (settle um') w3
              rw [hset]
              obtain ⟨vr, hr1, hr2⟩ := end_results he (m3.step n6.agree n6.next) (h6.trans (m6.trans n6))
              exact ⟨vr, hr1, hr2⟩
          cases x3 with
          | normal => cases e3 <;> simp only [AExit.rel] at n1; exact hfin n2
          | ret => cases e3 <;> simp only [AExit.rel] at n1; exact hfin n2
          | exit i => exact n2.elim
          | panic v => exact n2.elim
        refine wpS_seq (wpS_region ?_)
        show wpOpsS X.P _ _ [0, 1] b0 (c₀ :: cs₀) w2
        have hrc := hrec c₀ cs₀ hc₀
        unfold wpOpsS
        simp only [List.getElem?_toArray, List.getElem?_cons_zero]
        rw [if_pos (show Region.wanted _ _ = true from rfl), rrec _ rfl]
        simp only
        have snd : ∀ (y : Value) (cs'' : List Frame), y = tr ρ2 v → cs'' = { c₀ with mode := um' } :: cs₀ → wpOpsS X.P #[⟨some u, .call { callee := .builtin .recover, args := #[], argTypes := #[] }, ty3, p3, #[], none⟩, ⟨some u', .assign (.tmp u), ty4, p4, af4, none⟩] (Exit.thenS (grest.wpS X.P (bodyPostS X.P gn c₀ cs₀ fun
            | .returned _, u', w' => Leaves X.P fn a2.tmps (fun e w' => ∃ out H' ρ', Out.rel ρ' H'.next out e ∧ K out H' ∧ Step ρ0 H0 w0 ρ' H' w') [] (settle u') w'
            | .panicked chain, u', w' => Leaves X.P fn a2.tmps (fun e w' => ∃ out H' ρ', Out.rel ρ' H'.next out e ∧ K out H' ∧ Step ρ0 H0 w0 ρ' H' w') [] (raised u' chain) w'
            | .outgrown, _, w' => (fun e w' => ∃ out H' ρ', Out.rel ρ' H'.next out e ∧ K out H' ∧ Step ρ0 H0 w0 ρ' H' w') .outgrown w')) (bodyPostS X.P gn c₀ cs₀ fun
            | .returned _, u', w' => Leaves X.P fn a2.tmps (fun e w' => ∃ out H' ρ', Out.rel ρ' H'.next out e ∧ K out H' ∧ Step ρ0 H0 w0 ρ' H' w') [] (settle u') w'
            | .panicked chain, u', w' => Leaves X.P fn a2.tmps (fun e w' => ∃ out H' ρ', Out.rel ρ' H'.next out e ∧ K out H' ∧ Step ρ0 H0 w0 ρ' H' w') [] (raised u' chain) w'
            | .outgrown, _, w' => (fun e w' => ∃ out H' ρ', Out.rel ρ' H'.next out e ∧ K out H' ∧ Step ρ0 H0 w0 ρ' H' w') .outgrown w')) [1] (b0.put (some u) y) cs'' w2 := by
          rintro y cs'' rfl hcs''
          unfold wpOpsS
          simp only [List.getElem?_toArray, List.getElem?_cons_zero, List.getElem?_cons_succ]
          rw [if_pos (show Region.wanted _ _ = true from rfl), rasg _ _ rfl]
          simp only [Oper.upon_value]
          unfold wpOpsS
          exact fin cs'' hcs''
        split at hrc
        · rename_i v' cs'' hrr
          rw [hrr]
          exact snd v' cs'' hrc.1 hrc.2
        · rename_i hrr
          rw [hrr]
          refine snd .nilIface (c₀ :: cs₀) hrc.1.symm ?_
          rw [hrc.2, ← hc₀]
      have ok2 : ∀ um um' v, v.under H2.next = true → settle um' = .returning → um ≠ .run → (∀ (c : Frame) (cs' : List Frame), c.mode = um → (match recoverD (c :: cs') with | some (v', cs'') => v' = tr ρ2 v ∧ cs'' = { c with mode := um' } :: cs' | none => tr ρ2 v = .nilIface ∧ um' = um)) → (wpC X n g H2.next grest ((u', v) :: (u, v) :: env0 cs 0) H2 fun x _ H'' => match x with
            | .normal | .ret => endA X.P fn K .ret E2 H''
            | _ => False) → Leaves X.P fn a2.tmps (fun e w' => ∃ out H' ρ', Out.rel ρ' H'.next out e ∧ K out H' ∧ Step ρ0 H0 w0 ρ' H' w') a2.defers um w2 := fun um um' v q1 q2 q3 q4 q5 => leave v um um' q1 q2 q3 q4 q5
      have rret : ∀ (c : Frame) (cs' : List Frame), c.mode = .returning → (match recoverD (c :: cs') with | some (v', cs'') => v' = tr ρ2 .niface ∧ cs'' = { c with mode := .returning } :: cs' | none => tr ρ2 .niface = .nilIface ∧ FrameMode.returning = .returning) := by
        intro c cs' hc
        simp [recoverD, hc, tr]
      cases x2 with
      | normal => cases e <;> simp only [AExit.rel] at m1; exact ok2 .returning .returning .niface rfl rfl (by simp) rret m2
      | ret => cases e <;> simp only [AExit.rel] at m1; exact ok2 .returning .returning .niface rfl rfl (by simp) rret m2
      | exit i => exact m2.elim
      | panic v =>
        cases e <;> simp only [AExit.rel] at m1
        obtain ⟨rfl, hv⟩ := m1
        refine ok2 (.panicking [{ v := tr ρ2 v, recovered := false }]) (.panicking [{ v := tr ρ2 v, recovered := true }]) v hv rfl (by simp) (fun c cs' hc => ?_) m2
        simp [recoverD, hc]
    · exact h2.elim
theorem fc_wpD {X : Ctx} (hX : CtxOk X) {f : Nat} {c : FC} (he : ∀ vs w, (callFunc f vs).run X.P w = .ok (.enter f vs) w)
    (h : ∀ args H v, c args H = some (true, v) → belowL 0 args = true ∧ v.under 0 = true ∧ ∀ ρ w, Calls X.P f (trL ρ args).toArray w fun e w' => ∃ out H' ρ', Out.rel ρ' H'.next out e ∧ out = .ret v ∧ Step ρ ⟨0, []⟩ w ρ' H' w') : FcSound X.P f c := by
  refine fc_of_calls he (fun args H v hv => ?_)
  obtain ⟨h1, h2, h3⟩ := h args H v hv
  refine ⟨h1, h2, fun ρ w => (h3 ρ w).mono ?_⟩
  rintro e w' ⟨out, H', ρ', q1, rfl, q3⟩
  cases e <;> simp only [Out.rel] at q1
  refine ⟨by rw [q1.1, tr_agree (agree0 ρ ρ') v h2], q3.below (Nat.le_refl _) (fun g hg => ?_)⟩
  obtain ⟨b, x, hx, _⟩ := hg
  simp [AHeap.get, getB] at hx
end Go.Proofs.Ytjacnjecggedhaa.Ev
namespace Go.Proofs.Ytjacnjecggedhaa.Ev
set_option linter.unusedVariables false
set_option linter.unusedSimpArgs false
open Go.RowKit
def Out.data : Out → Bool
  | .ret v => v.under 0
  | .panic v => v.under 0
noncomputable def gcCell (e : TypeId) (F : List AVal → List AVal → (Out → List AVal → Prop) → Prop) : GC := fun args H K => match args with
  | .ptr b 0 0 0 :: r => match H.get b with
    | some (.cells e' l) => match Nat.beq e' e && (belowL 0 l && belowL 0 r) with
      | true => F l r (fun out l' => forceH (H.put b (.cells e l')) (K out))
      | false => Stuck 30 []
    | _ => Stuck 31 []
  | _ => Stuck 32 []
noncomputable def gcData (F : List AVal → (Out → Prop) → Prop) : GC := fun args H K => match belowL 0 args with
  | true => F args (fun out => K out H)
  | false => Stuck 33 []
theorem trL_data {l : List AVal} (h : belowL 0 l = true) (ρ ρ' : Rho) : trL ρ l = trL ρ' l := trL_agree (agree0 ρ' ρ) l h
theorem tr_data {v : AVal} (h : v.under 0 = true) (ρ ρ' : Rho) : tr ρ v = tr ρ' v := tr_agree (agree0 ρ' ρ) v h
theorem Out.rel_data {ρ ρ' : Rho} {N N' : Nat} {out : Out} {e : Ending} (h : Out.rel ρ N out e) (hd : out.data = true) : Out.rel ρ' N' out e := by
  cases out <;> cases e <;> simp only [Out.rel] at h ⊢
  · exact ⟨by rw [h.1]; exact tr_data hd _ _, AVal.under_mono (Nat.zero_le _) _ hd⟩
  · exact ⟨by rw [h.1, tr_data hd ρ ρ'], AVal.under_mono (Nat.zero_le _) _ hd⟩
theorem gc_data {X : Ctx} (hX : CtxOk X) {f n : Nat} {F : List AVal → (Out → Prop) → Prop} (he : ∀ vs w, (callFunc f vs).run X.P w = .ok (.enter f vs) w)
    (h : ∀ r k, F r k → callC X n f r ⟨0, []⟩ (fun out _ => out.data = true ∧ k out)) : GcSound X.P f (gcData F) := by
  intro args H K hK ρ w hR hargs
  refine ⟨he, ?_⟩
  unfold gcData at hK
  split at hK
  · rename_i hd
    refine ((callC_ok hX n) f _ _ _ (h _ _ hK) ρ w (rel_nil ρ w) hd).2.mono ?_
    rintro e w' ⟨out, H', ρ', h1, ⟨h2, h3⟩, h4⟩
    refine ⟨out, H, ρ, Out.rel_data h1 h2, h3, Step.grow hR (h4.below (Nat.le_refl _) (fun g hg => ?_))⟩
    obtain ⟨b, x, hx, _⟩ := hg
    simp [AHeap.get, getB] at hx
  · exact (not_stuck hK).elim
theorem gc_cell {X : Ctx} (hX : CtxOk X) {f n e : Nat} {F : List AVal → List AVal → (Out → List AVal → Prop) → Prop} (he : ∀ vs w, (callFunc f vs).run X.P w = .ok (.enter f vs) w)
    (h : ∀ l r k, F l r k → callC X n f (.ptr 0 0 0 0 :: r) ⟨1, [(0, .cells e l)]⟩ (fun out H' => ∃ l', H'.get 0 = some (.cells e l') ∧ belowL 0 l' = true ∧ out.data = true ∧ k out l')) : GcSound X.P f (gcCell e F) := by
  intro args H K hK ρ w hR hargs
  refine ⟨he, ?_⟩
  unfold gcCell at hK
  split at hK
  · rename_i b r
    split at hK
    · rename_i e' l hb
      split at hK
      · rename_i hd
        simp only [Bool.and_eq_true] at hd
        obtain ⟨hee, hl, hr⟩ := hd
        have hee := nat_beq_eq.1 hee
        subst hee
        obtain ⟨q1, q2, q3, q4⟩ := hR.blk b _ hb
        obtain ⟨c1, c2, fz, c3, c4⟩ := q4
        have hrel : Rel ⟨fun _ => ρ.blk b, fun _ => 0, fun _ => 0⟩ ⟨1, [(0, .cells e' l)]⟩ w := by
          refine ⟨fun c x hx => ?_, fun c c' x x' hx hx' ho hne => ?_⟩
          · obtain ⟨rfl, hx⟩ := get_one hx
            have hx2 : some (ABlk.cells e' l) = some x := hx
            cases hx2
            refine ⟨Nat.one_pos, belowL_mono (Nat.zero_le _) _ hl, q3, rfl, c2, fz, ?_, c4⟩
            show w.heap[ρ.blk b]? = _
            rw [c3, trL_data hl]
          · obtain ⟨rfl, _⟩ := get_one hx
            obtain ⟨rfl, _⟩ := get_one hx'
            exact absurd rfl hne
        have hcall := ((callC_ok hX n) f _ _ _ (h _ _ _ hK) _ w hrel (by
          simp only [belowL, AVal.under, Bool.and_eq_true]
          exact ⟨rfl, belowL_mono (Nat.zero_le _) _ hr⟩)).2
        have hargs' : trL ⟨fun _ => ρ.blk b, fun _ => 0, fun _ => 0⟩ (.ptr 0 0 0 0 :: r) = trL ρ (.ptr b 0 0 0 :: r) := by
          simp only [trL, tr, c1]
          rw [trL_data hr]
        rw [hargs'] at hcall
        refine hcall.mono ?_
        rintro en w' ⟨out, H', ρ', h1, ⟨l', h2, h3, h4, h5⟩, h6⟩
        have h5 : K out (H.put b (.cells e' l')) := by
          have h5' : forceH (H.put b (.cells e' l')) (K out) := h5
          rwa [forceH_eq] at h5'
        have hown1 : ∀ g, Owns ⟨fun _ => ρ.blk b, fun _ => 0, fun _ => 0⟩ ⟨1, [(0, .cells e' l)]⟩ g → g = ρ.blk b := by
          rintro g ⟨c, x, hx, _, rfl⟩
          rfl
        have hownb : Owns ρ H (ρ.blk b) := ⟨b, _, hb, rfl, rfl⟩
        obtain ⟨a1, a2, _⟩ := h6.agree 0 (Nat.one_pos : 0 < 1)
        obtain ⟨_, _, r3, r4⟩ := h6.rel.blk 0 _ h2
        obtain ⟨d1, d2, fz', d3, d4⟩ := r4
        rw [a1] at r3 d3
        have hstep : Step ρ H w ρ (H.put b (.cells e' l')) w' := by
          refine ⟨Rho.agree.refl _ _, Nat.le_refl _, ⟨fun c x hx => ?_, fun c c' x x' hx hx' ho hne => ?_⟩, h6.os, h6.tape, h6.output, h6.size, fun g hg hn => ?_, fun g hg => ?_⟩
          · rw [AHeap.get_put] at hx
            by_cases hc : b = c
            · rw [if_pos hc] at hx
              subst hc
              simp only [ABlk.live, Option.some.injEq] at hx
              subst hx
              refine ⟨q1, belowL_mono (Nat.zero_le _) _ h3, r3, c1, d2, fz', ?_, d4⟩
              rw [d3, trL_data h3]
            · rw [if_neg hc] at hx
              obtain ⟨s1, s2, s3, s4⟩ := hR.blk c x hx
              refine ⟨s1, s2, Nat.lt_of_lt_of_le s3 h6.size, ABlk.ok_keep s4 s2 (Rho.agree.refl _ _) s1 h6.size (h6.old _ s3 fun ho => ?_)⟩
              exact hR.inj b c _ x hb hx rfl hc (hown1 _ ho).symm
          · rw [AHeap.get_put] at hx hx'
            by_cases hc : b = c
            · subst hc
              rw [if_neg hne] at hx'
              exact hR.inj b c' _ x' hb hx' rfl hne
            · rw [if_neg hc] at hx
              by_cases hc' : b = c'
              · subst hc'
                exact hR.inj c b x _ hx hb ho hne
              · rw [if_neg hc'] at hx'
                exact hR.inj c c' x x' hx hx' ho hne
          · exact h6.old g hg fun ho => hn (by rw [hown1 g ho]; exact hownb)
          · obtain ⟨c, x, hx, ho, rfl⟩ := hg
            rw [AHeap.get_put] at hx
            by_cases hc : b = c
            · subst hc
              exact .inr hownb
            · rw [if_neg hc] at hx
              exact .inr ⟨c, x, hx, ho, rfl⟩
        exact ⟨out, H.put b (.cells e' l'), ρ, Out.rel_data h1 h4, h5, hstep⟩
      · exact (not_stuck hK).elim
    · exact (not_stuck hK).elim
  · exact (not_stuck hK).elim
end Go.Proofs.Ytjacnjecggedhaa.Ev
namespace Go.Proofs.Ytjacnjecggedhaa.Ev
set_option linter.unusedVariables false
set_option linter.unusedSimpArgs false
open Go.RowKit
noncomputable def wpN (X : Ctx) : Nat → Nat → Nat → Nat → Code → Env → AHeap → (Env → AHeap → Prop) → (AExit → Env → AHeap → Prop) → Prop
  | 0, _, _, _, _, E, H, KK, _ => KK E H
  | _ + 1, 0, _, _, _, _, _, _, _ => False
  | k + 1, n + 1, f, base, c, E, H, KK, Q => wpC X n f base (seqL c) E H fun x E H => match x with
    | .normal => wpN X k n f base (seqR c) E H KK Q
    | .exit i => Q (.exit i) E H
    | .ret => Q .ret E H
    | .panic v => Q (.panic v) E H
def isSeqs : Nat → Code → Bool
  | 0, _ => true
  | k + 1, .seq _ b => isSeqs k b
  | _ + 1, _ => false
def tailN : Nat → Code → Code
  | 0, c => c
  | k + 1, c => tailN k (seqR c)
end Go.Proofs.Ytjacnjecggedhaa.Ev
namespace Go.Proofs.Ytjacnjecggedhaa
set_option linter.unusedVariables false
set_option linter.unusedSimpArgs false
open Go.RowKit Ev
structure BoolR where
  b : Bool
deriving DecidableEq
abbrev boolRow : RowTy where
  α := BoolR
  sz := 1
  dflt := ⟨false⟩
  enc := fun p => [.bool p.b]
  dec := fun cs => match cs with
    | [.bool b] => some (true, ⟨b⟩)
    | _ => none
  len := fun _ => rfl
  isData := fun _ => rfl
  dec_enc := fun cs a h => by
    split at h
    · simp only [Option.some.injEq, Prod.mk.injEq, true_and] at h
      subst h; rfl
    · cases h
  bytes := none
  toB := fun f g h => by cases h
structure CutR where
  typ : Int
  k : Int
  lb : List UInt8
  data : List UInt8
  pos : Int
  id : Int
deriving DecidableEq
abbrev cutRow : RowTy where
  α := CutR
  sz := 6
  dflt := ⟨0, 0, [], [], 0, 0⟩
  enc := fun p => [.int .i64 p.typ, .int .i64 p.k, .str p.lb, .str p.data, .int .i64 p.pos, .int .i64 p.id]
  dec := fun cs => match cs with
    | [.int .i64 typ, .int .i64 k, .str lb, .str data, .int .i64 pos, .int .i64 id] => some (true, ⟨typ, k, lb, data, pos, id⟩)
    | _ => none
  len := fun _ => rfl
  isData := fun _ => rfl
  dec_enc := fun cs a h => by
    split at h
    · simp only [Option.some.injEq, Prod.mk.injEq, true_and] at h
      subst h; rfl
    · cases h
  bytes := none
  toB := fun f g h => by cases h
structure PackR where
  cls : Int
  lab : Int
  pos : Int
  data : List UInt8
  zeros : Int
deriving DecidableEq
abbrev packRow : RowTy where
  α := PackR
  sz := 5
  dflt := ⟨0, 0, 0, [], 0⟩
  enc := fun p => [.int .u8 p.cls, .int .u8 p.lab, .int .u8 p.pos, .str p.data, .int .u16 p.zeros]
  dec := fun cs => match cs with
    | [.int .u8 cls, .int .u8 lab, .int .u8 pos, .str data, .int .u16 zeros] => some (true, ⟨cls, lab, pos, data, zeros⟩)
    | _ => none
  len := fun _ => rfl
  isData := fun _ => rfl
  dec_enc := fun cs a h => by
    split at h
    · simp only [Option.some.injEq, Prod.mk.injEq, true_and] at h
      subst h; rfl
    · cases h
  bytes := none
  toB := fun f g h => by cases h
end Go.Proofs.Ytjacnjecggedhaa
namespace Go.Proofs.Ytjacnjecggedhaa
set_option linter.unusedVariables false
set_option linter.unusedSimpArgs false
open Go.RowKit Ev
structure PieceR where
  st : Bool
  en : Bool
  id : Int
  total : Int
  typ : Int
  k : Int
  lb : List UInt8
  data : List UInt8
  sum : List UInt8
deriving DecidableEq
def PieceR.cells (p : PieceR) : List AVal := [.bool p.st, .bool p.en, .int .i64 p.id, .int .i64 p.total, .int .i64 p.typ, .int .i64 p.k, .str p.lb, .str p.data, .str p.sum]
abbrev pieceRow : RowTy where
  α := PieceR
  sz := 9
  dflt := ⟨false, false, 0, 0, 0, 0, [], [], []⟩
  enc := fun p => [.bool p.st, .bool p.en, .int .i64 p.id, .int .i64 p.total, .int .i64 p.typ, .int .i64 p.k, .str p.lb, .str p.data, .str p.sum]
  dec := fun cs => match cs with
    | [.bool st, .bool en, .int .i64 id, .int .i64 total, .int .i64 typ, .int .i64 k, .str lb, .str data, .str sum] => some (true, ⟨st, en, id, total, typ, k, lb, data, sum⟩)
    | _ => none
  len := fun _ => rfl
  isData := fun _ => rfl
  dec_enc := fun cs a h => by
    split at h
    · simp only [Option.some.injEq, Prod.mk.injEq, true_and] at h
      subst h; rfl
    · cases h
  bytes := none
  toB := fun f g h => by cases h
end Go.Proofs.Ytjacnjecggedhaa
