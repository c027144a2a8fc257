/-
  Ev: a range over a function, whose rounds and whose iterator are reckoned.
-/
import Derived.Test.YtjacnjecggedhaaEm4
import Derived.RangeFuncRecord
import Derived.RangeFuncCalls
import Derived.TacticsIn
namespace Go.Proofs.Ytjacnjecggedhaa.Ev
set_option linter.unusedVariables false
set_option linter.unusedSimpArgs false
open Go.RowKit

/-! ### code in a round's frame -/

theorem opIn_of_wp {P : Program} {o : Oper} {a : Act} {w : World} {next : Act → World → Prop} {Q : Exit → Act → World → Prop} (h : o.wp P a w next Q) (hnd : ∀ c, o.op ≠ .defer c) (ro : Option Nat) (m : Nat) :
    o.wpIn { Fence.wide with round := ro } m P a w next Q := by
  refine ⟨fun f _ => trivial, ?_⟩
  have e : o.semAt ro a.eval = execOp a.eval o := Oper.semAt_eq ro _ _ hnd
  show o.uponIn _ _ _ _ _ _ ((o.semAt ro a.eval).run P w)
  rw [e]
  unfold Oper.wp at h
  generalize (execOp a.eval o).run P w = r at h
  unfold Oper.upon at h
  unfold Oper.uponIn
  split at h
  · exact h
  · exact h
  · exact h
  · refine ⟨fun hd => by simp [Fence.wide] at hd, ?_⟩
    have := (callsIn_wide (n := m - 1)).2 h
    exact this
  · refine ⟨fun hd => by simp [Fence.wide] at hd, ?_⟩
    intro c cs _
    obtain ⟨v, w', h1, h2⟩ := h c cs
    exact ⟨v, w', h1, stepsIn_wide.2 h2⟩
  · exact h
  · exact h.elim

def notDefer (o : Oper) : Bool := match o.op with
  | .defer _ => false
  | _ => true
theorem notDefer_ne {o : Oper} (h : notDefer o = true) : ∀ c, o.op ≠ .defer c := by
  intro c hc
  simp [notDefer, hc] at h

theorem wpSeqI_sound [Dfs] {X : Ctx} (hX : CtxRows X) (hF : FcOk X) {sm : Bool} {cf : CallF} (hC : CallOk X cf) {ops : Array Oper} {Q : AExit → Env → AHeap → Prop} {ρ0 : Rho} {H0 : AHeap} {w0 : World} {n : Nat} (hdst : ∀ (j : Nat) (o : Oper) (t : Nat), ops[j]? = some o → o.dst = some t → t < n) (hnd : ∀ (j : Nat) (o : Oper), ops[j]? = some o → notDefer o = true) (ro : Option Nat) (m : Nat) :
    ∀ (rest : List Oper) (k : Nat), (∀ j, rest[j]? = ops[k + j]?) → ∀ (E : Env) (H : AHeap) (ρ : Rho) (a : Act) (w : World), wpSeq X sm cf ops.toList rest E H Q → Step ρ0 H0 w0 ρ H w → RelE ρ H.next E a → a.defers = Dfs.D → a.tmps.size = n →
      wpOpsIn { Fence.wide with round := ro } m X.P ops (Lift ρ0 H0 w0 n Q) (List.range' k rest.length) a w
  | [], k, _, E, H, ρ, a, w, h, hS, hE, hd, hn => ⟨.normal, E, H, ρ, trivial, h, hE, hd, hn, hS⟩
  | o :: rest, k, hr, E, H, ρ, a, w, h, hS, hE, hd, hn => by
    have h0 : ops[k]? = some o := by simpa using (hr 0).symm
    have hr' : ∀ j, rest[j]? = ops[k + 1 + j]? := fun j => by have := hr (j + 1); simpa [Nat.add_assoc, Nat.add_comm 1 j] using this
    have hdo : ∀ t, o.dst = some t → t < n := fun t ht => hdst k o t h0 ht
    simp only [List.length_cons, List.range'_succ, wpOpsIn, h0]
    have yes : ∀ E', RelE ρ H.next E' a → stepA X sm cf o E' H (fun E H => wpSeq X sm cf ops.toList rest E H Q) Q → o.wpIn { Fence.wide with round := ro } m X.P a w (wpOpsIn { Fence.wide with round := ro } m X.P ops (Lift ρ0 H0 w0 n Q) (List.range' (k + 1) rest.length)) (Lift ρ0 H0 w0 n Q) := by
      intro E' hE' hs
      exact opIn_of_wp (stepA_sound hX hF hC hs hS hE' hd hn hdo (fun E'' H'' ρ'' a'' w'' hk hS' hE'' hd' hn' _ _ => wpSeqI_sound hX hF hC hdst hnd ro m rest (k + 1) hr' E'' H'' ρ'' a'' w'' hk hS' hE'' hd' hn')) (notDefer_ne (hnd k o h0)) ro m
    have no : ∀ E', RelE ρ H.next E' a → wpSeq X sm cf ops.toList rest (putE E' o.dst (.tup [])) H Q → (∀ f, o.about X.P w a.eval = some f → True) ∧ wpOpsIn { Fence.wide with round := ro } m X.P ops (Lift ρ0 H0 w0 n Q) (List.range' (k + 1) rest.length) (a.put o.dst undef) w := by
      intro E' hE' hs
      have := hE'.put (v := .tup []) (dst := o.dst) rfl (fun t ht => by rw [hn]; exact hdo t ht)
      exact ⟨fun _ _ => trivial, wpSeqI_sound hX hF hC hdst hnd ro m rest (k + 1) hr' _ H ρ _ w hs hS this (by rw [put_defers]; exact hd) (by rw [put_size]; exact hn)⟩
    unfold wpSeq at h
    split at h
    · rename_i hw
      rw [if_pos (wantA_yes hw a)]
      exact yes E hE h
    · rename_i hw
      rw [if_neg (by rw [wantA_no hw hE]; simp)]
      exact no E hE h
    · rename_i t b want hw
      obtain ⟨h1, h2⟩ := wantA_ask hw hE
      rw [h1]
      split at h
      · rw [branch_iff] at h
        cases b with
        | true => rw [if_pos (show (true == true) = true from rfl)]; exact yes _ (hE.over h2) (h.1 rfl)
        | false => rw [if_neg (by simp)]; exact no _ (hE.over h2) (h.2 rfl)
      · rw [branch_iff] at h
        cases b with
        | true => rw [if_neg (by simp)]; exact no _ (hE.over h2) (h.1 rfl)
        | false => rw [if_pos (show (false == false) = true from rfl)]; exact yes _ (hE.over h2) (h.2 rfl)
    · exact (not_stuck h).elim

/-- Code that may stand in a round: no loops, no open orders, no deferred calls. -/
def plainC : Code → Bool
  | .skip | .ret | .exit _ => true
  | .seq a b => plainC a && plainC b
  | .cond _ a b => plainC a && plainC b
  | .block _ c => plainC c
  | .region _ ops draw => !draw && ops.toList.all notDefer
  | _ => false

theorem callC_all {X : Ctx} (hX : CtxOk X) (n : Nat) : CallOk X (callC X n) := callC_ok hX n

theorem wpCI_sound {X : Ctx} (hX : CtxOk X) [Dfs] {fn : Func} (ro : Option Nat) (m : Nat) : ∀ (n : Nat) (f : FuncId) (base : Nat) (c : Code) (E : Env) (H : AHeap) (Q : AExit → Env → AHeap → Prop), wpC X n f base c E H Q →
    (∀ p ∈ blocksC c, X.lcs f p.1 = none) → plainC c = true → okDst fn.ntmps c = true → ∀ {ρ0 : Rho} {H0 : AHeap} {w0 : World} {N : Nat} {ρ : Rho} {a : Act} {w : World}, fn.ntmps ≤ N →
      Step ρ0 H0 w0 ρ H w → RelE ρ H.next E a → a.defers = Dfs.D → a.tmps.size = N → c.wpIn { Fence.wide with round := ro } m X.P (Lift ρ0 H0 w0 N Q) a w := by
  intro n
  induction n with
  | zero => intro f base c E H Q h; exact (not_stuck h).elim
  | succ n ih =>
    intro f base c E H Q h hl hp hok ρ0 H0 w0 N ρ a w hN0 hS hE hd hN
    unfold wpC at h
    cases c with
    | skip => exact wpIn_skip ⟨.normal, E, H, ρ, trivial, h, hE, hd, hN, hS⟩
    | ret => exact wpIn_ret ⟨.ret, E, H, ρ, trivial, h, hE, hd, hN, hS⟩
    | exit id => exact wpIn_exit ⟨.exit id, E, H, ρ, rfl, h, hE, hd, hN, hS⟩
    | seq x y =>
      simp only [okDst, plainC, Bool.and_eq_true] at hok hp
      refine wpIn_seq (wpIn_mono (ih f base x E H _ h (fun p hpp => hl p (by simp [blocksC, hpp])) hp.1 hok.1 hN0 hS hE hd hN) ?_)
      rintro e a' w' ⟨x', E', H', ρ', h1, h2, h3, h4, h5, h6⟩
      cases x' with
      | normal =>
        cases e <;> simp only [AExit.rel] at h1
        exact ih f base y E' H' Q h2 (fun p hpp => hl p (by simp [blocksC, hpp])) hp.2 hok.2 hN0 h6 h3 h4 h5
      | exit i => cases e <;> simp only [AExit.rel] at h1; exact ⟨.exit i, E', H', ρ', h1, h2, h3, h4, h5, h6⟩
      | ret => cases e <;> simp only [AExit.rel] at h1; exact ⟨.ret, E', H', ρ', trivial, h2, h3, h4, h5, h6⟩
      | panic v => cases e <;> simp only [AExit.rel] at h1; exact ⟨.panic v, E', H', ρ', h1, h2, h3, h4, h5, h6⟩
    | cond b x y =>
      simp only [okDst, plainC, Bool.and_eq_true] at hok hp
      simp only at h
      split at h
      · rename_i b' hb
        obtain ⟨h1, h2⟩ := evalO_tr hE hb
        rw [branch_iff] at h
        refine wpIn_cond_split (t := b') (by rw [h1]; rfl) (fun ht => ?_) (fun ht => ?_)
        · exact ih f base x E H Q (h.1 ht) (fun p hpp => hl p (by simp [blocksC, hpp])) hp.1 hok.1 hN0 hS hE hd hN
        · exact ih f base y E H Q (h.2 ht) (fun p hpp => hl p (by simp [blocksC, hpp])) hp.2 hok.2 hN0 hS hE hd hN
      · exact h.elim
    | block id c =>
      simp only [okDst, plainC] at hok hp
      have hlc : X.lcs f id = none := hl (id, c) (by simp [blocksC])
      simp only [hlc] at h
      refine wpIn_block (wpIn_mono (ih f base c E H _ h (fun p hpp => hl p (by simp [blocksC, hpp])) hp hok hN0 hS hE hd hN) ?_)
      rintro e a' w' ⟨x', E', H', ρ', h1, h2, h3, h4, h5, h6⟩
      cases x' with
      | normal => cases e <;> simp only [AExit.rel] at h1; exact ⟨.normal, E', H', ρ', trivial, h2, h3, h4, h5, h6⟩
      | exit i =>
        cases e <;> simp only [AExit.rel] at h1
        subst h1
        simp only [inBlk] at h2
        split at h2
        · rename_i hi
          have := nat_beq_eq.1 hi
          simp only [Exit.inBlock, if_pos this]
          exact ⟨.normal, E', H', ρ', trivial, h2, h3, h4, h5, h6⟩
        · rename_i hi
          have := nat_beq_ne.1 hi
          simp only [Exit.inBlock, if_neg this]
          exact ⟨.exit i, E', H', ρ', rfl, h2, h3, h4, h5, h6⟩
      | ret => cases e <;> simp only [AExit.rel] at h1; exact ⟨.ret, E', H', ρ', trivial, h2, h3, h4, h5, h6⟩
      | panic v => cases e <;> simp only [AExit.rel] at h1; exact ⟨.panic v, E', H', ρ', h1, h2, h3, h4, h5, h6⟩
    | region id ops draw =>
      simp only [okDst, plainC, Bool.and_eq_true, Bool.not_eq_true'] at hok hp
      obtain ⟨rfl, hp⟩ := hp
      have hdst : ∀ (j : Nat) (o : Oper) (t : Nat), ops[j]? = some o → o.dst = some t → t < N := by
        intro j o t hj ht
        rw [List.all_eq_true] at hok
        have := hok o (List.mem_of_getElem? (by simpa using hj))
        rw [ht] at this
        have hlt : t < fn.ntmps := by simpa using this
        omega
      have hnd : ∀ (j : Nat) (o : Oper), ops[j]? = some o → notDefer o = true := by
        intro j o hj
        rw [List.all_eq_true] at hp
        exact hp o (List.mem_of_getElem? (by simpa using hj))
      refine wpIn_region ?_
      have := wpSeqI_sound hX.rows hX.fcs (callC_all hX n) (ops := ops) hdst hnd ro m ops.toList 0 (by simp) E H ρ a w h hS hE hd hN
      rw [List.range_eq_range']
      simpa using this
    | _ => simp [plainC] at hp


/-! ### objects that are no cells -/

theorem own_cells {ρ : Rho} {H : AHeap} {w : World} (hR : Rel ρ H w) {g : Nat} (h : Owns ρ H g) : ∃ cs e fz, w.heap[g]? = some (.cells cs e fz) := by
  obtain ⟨b, x, hx, ho, rfl⟩ := h
  obtain ⟨_, _, _, h4⟩ := hR.blk b x hx
  cases x with
  | cells e l => obtain ⟨_, _, fz, h, _⟩ := h4; exact ⟨_, _, _, h⟩
  | row e T l md =>
    cases md with
    | plain => obtain ⟨cur, fz, h, _⟩ := h4.cells; exact ⟨_, _, _, h⟩
    | strish => obtain ⟨cur, fz, h, _⟩ := h4.cells; exact ⟨_, _, _, h⟩
    | ro => cases ho
  | dead => cases ho

theorem Rel.obj {ρ : Rho} {H : AHeap} {w : World} (hR : Rel ρ H w) {l : Nat} {o : Obj} (ho : w.heap[l]? = some o) (hc : o.isCells = false) (o' : Obj) : Rel ρ H (w.putObj l o') := by
  refine ⟨fun b x hx => ?_, hR.inj⟩
  obtain ⟨h1, h2, h3, h4⟩ := hR.blk b x hx
  have keep : ∀ {cs e fz}, w.heap[ρ.blk b]? = some (.cells cs e fz) → (w.putObj l o').heap[ρ.blk b]? = some (.cells cs e fz) := by
    intro cs e fz h
    rw [World.putObj_heap_other (fun e => by rw [e, ho] at h; cases h; simp [Obj.isCells] at hc)]
    exact h
  refine ⟨h1, h2, by simpa using h3, ?_⟩
  cases x with
  | cells e l' => obtain ⟨q1, q2, fz, q3, q4⟩ := h4; exact ⟨q1, q2, fz, keep q3, q4⟩
  | row e T l' md =>
    cases md with
    | plain => obtain ⟨q1, q2, q3, cur, fz, q4, q5⟩ := h4; exact ⟨q1, q2, q3, cur, fz, keep q4, q5⟩
    | strish => obtain ⟨q1, q2, q3, cur, fz, q4, q5⟩ := h4; exact ⟨q1, q2, q3, cur, fz, keep q4, q5⟩
    | ro =>
      obtain ⟨q1, q2, q3, q4⟩ := h4
      refine ⟨q1, q2, by simpa using q3, fun i v hi => ?_⟩
      have := q4 i v hi
      unfold World.cell? at this ⊢
      simp only at this ⊢
      split at this
      · rename_i cs e' fz hcs
        rw [keep hcs]
        exact this
      · cases this
  | dead => trivial

theorem Step.obj {ρ0 ρ : Rho} {H0 H : AHeap} {w0 w : World} (hS : Step ρ0 H0 w0 ρ H w) {l : Nat} {o : Obj} (hl : w0.heap.size ≤ l) (ho : w.heap[l]? = some o) (hc : o.isCells = false) (o' : Obj) : Step ρ0 H0 w0 ρ H (w.putObj l o') :=
  ⟨hS.agree, hS.next, hS.rel.obj ho hc o', hS.os, hS.tape, hS.output, by simpa using hS.size, fun g hg hn => by rw [World.putObj_heap_other (by omega)]; exact hS.old g hg hn, hS.owns⟩

theorem Step.keeps {ρ ρ' : Rho} {H H' : AHeap} {w w' : World} (hS : Step ρ H w ρ' H' w') {l : Nat} {o : Obj} (ho : w.heap[l]? = some o) (hc : o.isCells = false) (hR : Rel ρ H w) : w'.heap[l]? = some o := by
  rw [hS.old l (Array.getElem?_eq_some_iff.1 ho).1 fun hn => by
    obtain ⟨cs, e, fz, h⟩ := own_cells hR hn
    rw [ho] at h
    cases h
    simp [Obj.isCells] at hc]
  exact ho

/-! ### a round -/

/-- The loop's record: none, or a jump is pending. -/
def recL (f : Nat) (T : Array Value) (ps : Array Tmp) (assign body : Code) (D : Nat) (pd : Option Code) : Loop :=
  { state := if pd.isNone then .ready else .done, pending := pd, fn := f, tmps := T, params := ps, assign, body, defers := D }

def foldE : List Nat → List AVal → Env → Env
  | t :: ts, v :: vs, E => foldE ts vs ((t, v) :: E)
  | _, _, E => E

theorem foldE_rel {ρ : Rho} {N : Nat} : ∀ (ps : List Nat) (as : List AVal) (E : Env) (T : Array Value), RelE ρ N E { tmps := T, defers := [] } → belowL N as = true → (∀ t ∈ ps, t < T.size) →
    RelE ρ N (foldE ps as E) { tmps := (ps.zip (trL ρ as)).foldl (fun t p => t.setIfInBounds p.1 p.2) T, defers := [] }
  | [], as, E, T, h, _, _ => by cases as <;> exact h
  | t :: ts, [], E, T, h, _, _ => h
  | t :: ts, v :: vs, E, T, h, hb, ht => by
    simp only [belowL, Bool.and_eq_true] at hb
    simp only [foldE, trL, List.zip_cons_cons, List.foldl_cons]
    refine foldE_rel ts vs _ _ ?_ hb.2 (fun x hx => by simpa using ht x (List.mem_cons_of_mem _ hx))
    have := h.put (v := v) (dst := some t) hb.1 (fun t' ht' => by cases ht'; exact ht _ (List.mem_cons_self))
    exact ⟨fun u x hx => this.get u x hx⟩

/-- A round, as it is reckoned: how it is left. -/
noncomputable def roundA (X : Ctx) (n f : Nat) (ET : Env) (ps : List Nat) (assign body : Code) (as : List AVal) (H : AHeap) (K : Option Code → AHeap → Prop) : Prop :=
  match Nat.beq as.length ps.length with
  | true => wpC X n f H.next assign (foldE ps as ET) H fun x E1 H1 => match x with
    | .normal => wpC X n f H.next body E1 H1 fun x _ H2 => match x with
      | .normal => K none H2
      | .ret => K (some .ret) H2
      | .exit i => K (some (.exit i)) H2
      | .panic _ => False
    | _ => False
  | false => False

/-- What is fixed of a loop. -/
structure LoopOk (X : Ctx) (f : Nat) (fn : Func) (ps : List Nat) (assign body : Code) : Prop where
  la : ∀ p ∈ blocksC assign, X.lcs f p.1 = none
  lb : ∀ p ∈ blocksC body, X.lcs f p.1 = none
  pa : plainC assign = true
  pb : plainC body = true
  oa : okDst fn.ntmps assign = true
  ob : okDst fn.ntmps body = true
  ps : ∀ t ∈ ps, t < fn.ntmps

theorem round_sound {X : Ctx} (hX : CtxOk X) {f n fr : Nat} {fn : Func} {ps : List Nat} {assign body : Code} (hL : LoopOk X f fn ps assign body) {ET : Env} {T : Array Value} {as : List AVal} {H : AHeap} {K : Option Code → AHeap → Prop} (h : roundA X n f ET ps assign body as H K)
    {ρ0 ρ : Rho} {H0 : AHeap} {w0 w : World} {l D : Nat} (hS : Step ρ0 H0 w0 ρ H w) (hT : RelE ρ H.next ET { tmps := T, defers := [] }) (hTs : fn.ntmps ≤ T.size) (has : belowL H.next as = true) (hl0 : w0.heap.size ≤ l)
    (hl : w.heap[l]? = some (.loop (recL fr T ps.toArray assign body D none))) (hD : w.heap[D]? = some (.deferred (some []))) (m : Nat) :
    ∃ T', (Instr.yield l (trL ρ as).toArray).run X.P w = .ok (.round l fr T' assign body) w ∧ RoundIn Fence.wide m X.P l fr T' assign body w fun e w' => ∃ jump H' ρ', e = .returned (.bool jump.isNone) ∧ K jump H' ∧ Rho.agree H.next ρ ρ' ∧ H.next ≤ H'.next ∧ Step ρ0 H0 w0 ρ' H' w' ∧ w'.heap[l]? = some (.loop (recL fr T ps.toArray assign body D jump)) ∧ w'.heap[D]? = some (.deferred (some [])) := by
  have hlen : as.length = ps.length := by
    unfold roundA at h
    split at h
    · rename_i hb; exact nat_beq_eq.1 hb
    · exact h.elim
  have hy := run_yield (P := X.P) (args := (trL ρ as).toArray) hl (by simp [recL, trL_length, hlen])
  refine ⟨_, hy, ?_⟩
  unfold roundA at h
  rw [nat_beq_eq.2 hlen] at h
  simp only at h
  have hR := hS.rel
  have hne : l ≠ D := by rintro rfl; rw [hl] at hD; cases hD
  have hE0 := foldE_rel ps as ET T hT has (fun t ht => Nat.lt_of_lt_of_le (hL.ps t ht) hTs)
  have hfold : ((recL fr T ps.toArray assign body D none).params.zip (trL ρ as).toArray).foldl (fun tmps (t, a) => tmps.setIfInBounds t a) (recL fr T ps.toArray assign body D none).tmps = (ps.zip (trL ρ as)).foldl (fun t p => t.setIfInBounds p.1 p.2) T := by
    simp [recL]
  rw [hfold]
  refine roundIn_of_wpIn (F := Fence.wide) trivial ?_
  have hsz : ∀ (q : List (Nat × Value)) (T : Array Value), (q.foldl (fun t p => t.setIfInBounds p.1 p.2) T).size = T.size := by
    intro q
    induction q with
    | nil => intro T; rfl
    | cons p q ih => intro T; simp [ih]
  refine wpIn_mono (@wpCI_sound X hX ⟨[]⟩ fn (some l) m n f H.next assign _ H _ h hL.la hL.pa hL.oa _ _ _ _ _ _ _ (by rw [hsz]; exact hTs) (Step.refl hR) hE0 rfl rfl) ?_
  rintro e a1 w1 ⟨x1, E1, H1, ρ1, p1, p2, p3, p4, p5, p6⟩
  cases x1 with
  | exit i => exact p2.elim
  | ret => exact p2.elim
  | panic v => exact p2.elim
  | normal =>
    cases e <;> simp only [AExit.rel] at p1
    have hl1 := p6.keeps hl rfl hR
    have hD1 := p6.keeps hD rfl hR
    refine ⟨_, run_beginRound hl1 rfl, ?_⟩
    have hlt1 := (Array.getElem?_eq_some_iff.1 hl1).1
    have hS1 := (hS.trans p6).obj hl0 hl1 rfl (.loop { recL fr T ps.toArray assign body D none with state := .busy })
    have hl2 : (w1.putObj l (.loop { recL fr T ps.toArray assign body D none with state := .busy })).heap[l]? = some (.loop { recL fr T ps.toArray assign body D none with state := .busy }) := World.putObj_heap_same hlt1
    have hD2 : (w1.putObj l (.loop { recL fr T ps.toArray assign body D none with state := .busy })).heap[D]? = some (.deferred (some [])) := (World.putObj_heap_other (Ne.symm hne)).trans hD1
    refine wpIn_mono (@wpCI_sound X hX ⟨[]⟩ fn (some l) m n f H.next body E1 H1 _ p2 hL.lb hL.pb hL.ob _ _ _ _ _ _ _ (by rw [p5, hsz]; exact hTs) (Step.refl hS1.rel) p3 p4 rfl) ?_
    rintro e a3 w3 ⟨x3, E3, H3, ρ3, q1, q2, q3, q4, q5, q6⟩
    have hl3 := q6.keeps hl2 rfl hS1.rel
    have hD3 := q6.keeps hD2 rfl hS1.rel
    have hlt3 := (Array.getElem?_eq_some_iff.1 hl3).1
    have fin : ∀ jump : Option Code, K jump H3 → ∃ v w', (Instr.endRound l jump).run X.P w3 = .ok v w' ∧ ∃ jump' H' ρ', Ending.returned v = .returned (.bool jump'.isNone) ∧ K jump' H' ∧ Rho.agree H.next ρ ρ' ∧ H.next ≤ H'.next ∧ Step ρ0 H0 w0 ρ' H' w' ∧ w'.heap[l]? = some (.loop (recL fr T ps.toArray assign body D jump')) ∧ w'.heap[D]? = some (.deferred (some [])) := by
      intro jump hk
      refine ⟨_, _, run_endRound jump hl3, jump, H3, ρ3, rfl, hk, (p6.agree.trans q6.agree p6.next), Nat.le_trans p6.next q6.next, (hS1.trans q6).obj hl0 hl3 rfl _, ?_, (World.putObj_heap_other (Ne.symm hne)).trans hD3⟩
      rw [World.putObj_heap_same hlt3]
      rfl
    cases x3 with
    | normal => cases e <;> simp only [AExit.rel] at q1; exact fin none q2
    | ret => cases e <;> simp only [AExit.rel] at q1; exact fin (some .ret) q2
    | exit i => cases e <;> simp only [AExit.rel] at q1; subst q1; exact fin (some (.exit i)) q2
    | panic v => exact q2.elim

/-! ### the iterator -/

/-- A call of yield (y: its number). -/
def isYield (y : Nat) (o : Oper) (E : Env) : Option (List AVal) := match o.op with
  | .call { callee := .value x, args := args, .. } => match evalO E x with
    | some (.yld b) => match Nat.beq b y with
      | true => evalL E args.toList
      | false => none
    | _ => none
  | _ => none

abbrev YF := List AVal → AHeap → (Option Code → AHeap → Prop) → Prop

/-- One operation that is wanted; R: what follows. -/
noncomputable def goY (X : Ctx) (sm : Bool) (cf : CallF) (y : Nat) (Y : YF) (R : Env → AHeap → Option Code → Prop) (o : Oper) (E : Env) (H : AHeap) (pd : Option Code) (Q : AExit → Env → AHeap → Option Code → Prop) : Prop :=
  match isYield y o E with
  | some as => match pd with
    | none => Y as H fun j H' => R (putE E o.dst (.bool j.isNone)) H' j
    | some _ => Stuck 50 [o]
  | none => stepA X sm cf o E H (fun E H => R E H pd) (fun x E H => Q x E H pd)

noncomputable def wpSeqY (X : Ctx) (sm : Bool) (cf : CallF) (y : Nat) (Y : YF) (all : List Oper) : List Oper → Env → AHeap → Option Code → (AExit → Env → AHeap → Option Code → Prop) → Prop
  | [], E, H, pd, Q => Q .normal E H pd
  | o :: rest, E, H, pd, Q =>
    match wantA all o E with
    | .yes => goY X sm cf y Y (fun E H pd => wpSeqY X sm cf y Y all rest E H pd Q) o E H pd Q
    | .no => wpSeqY X sm cf y Y all rest (putE E o.dst (.tup [])) H pd Q
    | .ask t b want => match want with
      | true => branch b (goY X sm cf y Y (fun E H pd => wpSeqY X sm cf y Y all rest E H pd Q) o ((t, .bool true) :: E) H pd Q) (wpSeqY X sm cf y Y all rest (putE ((t, .bool false) :: E) o.dst (.tup [])) H pd Q)
      | false => branch b (wpSeqY X sm cf y Y all rest (putE ((t, .bool true) :: E) o.dst (.tup [])) H pd Q) (goY X sm cf y Y (fun E H pd => wpSeqY X sm cf y Y all rest E H pd Q) o ((t, .bool false) :: E) H pd Q)
    | .bad => Stuck 3 [o]

/-- An iterator's code (function g), whose rounds are Y. -/
noncomputable def wpY (X : Ctx) (y : Nat) (Y : YF) : Nat → Nat → Code → Env → AHeap → Option Code → (AExit → Env → AHeap → Option Code → Prop) → Prop
  | 0, _, _, _, _, _, _ => Stuck 8 []
  | n + 1, g, c, E, H, pd, Q => match c with
    | .skip => Q .normal E H pd
    | .seq x x' => wpY X y Y n g x E H pd fun e E H pd => match e with
      | .normal => wpY X y Y n g x' E H pd Q
      | .exit i => Q (.exit i) E H pd
      | .ret => Q .ret E H pd
      | .panic v => Q (.panic v) E H pd
    | .cond b x x' => match evalO E b with
      | some (.bool b) => branch b (wpY X y Y n g x E H pd Q) (wpY X y Y n g x' E H pd Q)
      | _ => False
    | .block id c => wpY X y Y n g c E H pd fun e E H pd => match e with
      | .exit i => match Nat.beq i id with
        | true => Q .normal E H pd
        | false => Q (.exit i) E H pd
      | .normal => Q .normal E H pd
      | .ret => Q .ret E H pd
      | .panic v => Q (.panic v) E H pd
    | .loop c => wpY X y Y n g c E H pd fun e E H pd => match e with
      | .normal => wpY X y Y n g (.loop c) E H pd Q
      | .exit i => Q (.exit i) E H pd
      | .ret => Q .ret E H pd
      | .panic v => Q (.panic v) E H pd
    | .exit id => Q (.exit id) E H pd
    | .ret => Q .ret E H pd
    | .region _ ops draw => match draw with
      | false => wpSeqY X (X.sms g) (callC X 100) y Y ops.toList ops.toList E H pd Q
      | true => Stuck 51 []
    | _ => Stuck 9 []

/-- Where a loop's record stands, and the block of its deferred calls. -/
def LoopAt (l D f : Nat) (T : Array Value) (ps : List Nat) (assign body : Code) (pd : Option Code) (w : World) : Prop :=
  w.heap[l]? = some (.loop (recL f T ps.toArray assign body D pd)) ∧ w.heap[D]? = some (.deferred (some []))

def LiftY (ρ0 : Rho) (H0 : AHeap) (w0 : World) (n : Nat) (At : Option Code → World → Prop) (Q : AExit → Env → AHeap → Option Code → Prop) : Exit → Act → World → Prop := fun x a w =>
  ∃ x' E H ρ pd, AExit.rel ρ H.next x' x ∧ Q x' E H pd ∧ RelE ρ H.next E a ∧ a.defers = [] ∧ a.tmps.size = n ∧ Step ρ0 H0 w0 ρ H w ∧ At pd w

/-- What is claimed of the rounds. -/
def YOk (X : Ctx) (y : Nat) (Y : YF) (ρ0 : Rho) (H0 : AHeap) (w0 : World) (At : Option Code → World → Prop) : Prop :=
  ∀ as H K, Y as H K → ∀ ρ w, Step ρ0 H0 w0 ρ H w → belowL H.next as = true → At none w → ∀ m, ∃ f T' assign body, (Instr.yield (ρ.blk y) (trL ρ as).toArray).run X.P w = .ok (.round (ρ.blk y) f T' assign body) w ∧
    RoundIn Fence.wide m X.P (ρ.blk y) f T' assign body w fun e w' => ∃ jump H' ρ', e = .returned (.bool jump.isNone) ∧ K jump H' ∧ Rho.agree H.next ρ ρ' ∧ H.next ≤ H'.next ∧ Step ρ0 H0 w0 ρ' H' w' ∧ At jump w'

/-- What holds of the loop's objects stands, where nothing but cells turns. -/
def AtKeeps (At : Option Code → World → Prop) : Prop := ∀ pd w w', At pd w → (∀ (g : Nat) (o : Obj), w.heap[g]? = some o → o.isCells = false → w'.heap[g]? = some o) → At pd w'

theorem loopAt_keeps {l D f : Nat} {T : Array Value} {ps : List Nat} {assign body : Code} : AtKeeps (LoopAt l D f T ps assign body) := fun pd w w' h hk => ⟨hk _ _ h.1 rfl, hk _ _ h.2 rfl⟩

theorem uponIn_mono {F : Fence} {n : Nat} {P : Program} {o : Oper} {a : Act} {next : Act → World → Prop} {Q Q' : Exit → Act → World → Prop} {r : Result Next} (h : o.uponIn F n P a next Q r) (hq : ∀ x a w, Q x a w → Q' x a w) : o.uponIn F n P a next Q' r := by
  have out : LetsOut Q → LetsOut Q' := fun ⟨a, w, h⟩ => ⟨a, w, hq _ _ _ h⟩
  unfold Oper.uponIn at h ⊢
  split at h
  · exact h
  · exact h
  · exact h
  · refine ⟨h.1, h.2.mono ?_⟩
    intro e w' he
    cases e with
    | returned v => exact he
    | panicked ch => exact hq _ _ _ he
    | outgrown => exact out he
  · exact h
  · refine ⟨h.1, h.2.mono ?_⟩
    intro e w' he
    cases e with
    | returned v => exact he
    | panicked ch => exact hq _ _ _ he
    | outgrown => exact out he
  · exact hq _ _ _ h
  · exact h.elim

theorem isYield_sound {X : Ctx} {y : Nat} {o : Oper} {E : Env} {as : List AVal} (h : isYield y o E = some as) {ρ : Rho} {N : Nat} {a : Act} (hE : RelE ρ N E a) (w : World) :
    (execOp a.eval o).run X.P w = (Instr.yield (ρ.blk y) (trL ρ as).toArray).run X.P w ∧ belowL N as = true ∧ notDefer o = true := by
  unfold isYield at h
  split at h <;> try cases h
  rename_i x args ts ho
  split at h <;> try cases h
  rename_i b hx
  split at h <;> try cases h
  rename_i hb
  have hb := nat_beq_eq.1 hb
  subst hb
  obtain ⟨h1, h2⟩ := evalO_tr hE hx
  obtain ⟨k1, k2⟩ := evalL_tr hE h
  have e1 : args.map a.eval = (trL ρ as).toArray := by rw [← k1]; apply Array.ext'; simp
  refine ⟨?_, k2, by simp [notDefer, ho]⟩
  simp only [execOp, ho, resolve, Sem.run_bind, Sem.run_pure, Result.andThen_ok, h1, tr, Deferred.ofValue, e1, invoke]
  simp

section
variable {X : Ctx} {y : Nat} {Y : YF} {ρ0 : Rho} {H0 : AHeap} {w0 : World} {At : Option Code → World → Prop} {N : Nat}

theorem wpSeqY_sound (hX : CtxRows X) (hF : FcOk X) {sm : Bool} {cf : CallF} (hC : CallOk X cf) (hY : YOk X y Y ρ0 H0 w0 At) (hAt : AtKeeps At) {ops : Array Oper} {Q : AExit → Env → AHeap → Option Code → Prop} (hdst : ∀ (j : Nat) (o : Oper) (t : Nat), ops[j]? = some o → o.dst = some t → t < N) (hnd : ∀ (j : Nat) (o : Oper), ops[j]? = some o → notDefer o = true) (m : Nat) :
    ∀ (rest : List Oper) (k : Nat), (∀ j, rest[j]? = ops[k + j]?) → ∀ (E : Env) (H : AHeap) (pd : Option Code) (ρ : Rho) (a : Act) (w : World), wpSeqY X sm cf y Y ops.toList rest E H pd Q → Step ρ0 H0 w0 ρ H w → RelE ρ H.next E a → a.defers = [] → a.tmps.size = N → At pd w →
      wpOpsIn Fence.wide m X.P ops (LiftY ρ0 H0 w0 N At Q) (List.range' k rest.length) a w
  | [], k, _, E, H, pd, ρ, a, w, h, hS, hE, hd, hn, hat => ⟨.normal, E, H, ρ, pd, trivial, h, hE, hd, hn, hS, hat⟩
  | o :: rest, k, hr, E, H, pd, ρ, a, w, h, hS, hE, hd, hn, hat => by
    have h0 : ops[k]? = some o := by simpa using (hr 0).symm
    have hr' : ∀ j, rest[j]? = ops[k + 1 + j]? := fun j => by have := hr (j + 1); simpa [Nat.add_assoc, Nat.add_comm 1 j] using this
    have hdo : ∀ t, o.dst = some t → t < N := fun t ht => hdst k o t h0 ht
    simp only [List.length_cons, List.range'_succ, wpOpsIn, h0]
    have yes : ∀ E', RelE ρ H.next E' a → goY X sm cf y Y (fun E H pd => wpSeqY X sm cf y Y ops.toList rest E H pd Q) o E' H pd Q → o.wpIn Fence.wide m X.P a w (wpOpsIn Fence.wide m X.P ops (LiftY ρ0 H0 w0 N At Q) (List.range' (k + 1) rest.length)) (LiftY ρ0 H0 w0 N At Q) := by
      intro E' hE' hs
      unfold goY at hs
      split at hs
      · rename_i as has
        split at hs
        · obtain ⟨i1, i2, i3⟩ := isYield_sound (X := X) has hE' w
          obtain ⟨f, T', assign, body, y1, y2⟩ := hY as H _ hs ρ w hS i2 (by assumption) (m - 1)
          refine ⟨fun f _ => trivial, ?_⟩
          show o.uponIn _ _ _ _ _ _ ((execOp a.eval o).run X.P w)
          rw [i1, y1, Oper.uponIn_round]
          refine ⟨fun hd => by simp [Fence.wide] at hd, ?_⟩
          refine y2.mono ?_
          rintro e w' ⟨jump, H', ρ', rfl, hk, hag, hnx, hS', hat'⟩
          have hE2 := (hE'.step hag hnx).put (v := .bool jump.isNone) (dst := o.dst) rfl (fun t ht => by rw [hn]; exact hdo t ht)
          exact wpSeqY_sound hX hF hC hY hAt hdst hnd m rest (k + 1) hr' _ H' jump ρ' _ w' hk hS' hE2 (by rw [put_defers]; exact hd) (by rw [put_size]; exact hn) hat'
        · exact (not_stuck hs).elim
      · have hcell : ∀ {ρ' : Rho} {H' : AHeap} {w' : World}, Step ρ H w ρ' H' w' → At pd w' := fun hst => hAt pd w _ hat (fun g o ho hc => hst.keeps ho hc hS.rel)
        have key := @stepA_sound X ⟨[]⟩ hX hF sm cf hC o E' H _ _ hs ρ H w N ρ a w (Step.refl hS.rel) hE' hd hn hdo
          (wpOpsIn Fence.wide m X.P ops (LiftY ρ0 H0 w0 N At Q) (List.range' (k + 1) rest.length))
          (fun E'' H'' ρ'' a'' w'' hk hS' hE'' hd' hn' _ _ => wpSeqY_sound hX hF hC hY hAt hdst hnd m rest (k + 1) hr' E'' H'' pd ρ'' a'' w'' hk (hS.trans hS') hE'' hd' hn' (hcell hS'))
        have key2 := opIn_of_wp key (notDefer_ne (hnd k o h0)) none m
        refine ⟨key2.1, ?_⟩
        have conv : ∀ x a' w', @Lift ⟨[]⟩ ρ H w N (fun x E H => Q x E H pd) x a' w' → LiftY ρ0 H0 w0 N At Q x a' w' := by
          rintro x a' w' ⟨x', E2, H2, ρ2, p1, p2, p3, p4, p5, p6⟩
          exact ⟨x', E2, H2, ρ2, pd, p1, p2, p3, p4, p5, hS.trans p6, hcell p6⟩
        exact uponIn_mono key2.2 conv
    have no : ∀ E', RelE ρ H.next E' a → wpSeqY X sm cf y Y ops.toList rest (putE E' o.dst (.tup [])) H pd Q → (∀ f, o.about X.P w a.eval = some f → True) ∧ wpOpsIn Fence.wide m X.P ops (LiftY ρ0 H0 w0 N At Q) (List.range' (k + 1) rest.length) (a.put o.dst undef) w := by
      intro E' hE' hs
      have := hE'.put (v := .tup []) (dst := o.dst) rfl (fun t ht => by rw [hn]; exact hdo t ht)
      exact ⟨fun _ _ => trivial, wpSeqY_sound hX hF hC hY hAt hdst hnd m rest (k + 1) hr' _ H pd ρ _ w hs hS this (by rw [put_defers]; exact hd) (by rw [put_size]; exact hn) hat⟩
    unfold wpSeqY at h
    split at h
    · rename_i hw
      rw [if_pos (wantA_yes hw a)]
      exact yes E hE h
    · rename_i hw
      rw [if_neg (by rw [wantA_no hw hE]; simp)]
      exact no E hE h
    · rename_i t b want hw
      obtain ⟨h1, h2⟩ := wantA_ask hw hE
      rw [h1]
      split at h
      · rw [branch_iff] at h
        cases b with
        | true => rw [if_pos (show (true == true) = true from rfl)]; exact yes _ (hE.over h2) (h.1 rfl)
        | false => rw [if_neg (by simp)]; exact no _ (hE.over h2) (h.2 rfl)
      · rw [branch_iff] at h
        cases b with
        | true => rw [if_neg (by simp)]; exact no _ (hE.over h2) (h.1 rfl)
        | false => rw [if_pos (show (false == false) = true from rfl)]; exact yes _ (hE.over h2) (h.2 rfl)
    · exact (not_stuck h).elim

/-- Code that an iterator may have. -/
def plainY : Code → Bool
  | .skip | .ret | .exit _ => true
  | .seq a b => plainY a && plainY b
  | .cond _ a b => plainY a && plainY b
  | .block _ c => plainY c
  | .loop c => plainY c
  | .region _ ops draw => !draw && ops.toList.all notDefer
  | _ => false

theorem wpY_both (hX : CtxOk X) (hY : YOk X y Y ρ0 H0 w0 At) (hAt : AtKeeps At) {fn : Func} (hN0 : fn.ntmps ≤ N) : ∀ (n : Nat) (g : Nat) (c : Code) (E : Env) (H : AHeap) (pd : Option Code) (Q : AExit → Env → AHeap → Option Code → Prop), wpY X y Y n g c E H pd Q →
    plainY c = true → okDst fn.ntmps c = true → ∀ {ρ : Rho} {a : Act} {w : World}, Step ρ0 H0 w0 ρ H w → RelE ρ H.next E a → a.defers = [] → a.tmps.size = N → At pd w → c.wp X.P (LiftY ρ0 H0 w0 N At Q) a w ∧ (∀ c', c = .loop c' → Code.rounds X.P c' (LiftY ρ0 H0 w0 N At Q) n a w) := by
  intro n
  induction n with
  | zero => intro g c E H pd Q h; exact (not_stuck h).elim
  | succ n ih2 =>
    have ih : ∀ (g : Nat) (c : Code) (E : Env) (H : AHeap) (pd : Option Code) (Q : AExit → Env → AHeap → Option Code → Prop), wpY X y Y n g c E H pd Q →
        plainY c = true → okDst fn.ntmps c = true → ∀ {ρ : Rho} {a : Act} {w : World}, Step ρ0 H0 w0 ρ H w → RelE ρ H.next E a → a.defers = [] → a.tmps.size = N → At pd w → c.wp X.P (LiftY ρ0 H0 w0 N At Q) a w :=
      fun g c E H pd Q h1 h2 h3 _ _ _ h4 h5 h6 h7 h8 => (ih2 g c E H pd Q h1 h2 h3 h4 h5 h6 h7 h8).1
    intro g c E H pd Q h hp hok ρ a w hS hE hd hN hat
    suffices hmain : (match c with
        | .loop c' => Code.rounds X.P c' (LiftY ρ0 H0 w0 N At Q) (n + 1) a w
        | c => c.wp X.P (LiftY ρ0 H0 w0 N At Q) a w) by
      cases c with
      | loop c' => exact ⟨wp_loop_rounds (n + 1) hmain, fun c'' h => by cases h; exact hmain⟩
      | _ => exact ⟨hmain, fun c'' h => by cases h⟩
    unfold wpY at h
    cases c with
    | skip => exact wp_skip ⟨.normal, E, H, ρ, pd, trivial, h, hE, hd, hN, hS, hat⟩
    | ret => exact wp_ret ⟨.ret, E, H, ρ, pd, trivial, h, hE, hd, hN, hS, hat⟩
    | exit id => exact wp_exit ⟨.exit id, E, H, ρ, pd, rfl, h, hE, hd, hN, hS, hat⟩
    | seq x x2 =>
      simp only [okDst, plainY, Bool.and_eq_true] at hok hp
      refine wp_seq (wp_mono (ih g x E H pd _ h hp.1 hok.1 hS hE hd hN hat) ?_)
      rintro e a' w' ⟨x', E', H', ρ', pd', h1, h2, h3, h4, h5, h6, h7⟩
      cases x' with
      | normal =>
        cases e <;> simp only [AExit.rel] at h1
        exact ih g x2 E' H' pd' Q h2 hp.2 hok.2 h6 h3 h4 h5 h7
      | exit i => cases e <;> simp only [AExit.rel] at h1; exact ⟨.exit i, E', H', ρ', pd', h1, h2, h3, h4, h5, h6, h7⟩
      | ret => cases e <;> simp only [AExit.rel] at h1; exact ⟨.ret, E', H', ρ', pd', trivial, h2, h3, h4, h5, h6, h7⟩
      | panic v => cases e <;> simp only [AExit.rel] at h1; exact ⟨.panic v, E', H', ρ', pd', h1, h2, h3, h4, h5, h6, h7⟩
    | cond b x x2 =>
      simp only [okDst, plainY, Bool.and_eq_true] at hok hp
      simp only at h
      split at h
      · rename_i b' hb
        obtain ⟨h1, h2⟩ := evalO_tr hE hb
        rw [branch_iff] at h
        refine wp_cond_split (t := b') (by rw [h1]; rfl) (fun ht => ?_) (fun ht => ?_)
        · exact ih g x E H pd Q (h.1 ht) hp.1 hok.1 hS hE hd hN hat
        · exact ih g x2 E H pd Q (h.2 ht) hp.2 hok.2 hS hE hd hN hat
      · exact h.elim
    | block id c =>
      simp only [okDst, plainY] at hok hp
      refine wp_block (wp_mono (ih g c E H pd _ h hp hok hS hE hd hN hat) ?_)
      rintro e a' w' ⟨x', E', H', ρ', pd', h1, h2, h3, h4, h5, h6, h7⟩
      cases x' with
      | normal => cases e <;> simp only [AExit.rel] at h1; exact ⟨.normal, E', H', ρ', pd', trivial, h2, h3, h4, h5, h6, h7⟩
      | exit i =>
        cases e <;> simp only [AExit.rel] at h1
        subst h1
        simp only at h2
        split at h2
        · rename_i hi
          have := nat_beq_eq.1 hi
          simp only [Exit.inBlock, if_pos this]
          exact ⟨.normal, E', H', ρ', pd', trivial, h2, h3, h4, h5, h6, h7⟩
        · rename_i hi
          have := nat_beq_ne.1 hi
          simp only [Exit.inBlock, if_neg this]
          exact ⟨.exit i, E', H', ρ', pd', rfl, h2, h3, h4, h5, h6, h7⟩
      | ret => cases e <;> simp only [AExit.rel] at h1; exact ⟨.ret, E', H', ρ', pd', trivial, h2, h3, h4, h5, h6, h7⟩
      | panic v => cases e <;> simp only [AExit.rel] at h1; exact ⟨.panic v, E', H', ρ', pd', h1, h2, h3, h4, h5, h6, h7⟩
    | loop c =>
      simp only [okDst, plainY] at hok hp
      show Code.wp X.P c (Exit.then (Code.rounds X.P c (LiftY ρ0 H0 w0 N At Q) n) (LiftY ρ0 H0 w0 N At Q)) a w
      refine (wp_mono (ih g c E H pd _ h hp hok hS hE hd hN hat) ?_)
      rintro e a' w' ⟨x', E', H', ρ', pd', h1, h2, h3, h4, h5, h6, h7⟩
      cases x' with
      | normal =>
        cases e <;> simp only [AExit.rel] at h1
        exact (ih2 g (.loop c) E' H' pd' Q h2 hp hok h6 h3 h4 h5 h7).2 c rfl
      | exit i => cases e <;> simp only [AExit.rel] at h1; exact ⟨.exit i, E', H', ρ', pd', h1, h2, h3, h4, h5, h6, h7⟩
      | ret => cases e <;> simp only [AExit.rel] at h1; exact ⟨.ret, E', H', ρ', pd', trivial, h2, h3, h4, h5, h6, h7⟩
      | panic v => cases e <;> simp only [AExit.rel] at h1; exact ⟨.panic v, E', H', ρ', pd', h1, h2, h3, h4, h5, h6, h7⟩
    | region id ops draw =>
      simp only [okDst, plainY, Bool.and_eq_true, Bool.not_eq_true'] at hok hp
      obtain ⟨hdraw, hpp⟩ := hp
      subst hdraw
      have hdst : ∀ (j : Nat) (o : Oper) (t : Nat), ops[j]? = some o → o.dst = some t → t < N := by
        intro j o t hj ht
        rw [List.all_eq_true] at hok
        have := hok o (List.mem_of_getElem? (by simpa using hj))
        rw [ht] at this
        have hlt : t < fn.ntmps := by simpa using this
        omega
      have hnd : ∀ (j : Nat) (o : Oper), ops[j]? = some o → notDefer o = true := by
        intro j o hj
        rw [List.all_eq_true] at hpp
        exact hpp o (List.mem_of_getElem? (by simpa using hj))
      have := wpSeqY_sound hX.rows hX.fcs (callC_all hX 100) hY hAt (ops := ops) hdst hnd 0 ops.toList 0 (by simp) E H pd ρ a w h hS hE hd hN hat
      refine (wpIn_wide (n := 0)).1 (wpIn_region ?_)
      rw [List.range_eq_range']
      simpa using this
    | _ => simp [plainY] at hp

end

/-! ### the statement -/

theorem Rel.more {ρ : Rho} {H : AHeap} {w : World} (hR : Rel ρ H w) (g c : Nat) : Rel (ρ.set H.next g c) ⟨H.next + 1, H.bs⟩ w := by
  have hb : ∀ b, b < H.next → (ρ.set H.next g c).blk b = ρ.blk b := fun b hb => (Rho.set_agree ρ H.next g c b hb).1
  refine ⟨fun b x hx => ?_, fun b b' x x' hx hx' ho hne => ?_⟩
  · obtain ⟨h1, h2, h3, h4⟩ := hR.blk b x hx
    refine ⟨Nat.lt_succ_of_lt h1, ?_, by rw [hb b h1]; exact h3, ABlk.ok_keep h4 h2 (Rho.set_agree ρ H.next g c) h1 (Nat.le_refl _) rfl⟩
    cases x with
    | cells e l => exact belowL_mono (Nat.le_succ _) _ h2
    | row e T l md => rfl
    | dead => rfl
  · rw [hb b (hR.blk b x hx).1, hb b' (hR.blk b' x' hx').1]
    exact hR.inj b b' x x' hx hx' ho hne

def blkC : Code → Code
  | .block _ c => c
  | c => c
def lpC : Code → Code
  | .loop c => c
  | c => c
def rfAssign : Code → Code
  | .rangeFunc _ _ a _ => a
  | c => c
def rfBody : Code → Code
  | .rangeFunc _ _ _ b => b
  | c => c

/-- A round of an iterator's loop. -/
def RoundY (base : Nat) {S : Type} (st : S → Env × AHeap) (μ : S → Nat) (T : S → Prop) (s : S) (Q : AExit → Env → AHeap → Option Code → Prop) : AExit → Env → AHeap → Option Code → Prop
  | .normal, E, H, pd => pd = none ∧ ∃ s' σ, μ s' < μ s ∧ T s' ∧ sigOk base σ = true ∧ sigInj σ (st s').2.bs = true ∧ subER (st s').2.next σ (st s').1 E ∧ subHR (st s').2.next σ (st s').2.bs H
  | x, E, H, pd => Q x E H pd

theorem loopY_sound {X : Ctx} (hX : CtxOk X) {y : Nat} {Y : YF} {ρ0 : Rho} {H0 : AHeap} {w0 : World} {At : Option Code → World → Prop} {N : Nat} (hY : YOk X y Y ρ0 H0 w0 At) (hAt : AtKeeps At) {gn : Func} (hN0 : gn.ntmps ≤ N) {g n : Nat} {c : Code} (hp : plainY c = true) (hok : okDst gn.ntmps c = true)
    {S : Type} {base : Nat} (st : S → Env × AHeap) (hb : H0.next ≤ base) (hnx : ∀ s, base ≤ (st s).2.next) (μ : S → Nat) (T : S → Prop) (Q : AExit → Env → AHeap → Option Code → Prop)
    (hround : ∀ s, T s → ∃ R, (∀ x E H pd, R x E H pd → RoundY base st μ T s Q x E H pd) ∧ wpY X y Y n g c (st s).1 (st s).2 none R) :
    ∀ s, T s → ∀ ρ a w, Step ρ0 H0 w0 ρ (st s).2 w → RelE ρ (st s).2.next (st s).1 a → a.defers = [] → a.tmps.size = N → At none w → (Code.loop c).wp X.P (LiftY ρ0 H0 w0 N At Q) a w := by
  intro s hT ρ a w hS hE hd hN hat
  refine wp_loop_rounds (μ s + 1) ?_
  have key : ∀ (m : Nat) (s : S) (ρ : Rho) (a : Act) (w : World), μ s < m → T s → Step ρ0 H0 w0 ρ (st s).2 w → RelE ρ (st s).2.next (st s).1 a → a.defers = [] → a.tmps.size = N → At none w → Code.rounds X.P c (LiftY ρ0 H0 w0 N At Q) m a w := by
    intro m
    induction m with
    | zero => intro s ρ a w h; omega
    | succ m ih =>
      intro s ρ a w hm hT hS hE hd hN hat
      show Code.wp X.P c (Exit.then (Code.rounds X.P c (LiftY ρ0 H0 w0 N At Q) m) (LiftY ρ0 H0 w0 N At Q)) a w
      obtain ⟨R, hRR, hwp⟩ := hround s hT
      refine wp_mono (wpY_both hX hY hAt hN0 n g c _ _ none R hwp hp hok hS hE hd hN hat).1 ?_
      rintro e a' w' ⟨x', E', H', ρ', pd, q1, q2, q3, q4, q5, q6, q7⟩
      have q2 := hRR _ _ _ _ q2
      cases x' with
      | normal =>
        cases e <;> simp only [AExit.rel] at q1
        obtain ⟨rfl, s', σ, g1, g2, g3, g4, g5, g6⟩ := q2
        obtain ⟨k1, k2⟩ := sub_stepR q6 q3 hb g3 g4 g5 g6 (Nat.le_trans hb (hnx s'))
        exact ih s' _ a' w' (by omega) g2 k1 k2 q4 q5 q7
      | exit i => cases e <;> simp only [AExit.rel] at q1; exact ⟨.exit i, E', H', ρ', pd, q1, q2, q3, q4, q5, q6, q7⟩
      | ret => cases e <;> simp only [AExit.rel] at q1; exact ⟨.ret, E', H', ρ', pd, trivial, q2, q3, q4, q5, q6, q7⟩
      | panic v => cases e <;> simp only [AExit.rel] at q1; exact ⟨.panic v, E', H', ρ', pd, q1, q2, q3, q4, q5, q6, q7⟩
  exact key _ s ρ a w (Nat.lt_succ_self _) hT hS hE hd hN hat

/-- A function's end that is no panic. -/
def endN (X : Ctx) (fn : Func) (K : Out → AHeap → Prop) : AExit → Env → AHeap → Prop := fun x E H => match x with
  | .normal | .ret => endA X.P fn K .ret E H
  | _ => False

/-- Behind the loop. -/
noncomputable def behindRF (X : Ctx) (n f : Nat) (fn : Func) (post : Code) (E : Env) (K : Out → AHeap → Prop) (H : AHeap) (pd : Option Code) : Prop := match pd with
  | none => wpC X n f H.next post E H (endN X fn K)
  | some .ret => endA X.P fn K .ret E H
  | _ => False

/-- What is asked of a function that ranges over a function. -/
noncomputable def wpRF (X : Ctx) (n f g t : Nat) (c0 c1 c2 : Code) (It : Env → AHeap → List AVal → Prop) (args : List AVal) (H0 : AHeap) : Prop :=
  wpC X n f H0.next c0 (env0 args 0) H0 fun x E H => match x with
    | .normal => wpC X n f H0.next c1 E H fun x E H => match x with
      | .normal => wpC X n f H0.next c2 E H fun x E H => match x with
        | .normal => match getE E t with
          | some (.func g' [] cs) => match Nat.beq g' g with
            | true => forceH H fun H => It E H cs
            | false => False
          | _ => False
        | _ => False
      | _ => False
    | _ => False

theorem wpRF_sound {X : Ctx} (hX : CtxOk X) {n f g t bid : Nat} {ps : List Nat} {fn gn : Func} {c0 c1 c2 assign body post : Code}
    (hf : X.fns f = some fn) (hg : X.fns g = some gn)
    (hb : fn.body = some (.seq c0 (.seq c1 (.seq (.seq c2 (.block bid (.rangeFunc (.tmp t) ps.toArray assign body))) post))))
    (hgr : gn.results = #[])
    (hL : LoopOk X f fn ps assign body) (hpost : okDst fn.ntmps post = true)
    {It : Env → AHeap → List AVal → Prop} {K : Out → AHeap → Prop}
    (hIt : ∀ E H cs, It E H cs → ∀ ρ0 w0 At ρ a w, YOk X H.next (roundA X n f E ps assign body) ρ0 ⟨H.next + 1, H.bs⟩ w0 At → AtKeeps At → Step ρ0 ⟨H.next + 1, H.bs⟩ w0 ρ ⟨H.next + 1, H.bs⟩ w → RelE ρ (H.next + 1) (env0 (.yld H.next :: cs) 0) a → a.defers = [] → gn.ntmps ≤ a.tmps.size → At none w →
      (bodyC gn).wp X.P (LiftY ρ0 ⟨H.next + 1, H.bs⟩ w0 a.tmps.size At (fun x _ H' pd => (x = .normal ∨ x = .ret) ∧ behindRF X n f fn post E K H' pd)) a w)
    {args : List AVal} {H0 : AHeap} (h : wpRF X n f g t c0 c1 c2 It args H0) {ρ0 : Rho} {w0 : World} (hR : Rel ρ0 H0 w0) (hargs : belowL H0.next args = true) :
    Calls X.P f (trL ρ0 args).toArray w0 fun e w' => ∃ out H' ρ', Out.rel ρ' H'.next out e ∧ K out H' ∧ Step ρ0 H0 w0 ρ' H' w' := by
  obtain ⟨q1, q2, c3, q3, q4⟩ := hX.fns f fn hf
  rw [hb] at q3
  cases q3
  obtain ⟨g1, g2, c4, g3, g4⟩ := hX.fns g gn hg
  have hgc : bodyC gn = c4 := by unfold bodyC; rw [g3]
  simp only [okDst, Bool.and_eq_true] at q4
  refine (callsIn_wide (n := 1)).1 (callsIn_of_wp_marks q1 hb trivial ?_)
  refine wpIn_wide.2 ?_
  have hE0 := env0_rel (ρ := ρ0) hargs (fn.ntmps - (trL ρ0 args).toArray.size)
  generalize ha0 : (Act.mk ((trL ρ0 args).toArray ++ Array.replicate (fn.ntmps - (trL ρ0 args).toArray.size) undef) []) = a0 at hE0 ⊢
  have hN0 : fn.ntmps ≤ a0.tmps.size := by rw [← ha0]; simp; omega
  have hd0 : a0.defers = [] := by rw [← ha0]
  obtain ⟨whole, hW⟩ : ∃ whole, (Code.seq c0 (.seq c1 (.seq (.seq c2 (.block bid (.rangeFunc (.tmp t) ps.toArray assign body))) post))) = whole := ⟨_, rfl⟩
  have hb' : fn.body = some whole := by rw [hb, hW]
  have sub0 : ∀ {c : Code}, (∀ p ∈ blocksC c, p ∈ blocksC whole) → okDst fn.ntmps c = true → ∃ fn', X.fns f = some fn' ∧ fn'.ntmps ≤ a0.tmps.size ∧ ∃ body, fn'.body = some body ∧ (∀ p ∈ blocksC c, p ∈ blocksC body) ∧ okDst fn'.ntmps c = true :=
    fun hc ho => ⟨fn, hf, hN0, _, hb', hc, ho⟩
  unfold wpRF at h
  -- the first part
  refine wp_seq (wp_mono (@wpC_sound X hX ⟨[]⟩ _ _ _ _ _ _ _ h _ _ _ _ _ _ _ (Nat.le_refl _) (sub0 (fun p hp => by rw [← hW]; simp [blocksC, hp]) q4.1) (Step.refl hR) hE0 hd0 rfl) ?_)
  rintro e a1 w1 ⟨x1, E1, H1, ρ1, p1, p2, p3, p4, p5, p6⟩
  cases x1 with
  | exit i => exact p2.elim
  | ret => exact p2.elim
  | panic v => exact p2.elim
  | normal =>
  cases e <;> simp only [AExit.rel] at p1
  refine wp_seq (wp_mono (@wpC_sound X hX ⟨[]⟩ _ _ _ _ _ _ _ p2 _ _ _ _ _ _ _ (Nat.le_refl _) (sub0 (fun p hp => by rw [← hW]; simp [blocksC, hp]) q4.2.1) p6 p3 p4 p5) ?_)
  rintro e a2 w2 ⟨x2, E2, H2, ρ2, r1, r2, r3, r4, r5, r6⟩
  cases x2 with
  | exit i => exact r2.elim
  | ret => exact r2.elim
  | panic v => exact r2.elim
  | normal =>
  cases e <;> simp only [AExit.rel] at r1
  refine wp_seq (wp_seq (wp_mono (@wpC_sound X hX ⟨[]⟩ _ _ _ _ _ _ _ r2 _ _ _ _ _ _ _ (Nat.le_refl _) (sub0 (fun p hp => by rw [← hW]; simp [blocksC, hp]) q4.2.2.1.1) r6 r3 r4 r5) ?_))
  rintro e a w ⟨x3, E, H, ρ, s1, s2, s3, s4, s5, s6⟩
  cases x3 with
  | exit i => exact s2.elim
  | ret => exact s2.elim
  | panic v => exact s2.elim
  | normal =>
  cases e <;> simp only [AExit.rel] at s1
  simp only at s2
  split at s2
  · rename_i g' cs hcs
    split at s2
    · rename_i hgg
      have hgg := nat_beq_eq.1 hgg
      subst hgg
      rw [forceH_eq] at s2
      have s4' : a.defers = [] := s4
      have hRw := s6.rel
      obtain ⟨t1, t2⟩ := s3.get t _ hcs
      simp only [AVal.under, belowL, Bool.and_eq_true, true_and] at t2
      -- the objects of the loop
      generalize hl : w.heap.size + 1 = l
      have hev : a.eval (.tmp t) = .func (.func g') #[] (trL ρ cs).toArray := by simp [Act.eval, Array.getD_eq_getD_getElem?, t1, tr, trL]
      refine wp_block (wpIn_wide (n := 1) |>.1 (wpIn_rangeFunc (F := Fence.wide) ?_))
      intro fr _
      have hW1 : ∃ W1, (w.alloc (.deferred (some []))).alloc (.loop (recL fr a.tmps ps.toArray assign body w.heap.size none)) = W1 := ⟨_, rfl⟩
      obtain ⟨W1, hW1⟩ := hW1
      have hL1 : W1.heap[l]? = some (.loop (recL fr a.tmps ps.toArray assign body w.heap.size none)) := by
        rw [← hW1, ← hl]; have := World.alloc_heap_new (w.alloc (.deferred (some []))) (.loop (recL fr a.tmps ps.toArray assign body w.heap.size none)); rwa [World.size_alloc] at this
      have hD1 : W1.heap[w.heap.size]? = some (.deferred (some [])) := by
        rw [← hW1]; exact (Below.heap_alloc _ _ _ (by simp)).trans (World.alloc_heap_new w _)
      have hB1 : Below w.heap.size w W1 := by
        rw [← hW1]; exact ((Below.refl _ w).alloc (Nat.le_refl _) _).alloc (by simp) _
      refine ⟨l, [{ target := .collected w.heap.size, args := #[] }], W1, { target := .fn (.func g') (trL ρ cs).toArray, args := #[.func (.yield l) #[] #[]] }, W1, g', #[.func (.yield l) #[] #[]] ++ (trL ρ cs).toArray, W1, ?_, ?_, fun _ _ => trivial, ?_, fun _ => Nat.le_refl _, ?_⟩
      · rw [← hW1, ← hl]; exact run_enterLoop_outer _ _ _ _ _
      · simp only [resolve, hev, Sem.run_bind, Sem.run_pure, Result.andThen_ok, Deferred.ofValue]
        simp [Act.eval]
      · simp [invoke, g2]
      · -- the iterator
        have hRy : Rel (ρ.set H.next l 0) ⟨H.next + 1, H.bs⟩ w := hRw.more l 0
        have hSy : Step (ρ.set H.next l 0) ⟨H.next + 1, H.bs⟩ w (ρ.set H.next l 0) ⟨H.next + 1, H.bs⟩ W1 := Step.grow hRy hB1
        have hyb : (ρ.set H.next l 0).blk H.next = l := by simp [Rho.set]
        have hagy : Rho.agree H.next ρ (ρ.set H.next l 0) := Rho.set_agree ρ H.next l 0
        have htr : #[Value.func (.yield l) #[] #[]] ++ (trL ρ cs).toArray = (trL (ρ.set H.next l 0) (.yld H.next :: cs)).toArray := by
          simp only [trL, tr, hyb]
          rw [trL_agree hagy cs t2]
          simp
        rw [htr]
        have hay : belowL (H.next + 1) (.yld H.next :: cs) = true := by
          simp only [belowL, AVal.under, Bool.and_eq_true, Nat.blt_eq]
          exact ⟨Nat.lt_succ_self _, belowL_mono (Nat.le_succ _) cs t2⟩
        refine callsIn_of_wp g1 g3 trivial (wpIn_wide.2 ?_)
        have hEy := env0_rel (ρ := ρ.set H.next l 0) hay (gn.ntmps - (trL (ρ.set H.next l 0) (.yld H.next :: cs)).toArray.size)
        generalize hay0 : (Act.mk ((trL (ρ.set H.next l 0) (.yld H.next :: cs)).toArray ++ Array.replicate (gn.ntmps - (trL (ρ.set H.next l 0) (.yld H.next :: cs)).toArray.size) undef) []) = ay at hEy ⊢
        have hNy : gn.ntmps ≤ ay.tmps.size := by rw [← hay0]; simp; omega
        have hdy : ay.defers = [] := by rw [← hay0]
        have hY : YOk X H.next (roundA X n f E ps assign body) (ρ.set H.next l 0) ⟨H.next + 1, H.bs⟩ w (LoopAt l w.heap.size fr a.tmps ps assign body) := by
          intro as H' K' hk ρ' w' hS' has hat m
          have hb' : ρ'.blk H.next = l := by rw [(hS'.agree H.next (Nat.lt_succ_self _)).1, hyb]
          have hET : RelE ρ' H'.next E { tmps := a.tmps, defers := [] } := by
            have h1 := s3.step (hagy.trans (hS'.agree) (Nat.le_succ _)) (Nat.le_trans (Nat.le_succ _) hS'.next)
            exact ⟨fun u v hu => h1.get u v hu⟩
          obtain ⟨T', y1, y2⟩ := round_sound hX hL hk hS' hET (by rw [s5]; exact hN0) has (by omega) hat.1 hat.2 m
          rw [hb']
          exact ⟨fr, T', assign, body, y1, y2⟩
        have hrun := hIt E H cs s2 _ _ _ _ _ _ hY loopAt_keeps hSy hEy hdy hNy ⟨hL1, hD1⟩
        rw [hgc] at hrun
        refine wp_mono hrun ?_
        rintro e ag wg ⟨xg, Eg, Hg, ρg, pd, u1, u2, u3, u4, u5, u6, u7⟩
        -- behind the iterator
        have hpend : (Instr.endLoop l).run X.P wg = .ok pd (wg.putObj l (.loop { recL fr a.tmps ps.toArray assign body w.heap.size pd with state := .exhausted })) := by
          have := run_endLoop (P := X.P) u7.1 (by unfold recL; cases pd <;> simp)
          exact this
        have hlD : l ≠ w.heap.size := by omega
        have hwsz : w0.heap.size ≤ w.heap.size := s6.size
        have hS4 : Step ρ0 H0 w0 ρg Hg (wg.putObj l (.loop { recL fr a.tmps ps.toArray assign body w.heap.size pd with state := .exhausted })) := by
          have h1 : Step ρ H w (ρ.set H.next l 0) ⟨H.next + 1, H.bs⟩ w :=
            ⟨hagy, Nat.le_succ _, hRy, rfl, rfl, rfl, Nat.le_refl _, fun _ _ _ => rfl, fun gg hg' => by
              obtain ⟨b, x, hx, ho, rfl⟩ := hg'
              refine .inr ⟨b, x, hx, ho, ?_⟩
              exact (hagy b (hRw.blk b x hx).1).1.symm⟩
          exact ((s6.trans h1).trans u6).obj (by omega) u7.1 rfl _
        have hD4 : (wg.putObj l (.loop { recL fr a.tmps ps.toArray assign body w.heap.size pd with state := .exhausted })).heap[w.heap.size]? = some (.deferred (some [])) := (World.putObj_heap_other (Ne.symm hlD)).trans u7.2
        generalize hw4 : wg.putObj l (.loop { recL fr a.tmps ps.toArray assign body w.heap.size pd with state := .exhausted }) = w4 at hpend hS4 hD4
        have hag4 : Rho.agree H.next ρ ρg := hagy.trans u6.agree (Nat.le_succ _)
        have hE4 : RelE ρg Hg.next E { a with defers := [{ target := .collected w.heap.size, args := #[] }] ++ a.defers } := by
          have h1 := s3.step hag4 (Nat.le_trans (Nat.le_succ _) u6.next)
          exact ⟨fun u v hu => h1.get u v hu⟩
        have hd4 : ({ a with defers := [{ target := .collected w.heap.size, args := #[] }] ++ a.defers } : Act).defers = [{ target := .collected w.heap.size, args := #[] }] := by simp [s4']
        -- the end of the function
        have leave : ∀ (E5 : Env) (H5 : AHeap) (ρ5 : Rho) (a5 : Act) (w5 : World), endA X.P fn K .ret E5 H5 → RelE ρ5 H5.next E5 a5 → a5.defers = [{ target := .collected w.heap.size, args := #[] }] → Step ρ0 H0 w0 ρ5 H5 w5 → w5.heap[w.heap.size]? = some (.deferred (some [])) →
            LeavesInM Fence.wide 1 X.P fn a5.tmps (fun e w' => ∃ out H' ρ', Out.rel ρ' H'.next out e ∧ K out H' ∧ Step ρ0 H0 w0 ρ' H' w') a5.defers .returning w5 := by
          intro E5 H5 ρ5 a5 w5 he hE5 hd5 hS5 hD5
          rw [hd5]
          have hS6 := hS5.obj (by omega) hD5 rfl (.deferred none)
          refine ⟨by simp, .inl ⟨w.heap.size, _, rfl, run_takeDeferred hD5, ?_⟩⟩
          obtain ⟨v, hv1, hv2⟩ := end_results he hE5 hS6
          exact ⟨v, hv1, hv2⟩
        have fin : ∀ (x : Exit), behindRF X n f fn post E K Hg pd → bodyPost X.P gn (rangePost Fence.wide 1 X.P l (Exit.inBlock bid (Exit.then (post.wp X.P (bodyPostM Fence.wide 1 X.P fn fun e w' => ∃ out H' ρ', Out.rel ρ' H'.next out e ∧ K out H' ∧ Step ρ0 H0 w0 ρ' H' w')) (bodyPostM Fence.wide 1 X.P fn fun e w' => ∃ out H' ρ', Out.rel ρ' H'.next out e ∧ K out H' ∧ Step ρ0 H0 w0 ρ' H' w'))) { a with defers := [{ target := .collected w.heap.size, args := #[] }] ++ a.defers }) .ret ag wg := by
          intro x hk
          refine ⟨u4, .tuple #[], by simp [results, hgr], pd, w4, hpend, ?_⟩
          unfold behindRF at hk
          cases pd with
          | none =>
            show (post.wp X.P _) _ _
            refine wp_mono (@wpC_sound X hX ⟨[{ target := .collected w.heap.size, args := #[] }]⟩ _ _ _ _ _ _ _ hk _ _ _ _ _ _ _ (Nat.le_refl _) (by
              obtain ⟨fn', z1, z2, z3⟩ := sub0 (c := post) (fun p hp => by rw [← hW]; simp [blocksC, hp]) hpost
              exact ⟨fn', z1, z2, z3⟩) (Step.refl hS4.rel) hE4 hd4 (by rw [← s5])) ?_
            rintro e5 a5 w5 ⟨x5, E5, H5, ρ5, v1, v2, v3, v4, v5, v6⟩
            have hD5 := v6.keeps hD4 rfl hS4.rel
            cases x5 with
            | normal => cases e5 <;> simp only [AExit.rel] at v1; exact leave E5 H5 ρ5 a5 w5 v2 v3 v4 (hS4.trans v6) hD5
            | ret => cases e5 <;> simp only [AExit.rel] at v1; exact leave E5 H5 ρ5 a5 w5 v2 v3 v4 (hS4.trans v6) hD5
            | exit i => exact v2.elim
            | panic v => exact v2.elim
          | some c =>
            cases c with
            | ret =>
              refine wpIn_ret ?_
              exact leave E Hg ρg _ w4 hk hE4 hd4 hS4 hD4
            | _ => exact hk.elim
        cases xg with
        | normal =>
          cases e <;> simp only [AExit.rel] at u1
          exact fin .ret u2.2
        | ret =>
          cases e <;> simp only [AExit.rel] at u1
          exact fin .ret u2.2
        | exit i => rcases u2.1 with h | h <;> cases h
        | panic v => rcases u2.1 with h | h <;> cases h
    · exact s2.elim
  · exact s2.elim

end Go.Proofs.Ytjacnjecggedhaa.Ev
