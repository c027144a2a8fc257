/-
  Ev, part 5.
-/
import Derived.Test.YtcgnoegejmhgmaaEm4
import Derived.RangeFuncRecord
import Derived.RangeFuncCalls
import Derived.TacticsIn
/-
  Ev: a range over a function, whose rounds and whose iterator are reckoned.
-/
namespace Go.Proofs.Ytcgnoegejmhgmaa.Ev
set_option linter.unusedVariables false
set_option linter.unusedSimpArgs false
open Go.RowKit

/-! ### code in a round's frame -/

theorem opIn_of_wp {P : Program} {o : Oper} {a : Act} {w : World} {next : Act → World → Prop} {Q : Exit → Act → World → Prop} (h : o.wp P a w next Q) (hnd : ∀ c, o.op ≠ .defer c) (ro : Option Nat) (m : Nat) :
    o.wpIn { Fence.wide with round := ro } m P a w next Q := by
  refine ⟨fun f _ => trivial, ?_⟩
  have e : o.semAt ro a.eval = execOp a.eval o := Oper.semAt_eq ro _ _ hnd
  show o.uponIn _ _ _ _ _ _ ((o.semAt ro a.eval).run P w)
  rw [e]
  unfold Oper.wp at h
  generalize (execOp a.eval o).run P w = r at h
  unfold Oper.upon at h
  unfold Oper.uponIn
  split at h
  · exact h
  · exact h
  · exact h
  · refine ⟨fun hd => by simp [Fence.wide] at hd, ?_⟩
    have := (callsIn_wide (n := m - 1)).2 h
    exact this
  · refine ⟨fun hd => by simp [Fence.wide] at hd, ?_⟩
    intro c cs _
    obtain ⟨v, w', h1, h2⟩ := h c cs
    exact ⟨v, w', h1, stepsIn_wide.2 h2⟩
  · exact h
  · exact h.elim

def notDefer (o : Oper) : Bool := match o.op with
  | .defer _ => false
  | _ => true
theorem notDefer_ne {o : Oper} (h : notDefer o = true) : ∀ c, o.op ≠ .defer c := by
  intro c hc
  simp [notDefer, hc] at h

theorem wpSeqI_sound [Dfs] {X : Ctx} (hX : CtxRows X) (hF : FcOk X) {sm : Bool} {cf : CallF} (hC : CallOk X cf) {ops : Array Oper} {Q : AExit → Env → AHeap → Prop} {ρ0 : Rho} {H0 : AHeap} {w0 : World} {n : Nat} (hdst : ∀ (j : Nat) (o : Oper) (t : Nat), ops[j]? = some o → o.dst = some t → t < n) (hnd : ∀ (j : Nat) (o : Oper), ops[j]? = some o → notDefer o = true) (ro : Option Nat) (m : Nat) :
    ∀ (rest : List Oper) (k : Nat), (∀ j, rest[j]? = ops[k + j]?) → ∀ (E : Env) (H : AHeap) (ρ : Rho) (a : Act) (w : World), wpSeq X sm cf ops.toList rest E H Q → Step ρ0 H0 w0 ρ H w → RelE ρ H.next E a → a.defers = Dfs.D → a.tmps.size = n →
      wpOpsIn { Fence.wide with round := ro } m X.P ops (Lift ρ0 H0 w0 n Q) (List.range' k rest.length) a w
  | [], k, _, E, H, ρ, a, w, h, hS, hE, hd, hn => ⟨.normal, E, H, ρ, trivial, h, hE, hd, hn, hS⟩
  | o :: rest, k, hr, E, H, ρ, a, w, h, hS, hE, hd, hn => by
    have h0 : ops[k]? = some o := by simpa using (hr 0).symm
    have hr' : ∀ j, rest[j]? = ops[k + 1 + j]? := fun j => by have := hr (j + 1); simpa [Nat.add_assoc, Nat.add_comm 1 j] using this
    have hdo : ∀ t, o.dst = some t → t < n := fun t ht => hdst k o t h0 ht
    simp only [List.length_cons, List.range'_succ, wpOpsIn, h0]
    have yes : ∀ E', RelE ρ H.next E' a → stepA X sm cf o E' H (fun E H => wpSeq X sm cf ops.toList rest E H Q) Q → o.wpIn { Fence.wide with round := ro } m X.P a w (wpOpsIn { Fence.wide with round := ro } m X.P ops (Lift ρ0 H0 w0 n Q) (List.range' (k + 1) rest.length)) (Lift ρ0 H0 w0 n Q) := by
      intro E' hE' hs
      exact opIn_of_wp (stepA_sound hX hF hC hs hS hE' hd hn hdo (fun E'' H'' ρ'' a'' w'' hk hS' hE'' hd' hn' _ _ => wpSeqI_sound hX hF hC hdst hnd ro m rest (k + 1) hr' E'' H'' ρ'' a'' w'' hk hS' hE'' hd' hn')) (notDefer_ne (hnd k o h0)) ro m
    have no : ∀ E', RelE ρ H.next E' a → wpSeq X sm cf ops.toList rest (putE E' o.dst (.tup [])) H Q → (∀ f, o.about X.P w a.eval = some f → True) ∧ wpOpsIn { Fence.wide with round := ro } m X.P ops (Lift ρ0 H0 w0 n Q) (List.range' (k + 1) rest.length) (a.put o.dst undef) w := by
      intro E' hE' hs
      have := hE'.put (v := .tup []) (dst := o.dst) rfl (fun t ht => by rw [hn]; exact hdo t ht)
      exact ⟨fun _ _ => trivial, wpSeqI_sound hX hF hC hdst hnd ro m rest (k + 1) hr' _ H ρ _ w hs hS this (by rw [put_defers]; exact hd) (by rw [put_size]; exact hn)⟩
    unfold wpSeq at h
    split at h
    · rename_i hw
      rw [if_pos (wantA_yes hw a)]
      exact yes E hE h
    · rename_i hw
      rw [if_neg (by rw [wantA_no hw hE]; simp)]
      exact no E hE h
    · rename_i t b want hw
      obtain ⟨h1, h2⟩ := wantA_ask hw hE
      rw [h1]
      split at h
      · rw [branch_iff] at h
        cases b with
        | true => rw [if_pos (show (true == true) = true from rfl)]; exact yes _ (hE.over h2) (h.1 rfl)
        | false => rw [if_neg (by simp)]; exact no _ (hE.over h2) (h.2 rfl)
      · rw [branch_iff] at h
        cases b with
        | true => rw [if_neg (by simp)]; exact no _ (hE.over h2) (h.1 rfl)
        | false => rw [if_pos (show (false == false) = true from rfl)]; exact yes _ (hE.over h2) (h.2 rfl)
    · exact (not_stuck h).elim

/-- Code that may stand in a round: no loops, no open orders, no deferred calls. -/
def plainC : Code → Bool
  | .skip | .ret | .exit _ => true
  | .seq a b => plainC a && plainC b
  | .cond _ a b => plainC a && plainC b
  | .block _ c => plainC c
  | .region _ ops draw => !draw && ops.toList.all notDefer
  | _ => false

theorem callC_all {X : Ctx} (hX : CtxOk X) (n : Nat) : CallOk X (callC X n) := callC_ok hX n

theorem wpCI_sound {X : Ctx} (hX : CtxOk X) [Dfs] {fn : Func} (ro : Option Nat) (m : Nat) : ∀ (n : Nat) (f : FuncId) (base : Nat) (c : Code) (E : Env) (H : AHeap) (Q : AExit → Env → AHeap → Prop), wpC X n f base c E H Q →
    (∀ p ∈ blocksC c, X.lcs f p.1 = none) → plainC c = true → okDst fn.ntmps c = true → ∀ {ρ0 : Rho} {H0 : AHeap} {w0 : World} {N : Nat} {ρ : Rho} {a : Act} {w : World}, fn.ntmps ≤ N →
      Step ρ0 H0 w0 ρ H w → RelE ρ H.next E a → a.defers = Dfs.D → a.tmps.size = N → c.wpIn { Fence.wide with round := ro } m X.P (Lift ρ0 H0 w0 N Q) a w := by
  intro n
  induction n with
  | zero => intro f base c E H Q h; exact (not_stuck h).elim
  | succ n ih =>
    intro f base c E H Q h hl hp hok ρ0 H0 w0 N ρ a w hN0 hS hE hd hN
    unfold wpC at h
    cases c with
    | skip => exact wpIn_skip ⟨.normal, E, H, ρ, trivial, h, hE, hd, hN, hS⟩
    | ret => exact wpIn_ret ⟨.ret, E, H, ρ, trivial, h, hE, hd, hN, hS⟩
    | exit id => exact wpIn_exit ⟨.exit id, E, H, ρ, rfl, h, hE, hd, hN, hS⟩
    | seq x y =>
      simp only [okDst, plainC, Bool.and_eq_true] at hok hp
      refine wpIn_seq (wpIn_mono (ih f base x E H _ h (fun p hpp => hl p (by simp [blocksC, hpp])) hp.1 hok.1 hN0 hS hE hd hN) ?_)
      rintro e a' w' ⟨x', E', H', ρ', h1, h2, h3, h4, h5, h6⟩
      cases x' with
      | normal =>
        cases e <;> simp only [AExit.rel] at h1
        exact ih f base y E' H' Q h2 (fun p hpp => hl p (by simp [blocksC, hpp])) hp.2 hok.2 hN0 h6 h3 h4 h5
      | exit i => cases e <;> simp only [AExit.rel] at h1; exact ⟨.exit i, E', H', ρ', h1, h2, h3, h4, h5, h6⟩
      | ret => cases e <;> simp only [AExit.rel] at h1; exact ⟨.ret, E', H', ρ', trivial, h2, h3, h4, h5, h6⟩
      | panic v => cases e <;> simp only [AExit.rel] at h1; exact ⟨.panic v, E', H', ρ', h1, h2, h3, h4, h5, h6⟩
    | cond b x y =>
      simp only [okDst, plainC, Bool.and_eq_true] at hok hp
      simp only at h
      split at h
      · rename_i b' hb
        obtain ⟨h1, h2⟩ := evalO_tr hE hb
        rw [branch_iff] at h
        refine wpIn_cond_split (t := b') (by rw [h1]; rfl) (fun ht => ?_) (fun ht => ?_)
        · exact ih f base x E H Q (h.1 ht) (fun p hpp => hl p (by simp [blocksC, hpp])) hp.1 hok.1 hN0 hS hE hd hN
        · exact ih f base y E H Q (h.2 ht) (fun p hpp => hl p (by simp [blocksC, hpp])) hp.2 hok.2 hN0 hS hE hd hN
      · exact h.elim
    | block id c =>
      simp only [okDst, plainC] at hok hp
      have hlc : X.lcs f id = none := hl (id, c) (by simp [blocksC])
      simp only [hlc] at h
      refine wpIn_block (wpIn_mono (ih f base c E H _ h (fun p hpp => hl p (by simp [blocksC, hpp])) hp hok hN0 hS hE hd hN) ?_)
      rintro e a' w' ⟨x', E', H', ρ', h1, h2, h3, h4, h5, h6⟩
      cases x' with
      | normal => cases e <;> simp only [AExit.rel] at h1; exact ⟨.normal, E', H', ρ', trivial, h2, h3, h4, h5, h6⟩
      | exit i =>
        cases e <;> simp only [AExit.rel] at h1
        subst h1
        simp only [inBlk] at h2
        split at h2
        · rename_i hi
          have := nat_beq_eq.1 hi
          simp only [Exit.inBlock, if_pos this]
          exact ⟨.normal, E', H', ρ', trivial, h2, h3, h4, h5, h6⟩
        · rename_i hi
          have := nat_beq_ne.1 hi
          simp only [Exit.inBlock, if_neg this]
          exact ⟨.exit i, E', H', ρ', rfl, h2, h3, h4, h5, h6⟩
      | ret => cases e <;> simp only [AExit.rel] at h1; exact ⟨.ret, E', H', ρ', trivial, h2, h3, h4, h5, h6⟩
      | panic v => cases e <;> simp only [AExit.rel] at h1; exact ⟨.panic v, E', H', ρ', h1, h2, h3, h4, h5, h6⟩
    | region id ops draw =>
      simp only [okDst, plainC, Bool.and_eq_true, Bool.not_eq_true'] at hok hp
      obtain ⟨rfl, hp⟩ := hp
      have hdst : ∀ (j : Nat) (o : Oper) (t : Nat), ops[j]? = some o → o.dst = some t → t < N := by
        intro j o t hj ht
        rw [List.all_eq_true] at hok
        have := hok o (List.mem_of_getElem? (by simpa using hj))
        rw [ht] at this
        have hlt : t < fn.ntmps := by simpa using this
        omega
      have hnd : ∀ (j : Nat) (o : Oper), ops[j]? = some o → notDefer o = true := by
        intro j o hj
        rw [List.all_eq_true] at hp
        exact hp o (List.mem_of_getElem? (by simpa using hj))
      refine wpIn_region ?_
      have := wpSeqI_sound hX.rows hX.fcs (callC_all hX n) (ops := ops) hdst hnd ro m ops.toList 0 (by simp) E H ρ a w h hS hE hd hN
      rw [List.range_eq_range']
      simpa using this
    | _ => simp [plainC] at hp


/-! ### objects that are no cells -/

theorem own_ours {ρ : Rho} {H : AHeap} {w : World} (hR : Rel ρ H w) {b : Nat} {x : ABlk} (hx : H.get b = some x) (ho : x.own = true) {g : Nat} (hf : x.fp ρ b g) : ∃ o, w.heap[g]? = some o ∧ oursO o = true := by
  obtain ⟨_, _, _, h4⟩ := hR.blk b x hx
  cases x with
  | cells e l => rw [ABlk.fp_small rfl] at hf; subst hf; obtain ⟨_, _, fz, h, _⟩ := h4; exact ⟨_, h, rfl⟩
  | row e T l md =>
    rw [ABlk.fp_small rfl] at hf; subst hf
    cases md with
    | plain => obtain ⟨cur, fz, h, _⟩ := h4.cells; exact ⟨_, h, rfl⟩
    | strish => obtain ⟨cur, fz, h, _⟩ := h4.cells; exact ⟨_, h, rfl⟩
    | ro => cases ho
  | obj U s l => exact U.ours _ _ _ _ _ h4.2 g (hf.imp id fun h => h.2)
  | dead => cases ho

theorem Rel.obj {ρ : Rho} {H : AHeap} {w : World} (hR : Rel ρ H w) {l : Nat} {o : Obj} (ho : w.heap[l]? = some o) (hc : oursO o = false) (o' : Obj) : Rel ρ H (w.putObj l o') := by
  refine ⟨fun b x hx => ?_, hR.inj⟩
  obtain ⟨h1, h2, h3, h4⟩ := hR.blk b x hx
  have keep : ∀ {cs e fz}, w.heap[ρ.blk b]? = some (.cells cs e fz) → (w.putObj l o').heap[ρ.blk b]? = some (.cells cs e fz) := by
    intro cs e fz h
    rw [World.putObj_heap_other (fun e => by rw [e, ho] at h; cases h; cases hc)]
    exact h
  refine ⟨h1, h2, by simpa using h3, ?_⟩
  cases x with
  | cells e l' => obtain ⟨q1, q2, fz, q3, q4⟩ := h4; exact ⟨q1, q2, fz, keep q3, q4⟩
  | row e T l' md =>
    cases md with
    | plain => obtain ⟨q1, q2, q3, cur, fz, q4, q5⟩ := h4; exact ⟨q1, q2, q3, cur, fz, keep q4, q5⟩
    | strish => obtain ⟨q1, q2, q3, cur, fz, q4, q5⟩ := h4; exact ⟨q1, q2, q3, cur, fz, keep q4, q5⟩
    | ro =>
      obtain ⟨q1, q2, q3, q4⟩ := h4
      refine ⟨q1, q2, by simpa using q3, fun i v hi => ?_⟩
      have := q4 i v hi
      unfold World.cell? at this ⊢
      simp only at this ⊢
      split at this
      · rename_i cs e' fz hcs
        rw [keep hcs]
        exact this
      · cases this
  | obj U s l' =>
    refine ⟨h4.1, U.keep _ _ _ _ _ _ h4.2 fun g hg => ?_⟩
    obtain ⟨o2, h5, h6⟩ := U.ours _ _ _ _ _ h4.2 g hg
    exact World.putObj_heap_other (fun e => by rw [e, ho] at h5; cases h5; rw [hc] at h6; cases h6)
  | dead => trivial

theorem Step.obj {ρ0 ρ : Rho} {H0 H : AHeap} {w0 w : World} (hS : Step ρ0 H0 w0 ρ H w) {l : Nat} {o : Obj} (hl : w0.heap.size ≤ l) (ho : w.heap[l]? = some o) (hc : oursO o = false) (o' : Obj) : Step ρ0 H0 w0 ρ H (w.putObj l o') :=
  ⟨hS.agree, hS.next, hS.rel.obj ho hc o', hS.os, hS.tape, hS.output, by simpa using hS.size, fun g hg hn => by rw [World.putObj_heap_other (by omega)]; exact hS.old g hg hn, hS.owns⟩

theorem Step.keeps {ρ ρ' : Rho} {H H' : AHeap} {w w' : World} (hS : Step ρ H w ρ' H' w') {l : Nat} {o : Obj} (ho : w.heap[l]? = some o) (hc : oursO o = false) (hR : Rel ρ H w) : w'.heap[l]? = some o := by
  rw [hS.old l (Array.getElem?_eq_some_iff.1 ho).1 fun hn => by
    obtain ⟨b, x, hx, hxo, hf⟩ := hn
    obtain ⟨o2, h, h6⟩ := own_ours hR hx hxo hf
    rw [ho] at h
    cases h
    rw [hc] at h6
    cases h6]
  exact ho

/-! ### a round -/

/-- The loop's record: none, or a jump is pending. -/
def recL (f : Nat) (T : Array Value) (ps : Array Tmp) (assign body : Code) (D : Nat) (pd : Option Code) : Loop :=
  { state := if pd.isNone then .ready else .done, pending := pd, fn := f, tmps := T, params := ps, assign, body, defers := D }

def foldE : List Nat → List AVal → Env → Env
  | t :: ts, v :: vs, E => foldE ts vs ((t, v) :: E)
  | _, _, E => E

theorem foldE_rel {ρ : Rho} {N : Nat} : ∀ (ps : List Nat) (as : List AVal) (E : Env) (T : Array Value), RelE ρ N E { tmps := T, defers := [] } → belowL N as = true → (∀ t ∈ ps, t < T.size) →
    RelE ρ N (foldE ps as E) { tmps := (ps.zip (trL ρ as)).foldl (fun t p => t.setIfInBounds p.1 p.2) T, defers := [] }
  | [], as, E, T, h, _, _ => by cases as <;> exact h
  | t :: ts, [], E, T, h, _, _ => h
  | t :: ts, v :: vs, E, T, h, hb, ht => by
    simp only [belowL, Bool.and_eq_true] at hb
    simp only [foldE, trL, List.zip_cons_cons, List.foldl_cons]
    refine foldE_rel ts vs _ _ ?_ hb.2 (fun x hx => by simpa using ht x (List.mem_cons_of_mem _ hx))
    have := h.put (v := v) (dst := some t) hb.1 (fun t' ht' => by cases ht'; exact ht _ (List.mem_cons_self))
    exact ⟨fun u x hx => this.get u x hx⟩

/-- A round, as it is reckoned: how it is left. -/
noncomputable def roundA (X : Ctx) (n f : Nat) (ET : Env) (ps : List Nat) (assign body : Code) (as : List AVal) (H : AHeap) (K : Option Code → AHeap → Prop) : Prop :=
  match Nat.beq as.length ps.length with
  | true => wpC X n f H.next assign (foldE ps as ET) H fun x E1 H1 => match x with
    | .normal => wpC X n f H.next body E1 H1 fun x _ H2 => match x with
      | .normal => K none H2
      | .ret => K (some .ret) H2
      | .exit i => K (some (.exit i)) H2
      | .panic _ => False
    | _ => False
  | false => False

/-- What is fixed of a loop. -/
structure LoopOk (X : Ctx) (f : Nat) (fn : Func) (ps : List Nat) (assign body : Code) : Prop where
  la : ∀ p ∈ blocksC assign, X.lcs f p.1 = none
  lb : ∀ p ∈ blocksC body, X.lcs f p.1 = none
  pa : plainC assign = true
  pb : plainC body = true
  oa : okDst fn.ntmps assign = true
  ob : okDst fn.ntmps body = true
  ps : ∀ t ∈ ps, t < fn.ntmps

theorem round_sound {X : Ctx} (hX : CtxOk X) {f n fr : Nat} {fn : Func} {ps : List Nat} {assign body : Code} (hL : LoopOk X f fn ps assign body) {ET : Env} {T : Array Value} {as : List AVal} {H : AHeap} {K : Option Code → AHeap → Prop} (h : roundA X n f ET ps assign body as H K)
    {ρ0 ρ : Rho} {H0 : AHeap} {w0 w : World} {l D : Nat} (hS : Step ρ0 H0 w0 ρ H w) (hT : RelE ρ H.next ET { tmps := T, defers := [] }) (hTs : fn.ntmps ≤ T.size) (has : belowL H.next as = true) (hl0 : w0.heap.size ≤ l)
    (hl : w.heap[l]? = some (.loop (recL fr T ps.toArray assign body D none))) (hD : w.heap[D]? = some (.deferred (some []))) (m : Nat) :
    ∃ T', (Instr.yield l (trL ρ as).toArray).run X.P w = .ok (.round l fr T' assign body) w ∧ RoundIn Fence.wide m X.P l fr T' assign body w fun e w' => ∃ jump H' ρ', e = .returned (.bool jump.isNone) ∧ K jump H' ∧ Rho.agree H.next ρ ρ' ∧ H.next ≤ H'.next ∧ Step ρ0 H0 w0 ρ' H' w' ∧ w'.heap[l]? = some (.loop (recL fr T ps.toArray assign body D jump)) ∧ w'.heap[D]? = some (.deferred (some [])) := by
  have hlen : as.length = ps.length := by
    unfold roundA at h
    split at h
    · rename_i hb; exact nat_beq_eq.1 hb
    · exact h.elim
  have hy := run_yield (P := X.P) (args := (trL ρ as).toArray) hl (by simp [recL, trL_length, hlen])
  refine ⟨_, hy, ?_⟩
  unfold roundA at h
  rw [nat_beq_eq.2 hlen] at h
  simp only at h
  have hR := hS.rel
  have hne : l ≠ D := by rintro rfl; rw [hl] at hD; cases hD
  have hE0 := foldE_rel ps as ET T hT has (fun t ht => Nat.lt_of_lt_of_le (hL.ps t ht) hTs)
  have hfold : ((recL fr T ps.toArray assign body D none).params.zip (trL ρ as).toArray).foldl (fun tmps (t, a) => tmps.setIfInBounds t a) (recL fr T ps.toArray assign body D none).tmps = (ps.zip (trL ρ as)).foldl (fun t p => t.setIfInBounds p.1 p.2) T := by
    simp [recL]
  rw [hfold]
  refine roundIn_of_wpIn (F := Fence.wide) trivial ?_
  have hsz : ∀ (q : List (Nat × Value)) (T : Array Value), (q.foldl (fun t p => t.setIfInBounds p.1 p.2) T).size = T.size := by
    intro q
    induction q with
    | nil => intro T; rfl
    | cons p q ih => intro T; simp [ih]
  refine wpIn_mono (@wpCI_sound X hX ⟨[]⟩ fn (some l) m n f H.next assign _ H _ h hL.la hL.pa hL.oa _ _ _ _ _ _ _ (by rw [hsz]; exact hTs) (Step.refl hR) hE0 rfl rfl) ?_
  rintro e a1 w1 ⟨x1, E1, H1, ρ1, p1, p2, p3, p4, p5, p6⟩
  cases x1 with
  | exit i => exact p2.elim
  | ret => exact p2.elim
  | panic v => exact p2.elim
  | normal =>
    cases e <;> simp only [AExit.rel] at p1
    have hl1 := p6.keeps hl rfl hR
    have hD1 := p6.keeps hD rfl hR
    refine ⟨_, run_beginRound hl1 rfl, ?_⟩
    have hlt1 := (Array.getElem?_eq_some_iff.1 hl1).1
    have hS1 := (hS.trans p6).obj hl0 hl1 rfl (.loop { recL fr T ps.toArray assign body D none with state := .busy })
    have hl2 : (w1.putObj l (.loop { recL fr T ps.toArray assign body D none with state := .busy })).heap[l]? = some (.loop { recL fr T ps.toArray assign body D none with state := .busy }) := World.putObj_heap_same hlt1
    have hD2 : (w1.putObj l (.loop { recL fr T ps.toArray assign body D none with state := .busy })).heap[D]? = some (.deferred (some [])) := (World.putObj_heap_other (Ne.symm hne)).trans hD1
    refine wpIn_mono (@wpCI_sound X hX ⟨[]⟩ fn (some l) m n f H.next body E1 H1 _ p2 hL.lb hL.pb hL.ob _ _ _ _ _ _ _ (by rw [p5, hsz]; exact hTs) (Step.refl hS1.rel) p3 p4 rfl) ?_
    rintro e a3 w3 ⟨x3, E3, H3, ρ3, q1, q2, q3, q4, q5, q6⟩
    have hl3 := q6.keeps hl2 rfl hS1.rel
    have hD3 := q6.keeps hD2 rfl hS1.rel
    have hlt3 := (Array.getElem?_eq_some_iff.1 hl3).1
    have fin : ∀ jump : Option Code, K jump H3 → ∃ v w', (Instr.endRound l jump).run X.P w3 = .ok v w' ∧ ∃ jump' H' ρ', Ending.returned v = .returned (.bool jump'.isNone) ∧ K jump' H' ∧ Rho.agree H.next ρ ρ' ∧ H.next ≤ H'.next ∧ Step ρ0 H0 w0 ρ' H' w' ∧ w'.heap[l]? = some (.loop (recL fr T ps.toArray assign body D jump')) ∧ w'.heap[D]? = some (.deferred (some [])) := by
      intro jump hk
      refine ⟨_, _, run_endRound jump hl3, jump, H3, ρ3, rfl, hk, (p6.agree.trans q6.agree p6.next), Nat.le_trans p6.next q6.next, (hS1.trans q6).obj hl0 hl3 rfl _, ?_, (World.putObj_heap_other (Ne.symm hne)).trans hD3⟩
      rw [World.putObj_heap_same hlt3]
      rfl
    cases x3 with
    | normal => cases e <;> simp only [AExit.rel] at q1; exact fin none q2
    | ret => cases e <;> simp only [AExit.rel] at q1; exact fin (some .ret) q2
    | exit i => cases e <;> simp only [AExit.rel] at q1; subst q1; exact fin (some (.exit i)) q2
    | panic v => exact q2.elim

/-! ### the iterator -/

/-- A call of yield (y: its number). -/
def isYield (y : Nat) (o : Oper) (E : Env) : Option (List AVal) := match o.op with
  | .call { callee := .value x, args := args, .. } => match evalO E x with
    | some (.yld b) => match Nat.beq b y with
      | true => evalL E args.toList
      | false => none
    | _ => none
  | _ => none

abbrev YF := List AVal → AHeap → (Option Code → AHeap → Prop) → Prop

/-- One operation that is wanted; R: what follows. -/
noncomputable def goY (X : Ctx) (sm : Bool) (cf : CallF) (y : Nat) (Y : YF) (R : Env → AHeap → Option Code → Prop) (o : Oper) (E : Env) (H : AHeap) (pd : Option Code) (Q : AExit → Env → AHeap → Option Code → Prop) : Prop :=
  match isYield y o E with
  | some as => match pd with
    | none => Y as H fun j H' => R (putE E o.dst (.bool j.isNone)) H' j
    | some _ => Stuck 50 [o]
  | none => stepA X sm cf o E H (fun E H => R E H pd) (fun x E H => Q x E H pd)

noncomputable def wpSeqY (X : Ctx) (sm : Bool) (cf : CallF) (y : Nat) (Y : YF) (all : List Oper) : List Oper → Env → AHeap → Option Code → (AExit → Env → AHeap → Option Code → Prop) → Prop
  | [], E, H, pd, Q => Q .normal E H pd
  | o :: rest, E, H, pd, Q =>
    match wantA all o E with
    | .yes => goY X sm cf y Y (fun E H pd => wpSeqY X sm cf y Y all rest E H pd Q) o E H pd Q
    | .no => wpSeqY X sm cf y Y all rest (putE E o.dst (.tup [])) H pd Q
    | .ask t b want => match want with
      | true => branch b (goY X sm cf y Y (fun E H pd => wpSeqY X sm cf y Y all rest E H pd Q) o ((t, .bool true) :: E) H pd Q) (wpSeqY X sm cf y Y all rest (putE ((t, .bool false) :: E) o.dst (.tup [])) H pd Q)
      | false => branch b (wpSeqY X sm cf y Y all rest (putE ((t, .bool true) :: E) o.dst (.tup [])) H pd Q) (goY X sm cf y Y (fun E H pd => wpSeqY X sm cf y Y all rest E H pd Q) o ((t, .bool false) :: E) H pd Q)
    | .bad => Stuck 3 [o]

/-- An iterator's code (function g), whose rounds are Y. -/
noncomputable def wpY (X : Ctx) (y : Nat) (Y : YF) : Nat → Nat → Code → Env → AHeap → Option Code → (AExit → Env → AHeap → Option Code → Prop) → Prop
  | 0, _, _, _, _, _, _ => Stuck 8 []
  | n + 1, g, c, E, H, pd, Q => match c with
    | .skip => Q .normal E H pd
    | .seq x x' => wpY X y Y n g x E H pd fun e E H pd => match e with
      | .normal => wpY X y Y n g x' E H pd Q
      | .exit i => Q (.exit i) E H pd
      | .ret => Q .ret E H pd
      | .panic v => Q (.panic v) E H pd
    | .cond b x x' => match evalO E b with
      | some (.bool b) => branch b (wpY X y Y n g x E H pd Q) (wpY X y Y n g x' E H pd Q)
      | _ => False
    | .block id c => wpY X y Y n g c E H pd fun e E H pd => match e with
      | .exit i => match Nat.beq i id with
        | true => Q .normal E H pd
        | false => Q (.exit i) E H pd
      | .normal => Q .normal E H pd
      | .ret => Q .ret E H pd
      | .panic v => Q (.panic v) E H pd
    | .loop c => wpY X y Y n g c E H pd fun e E H pd => match e with
      | .normal => wpY X y Y n g (.loop c) E H pd Q
      | .exit i => Q (.exit i) E H pd
      | .ret => Q .ret E H pd
      | .panic v => Q (.panic v) E H pd
    | .exit id => Q (.exit id) E H pd
    | .ret => Q .ret E H pd
    | .region _ ops draw => match draw with
      | false => wpSeqY X (X.sms g) (callC X 100) y Y ops.toList ops.toList E H pd Q
      | true => Stuck 51 []
    | _ => Stuck 9 []

/-- Where a loop's record stands, and the block of its deferred calls. -/
def LoopAt (l D f : Nat) (T : Array Value) (ps : List Nat) (assign body : Code) (pd : Option Code) (w : World) : Prop :=
  w.heap[l]? = some (.loop (recL f T ps.toArray assign body D pd)) ∧ w.heap[D]? = some (.deferred (some []))

def LiftY (ρ0 : Rho) (H0 : AHeap) (w0 : World) (n : Nat) (At : Option Code → World → Prop) (Q : AExit → Env → AHeap → Option Code → Prop) : Exit → Act → World → Prop := fun x a w =>
  ∃ x' E H ρ pd, AExit.rel ρ H.next x' x ∧ Q x' E H pd ∧ RelE ρ H.next E a ∧ a.defers = [] ∧ a.tmps.size = n ∧ Step ρ0 H0 w0 ρ H w ∧ At pd w

/-- What is claimed of the rounds. -/
def YOk (X : Ctx) (y : Nat) (Y : YF) (ρ0 : Rho) (H0 : AHeap) (w0 : World) (At : Option Code → World → Prop) : Prop :=
  ∀ as H K, Y as H K → ∀ ρ w, Step ρ0 H0 w0 ρ H w → belowL H.next as = true → At none w → ∀ m, ∃ f T' assign body, (Instr.yield (ρ.blk y) (trL ρ as).toArray).run X.P w = .ok (.round (ρ.blk y) f T' assign body) w ∧
    RoundIn Fence.wide m X.P (ρ.blk y) f T' assign body w fun e w' => ∃ jump H' ρ', e = .returned (.bool jump.isNone) ∧ K jump H' ∧ Rho.agree H.next ρ ρ' ∧ H.next ≤ H'.next ∧ Step ρ0 H0 w0 ρ' H' w' ∧ At jump w'

/-- What holds of the loop's objects stands, where nothing but cells turns. -/
def AtKeeps (At : Option Code → World → Prop) : Prop := ∀ pd w w', At pd w → (∀ (g : Nat) (o : Obj), w.heap[g]? = some o → oursO o = false → w'.heap[g]? = some o) → At pd w'

theorem loopAt_keeps {l D f : Nat} {T : Array Value} {ps : List Nat} {assign body : Code} : AtKeeps (LoopAt l D f T ps assign body) := fun pd w w' h hk => ⟨hk _ _ h.1 rfl, hk _ _ h.2 rfl⟩

theorem uponIn_mono {F : Fence} {n : Nat} {P : Program} {o : Oper} {a : Act} {next : Act → World → Prop} {Q Q' : Exit → Act → World → Prop} {r : Result Next} (h : o.uponIn F n P a next Q r) (hq : ∀ x a w, Q x a w → Q' x a w) : o.uponIn F n P a next Q' r := by
  have out : LetsOut Q → LetsOut Q' := fun ⟨a, w, h⟩ => ⟨a, w, hq _ _ _ h⟩
  unfold Oper.uponIn at h ⊢
  split at h
  · exact h
  · exact h
  · exact h
  · refine ⟨h.1, h.2.mono ?_⟩
    intro e w' he
    cases e with
    | returned v => exact he
    | panicked ch => exact hq _ _ _ he
    | outgrown => exact out he
  · exact h
  · refine ⟨h.1, h.2.mono ?_⟩
    intro e w' he
    cases e with
    | returned v => exact he
    | panicked ch => exact hq _ _ _ he
    | outgrown => exact out he
  · exact hq _ _ _ h
  · exact h.elim

theorem isYield_sound {X : Ctx} {y : Nat} {o : Oper} {E : Env} {as : List AVal} (h : isYield y o E = some as) {ρ : Rho} {N : Nat} {a : Act} (hE : RelE ρ N E a) (w : World) :
    (execOp a.eval o).run X.P w = (Instr.yield (ρ.blk y) (trL ρ as).toArray).run X.P w ∧ belowL N as = true ∧ notDefer o = true := by
  unfold isYield at h
  split at h <;> try cases h
  rename_i x args ts ho
  split at h <;> try cases h
  rename_i b hx
  split at h <;> try cases h
  rename_i hb
  have hb := nat_beq_eq.1 hb
  subst hb
  obtain ⟨h1, h2⟩ := evalO_tr hE hx
  obtain ⟨k1, k2⟩ := evalL_tr hE h
  have e1 : args.map a.eval = (trL ρ as).toArray := by rw [← k1]; apply Array.ext'; simp
  refine ⟨?_, k2, by simp [notDefer, ho]⟩
  simp only [execOp, ho, resolve, Sem.run_bind, Sem.run_pure, Result.andThen_ok, h1, tr, Deferred.ofValue, e1, invoke]
  simp

section
variable {X : Ctx} {y : Nat} {Y : YF} {ρ0 : Rho} {H0 : AHeap} {w0 : World} {At : Option Code → World → Prop} {N : Nat}

theorem wpSeqY_sound (hX : CtxRows X) (hF : FcOk X) {sm : Bool} {cf : CallF} (hC : CallOk X cf) (hY : YOk X y Y ρ0 H0 w0 At) (hAt : AtKeeps At) {ops : Array Oper} {Q : AExit → Env → AHeap → Option Code → Prop} (hdst : ∀ (j : Nat) (o : Oper) (t : Nat), ops[j]? = some o → o.dst = some t → t < N) (hnd : ∀ (j : Nat) (o : Oper), ops[j]? = some o → notDefer o = true) (m : Nat) :
    ∀ (rest : List Oper) (k : Nat), (∀ j, rest[j]? = ops[k + j]?) → ∀ (E : Env) (H : AHeap) (pd : Option Code) (ρ : Rho) (a : Act) (w : World), wpSeqY X sm cf y Y ops.toList rest E H pd Q → Step ρ0 H0 w0 ρ H w → RelE ρ H.next E a → a.defers = [] → a.tmps.size = N → At pd w →
      wpOpsIn Fence.wide m X.P ops (LiftY ρ0 H0 w0 N At Q) (List.range' k rest.length) a w
  | [], k, _, E, H, pd, ρ, a, w, h, hS, hE, hd, hn, hat => ⟨.normal, E, H, ρ, pd, trivial, h, hE, hd, hn, hS, hat⟩
  | o :: rest, k, hr, E, H, pd, ρ, a, w, h, hS, hE, hd, hn, hat => by
    have h0 : ops[k]? = some o := by simpa using (hr 0).symm
    have hr' : ∀ j, rest[j]? = ops[k + 1 + j]? := fun j => by have := hr (j + 1); simpa [Nat.add_assoc, Nat.add_comm 1 j] using this
    have hdo : ∀ t, o.dst = some t → t < N := fun t ht => hdst k o t h0 ht
    simp only [List.length_cons, List.range'_succ, wpOpsIn, h0]
    have yes : ∀ E', RelE ρ H.next E' a → goY X sm cf y Y (fun E H pd => wpSeqY X sm cf y Y ops.toList rest E H pd Q) o E' H pd Q → o.wpIn Fence.wide m X.P a w (wpOpsIn Fence.wide m X.P ops (LiftY ρ0 H0 w0 N At Q) (List.range' (k + 1) rest.length)) (LiftY ρ0 H0 w0 N At Q) := by
      intro E' hE' hs
      unfold goY at hs
      split at hs
      · rename_i as has
        split at hs
        · obtain ⟨i1, i2, i3⟩ := isYield_sound (X := X) has hE' w
          obtain ⟨f, T', assign, body, y1, y2⟩ := hY as H _ hs ρ w hS i2 (by assumption) (m - 1)
          refine ⟨fun f _ => trivial, ?_⟩
          show o.uponIn _ _ _ _ _ _ ((execOp a.eval o).run X.P w)
          rw [i1, y1, Oper.uponIn_round]
          refine ⟨fun hd => by simp [Fence.wide] at hd, ?_⟩
          refine y2.mono ?_
          rintro e w' ⟨jump, H', ρ', rfl, hk, hag, hnx, hS', hat'⟩
          have hE2 := (hE'.step hag hnx).put (v := .bool jump.isNone) (dst := o.dst) rfl (fun t ht => by rw [hn]; exact hdo t ht)
          exact wpSeqY_sound hX hF hC hY hAt hdst hnd m rest (k + 1) hr' _ H' jump ρ' _ w' hk hS' hE2 (by rw [put_defers]; exact hd) (by rw [put_size]; exact hn) hat'
        · exact (not_stuck hs).elim
      · have hcell : ∀ {ρ' : Rho} {H' : AHeap} {w' : World}, Step ρ H w ρ' H' w' → At pd w' := fun hst => hAt pd w _ hat (fun g o ho hc => hst.keeps ho hc hS.rel)
        have key := @stepA_sound X ⟨[]⟩ hX hF sm cf hC o E' H _ _ hs ρ H w N ρ a w (Step.refl hS.rel) hE' hd hn hdo
          (wpOpsIn Fence.wide m X.P ops (LiftY ρ0 H0 w0 N At Q) (List.range' (k + 1) rest.length))
          (fun E'' H'' ρ'' a'' w'' hk hS' hE'' hd' hn' _ _ => wpSeqY_sound hX hF hC hY hAt hdst hnd m rest (k + 1) hr' E'' H'' pd ρ'' a'' w'' hk (hS.trans hS') hE'' hd' hn' (hcell hS'))
        have key2 := opIn_of_wp key (notDefer_ne (hnd k o h0)) none m
        refine ⟨key2.1, ?_⟩
        have conv : ∀ x a' w', @Lift ⟨[]⟩ ρ H w N (fun x E H => Q x E H pd) x a' w' → LiftY ρ0 H0 w0 N At Q x a' w' := by
          rintro x a' w' ⟨x', E2, H2, ρ2, p1, p2, p3, p4, p5, p6⟩
          exact ⟨x', E2, H2, ρ2, pd, p1, p2, p3, p4, p5, hS.trans p6, hcell p6⟩
        exact uponIn_mono key2.2 conv
    have no : ∀ E', RelE ρ H.next E' a → wpSeqY X sm cf y Y ops.toList rest (putE E' o.dst (.tup [])) H pd Q → (∀ f, o.about X.P w a.eval = some f → True) ∧ wpOpsIn Fence.wide m X.P ops (LiftY ρ0 H0 w0 N At Q) (List.range' (k + 1) rest.length) (a.put o.dst undef) w := by
      intro E' hE' hs
      have := hE'.put (v := .tup []) (dst := o.dst) rfl (fun t ht => by rw [hn]; exact hdo t ht)
      exact ⟨fun _ _ => trivial, wpSeqY_sound hX hF hC hY hAt hdst hnd m rest (k + 1) hr' _ H pd ρ _ w hs hS this (by rw [put_defers]; exact hd) (by rw [put_size]; exact hn) hat⟩
    unfold wpSeqY at h
    split at h
    · rename_i hw
      rw [if_pos (wantA_yes hw a)]
      exact yes E hE h
    · rename_i hw
      rw [if_neg (by rw [wantA_no hw hE]; simp)]
      exact no E hE h
    · rename_i t b want hw
      obtain ⟨h1, h2⟩ := wantA_ask hw hE
      rw [h1]
      split at h
      · rw [branch_iff] at h
        cases b with
        | true => rw [if_pos (show (true == true) = true from rfl)]; exact yes _ (hE.over h2) (h.1 rfl)
        | false => rw [if_neg (by simp)]; exact no _ (hE.over h2) (h.2 rfl)
      · rw [branch_iff] at h
        cases b with
        | true => rw [if_neg (by simp)]; exact no _ (hE.over h2) (h.1 rfl)
        | false => rw [if_pos (show (false == false) = true from rfl)]; exact yes _ (hE.over h2) (h.2 rfl)
    · exact (not_stuck h).elim

/-- Code that an iterator may have. -/
def plainY : Code → Bool
  | .skip | .ret | .exit _ => true
  | .seq a b => plainY a && plainY b
  | .cond _ a b => plainY a && plainY b
  | .block _ c => plainY c
  | .loop c => plainY c
  | .region _ ops draw => !draw && ops.toList.all notDefer
  | _ => false

theorem wpY_both (hX : CtxOk X) (hY : YOk X y Y ρ0 H0 w0 At) (hAt : AtKeeps At) {fn : Func} (hN0 : fn.ntmps ≤ N) : ∀ (n : Nat) (g : Nat) (c : Code) (E : Env) (H : AHeap) (pd : Option Code) (Q : AExit → Env → AHeap → Option Code → Prop), wpY X y Y n g c E H pd Q →
    plainY c = true → okDst fn.ntmps c = true → ∀ {ρ : Rho} {a : Act} {w : World}, Step ρ0 H0 w0 ρ H w → RelE ρ H.next E a → a.defers = [] → a.tmps.size = N → At pd w → c.wp X.P (LiftY ρ0 H0 w0 N At Q) a w ∧ (∀ c', c = .loop c' → Code.rounds X.P c' (LiftY ρ0 H0 w0 N At Q) n a w) := by
  intro n
  induction n with
  | zero => intro g c E H pd Q h; exact (not_stuck h).elim
  | succ n ih2 =>
    have ih : ∀ (g : Nat) (c : Code) (E : Env) (H : AHeap) (pd : Option Code) (Q : AExit → Env → AHeap → Option Code → Prop), wpY X y Y n g c E H pd Q →
        plainY c = true → okDst fn.ntmps c = true → ∀ {ρ : Rho} {a : Act} {w : World}, Step ρ0 H0 w0 ρ H w → RelE ρ H.next E a → a.defers = [] → a.tmps.size = N → At pd w → c.wp X.P (LiftY ρ0 H0 w0 N At Q) a w :=
      fun g c E H pd Q h1 h2 h3 _ _ _ h4 h5 h6 h7 h8 => (ih2 g c E H pd Q h1 h2 h3 h4 h5 h6 h7 h8).1
    intro g c E H pd Q h hp hok ρ a w hS hE hd hN hat
    suffices hmain : (match c with
        | .loop c' => Code.rounds X.P c' (LiftY ρ0 H0 w0 N At Q) (n + 1) a w
        | c => c.wp X.P (LiftY ρ0 H0 w0 N At Q) a w) by
      cases c with
      | loop c' => exact ⟨wp_loop_rounds (n + 1) hmain, fun c'' h => by cases h; exact hmain⟩
      | _ => exact ⟨hmain, fun c'' h => by cases h⟩
    unfold wpY at h
    cases c with
    | skip => exact wp_skip ⟨.normal, E, H, ρ, pd, trivial, h, hE, hd, hN, hS, hat⟩
    | ret => exact wp_ret ⟨.ret, E, H, ρ, pd, trivial, h, hE, hd, hN, hS, hat⟩
    | exit id => exact wp_exit ⟨.exit id, E, H, ρ, pd, rfl, h, hE, hd, hN, hS, hat⟩
    | seq x x2 =>
      simp only [okDst, plainY, Bool.and_eq_true] at hok hp
      refine wp_seq (wp_mono (ih g x E H pd _ h hp.1 hok.1 hS hE hd hN hat) ?_)
      rintro e a' w' ⟨x', E', H', ρ', pd', h1, h2, h3, h4, h5, h6, h7⟩
      cases x' with
      | normal =>
        cases e <;> simp only [AExit.rel] at h1
        exact ih g x2 E' H' pd' Q h2 hp.2 hok.2 h6 h3 h4 h5 h7
      | exit i => cases e <;> simp only [AExit.rel] at h1; exact ⟨.exit i, E', H', ρ', pd', h1, h2, h3, h4, h5, h6, h7⟩
      | ret => cases e <;> simp only [AExit.rel] at h1; exact ⟨.ret, E', H', ρ', pd', trivial, h2, h3, h4, h5, h6, h7⟩
      | panic v => cases e <;> simp only [AExit.rel] at h1; exact ⟨.panic v, E', H', ρ', pd', h1, h2, h3, h4, h5, h6, h7⟩
    | cond b x x2 =>
      simp only [okDst, plainY, Bool.and_eq_true] at hok hp
      simp only at h
      split at h
      · rename_i b' hb
        obtain ⟨h1, h2⟩ := evalO_tr hE hb
        rw [branch_iff] at h
        refine wp_cond_split (t := b') (by rw [h1]; rfl) (fun ht => ?_) (fun ht => ?_)
        · exact ih g x E H pd Q (h.1 ht) hp.1 hok.1 hS hE hd hN hat
        · exact ih g x2 E H pd Q (h.2 ht) hp.2 hok.2 hS hE hd hN hat
      · exact h.elim
    | block id c =>
      simp only [okDst, plainY] at hok hp
      refine wp_block (wp_mono (ih g c E H pd _ h hp hok hS hE hd hN hat) ?_)
      rintro e a' w' ⟨x', E', H', ρ', pd', h1, h2, h3, h4, h5, h6, h7⟩
      cases x' with
      | normal => cases e <;> simp only [AExit.rel] at h1; exact ⟨.normal, E', H', ρ', pd', trivial, h2, h3, h4, h5, h6, h7⟩
      | exit i =>
        cases e <;> simp only [AExit.rel] at h1
        subst h1
        simp only at h2
        split at h2
        · rename_i hi
          have := nat_beq_eq.1 hi
          simp only [Exit.inBlock, if_pos this]
          exact ⟨.normal, E', H', ρ', pd', trivial, h2, h3, h4, h5, h6, h7⟩
        · rename_i hi
          have := nat_beq_ne.1 hi
          simp only [Exit.inBlock, if_neg this]
          exact ⟨.exit i, E', H', ρ', pd', rfl, h2, h3, h4, h5, h6, h7⟩
      | ret => cases e <;> simp only [AExit.rel] at h1; exact ⟨.ret, E', H', ρ', pd', trivial, h2, h3, h4, h5, h6, h7⟩
      | panic v => cases e <;> simp only [AExit.rel] at h1; exact ⟨.panic v, E', H', ρ', pd', h1, h2, h3, h4, h5, h6, h7⟩
    | loop c =>
      simp only [okDst, plainY] at hok hp
      show Code.wp X.P c (Exit.then (Code.rounds X.P c (LiftY ρ0 H0 w0 N At Q) n) (LiftY ρ0 H0 w0 N At Q)) a w
      refine (wp_mono (ih g c E H pd _ h hp hok hS hE hd hN hat) ?_)
      rintro e a' w' ⟨x', E', H', ρ', pd', h1, h2, h3, h4, h5, h6, h7⟩
      cases x' with
      | normal =>
        cases e <;> simp only [AExit.rel] at h1
        exact (ih2 g (.loop c) E' H' pd' Q h2 hp hok h6 h3 h4 h5 h7).2 c rfl
      | exit i => cases e <;> simp only [AExit.rel] at h1; exact ⟨.exit i, E', H', ρ', pd', h1, h2, h3, h4, h5, h6, h7⟩
      | ret => cases e <;> simp only [AExit.rel] at h1; exact ⟨.ret, E', H', ρ', pd', trivial, h2, h3, h4, h5, h6, h7⟩
      | panic v => cases e <;> simp only [AExit.rel] at h1; exact ⟨.panic v, E', H', ρ', pd', h1, h2, h3, h4, h5, h6, h7⟩
    | region id ops draw =>
      simp only [okDst, plainY, Bool.and_eq_true, Bool.not_eq_true'] at hok hp
      obtain ⟨hdraw, hpp⟩ := hp
      subst hdraw
      have hdst : ∀ (j : Nat) (o : Oper) (t : Nat), ops[j]? = some o → o.dst = some t → t < N := by
        intro j o t hj ht
        rw [List.all_eq_true] at hok
        have := hok o (List.mem_of_getElem? (by simpa using hj))
        rw [ht] at this
        have hlt : t < fn.ntmps := by simpa using this
        omega
      have hnd : ∀ (j : Nat) (o : Oper), ops[j]? = some o → notDefer o = true := by
        intro j o hj
        rw [List.all_eq_true] at hpp
        exact hpp o (List.mem_of_getElem? (by simpa using hj))
      have := wpSeqY_sound hX.rows hX.fcs (callC_all hX 100) hY hAt (ops := ops) hdst hnd 0 ops.toList 0 (by simp) E H pd ρ a w h hS hE hd hN hat
      refine (wpIn_wide (n := 0)).1 (wpIn_region ?_)
      rw [List.range_eq_range']
      simpa using this
    | _ => simp [plainY] at hp

end

/-! ### the statement -/

theorem Rel.more {ρ : Rho} {H : AHeap} {w : World} (hR : Rel ρ H w) (g c : Nat) : Rel (ρ.set H.next g c) ⟨H.next + 1, H.bs⟩ w := by
  have hb : ∀ b, b < H.next → (ρ.set H.next g c).blk b = ρ.blk b := fun b hb => (Rho.set_agree ρ H.next g c b hb).1
  refine ⟨fun b x hx => ?_, fun b b' x x' hx hx' ho hne => ?_⟩
  · obtain ⟨h1, h2, h3, h4⟩ := hR.blk b x hx
    refine ⟨Nat.lt_succ_of_lt h1, ?_, by rw [hb b h1]; exact h3, ABlk.ok_keep h4 h2 (Rho.set_agree ρ H.next g c) h1 (Nat.le_refl _) rfl fun _ _ => rfl⟩
    cases x with
    | cells e l => exact belowL_mono (Nat.le_succ _) _ h2
    | obj U s l => exact belowL_mono (Nat.le_succ _) _ h2
    | row e T l md => rfl
    | dead => rfl
  · intro g0 hf hf'
    rw [ABlk.fp_eq (ρ := ρ) (hb b (hR.blk b x hx).1) rfl] at hf
    rw [ABlk.fp_eq (ρ := ρ) (hb b' (hR.blk b' x' hx').1) rfl] at hf'
    exact hR.inj b b' x x' hx hx' ho hne g0 hf hf'

def blkC : Code → Code
  | .block _ c => c
  | c => c
def lpC : Code → Code
  | .loop c => c
  | c => c
def rfAssign : Code → Code
  | .rangeFunc _ _ a _ => a
  | c => c
def rfBody : Code → Code
  | .rangeFunc _ _ _ b => b
  | c => c

/-- A round of an iterator's loop. -/
def RoundY (base : Nat) {S : Type} (st : S → Env × AHeap) (μ : S → Nat) (T : S → Prop) (s : S) (Q : AExit → Env → AHeap → Option Code → Prop) : AExit → Env → AHeap → Option Code → Prop
  | .normal, E, H, pd => pd = none ∧ ∃ s' σ, μ s' < μ s ∧ T s' ∧ sigOk base σ = true ∧ sigInj σ (st s').2.bs = true ∧ subER (st s').2.next σ (st s').1 E ∧ subHR (st s').2.next σ (st s').2.bs H
  | x, E, H, pd => Q x E H pd

theorem loopY_sound {X : Ctx} (hX : CtxOk X) {y : Nat} {Y : YF} {ρ0 : Rho} {H0 : AHeap} {w0 : World} {At : Option Code → World → Prop} {N : Nat} (hY : YOk X y Y ρ0 H0 w0 At) (hAt : AtKeeps At) {gn : Func} (hN0 : gn.ntmps ≤ N) {g n : Nat} {c : Code} (hp : plainY c = true) (hok : okDst gn.ntmps c = true)
    {S : Type} {base : Nat} (st : S → Env × AHeap) (hb : H0.next ≤ base) (hnx : ∀ s, base ≤ (st s).2.next) (μ : S → Nat) (T : S → Prop) (Q : AExit → Env → AHeap → Option Code → Prop)
    (hround : ∀ s, T s → ∃ R, (∀ x E H pd, R x E H pd → RoundY base st μ T s Q x E H pd) ∧ wpY X y Y n g c (st s).1 (st s).2 none R) :
    ∀ s, T s → ∀ ρ a w, Step ρ0 H0 w0 ρ (st s).2 w → RelE ρ (st s).2.next (st s).1 a → a.defers = [] → a.tmps.size = N → At none w → (Code.loop c).wp X.P (LiftY ρ0 H0 w0 N At Q) a w := by
  intro s hT ρ a w hS hE hd hN hat
  refine wp_loop_rounds (μ s + 1) ?_
  have key : ∀ (m : Nat) (s : S) (ρ : Rho) (a : Act) (w : World), μ s < m → T s → Step ρ0 H0 w0 ρ (st s).2 w → RelE ρ (st s).2.next (st s).1 a → a.defers = [] → a.tmps.size = N → At none w → Code.rounds X.P c (LiftY ρ0 H0 w0 N At Q) m a w := by
    intro m
    induction m with
    | zero => intro s ρ a w h; omega
    | succ m ih =>
      intro s ρ a w hm hT hS hE hd hN hat
      show Code.wp X.P c (Exit.then (Code.rounds X.P c (LiftY ρ0 H0 w0 N At Q) m) (LiftY ρ0 H0 w0 N At Q)) a w
      obtain ⟨R, hRR, hwp⟩ := hround s hT
      refine wp_mono (wpY_both hX hY hAt hN0 n g c _ _ none R hwp hp hok hS hE hd hN hat).1 ?_
      rintro e a' w' ⟨x', E', H', ρ', pd, q1, q2, q3, q4, q5, q6, q7⟩
      have q2 := hRR _ _ _ _ q2
      cases x' with
      | normal =>
        cases e <;> simp only [AExit.rel] at q1
        obtain ⟨rfl, s', σ, g1, g2, g3, g4, g5, g6⟩ := q2
        obtain ⟨k1, k2⟩ := sub_stepR q6 q3 hb g3 g4 g5 g6 (Nat.le_trans hb (hnx s'))
        exact ih s' _ a' w' (by omega) g2 k1 k2 q4 q5 q7
      | exit i => cases e <;> simp only [AExit.rel] at q1; exact ⟨.exit i, E', H', ρ', pd, q1, q2, q3, q4, q5, q6, q7⟩
      | ret => cases e <;> simp only [AExit.rel] at q1; exact ⟨.ret, E', H', ρ', pd, trivial, q2, q3, q4, q5, q6, q7⟩
      | panic v => cases e <;> simp only [AExit.rel] at q1; exact ⟨.panic v, E', H', ρ', pd, q1, q2, q3, q4, q5, q6, q7⟩
  exact key _ s ρ a w (Nat.lt_succ_self _) hT hS hE hd hN hat

/-- A function's end that is no panic. -/
def endN (X : Ctx) (fn : Func) (K : Out → AHeap → Prop) : AExit → Env → AHeap → Prop := fun x E H => match x with
  | .normal | .ret => endA X.P fn K .ret E H
  | _ => False

/-- Behind the loop. -/
noncomputable def behindRF (X : Ctx) (n f : Nat) (fn : Func) (post : Code) (E : Env) (K : Out → AHeap → Prop) (H : AHeap) (pd : Option Code) : Prop := match pd with
  | none => wpC X n f H.next post E H (endN X fn K)
  | some .ret => endA X.P fn K .ret E H
  | _ => False

/-- What is asked of a function that ranges over a function. -/
noncomputable def wpRF (X : Ctx) (n f g t : Nat) (c0 c1 c2 : Code) (It : Env → AHeap → List AVal → Prop) (args : List AVal) (H0 : AHeap) : Prop :=
  wpC X n f H0.next c0 (env0 args 0) H0 fun x E H => match x with
    | .normal => wpC X n f H0.next c1 E H fun x E H => match x with
      | .normal => wpC X n f H0.next c2 E H fun x E H => match x with
        | .normal => match getE E t with
          | some (.func g' [] cs) => match Nat.beq g' g with
            | true => forceH H fun H => It E H cs
            | false => False
          | _ => False
        | _ => False
      | _ => False
    | _ => False

theorem wpRF_sound {X : Ctx} (hX : CtxOk X) {n f g t bid : Nat} {ps : List Nat} {fn gn : Func} {c0 c1 c2 assign body post : Code}
    (hf : X.fns f = some fn) (hg : X.fns g = some gn)
    (hb : fn.body = some (.seq c0 (.seq c1 (.seq (.seq c2 (.block bid (.rangeFunc (.tmp t) ps.toArray assign body))) post))))
    (hgr : gn.results = #[])
    (hL : LoopOk X f fn ps assign body) (hpost : okDst fn.ntmps post = true)
    {It : Env → AHeap → List AVal → Prop} {K : Out → AHeap → Prop}
    (hIt : ∀ E H cs, It E H cs → ∀ ρ0 w0 At ρ a w, YOk X H.next (roundA X n f E ps assign body) ρ0 ⟨H.next + 1, H.bs⟩ w0 At → AtKeeps At → Step ρ0 ⟨H.next + 1, H.bs⟩ w0 ρ ⟨H.next + 1, H.bs⟩ w → RelE ρ (H.next + 1) (env0 (.yld H.next :: cs) 0) a → a.defers = [] → gn.ntmps ≤ a.tmps.size → At none w →
      (bodyC gn).wp X.P (LiftY ρ0 ⟨H.next + 1, H.bs⟩ w0 a.tmps.size At (fun x _ H' pd => (x = .normal ∨ x = .ret) ∧ behindRF X n f fn post E K H' pd)) a w)
    {args : List AVal} {H0 : AHeap} (h : wpRF X n f g t c0 c1 c2 It args H0) {ρ0 : Rho} {w0 : World} (hR : Rel ρ0 H0 w0) (hargs : belowL H0.next args = true) :
    Calls X.P f (trL ρ0 args).toArray w0 fun e w' => ∃ out H' ρ', Out.rel ρ' H'.next out e ∧ K out H' ∧ Step ρ0 H0 w0 ρ' H' w' := by
  obtain ⟨q1, q2, c3, q3, q4⟩ := hX.fns f fn hf
  rw [hb] at q3
  cases q3
  obtain ⟨g1, g2, c4, g3, g4⟩ := hX.fns g gn hg
  have hgc : bodyC gn = c4 := by unfold bodyC; rw [g3]
  simp only [okDst, Bool.and_eq_true] at q4
  refine (callsIn_wide (n := 1)).1 (callsIn_of_wp_marks q1 hb trivial ?_)
  refine wpIn_wide.2 ?_
  have hE0 := env0_rel (ρ := ρ0) hargs (fn.ntmps - (trL ρ0 args).toArray.size)
  generalize ha0 : (Act.mk ((trL ρ0 args).toArray ++ Array.replicate (fn.ntmps - (trL ρ0 args).toArray.size) undef) []) = a0 at hE0 ⊢
  have hN0 : fn.ntmps ≤ a0.tmps.size := by rw [← ha0]; simp; omega
  have hd0 : a0.defers = [] := by rw [← ha0]
  obtain ⟨whole, hW⟩ : ∃ whole, (Code.seq c0 (.seq c1 (.seq (.seq c2 (.block bid (.rangeFunc (.tmp t) ps.toArray assign body))) post))) = whole := ⟨_, rfl⟩
  have hb' : fn.body = some whole := by rw [hb, hW]
  have sub0 : ∀ {c : Code}, (∀ p ∈ blocksC c, p ∈ blocksC whole) → okDst fn.ntmps c = true → ∃ fn', X.fns f = some fn' ∧ fn'.ntmps ≤ a0.tmps.size ∧ ∃ body, fn'.body = some body ∧ (∀ p ∈ blocksC c, p ∈ blocksC body) ∧ okDst fn'.ntmps c = true :=
    fun hc ho => ⟨fn, hf, hN0, _, hb', hc, ho⟩
  unfold wpRF at h
  -- the first part
  refine wp_seq (wp_mono (@wpC_sound X hX ⟨[]⟩ _ _ _ _ _ _ _ h _ _ _ _ _ _ _ (Nat.le_refl _) (sub0 (fun p hp => by rw [← hW]; simp [blocksC, hp]) q4.1) (Step.refl hR) hE0 hd0 rfl) ?_)
  rintro e a1 w1 ⟨x1, E1, H1, ρ1, p1, p2, p3, p4, p5, p6⟩
  cases x1 with
  | exit i => exact p2.elim
  | ret => exact p2.elim
  | panic v => exact p2.elim
  | normal =>
  cases e <;> simp only [AExit.rel] at p1
  refine wp_seq (wp_mono (@wpC_sound X hX ⟨[]⟩ _ _ _ _ _ _ _ p2 _ _ _ _ _ _ _ (Nat.le_refl _) (sub0 (fun p hp => by rw [← hW]; simp [blocksC, hp]) q4.2.1) p6 p3 p4 p5) ?_)
  rintro e a2 w2 ⟨x2, E2, H2, ρ2, r1, r2, r3, r4, r5, r6⟩
  cases x2 with
  | exit i => exact r2.elim
  | ret => exact r2.elim
  | panic v => exact r2.elim
  | normal =>
  cases e <;> simp only [AExit.rel] at r1
  refine wp_seq (wp_seq (wp_mono (@wpC_sound X hX ⟨[]⟩ _ _ _ _ _ _ _ r2 _ _ _ _ _ _ _ (Nat.le_refl _) (sub0 (fun p hp => by rw [← hW]; simp [blocksC, hp]) q4.2.2.1.1) r6 r3 r4 r5) ?_))
  rintro e a w ⟨x3, E, H, ρ, s1, s2, s3, s4, s5, s6⟩
  cases x3 with
  | exit i => exact s2.elim
  | ret => exact s2.elim
  | panic v => exact s2.elim
  | normal =>
  cases e <;> simp only [AExit.rel] at s1
  simp only at s2
  split at s2
  · rename_i g' cs hcs
    split at s2
    · rename_i hgg
      have hgg := nat_beq_eq.1 hgg
      subst hgg
      rw [forceH_eq] at s2
      have s4' : a.defers = [] := s4
      have hRw := s6.rel
      obtain ⟨t1, t2⟩ := s3.get t _ hcs
      simp only [AVal.under, belowL, Bool.and_eq_true, true_and] at t2
      -- the objects of the loop
      generalize hl : w.heap.size + 1 = l
      have hev : a.eval (.tmp t) = .func (.func g') #[] (trL ρ cs).toArray := by simp [Act.eval, Array.getD_eq_getD_getElem?, t1, tr, trL]
      refine wp_block (wpIn_wide (n := 1) |>.1 (wpIn_rangeFunc (F := Fence.wide) ?_))
      intro fr _
      have hW1 : ∃ W1, (w.alloc (.deferred (some []))).alloc (.loop (recL fr a.tmps ps.toArray assign body w.heap.size none)) = W1 := ⟨_, rfl⟩
      obtain ⟨W1, hW1⟩ := hW1
      have hL1 : W1.heap[l]? = some (.loop (recL fr a.tmps ps.toArray assign body w.heap.size none)) := by
        rw [← hW1, ← hl]; have := World.alloc_heap_new (w.alloc (.deferred (some []))) (.loop (recL fr a.tmps ps.toArray assign body w.heap.size none)); rwa [World.size_alloc] at this
      have hD1 : W1.heap[w.heap.size]? = some (.deferred (some [])) := by
        rw [← hW1]; exact (Below.heap_alloc _ _ _ (by simp)).trans (World.alloc_heap_new w _)
      have hB1 : Below w.heap.size w W1 := by
        rw [← hW1]; exact ((Below.refl _ w).alloc (Nat.le_refl _) _).alloc (by simp) _
      refine ⟨l, [{ target := .collected w.heap.size, args := #[] }], W1, { target := .fn (.func g') (trL ρ cs).toArray, args := #[.func (.yield l) #[] #[]] }, W1, g', #[.func (.yield l) #[] #[]] ++ (trL ρ cs).toArray, W1, ?_, ?_, fun _ _ => trivial, ?_, fun _ => Nat.le_refl _, ?_⟩
      · rw [← hW1, ← hl]; exact run_enterLoop_outer _ _ _ _ _
      · simp only [resolve, hev, Sem.run_bind, Sem.run_pure, Result.andThen_ok, Deferred.ofValue]
        simp [Act.eval]
      · simp [invoke, g2]
      · -- the iterator
        have hRy : Rel (ρ.set H.next l 0) ⟨H.next + 1, H.bs⟩ w := hRw.more l 0
        have hSy : Step (ρ.set H.next l 0) ⟨H.next + 1, H.bs⟩ w (ρ.set H.next l 0) ⟨H.next + 1, H.bs⟩ W1 := Step.grow hRy hB1
        have hyb : (ρ.set H.next l 0).blk H.next = l := by simp [Rho.set]
        have hagy : Rho.agree H.next ρ (ρ.set H.next l 0) := Rho.set_agree ρ H.next l 0
        have htr : #[Value.func (.yield l) #[] #[]] ++ (trL ρ cs).toArray = (trL (ρ.set H.next l 0) (.yld H.next :: cs)).toArray := by
          simp only [trL, tr, hyb]
          rw [trL_agree hagy cs t2]
          simp
        rw [htr]
        have hay : belowL (H.next + 1) (.yld H.next :: cs) = true := by
          simp only [belowL, AVal.under, Bool.and_eq_true, Nat.blt_eq]
          exact ⟨Nat.lt_succ_self _, belowL_mono (Nat.le_succ _) cs t2⟩
        refine callsIn_of_wp g1 g3 trivial (wpIn_wide.2 ?_)
        have hEy := env0_rel (ρ := ρ.set H.next l 0) hay (gn.ntmps - (trL (ρ.set H.next l 0) (.yld H.next :: cs)).toArray.size)
        generalize hay0 : (Act.mk ((trL (ρ.set H.next l 0) (.yld H.next :: cs)).toArray ++ Array.replicate (gn.ntmps - (trL (ρ.set H.next l 0) (.yld H.next :: cs)).toArray.size) undef) []) = ay at hEy ⊢
        have hNy : gn.ntmps ≤ ay.tmps.size := by rw [← hay0]; simp; omega
        have hdy : ay.defers = [] := by rw [← hay0]
        have hY : YOk X H.next (roundA X n f E ps assign body) (ρ.set H.next l 0) ⟨H.next + 1, H.bs⟩ w (LoopAt l w.heap.size fr a.tmps ps assign body) := by
          intro as H' K' hk ρ' w' hS' has hat m
          have hb' : ρ'.blk H.next = l := by rw [(hS'.agree H.next (Nat.lt_succ_self _)).1, hyb]
          have hET : RelE ρ' H'.next E { tmps := a.tmps, defers := [] } := by
            have h1 := s3.step (hagy.trans (hS'.agree) (Nat.le_succ _)) (Nat.le_trans (Nat.le_succ _) hS'.next)
            exact ⟨fun u v hu => h1.get u v hu⟩
          obtain ⟨T', y1, y2⟩ := round_sound hX hL hk hS' hET (by rw [s5]; exact hN0) has (by omega) hat.1 hat.2 m
          rw [hb']
          exact ⟨fr, T', assign, body, y1, y2⟩
        have hrun := hIt E H cs s2 _ _ _ _ _ _ hY loopAt_keeps hSy hEy hdy hNy ⟨hL1, hD1⟩
        rw [hgc] at hrun
        refine wp_mono hrun ?_
        rintro e ag wg ⟨xg, Eg, Hg, ρg, pd, u1, u2, u3, u4, u5, u6, u7⟩
        -- behind the iterator
        have hpend : (Instr.endLoop l).run X.P wg = .ok pd (wg.putObj l (.loop { recL fr a.tmps ps.toArray assign body w.heap.size pd with state := .exhausted })) := by
          have := run_endLoop (P := X.P) u7.1 (by unfold recL; cases pd <;> simp)
          exact this
        have hlD : l ≠ w.heap.size := by omega
        have hwsz : w0.heap.size ≤ w.heap.size := s6.size
        have hS4 : Step ρ0 H0 w0 ρg Hg (wg.putObj l (.loop { recL fr a.tmps ps.toArray assign body w.heap.size pd with state := .exhausted })) := by
          have h1 : Step ρ H w (ρ.set H.next l 0) ⟨H.next + 1, H.bs⟩ w :=
            ⟨hagy, Nat.le_succ _, hRy, rfl, rfl, rfl, Nat.le_refl _, fun _ _ _ => rfl, fun gg hg' => by
              obtain ⟨b, x, hx, ho, hf⟩ := hg'
              refine .inr ⟨b, x, hx, ho, ?_⟩
              exact (ABlk.fp_eq (ρ := ρ) (hagy b (hRw.blk b x hx).1).1 rfl x gg).1 hf⟩
          exact ((s6.trans h1).trans u6).obj (by omega) u7.1 rfl _
        have hD4 : (wg.putObj l (.loop { recL fr a.tmps ps.toArray assign body w.heap.size pd with state := .exhausted })).heap[w.heap.size]? = some (.deferred (some [])) := (World.putObj_heap_other (Ne.symm hlD)).trans u7.2
        generalize hw4 : wg.putObj l (.loop { recL fr a.tmps ps.toArray assign body w.heap.size pd with state := .exhausted }) = w4 at hpend hS4 hD4
        have hag4 : Rho.agree H.next ρ ρg := hagy.trans u6.agree (Nat.le_succ _)
        have hE4 : RelE ρg Hg.next E { a with defers := [{ target := .collected w.heap.size, args := #[] }] ++ a.defers } := by
          have h1 := s3.step hag4 (Nat.le_trans (Nat.le_succ _) u6.next)
          exact ⟨fun u v hu => h1.get u v hu⟩
        have hd4 : ({ a with defers := [{ target := .collected w.heap.size, args := #[] }] ++ a.defers } : Act).defers = [{ target := .collected w.heap.size, args := #[] }] := by simp [s4']
        -- the end of the function
        have leave : ∀ (E5 : Env) (H5 : AHeap) (ρ5 : Rho) (a5 : Act) (w5 : World), endA X.P fn K .ret E5 H5 → RelE ρ5 H5.next E5 a5 → a5.defers = [{ target := .collected w.heap.size, args := #[] }] → Step ρ0 H0 w0 ρ5 H5 w5 → w5.heap[w.heap.size]? = some (.deferred (some [])) →
            LeavesInM Fence.wide 1 X.P fn a5.tmps (fun e w' => ∃ out H' ρ', Out.rel ρ' H'.next out e ∧ K out H' ∧ Step ρ0 H0 w0 ρ' H' w') a5.defers .returning w5 := by
          intro E5 H5 ρ5 a5 w5 he hE5 hd5 hS5 hD5
          rw [hd5]
          have hS6 := hS5.obj (by omega) hD5 rfl (.deferred none)
          refine ⟨by simp, .inl ⟨w.heap.size, _, rfl, run_takeDeferred hD5, ?_⟩⟩
          obtain ⟨v, hv1, hv2⟩ := end_results he hE5 hS6
          exact ⟨v, hv1, hv2⟩
        have fin : ∀ (x : Exit), behindRF X n f fn post E K Hg pd → bodyPost X.P gn (rangePost Fence.wide 1 X.P l (Exit.inBlock bid (Exit.then (post.wp X.P (bodyPostM Fence.wide 1 X.P fn fun e w' => ∃ out H' ρ', Out.rel ρ' H'.next out e ∧ K out H' ∧ Step ρ0 H0 w0 ρ' H' w')) (bodyPostM Fence.wide 1 X.P fn fun e w' => ∃ out H' ρ', Out.rel ρ' H'.next out e ∧ K out H' ∧ Step ρ0 H0 w0 ρ' H' w'))) { a with defers := [{ target := .collected w.heap.size, args := #[] }] ++ a.defers }) .ret ag wg := by
          intro x hk
          refine ⟨u4, .tuple #[], by simp [results, hgr], pd, w4, hpend, ?_⟩
          unfold behindRF at hk
          cases pd with
          | none =>
            show (post.wp X.P _) _ _
            refine wp_mono (@wpC_sound X hX ⟨[{ target := .collected w.heap.size, args := #[] }]⟩ _ _ _ _ _ _ _ hk _ _ _ _ _ _ _ (Nat.le_refl _) (by
              obtain ⟨fn', z1, z2, z3⟩ := sub0 (c := post) (fun p hp => by rw [← hW]; simp [blocksC, hp]) hpost
              exact ⟨fn', z1, z2, z3⟩) (Step.refl hS4.rel) hE4 hd4 (by rw [← s5])) ?_
            rintro e5 a5 w5 ⟨x5, E5, H5, ρ5, v1, v2, v3, v4, v5, v6⟩
            have hD5 := v6.keeps hD4 rfl hS4.rel
            cases x5 with
            | normal => cases e5 <;> simp only [AExit.rel] at v1; exact leave E5 H5 ρ5 a5 w5 v2 v3 v4 (hS4.trans v6) hD5
            | ret => cases e5 <;> simp only [AExit.rel] at v1; exact leave E5 H5 ρ5 a5 w5 v2 v3 v4 (hS4.trans v6) hD5
            | exit i => exact v2.elim
            | panic v => exact v2.elim
          | some c =>
            cases c with
            | ret =>
              refine wpIn_ret ?_
              exact leave E Hg ρg _ w4 hk hE4 hd4 hS4 hD4
            | _ => exact hk.elim
        cases xg with
        | normal =>
          cases e <;> simp only [AExit.rel] at u1
          exact fin .ret u2.2
        | ret =>
          cases e <;> simp only [AExit.rel] at u1
          exact fin .ret u2.2
        | exit i => rcases u2.1 with h | h <;> cases h
        | panic v => rcases u2.1 with h | h <;> cases h
    · exact s2.elim
  · exact s2.elim

end Go.Proofs.Ytcgnoegejmhgmaa.Ev

/-
  Ev: a function cut in two; a loop by its states.
-/
namespace Go.Proofs.Ytcgnoegejmhgmaa.Ev
set_option linter.unusedVariables false
set_option linter.unusedSimpArgs false
open Go.RowKit

/-- A function's first part; It: what is asked where it ends. -/
noncomputable def wpCut (X : Ctx) (n f : Nat) (fn : Func) (c0 : Code) (args : List AVal) (H0 : AHeap) (It : Env → AHeap → Prop) (K : Out → AHeap → Prop) : Prop :=
  wpC X n f H0.next c0 (env0 args 0) H0 fun x E H => match x with
    | .normal => It E H
    | .ret => endA X.P fn K .ret E H
    | _ => False

theorem fn_cut {X : Ctx} (hX : CtxOk X) {n f : Nat} {fn : Func} {c0 r : Code} (hf : X.fns f = some fn) (hb : fn.body = some (.seq c0 r)) {args : List AVal} {H0 : AHeap} {It : Env → AHeap → Prop} {K : Out → AHeap → Prop} (h : wpCut X n f fn c0 args H0 It K)
    (hIt : ∀ E H, It E H → ∀ ρ0 w0 N ρ a w, fn.ntmps ≤ N → Step ρ0 H0 w0 ρ H w → RelE ρ H.next E a → a.defers = [] → a.tmps.size = N → r.wp X.P (@Lift ⟨[]⟩ ρ0 H0 w0 N (endA X.P fn K)) a w)
    {ρ : Rho} {w : World} (hR : Rel ρ H0 w) (hargs : belowL H0.next args = true) :
    Calls X.P f (trL ρ args).toArray w fun e w' => ∃ out H' ρ', Out.rel ρ' H'.next out e ∧ K out H' ∧ Step ρ H0 w ρ' H' w' := by
  obtain ⟨q1, q2, c2, q3, q4⟩ := hX.fns f fn hf
  rw [hb] at q3
  cases q3
  simp only [okDst, Bool.and_eq_true] at q4
  refine fn_sound q1 hb hR hargs (fun a hE hd hN => ?_)
  refine wp_seq (wp_mono (@wpC_sound X hX ⟨[]⟩ _ _ _ _ _ _ _ h _ _ _ _ _ _ _ (Nat.le_refl _) ⟨fn, hf, hN, _, hb, fun p hp => by simp [blocksC, hp], q4.1⟩ (Step.refl hR) hE hd rfl) ?_)
  rintro e a' w' ⟨x', E', H', ρ', h1, h2, h3, h4, h5, h6⟩
  cases x' with
  | normal =>
    cases e <;> simp only [AExit.rel] at h1
    exact hIt E' H' h2 ρ w _ ρ' a' w' hN h6 h3 h4 h5
  | ret => cases e <;> simp only [AExit.rel] at h1; exact ⟨.ret, E', H', ρ', trivial, h2, h3, h4, h5, h6⟩
  | exit i => exact h2.elim
  | panic v => exact h2.elim

theorem wpN_sound [Dfs] {X : Ctx} (hX : CtxOk X) {f base : Nat} {fn : Func} {body : Code} (hf : X.fns f = some fn) (hb : fn.body = some body) {ρ0 : Rho} {H0 : AHeap} {w0 : World} {N : Nat} (hbase : H0.next ≤ base) (hN : fn.ntmps ≤ N) {It : Env → AHeap → Prop} {Q : AExit → Env → AHeap → Prop} : ∀ (k n : Nat) (c : Code) (E : Env) (H : AHeap), isSeqs k c = true → (∀ p ∈ blocksC c, p ∈ blocksC body) → okDst fn.ntmps c = true → wpN X k n f base c E H It Q →
    (∀ E H, It E H → ∀ ρ a w, Step ρ0 H0 w0 ρ H w → RelE ρ H.next E a → a.defers = Dfs.D → a.tmps.size = N → (tailN k c).wp X.P (Lift ρ0 H0 w0 N Q) a w) →
    ∀ ρ a w, Step ρ0 H0 w0 ρ H w → RelE ρ H.next E a → a.defers = Dfs.D → a.tmps.size = N → c.wp X.P (Lift ρ0 H0 w0 N Q) a w
  | 0, n, c, E, H, _, _, _, h, hIt, ρ, a, w, hS, hE, hd, hn => hIt E H h ρ a w hS hE hd hn
  | k + 1, 0, c, E, H, _, _, _, h, _, _, _, _, _, _, _, _ => h.elim
  | k + 1, n + 1, c, E, H, hs, hsub, hok, h, hIt, ρ, a, w, hS, hE, hd, hn => by
    cases c with
    | seq x y =>
      simp only [okDst, Bool.and_eq_true] at hok
      refine wp_seq (wp_mono (wpC_sound hX h hbase ⟨fn, hf, hN, body, hb, fun p hp => hsub p (by simp [blocksC]; exact .inl hp), hok.1⟩ hS hE hd hn) ?_)
      rintro e a' w' ⟨x', E', H', ρ', h1, h2, h3, h4, h5, h6⟩
      cases x' with
      | normal =>
        cases e <;> simp only [AExit.rel] at h1
        exact wpN_sound hX hf hb hbase hN k n y E' H' hs (fun p hp => hsub p (by simp [blocksC]; exact .inr hp)) hok.2 h2 hIt ρ' a' w' h6 h3 h4 h5
      | exit i => cases e <;> simp only [AExit.rel] at h1; exact ⟨.exit i, E', H', ρ', h1, h2, h3, h4, h5, h6⟩
      | ret => cases e <;> simp only [AExit.rel] at h1; exact ⟨.ret, E', H', ρ', trivial, h2, h3, h4, h5, h6⟩
      | panic v => cases e <;> simp only [AExit.rel] at h1; exact ⟨.panic v, E', H', ρ', h1, h2, h3, h4, h5, h6⟩
    | _ => simp [isSeqs] at hs

/-- A function's first k parts. -/
theorem fn_cutN {X : Ctx} (hX : CtxOk X) {k n f : Nat} {fn : Func} {c : Code} (hf : X.fns f = some fn) (hb : fn.body = some c) (hs : isSeqs k c = true) {args : List AVal} {H0 : AHeap} {It : Env → AHeap → Prop} {K : Out → AHeap → Prop} (h : wpN X k n f H0.next c (env0 args 0) H0 It (endA X.P fn K))
    (hIt : ∀ E H, It E H → ∀ ρ0 w0 N ρ a w, fn.ntmps ≤ N → Step ρ0 H0 w0 ρ H w → RelE ρ H.next E a → a.defers = [] → a.tmps.size = N → (tailN k c).wp X.P (@Lift ⟨[]⟩ ρ0 H0 w0 N (endA X.P fn K)) a w)
    {ρ : Rho} {w : World} (hR : Rel ρ H0 w) (hargs : belowL H0.next args = true) :
    Calls X.P f (trL ρ args).toArray w fun e w' => ∃ out H' ρ', Out.rel ρ' H'.next out e ∧ K out H' ∧ Step ρ H0 w ρ' H' w' := by
  obtain ⟨q1, q2, c2, q3, q4⟩ := hX.fns f fn hf
  rw [hb] at q3
  cases q3
  refine fn_sound q1 hb hR hargs (fun a hE hd hN => ?_)
  exact @wpN_sound ⟨[]⟩ X hX f H0.next fn c hf hb ρ H0 w _ (Nat.le_refl _) hN It _ k n c _ _ hs (fun p hp => hp) q4 h (fun E H hi ρ' a' w' h1 h2 h3 h4 => hIt E H hi ρ w _ ρ' a' w' hN h1 h2 h3 h4) ρ a w (Step.refl hR) hE hd rfl

/-- A round. -/
def RoundC (base : Nat) {S : Type} (st : S → Env × AHeap) (μ : S → Nat) (T : S → Prop) (s : S) (Q : AExit → Env → AHeap → Prop) : AExit → Env → AHeap → Prop
  | .normal, E, H => ∃ s' σ, μ s' < μ s ∧ T s' ∧ sigOk base σ = true ∧ sigInj σ (st s').2.bs = true ∧ subER (st s').2.next σ (st s').1 E ∧ subHR (st s').2.next σ (st s').2.bs H
  | x, E, H => Q x E H

theorem loopC_sound [Dfs] {X : Ctx} (hX : CtxOk X) {ρ0 : Rho} {H0 : AHeap} {w0 : World} {N : Nat} {f n base : Nat} {fn : Func} {body c : Code} (hf : X.fns f = some fn) (hb : fn.body = some body) (hsub : ∀ p ∈ blocksC c, p ∈ blocksC body) (hok : okDst fn.ntmps c = true) (hN0 : fn.ntmps ≤ N)
    {S : Type} (st : S → Env × AHeap) (hbase : H0.next ≤ base) (hnx : ∀ s, base ≤ (st s).2.next) (μ : S → Nat) (T : S → Prop) (Q : AExit → Env → AHeap → Prop)
    (hround : ∀ s, T s → ∃ R, (∀ x E H, R x E H → RoundC base st μ T s Q x E H) ∧ wpC X n f base c (st s).1 (st s).2 R) :
    ∀ s, T s → ∀ ρ a w, Step ρ0 H0 w0 ρ (st s).2 w → RelE ρ (st s).2.next (st s).1 a → a.defers = Dfs.D → a.tmps.size = N → (Code.loop c).wp X.P (Lift ρ0 H0 w0 N Q) a w := by
  intro s hT ρ a w hS hE hd hN
  refine wp_loop_rounds (μ s + 1) ?_
  have key : ∀ (m : Nat) (s : S) (ρ : Rho) (a : Act) (w : World), μ s < m → T s → Step ρ0 H0 w0 ρ (st s).2 w → RelE ρ (st s).2.next (st s).1 a → a.defers = Dfs.D → a.tmps.size = N → Code.rounds X.P c (Lift ρ0 H0 w0 N Q) m a w := by
    intro m
    induction m with
    | zero => intro s ρ a w h; omega
    | succ m ih =>
      intro s ρ a w hm hT hS hE hd hN
      show Code.wp X.P c (Exit.then (Code.rounds X.P c (Lift ρ0 H0 w0 N Q) m) (Lift ρ0 H0 w0 N Q)) a w
      obtain ⟨R, hRR, hwp⟩ := hround s hT
      refine wp_mono (wpC_sound hX hwp hbase ⟨fn, hf, hN0, body, hb, hsub, hok⟩ hS hE hd hN) ?_
      rintro e a' w' ⟨x', E', H', ρ', q1, q2, q3, q4, q5, q6⟩
      have q2 := hRR _ _ _ q2
      cases x' with
      | normal =>
        cases e <;> simp only [AExit.rel] at q1
        obtain ⟨s', σ, g1, g2, g3, g4, g5, g6⟩ := q2
        obtain ⟨k1, k2⟩ := sub_stepR q6 q3 hbase g3 g4 g5 g6 (Nat.le_trans hbase (hnx s'))
        exact ih s' _ a' w' (by omega) g2 k1 k2 q4 q5
      | exit i => cases e <;> simp only [AExit.rel] at q1; exact ⟨.exit i, E', H', ρ', q1, q2, q3, q4, q5, q6⟩
      | ret => cases e <;> simp only [AExit.rel] at q1; exact ⟨.ret, E', H', ρ', trivial, q2, q3, q4, q5, q6⟩
      | panic v => cases e <;> simp only [AExit.rel] at q1; exact ⟨.panic v, E', H', ρ', q1, q2, q3, q4, q5, q6⟩
  exact key _ s ρ a w (Nat.lt_succ_self _) hT hS hE hd hN

/-- Numbers that are kept free. -/
theorem Step.more {ρ0 ρ : Rho} {H0 : AHeap} {w0 w : World} {n : Nat} {bs : List (Nat × ABlk)} (h : Step ρ0 H0 w0 ρ ⟨n, bs⟩ w) : Step ρ0 H0 w0 (ρ.set n 0 0) ⟨n + 1, bs⟩ w := by
  refine ⟨h.agree.trans (Rho.set_agree ρ n 0 0) h.next, Nat.le_succ_of_le h.next, h.rel.more 0 0, h.os, h.tape, h.output, h.size, h.old, fun g hg => ?_⟩
  obtain ⟨b, x, hx, ho, hf⟩ := hg
  have e : (ρ.set n 0 0).blk b = ρ.blk b := (Rho.set_agree ρ n 0 0 b (h.rel.blk b x hx).1).1
  rw [ABlk.fp_eq (ρ := ρ) e rfl] at hf
  exact h.owns _ ⟨b, x, hx, ho, hf⟩
theorem RelE.more {ρ : Rho} {n : Nat} {E : Env} {a : Act} (h : RelE ρ n E a) : RelE (ρ.set n 0 0) (n + 1) E a := h.step (Rho.set_agree ρ n 0 0) (Nat.le_succ _)

/-- A part, a loop in a block, and the rest. -/
theorem seqloop_sound [Dfs] {X : Ctx} (hX : CtxOk X) {ρ0 : Rho} {H0 : AHeap} {w0 : World} {N : Nat} {f n base id : Nat} {fn : Func} {body a c r : Code} (hf : X.fns f = some fn) (hb : fn.body = some body) (hsub : ∀ p ∈ blocksC (Code.seq (.seq a (.block id (.loop c))) r), p ∈ blocksC body) (hok : okDst fn.ntmps (Code.seq (.seq a (.block id (.loop c))) r) = true) (hN0 : fn.ntmps ≤ N)
    {S : Type} (st : S → Env × AHeap) (hbase : H0.next ≤ base) (hnx : ∀ s, base ≤ (st s).2.next) (μ : S → Nat) (T : S → Prop) (Q : AExit → Env → AHeap → Prop) {E : Env} {H : AHeap}
    (ha : wpC X n f base a E H fun x E H => match x with
      | .normal => ∃ s σ, T s ∧ sigOk base σ = true ∧ sigInj σ (st s).2.bs = true ∧ subER (st s).2.next σ (st s).1 E ∧ subHR (st s).2.next σ (st s).2.bs H
      | _ => False)
    (hround : ∀ s, T s → ∃ R, (∀ x E H, R x E H → RoundC base st μ T s (fun x E H => match x with
      | .exit i => i = id ∧ wpC X n f base r E H Q
      | .ret => Q .ret E H
      | _ => False) x E H) ∧ wpC X n f base c (st s).1 (st s).2 R) :
    ∀ ρ act w, Step ρ0 H0 w0 ρ H w → RelE ρ H.next E act → act.defers = Dfs.D → act.tmps.size = N → (Code.seq (.seq a (.block id (.loop c))) r).wp X.P (Lift ρ0 H0 w0 N Q) act w := by
  intro ρ act w hS hE hd hN
  simp only [okDst, Bool.and_eq_true] at hok
  obtain ⟨⟨ok1, ok2⟩, ok3⟩ := hok
  refine wp_seq (wp_seq (wp_mono (wpC_sound hX ha hbase ⟨fn, hf, hN0, body, hb, fun p hp => hsub p (by simp only [blocksC, List.mem_append, List.mem_cons]; exact .inl (.inl hp)), ok1⟩ hS hE hd hN) ?_))
  rintro e a' w' ⟨x', E', H', ρ', q1, q2, q3, q4, q5, q6⟩
  cases x' with
  | exit i => exact q2.elim
  | ret => exact q2.elim
  | panic v => exact q2.elim
  | normal =>
    cases e <;> simp only [AExit.rel] at q1
    obtain ⟨s, σ, g2, g3, g4, g5, g6⟩ := q2
    obtain ⟨k1, k2⟩ := sub_stepR q6 q3 hbase g3 g4 g5 g6 (Nat.le_trans hbase (hnx s))
    refine wp_block (wp_mono (loopC_sound hX (n := n) (c := c) hf hb (fun p hp => hsub p (by simp only [blocksC, List.mem_append, List.mem_cons]; exact .inl (.inr (.inr hp)))) ok2 hN0 st hbase hnx μ T _ hround s g2 _ _ _ k1 k2 q4 q5) ?_)
    rintro e a2 w2 ⟨x2, E2, H2, ρ2, r1, r2, r3, r4, r5, r6⟩
    cases x2 with
    | normal => exact r2.elim
    | panic v => exact r2.elim
    | ret => cases e <;> simp only [AExit.rel] at r1; exact ⟨.ret, E2, H2, ρ2, trivial, r2, r3, r4, r5, r6⟩
    | exit i =>
      cases e <;> simp only [AExit.rel] at r1
      obtain ⟨rfl, r7⟩ := r2
      subst r1
      simp only [Exit.inBlock, if_pos]
      exact wpC_sound hX r7 hbase ⟨fn, hf, hN0, body, hb, fun p hp => hsub p (by simp only [blocksC, List.mem_append, List.mem_cons]; exact .inr hp), ok3⟩ r6 r3 r4 r5

/-- The same; the rest runs from a state that the exit bears. -/
theorem seqloopR_sound [Dfs] {X : Ctx} (hX : CtxOk X) {ρ0 : Rho} {H0 : AHeap} {w0 : World} {N : Nat} {f n base id : Nat} {fn : Func} {body a c r : Code} (hf : X.fns f = some fn) (hb : fn.body = some body) (hsub : ∀ p ∈ blocksC (Code.seq (.seq a (.block id (.loop c))) r), p ∈ blocksC body) (hok : okDst fn.ntmps (Code.seq (.seq a (.block id (.loop c))) r) = true) (hN0 : fn.ntmps ≤ N)
    {S : Type} (st : S → Env × AHeap) (hbase : H0.next ≤ base) (hnx : ∀ s, base ≤ (st s).2.next) (μ : S → Nat) (T : S → Prop) (Q : AExit → Env → AHeap → Prop) {E : Env} {H : AHeap}
    (ha : wpC X n f base a E H fun x E H => match x with
      | .normal => ∃ s σ, T s ∧ sigOk base σ = true ∧ sigInj σ (st s).2.bs = true ∧ subER (st s).2.next σ (st s).1 E ∧ subHR (st s).2.next σ (st s).2.bs H
      | _ => False)
    (hround : ∀ s, T s → ∃ R, (∀ x E H, R x E H → RoundC base st μ T s (fun x E H => match x with
      | .exit i => i = id ∧ ∃ E1 H1 σ, base ≤ H1.next ∧ sigOk base σ = true ∧ sigInj σ H1.bs = true ∧ subER H1.next σ E1 E ∧ subHR H1.next σ H1.bs H ∧ wpC X n f base r E1 H1 Q
      | .ret => Q .ret E H
      | _ => False) x E H) ∧ wpC X n f base c (st s).1 (st s).2 R) :
    ∀ ρ act w, Step ρ0 H0 w0 ρ H w → RelE ρ H.next E act → act.defers = Dfs.D → act.tmps.size = N → (Code.seq (.seq a (.block id (.loop c))) r).wp X.P (Lift ρ0 H0 w0 N Q) act w := by
  intro ρ act w hS hE hd hN
  simp only [okDst, Bool.and_eq_true] at hok
  obtain ⟨⟨ok1, ok2⟩, ok3⟩ := hok
  refine wp_seq (wp_seq (wp_mono (wpC_sound hX ha hbase ⟨fn, hf, hN0, body, hb, fun p hp => hsub p (by simp only [blocksC, List.mem_append, List.mem_cons]; exact .inl (.inl hp)), ok1⟩ hS hE hd hN) ?_))
  rintro e a' w' ⟨x', E', H', ρ', q1, q2, q3, q4, q5, q6⟩
  cases x' with
  | exit i => exact q2.elim
  | ret => exact q2.elim
  | panic v => exact q2.elim
  | normal =>
    cases e <;> simp only [AExit.rel] at q1
    obtain ⟨s, σ, g2, g3, g4, g5, g6⟩ := q2
    obtain ⟨k1, k2⟩ := sub_stepR q6 q3 hbase g3 g4 g5 g6 (Nat.le_trans hbase (hnx s))
    refine wp_block (wp_mono (loopC_sound hX (n := n) (c := c) hf hb (fun p hp => hsub p (by simp only [blocksC, List.mem_append, List.mem_cons]; exact .inl (.inr (.inr hp)))) ok2 hN0 st hbase hnx μ T _ hround s g2 _ _ _ k1 k2 q4 q5) ?_)
    rintro e a2 w2 ⟨x2, E2, H2, ρ2, r1, r2, r3, r4, r5, r6⟩
    cases x2 with
    | normal => exact r2.elim
    | panic v => exact r2.elim
    | ret => cases e <;> simp only [AExit.rel] at r1; exact ⟨.ret, E2, H2, ρ2, trivial, r2, r3, r4, r5, r6⟩
    | exit i =>
      cases e <;> simp only [AExit.rel] at r1
      obtain ⟨rfl, E1, H1, σ1, g1, g3, g4, g5, g6, r7⟩ := r2
      obtain ⟨k3, k4⟩ := sub_stepR r6 r3 hbase g3 g4 g5 g6 (Nat.le_trans hbase g1)
      subst r1
      simp only [Exit.inBlock, if_pos]
      exact wpC_sound hX r7 hbase ⟨fn, hf, hN0, body, hb, fun p hp => hsub p (by simp only [blocksC, List.mem_append, List.mem_cons]; exact .inr hp), ok3⟩ k3 k4 r4 r5

end Go.Proofs.Ytcgnoegejmhgmaa.Ev

/-
  Ev: a small logic over abstract states: parts of a function, joined by hand.
-/
namespace Go.Proofs.Ytcgnoegejmhgmaa.Ev
set_option linter.unusedVariables false
set_option linter.unusedSimpArgs false
open Go.RowKit

/-- A piece of a function's code. -/
def InFn (X : Ctx) (f : FuncId) (c : Code) : Prop := ∃ fn, X.fns f = some fn ∧ ∃ body, fn.body = some body ∧ (∀ p ∈ blocksC c, p ∈ blocksC body) ∧ okDst fn.ntmps c = true

/-- The way down into code: false: the left part, true: the right part; into blocks, loops, scopes by either. -/
def codeAt : List Bool → Code → Code
  | [], c => c
  | b :: p, c => codeAt p (match c with
    | .seq x y => match b with
      | false => x
      | true => y
    | .cond _ x y => match b with
      | false => x
      | true => y
    | .block _ c => c
    | .loop c => c
    | .scope c => c
    | c => c)

theorem codeAt_in {n : Nat} : ∀ (p : List Bool) (c : Code), okDst n c = true → (∀ q ∈ blocksC (codeAt p c), q ∈ blocksC c) ∧ okDst n (codeAt p c) = true
  | [], c, h => ⟨fun q hq => hq, h⟩
  | b :: p, c, h => by
    have key : ∀ c', okDst n c' = true → (∀ q ∈ blocksC c', q ∈ blocksC c) → (∀ q ∈ blocksC (codeAt p c'), q ∈ blocksC c) ∧ okDst n (codeAt p c') = true := fun c' h1 h2 =>
      ⟨fun q hq => h2 q ((codeAt_in p c' h1).1 q hq), (codeAt_in p c' h1).2⟩
    show (∀ q ∈ blocksC (codeAt p _), q ∈ blocksC c) ∧ okDst n (codeAt p _) = true
    refine key _ ?_ ?_ <;> clear key
    · cases c <;> cases b <;> simp only [okDst, Bool.and_eq_true] at h ⊢ <;> first | exact h | exact h.1 | exact h.2
    · cases c <;> cases b <;> intro q hq <;> simp only [blocksC, List.mem_append, List.mem_cons] at hq ⊢ <;> first | exact hq | exact .inl hq | exact .inr hq

theorem inFn_at {X : Ctx} (hX : CtxOk X) {f : FuncId} {fn : Func} {body : Code} (hf : X.fns f = some fn) (hb : fn.body = some body) (p : List Bool) : InFn X f (codeAt p body) := by
  obtain ⟨_, _, c, hc, hok⟩ := hX.fns f fn hf
  rw [hb] at hc
  cases hc
  obtain ⟨h1, h2⟩ := codeAt_in p body hok
  exact ⟨fn, hf, body, hb, h1, h2⟩

/-- From the state E, H the piece of code comes to an end, and Q holds there. -/
def Gd (X : Ctx) (f : FuncId) (H0 : AHeap) (c : Code) (Q : AExit → Env → AHeap → Prop) (E : Env) (H : AHeap) : Prop :=
  ∀ fn, X.fns f = some fn → ∀ N, fn.ntmps ≤ N → ∀ (d : Dfs) ρ0 w0 ρ a w, Step ρ0 H0 w0 ρ H w → RelE ρ H.next E a → a.defers = d.D → a.tmps.size = N → c.wp X.P (@Lift d ρ0 H0 w0 N Q) a w

section
variable {X : Ctx} {f : FuncId} {H0 : AHeap} {Q : AExit → Env → AHeap → Prop} {E : Env} {H : AHeap}

/-- By reckoning. -/
theorem Gd.walk (hX : CtxOk X) {n base : Nat} {c : Code} (hb : H0.next ≤ base) (hin : InFn X f c) (h : wpC X n f base c E H Q) : Gd X f H0 c Q E H := by
  intro fn hf N hN d ρ0 w0 ρ a w hS hE hd hn
  obtain ⟨fn', hf', body, q1, q2, q3⟩ := hin
  rw [hf] at hf'
  cases hf'
  exact @wpC_sound X hX d n f base c E H Q h ρ0 H0 w0 N ρ a w hb ⟨fn, hf, hN, body, q1, q2, q3⟩ hS hE hd hn

theorem Gd.mono {c : Code} {Q' : AExit → Env → AHeap → Prop} (h : Gd X f H0 c Q E H) (hq : ∀ x E H, Q x E H → Q' x E H) : Gd X f H0 c Q' E H := by
  intro fn hf N hN d ρ0 w0 ρ a w hS hE hd hn
  refine wp_mono (h fn hf N hN d ρ0 w0 ρ a w hS hE hd hn) ?_
  rintro e a' w' ⟨x, E', H', ρ', q1, q2, q3⟩
  exact ⟨x, E', H', ρ', q1, hq _ _ _ q2, q3⟩

/-- A state that has all that the other has, under other numbers. -/
theorem Gd.sub {c : Code} {base : Nat} {σ : List (Nat × Nat)} {E1 : Env} {H1 : AHeap} (hb : H0.next ≤ base) (hn1 : H0.next ≤ H1.next) (h : Gd X f H0 c Q E1 H1)
    (hσ : sigOk base σ = true) (hi : sigInj σ H1.bs = true) (h1 : subER H1.next σ E1 E) (h2 : subHR H1.next σ H1.bs H) : Gd X f H0 c Q E H := by
  intro fn hf N hN d ρ0 w0 ρ a w hS hE hd hn
  obtain ⟨k1, k2⟩ := sub_stepR hS hE hb hσ hi h1 h2 hn1
  exact h fn hf N hN d ρ0 w0 _ a w k1 k2 hd hn

theorem Gd.seq {c1 c2 : Code} (h : Gd X f H0 c1 (fun x E H => match x with
      | .normal => Gd X f H0 c2 Q E H
      | x => Q x E H) E H) : Gd X f H0 (.seq c1 c2) Q E H := by
  intro fn hf N hN d ρ0 w0 ρ a w hS hE hd hn
  refine wp_seq (wp_mono (h fn hf N hN d ρ0 w0 ρ a w hS hE hd hn) ?_)
  rintro e a' w' ⟨x, E', H', ρ', q1, q2, q3, q4, q5, q6⟩
  cases x with
  | normal => cases e <;> simp only [AExit.rel] at q1; exact q2 fn hf N hN d ρ0 w0 ρ' a' w' q6 q3 q4 q5
  | exit i => cases e <;> simp only [AExit.rel] at q1; exact ⟨.exit i, E', H', ρ', q1, q2, q3, q4, q5, q6⟩
  | ret => cases e <;> simp only [AExit.rel] at q1; exact ⟨.ret, E', H', ρ', trivial, q2, q3, q4, q5, q6⟩
  | panic v => cases e <;> simp only [AExit.rel] at q1; exact ⟨.panic v, E', H', ρ', q1, q2, q3, q4, q5, q6⟩

theorem Gd.block {c : Code} {i : Nat} (h : Gd X f H0 c (fun x E H => match x with
      | .exit j => match Nat.beq j i with
        | true => Q .normal E H
        | false => Q (.exit j) E H
      | x => Q x E H) E H) : Gd X f H0 (.block i c) Q E H := by
  intro fn hf N hN d ρ0 w0 ρ a w hS hE hd hn
  refine wp_block (wp_mono (h fn hf N hN d ρ0 w0 ρ a w hS hE hd hn) ?_)
  rintro e a' w' ⟨x, E', H', ρ', q1, q2, q3, q4, q5, q6⟩
  cases x with
  | normal => cases e <;> simp only [AExit.rel] at q1; exact ⟨.normal, E', H', ρ', trivial, q2, q3, q4, q5, q6⟩
  | exit j =>
    cases e <;> simp only [AExit.rel] at q1
    subst q1
    cases hj : Nat.beq j i with
    | true =>
      simp only [hj] at q2
      have hj' := nat_beq_eq.1 hj
      simp only [Exit.inBlock, hj', if_true]
      exact ⟨.normal, E', H', ρ', trivial, q2, q3, q4, q5, q6⟩
    | false =>
      simp only [hj] at q2
      have hj' := nat_beq_ne.1 hj
      simp only [Exit.inBlock, hj', if_false]
      exact ⟨.exit j, E', H', ρ', rfl, q2, q3, q4, q5, q6⟩
  | ret => cases e <;> simp only [AExit.rel] at q1; exact ⟨.ret, E', H', ρ', trivial, q2, q3, q4, q5, q6⟩
  | panic v => cases e <;> simp only [AExit.rel] at q1; exact ⟨.panic v, E', H', ρ', q1, q2, q3, q4, q5, q6⟩

theorem Gd.scope {c : Code} (h : Gd X f H0 c Q E H) : Gd X f H0 (.scope c) Q E H := by
  intro fn hf N hN d ρ0 w0 ρ a w hS hE hd hn
  refine wp_scope_straight (wp_mono (h fn hf N hN d ρ0 w0 ρ a w hS hE hd hn) ?_)
  rintro e a' w' ⟨x, E', H', ρ', q1, q2⟩
  cases e <;> cases x <;> simp only [AExit.rel] at q1
  · exact ⟨.normal, E', H', ρ', trivial, q2⟩
  · exact ⟨.exit _, E', H', ρ', q1, q2⟩
  · exact ⟨.ret, E', H', ρ', trivial, q2⟩
  · exact ⟨.panic _, E', H', ρ', q1, q2⟩

/-- A loop: I m: what holds ahead of a round, with at most m rounds to come. -/
theorem Gd.loop {c : Code} (I : Nat → Env → AHeap → Prop)
    (hr : ∀ m E H, I m E H → Gd X f H0 c (fun x E H => match x with
      | .normal => ∃ m', m' < m ∧ I m' E H
      | x => Q x E H) E H) : ∀ m E H, I m E H → Gd X f H0 (.loop c) Q E H := by
  intro m E H hI fn hf N hN d ρ0 w0 ρ a w hS hE hd hn
  refine wp_loop_rounds (m + 1) ?_
  have key : ∀ (k m : Nat) (E : Env) (H : AHeap) (ρ : Rho) (a : Act) (w : World), m < k → I m E H → Step ρ0 H0 w0 ρ H w → RelE ρ H.next E a → a.defers = d.D → a.tmps.size = N → Code.rounds X.P c (@Lift d ρ0 H0 w0 N Q) k a w := by
    intro k
    induction k with
    | zero => intro m E H ρ a w h; omega
    | succ k ih =>
      intro m E H ρ a w hm hI hS hE hd hn
      show Code.wp X.P c (Exit.then (Code.rounds X.P c (@Lift d ρ0 H0 w0 N Q) k) (@Lift d ρ0 H0 w0 N Q)) a w
      refine wp_mono (hr m E H hI fn hf N hN d ρ0 w0 ρ a w hS hE hd hn) ?_
      rintro e a' w' ⟨x, E', H', ρ', q1, q2, q3, q4, q5, q6⟩
      cases x with
      | normal =>
        cases e <;> simp only [AExit.rel] at q1
        obtain ⟨m', g1, g2⟩ := q2
        exact ih m' E' H' ρ' a' w' (by omega) g2 q6 q3 q4 q5
      | exit i => cases e <;> simp only [AExit.rel] at q1; exact ⟨.exit i, E', H', ρ', q1, q2, q3, q4, q5, q6⟩
      | ret => cases e <;> simp only [AExit.rel] at q1; exact ⟨.ret, E', H', ρ', trivial, q2, q3, q4, q5, q6⟩
      | panic v => cases e <;> simp only [AExit.rel] at q1; exact ⟨.panic v, E', H', ρ', q1, q2, q3, q4, q5, q6⟩
  exact key _ m E H ρ a w (Nat.lt_succ_self _) hI hS hE hd hn

/-- The same, by states. -/
theorem Gd.states {c : Code} {S : Type} (st : S → Env × AHeap) {base : Nat} (hb : H0.next ≤ base) (hnx : ∀ s, base ≤ (st s).2.next) (μ : S → Nat) (T : S → Prop)
    (hr : ∀ s, T s → Gd X f H0 c (RoundC base st μ T s Q) (st s).1 (st s).2) : ∀ s, T s → Gd X f H0 (.loop c) Q (st s).1 (st s).2 := by
  intro s hT
  refine Gd.loop (fun m E H => ∃ s, μ s = m ∧ T s ∧ ∀ c Q', Gd X f H0 c Q' (st s).1 (st s).2 → Gd X f H0 c Q' E H) (fun m E H hI => ?_) (μ s) _ _ ⟨s, rfl, hT, fun _ _ h => h⟩
  obtain ⟨s, rfl, hT, hs⟩ := hI
  refine hs _ _ (Gd.mono (hr s hT) (fun x E H h => ?_))
  cases x with
  | normal =>
    obtain ⟨s', σ, k1, k2, g1, g2, g3, g4⟩ := h
    exact ⟨μ s', k1, s', rfl, k2, fun c Q' h => Gd.sub hb (Nat.le_trans hb (hnx s')) h g1 g2 g3 g4⟩
  | exit i => exact h
  | ret => exact h
  | panic v => exact h

/-- The first k parts by reckoning. -/
theorem Gd.walkN (hX : CtxOk X) {base : Nat} (hb : H0.next ≤ base) {It : Env → AHeap → Prop} : ∀ (k n : Nat) (c : Code) (E : Env) (H : AHeap), isSeqs k c = true → InFn X f c → wpN X k n f base c E H It Q →
    (∀ E H, It E H → Gd X f H0 (tailN k c) Q E H) → Gd X f H0 c Q E H := by
  intro k n c E H hs hin h hIt fn hf N hN d ρ0 w0 ρ a w hS hE hd hn
  obtain ⟨fn', hf', body, q1, q2, q3⟩ := hin
  rw [hf] at hf'
  cases hf'
  exact @wpN_sound d X hX f base fn body hf q1 ρ0 H0 w0 N hb hN It Q k n c E H hs q2 q3 h (fun E H hi ρ a w h1 h2 h3 h4 => hIt E H hi fn hf N hN d ρ0 w0 ρ a w h1 h2 h3 h4) ρ a w hS hE hd hn

end

/-- A function by its body. -/
theorem fn_good {X : Ctx} (hX : CtxOk X) {f : FuncId} {fn : Func} {c : Code} (hf : X.fns f = some fn) (hb : fn.body = some c) {args : List AVal} {H0 : AHeap} {K : Out → AHeap → Prop}
    (h : Gd X f H0 c (endA X.P fn K) (env0 args 0) H0) {ρ : Rho} {w : World} (hR : Rel ρ H0 w) (hargs : belowL H0.next args = true) :
    Calls X.P f (trL ρ args).toArray w fun e w' => ∃ out H' ρ', Out.rel ρ' H'.next out e ∧ K out H' ∧ Step ρ H0 w ρ' H' w' := by
  obtain ⟨q1, q2, c2, q3, q4⟩ := hX.fns f fn hf
  exact fn_sound q1 hb hR hargs (fun a hE hd hN => h fn hf _ hN ⟨[]⟩ ρ w ρ a w (Step.refl hR) hE hd rfl)

/-- A law: no blocks at first. -/
theorem law_good {X : Ctx} (hX : CtxOk X) {f : FuncId} {fn : Func} {c : Code} (hf : X.fns f = some fn) (hb : fn.body = some c) {args : List AVal}
    (h : Gd X f ⟨0, []⟩ c (endA X.P fn (fun o _ => o = .ret (.bool true))) (env0 args 0) ⟨0, []⟩) (ha : belowL 0 args = true) (ρ : Rho) (w : World) :
    Calls X.P f (trL ρ args).toArray w fun e w' => e = .returned (.bool true) ∧ Below w.heap.size w w' := by
  refine (fn_good hX hf hb h (rel_nil ρ w) ha).mono ?_
  rintro e w' ⟨out, H', ρ', q1, rfl, q3⟩
  cases e <;> simp only [Out.rel] at q1
  exact ⟨by rw [q1.1]; rfl, q3.below (Nat.le_refl _) (fun g hg => by obtain ⟨b, x, hx, _⟩ := hg; simp [AHeap.get, getB] at hx)⟩

end Go.Proofs.Ytcgnoegejmhgmaa.Ev

/-
  Ev: a contract that is proved over a memory of its own small numbers, used in a greater memory.
-/
namespace Go.Proofs.Ytcgnoegejmhgmaa.Ev
set_option linter.unusedVariables false
set_option linter.unusedSimpArgs false
open Go.RowKit
universe u

/-- From k on, m numbers that lie behind N. -/
def extS (σ : List (Nat × Nat)) : Nat → Nat → Nat → List (Nat × Nat)
  | _, 0, _ => σ
  | k, m + 1, N => (k, N) :: extS σ (k + 1) m (N + 1)

theorem extS_get {σ : List (Nat × Nat)} : ∀ {m k N b : Nat}, sigA (extS σ k m N) b = if k ≤ b ∧ b < k + m then N + (b - k) else sigA σ b
  | 0, k, N, b => by rw [if_neg (by omega)]; rfl
  | m + 1, k, N, b => by
    have ih := @extS_get σ m (k + 1) (N + 1) b
    by_cases hb : k = b
    · subst hb
      rw [if_pos (by omega), Nat.sub_self]
      simp only [sigA, extS, tab, nat_beq_eq.2 rfl, Nat.add_zero]
    · have e : sigA (extS σ k (m + 1) N) b = sigA (extS σ (k + 1) m (N + 1)) b := by
        simp only [sigA, extS, tab, nat_beq_ne.2 hb]
      rw [e, ih]
      by_cases h : k + 1 ≤ b ∧ b < k + 1 + m
      · rw [if_pos h, if_pos (by omega)]; omega
      · rw [if_neg h, if_neg (by omega)]

mutual
theorem renV_under {σ : List (Nat × Nat)} {N M : Nat} (h : ∀ b, b < N → sigA σ b < M) : ∀ v : AVal, v.under N = true → (renV σ v).under M = true
  | .int _ _, _ | .bool _, _ | .str _, _ | .nilp, _ | .nils, _ | .nilm, _ | .nilf, _ | .niface, _ => rfl
  | .ptr b i sz j, hb | .sl b i sz j n c, hb | .map b, hb | .yld b, hb => by
    simp only [renV, AVal.under, Nat.blt_eq] at hb ⊢
    exact h b hb
  | .func f a c, hb => by
    simp only [renV, AVal.under, Bool.and_eq_true] at hb ⊢
    exact ⟨renL_under h a hb.1, renL_under h c hb.2⟩
  | .agg l, hb => by simp only [renV, AVal.under] at hb ⊢; exact renL_under h l hb
  | .tup l, hb => by simp only [renV, AVal.under] at hb ⊢; exact renL_under h l hb
  | .iface t v, hb => by simp only [renV, AVal.under] at hb ⊢; exact renV_under h v hb
  | .meth m v, hb => by simp only [renV, AVal.under] at hb ⊢; exact renV_under h v hb
theorem renL_under {σ : List (Nat × Nat)} {N M : Nat} (h : ∀ b, b < N → sigA σ b < M) : ∀ l : List AVal, belowL N l = true → belowL M (renL σ l) = true
  | [], _ => rfl
  | v :: r, hb => by
    simp only [renL, belowL, Bool.and_eq_true] at hb ⊢
    exact ⟨renV_under h v hb.1, renL_under h r hb.2⟩
end

/-- The way back of ren_ok. -/
theorem ok_ren {σ : List (Nat × Nat)} {ρ : Rho} {w : World} {b : Nat} {x : ABlk} (h : x.ok (ρ.pull σ) w b) : (renB σ x).ok ρ w (sigA σ b) := by
  cases x with
  | cells e l =>
    obtain ⟨h1, h2, fz, h3, h4⟩ := h
    rw [← renL_scalar σ] at h2
    rw [← trL_ren] at h3
    rw [← renL_length σ] at h4
    exact ⟨h1, h2, fz, h3, h4⟩
  | row e T l md =>
    have hd : ∀ a, a ∈ T.flat l → tr ρ a = tr (ρ.pull σ) a := fun a ha => AVal.data_tr ((List.all_eq_true.1 (flat_data T l)) a ha) _ _
    have hL : trL ρ (T.flat l) = trL (ρ.pull σ) (T.flat l) := by rw [trL_eq, trL_eq]; exact List.map_congr_left hd
    cases md with
    | plain =>
      obtain ⟨h1, h2, h3, cur, fz, h4, h5, h6, h7⟩ := h
      exact ⟨h1, h2, h3, cur, fz, h4, h5, h6, hL ▸ h7⟩
    | strish =>
      obtain ⟨h1, h2, h3, cur, fz, h4, h5, h6, h7⟩ := h
      exact ⟨h1, h2, h3, cur, fz, h4, h5, h6, hL ▸ h7⟩
    | ro =>
      obtain ⟨h1, h2, h3, h4⟩ := h
      refine ⟨h1, h2, h3, fun i v hv => ?_⟩
      rw [hd v (List.mem_of_getElem? hv)]
      exact h4 i v hv
  | obj U s l =>
    obtain ⟨h1, h2⟩ := h
    rw [← trL_ren] at h2
    exact ⟨h1, h2⟩
  | dead => trivial

/-- What a block of the small memory is in the great one; k, B: the small memory ahead of the call. -/
def safeB (k : Nat) (B : List (Nat × ABlk)) (b : Nat) (y : ABlk) : ABlk := match y.own with
  | true => y
  | false => match Nat.blt b k with
    | true => match getB B b with
      | some x => match x.own with
        | true => .dead
        | false => y
      | none => .dead
    | false => .dead

def enumB (σ : List (Nat × Nat)) (k : Nat) (B C : List (Nat × ABlk)) : Nat → Nat → List (Nat × ABlk) → List (Nat × ABlk)
  | _, 0, r => r
  | i, m + 1, r => (sigA σ i, match getB C i with
    | some y => renB σ (safeB k B i y)
    | none => .dead) :: enumB σ k B C (i + 1) m r

theorem getB_dead : ∀ (l : List (Nat × ABlk)) (b : Nat), getB l b ≠ some .dead
  | [], b => by simp [getB]
  | (c, z) :: l, b => by
    rw [getB_cons]
    by_cases h : c = b
    · rw [if_pos h]; cases z <;> simp [ABlk.live]
    · rw [if_neg h]; exact getB_dead l b

theorem getB_enum {σ : List (Nat × Nat)} {k : Nat} {B C r : List (Nat × ABlk)} {c : Nat} {x : ABlk} : ∀ {m i : Nat}, getB (enumB σ k B C i m r) c = some x →
    (∃ b y, i ≤ b ∧ b < i + m ∧ sigA σ b = c ∧ getB C b = some y ∧ safeB k B b y = y ∧ x = renB σ y) ∨ (getB r c = some x ∧ ∀ b, i ≤ b → b < i + m → sigA σ b ≠ c)
  | 0, i, h => .inr ⟨h, fun b h1 h2 => by omega⟩
  | m + 1, i, h => by
    unfold enumB at h
    rw [getB_cons] at h
    by_cases hc : sigA σ i = c
    · rw [if_pos hc] at h
      refine .inl ?_
      cases hg : getB C i with
      | none => rw [hg] at h; cases h
      | some y =>
        rw [hg] at h
        have : safeB k B i y = y ∧ x = renB σ y := by
          have hs : safeB k B i y = y ∨ safeB k B i y = .dead := by
            unfold safeB
            (repeat' split) <;> first | exact .inl rfl | exact .inr rfl
          rcases hs with hs | hs
          · simp only [hs] at h
            cases y <;> simp only [renB, ABlk.live] at h <;> first | (cases h; exact ⟨hs, rfl⟩) | cases h
          · simp only [hs] at h
            cases h
        exact ⟨i, y, Nat.le_refl _, by omega, hc, hg, this.1, this.2⟩
    · rw [if_neg hc] at h
      rcases getB_enum h with ⟨b, y, h1, h2, h3⟩ | ⟨h1, h2⟩
      · exact .inl ⟨b, y, by omega, by omega, h3⟩
      · refine .inr ⟨h1, fun b hb1 hb2 => ?_⟩
        by_cases hb : b = i
        · subst hb; exact hc
        · exact h2 b (by omega) (by omega)

/-- The great memory behind the call. -/
def mergeH (σ : List (Nat × Nat)) (C H C' : AHeap) : AHeap :=
  ⟨H.next + (C'.next - C.next), enumB (extS σ C.next (C'.next - C.next) H.next) C.next C.bs C'.bs 0 C'.next H.bs⟩

def renO (σ : List (Nat × Nat)) : Out → Out
  | .ret v => .ret (renV σ v)
  | .panic v => .panic (renV σ v)

/-- A contract: dec finds the small memory in the great one. -/
noncomputable def gcSub {S : Type u} (dec : List AVal → AHeap → Option (List (Nat × Nat) × S)) (cheap : S → AHeap) (F : S → (Out → AHeap → Prop) → Prop) : GC := fun args H K => match dec args H with
  | some (σ, s) => F s (fun out C' => forceH (mergeH σ (cheap s) H C') (K (renO (extS σ (cheap s).next (C'.next - (cheap s).next) H.next) out)))
  | none => Stuck 34 []

structure DecOk {S : Type u} (dec : List AVal → AHeap → Option (List (Nat × Nat) × S)) (cargs : S → List AVal) (cheap : S → AHeap) : Prop where
  ok : ∀ args H σ s, dec args H = some (σ, s) → belowL H.next args = true → (∀ b x, H.get b = some x → b < H.next ∧ x.under H.next = true) →
    args = renL σ (cargs s) ∧ belowL (cheap s).next (cargs s) = true ∧ (∀ b x, (cheap s).get b = some x → b < (cheap s).next ∧ x.under (cheap s).next = true ∧ H.get (sigA σ b) = some (renB σ x)) ∧
    (∀ b b', b < (cheap s).next → b' < (cheap s).next → b ≠ b' → sigA σ b ≠ sigA σ b') ∧ ∀ b, b < (cheap s).next → sigA σ b < H.next

theorem gc_sub {P : Program} {f : FuncId} {S : Type u} {dec : List AVal → AHeap → Option (List (Nat × Nat) × S)} {cargs : S → List AVal} {cheap : S → AHeap} {F : S → (Out → AHeap → Prop) → Prop} (he : ∀ vs w, (callFunc f vs).run P w = .ok (.enter f vs) w) (hdec : DecOk dec cargs cheap)
    (hF : ∀ s k, F s k → ∀ ρ w, Rel ρ (cheap s) w → belowL (cheap s).next (cargs s) = true → Calls P f (trL ρ (cargs s)).toArray w fun e w' => ∃ out H' ρ', Out.rel ρ' H'.next out e ∧ k out H' ∧ Step ρ (cheap s) w ρ' H' w') : GcSound P f (gcSub dec cheap F) := by
  intro args H K hK ρ w hR hargs
  refine ⟨he, ?_⟩
  unfold gcSub at hK
  split at hK
  rotate_left
  · exact (not_stuck hK).elim
  rename_i σ s hd
  obtain ⟨d1, d2, d3, d4, d5⟩ := hdec.ok args H σ s hd hargs (fun b x hx => ⟨(hR.blk b x hx).1, (hR.blk b x hx).2.1⟩)
  generalize hC : cheap s = C at d2 d3 d4 d5 hK
  have hRel : Rel (ρ.pull σ) C w := by
    refine ⟨fun b x hx => ?_, fun b b' x x' hx hx' ho hne => ?_⟩
    · obtain ⟨q1, q2, q3⟩ := d3 b x hx
      obtain ⟨r1, r2, r3, r4⟩ := hR.blk _ _ q3
      exact ⟨q1, q2, r3, ren_ok r4⟩
    · intro g hf hf'
      exact hR.inj _ _ _ _ (d3 b x hx).2.2 (d3 b' x' hx').2.2 (by rw [renB_own]; exact ho) (d4 b b' (d3 b x hx).1 (d3 b' x' hx').1 hne) g ((renB_fp σ ρ b x g).2 hf) ((renB_fp σ ρ b' x' g).2 hf')
  have hcall := hF s _ hK (ρ.pull σ) w (by rw [hC]; exact hRel) (by rw [hC]; exact d2)
  rw [d1, trL_ren]
  refine hcall.mono ?_
  rintro e w' ⟨out, C', ρ', h1, h2, h3⟩
  rw [hC] at h3
  rw [forceH_eq] at h2
  have hle := h3.next
  generalize hm : C'.next - C.next = m at h2
  have hCm : C'.next = C.next + m := by omega
  generalize hτ : extS σ C.next m H.next = τ at h2
  have hτ1 : ∀ b, b < C.next → sigA τ b = sigA σ b := fun b hb => by rw [← hτ, extS_get, if_neg (by omega)]
  have hτ2 : ∀ b, C.next ≤ b → b < C'.next → sigA τ b = H.next + (b - C.next) := fun b hb hb' => by rw [← hτ, extS_get, if_pos (by omega)]
  have hτM : ∀ b, b < C'.next → sigA τ b < H.next + m := fun b hb => by
    by_cases hk : b < C.next
    · rw [hτ1 b hk]; have := d5 b hk; omega
    · rw [hτ2 b (by omega) hb]; omega
  have hτi : ∀ b b', b < C'.next → b' < C'.next → b ≠ b' → sigA τ b ≠ sigA τ b' := fun b b' hb hb' hne => by
    by_cases hk : b < C.next <;> by_cases hk' : b' < C.next
    · rw [hτ1 b hk, hτ1 b' hk']; exact d4 b b' hk hk' hne
    · rw [hτ1 b hk, hτ2 b' (by omega) hb']; have := d5 b hk; omega
    · rw [hτ2 b (by omega) hb, hτ1 b' hk']; have := d5 b' hk'; omega
    · rw [hτ2 b (by omega) hb, hτ2 b' (by omega) hb']; omega
  let π : Rho := ⟨fun c => if c < H.next then ρ.blk c else ρ'.blk (C.next + (c - H.next)), fun c => if c < H.next then ρ.off c else ρ'.off (C.next + (c - H.next)), fun c => if c < H.next then ρ.cap c else ρ'.cap (C.next + (c - H.next)), fun c g => (∃ b, b < C'.next ∧ sigA τ b = c ∧ ρ'.fp b g) ∨ ((∀ b, b < C'.next → sigA τ b ≠ c) ∧ ρ.fp c g)⟩
  have hπf : ∀ b, b < C'.next → π.fp (sigA τ b) = ρ'.fp b := fun b hb => by
    funext g
    refine propext ⟨fun h => ?_, fun h => .inl ⟨b, hb, rfl, h⟩⟩
    rcases h with ⟨b', hb', he, h⟩ | ⟨h, _⟩
    · have : b' = b := Classical.byContradiction fun hne => hτi b' b hb' hb hne he
      rw [← this]; exact h
    · exact absurd rfl (h b hb)
  have hπn : ∀ c, (∀ b, b < C'.next → sigA τ b ≠ c) → π.fp c = ρ.fp c := fun c hc => by
    funext g
    refine propext ⟨fun h => ?_, fun h => .inr ⟨hc, h⟩⟩
    rcases h with ⟨b', hb', he, h⟩ | ⟨_, h⟩
    · exact absurd he (hc b' hb')
    · exact h
  have hπ : Rho.agree H.next ρ π := fun c hc => ⟨if_pos hc, if_pos hc, if_pos hc⟩
  have hA : Rho.agree C'.next ρ' (π.pull τ) := by
    intro b hb
    by_cases hk : b < C.next
    · obtain ⟨a1, a2, a3⟩ := h3.agree b hk
      have hlt := d5 b hk
      simp only [Rho.pull, hτ1 b hk]
      exact ⟨(if_pos hlt).trans a1.symm, (if_pos hlt).trans a2.symm, (if_pos hlt).trans a3.symm⟩
    · have hx := hτ2 b (by omega) hb
      have hn : ¬ (H.next + (b - C.next) < H.next) := by omega
      have hi : C.next + (H.next + (b - C.next) - H.next) = b := by omega
      simp only [Rho.pull, hx]
      refine ⟨(if_neg hn).trans (by rw [hi]), (if_neg hn).trans (by rw [hi]), (if_neg hn).trans (by rw [hi])⟩
  have hτblk : ∀ b, b < C'.next → π.blk (sigA τ b) = ρ'.blk b := fun b hb => (hA b hb).1
  have hownC : ∀ g, Owns (ρ.pull σ) C g → Owns ρ H g := by
    rintro g ⟨b, x, hx, ho, hf⟩
    exact ⟨sigA σ b, renB σ x, (d3 b x hx).2.2, by rw [renB_own]; exact ho, (renB_fp σ ρ b x g).2 hf⟩
  have hget : ∀ c x, (mergeH σ C H C').get c = some x → (∃ b y, b < C'.next ∧ sigA τ b = c ∧ C'.get b = some y ∧ safeB C.next C.bs b y = y ∧ x = renB τ y) ∨ (H.get c = some x ∧ ∀ b, b < C'.next → sigA τ b ≠ c) := by
    intro c x hx
    unfold mergeH AHeap.get at hx
    simp only [hm, hτ] at hx
    rcases getB_enum hx with ⟨b, y, g1, g2, g3, g4, g5, g6⟩ | ⟨g1, g2⟩
    · exact .inl ⟨b, y, by omega, g3, g4, g5, g6⟩
    · exact .inr ⟨g1, fun b hb => g2 b (Nat.zero_le _) (by omega)⟩
  have hnext : (mergeH σ C H C').next = H.next + m := by unfold mergeH; simp only [hm]
  -- a block of the great memory that is none of the small one's is not owned by it
  have hout : ∀ c x g, H.get c = some x → x.fp ρ c g → (∀ b, b < C'.next → sigA τ b ≠ c) → ¬ Owns (ρ.pull σ) C g := by
    rintro c x g hx hf hc ⟨b, y, hy, ho, hg⟩
    obtain ⟨q1, _, q3⟩ := d3 b y hy
    refine hR.inj (sigA σ b) c _ _ q3 hx (by rw [renB_own]; exact ho) ?_ g ((renB_fp σ ρ b y g).2 hg) hf
    rw [← hτ1 b q1]
    exact hc b (by omega)
  have hne : ∀ b y c x, b < C'.next → C'.get b = some y → safeB C.next C.bs b y = y → H.get c = some x → (∀ b, b < C'.next → sigA τ b ≠ c) → (y.own = true ∨ x.own = true) → ∀ g, y.fp ρ' b g → ¬ x.fp ρ c g := by
    intro b y c x hb hy hsf hx hc ho g hf hf'
    cases hyo : y.own with
    | true =>
      rcases h3.owns _ ⟨b, y, hy, hyo, hf⟩ with g1 | g1
      · have := hR.low hx hf'; omega
      · exact hout c x g hx hf' hc g1
    | false =>
      have hxo : x.own = true := ho.resolve_left (fun h => by rw [hyo] at h; cases h)
      have hdead : y ≠ .dead := by rintro rfl; exact getB_dead _ _ hy
      unfold safeB at hsf
      rw [hyo] at hsf
      simp only at hsf
      split at hsf
      · rename_i hbk
        split at hsf
        · rename_i z hz
          split at hsf
          · exact hdead hsf.symm
          · have hbk' : b < C.next := by simpa only [Nat.blt_eq] using hbk
            obtain ⟨_, _, q3⟩ := d3 b z hz
            have e1 : ρ'.blk b = ρ.blk (sigA σ b) := (h3.agree b hbk').1
            have hyb : y.big = false := by
              cases hq : y.big with
              | false => rfl
              | true => rw [ABlk.big_own hq] at hyo; cases hyo
            rw [ABlk.fp_small hyb, e1] at hf
            exact hR.inj c (sigA σ b) _ _ hx q3 hxo (by rw [← hτ1 b hbk']; exact fun h => hc b hb h.symm) g hf' (.inl hf)
        · exact hdead hsf.symm
      · exact hdead hsf.symm
  have hfpN : ∀ b y g, b < C'.next → ((renB τ y).fp π (sigA τ b) g ↔ y.fp ρ' b g) := fun b y g hb => by
    rw [renB_fp]
    exact ABlk.fp_eq (hA b hb).1 (hπf b hb) y g
  have hfpO : ∀ c x g, H.get c = some x → (∀ b, b < C'.next → sigA τ b ≠ c) → (x.fp π c g ↔ x.fp ρ c g) := fun c x g hx hc =>
    ABlk.fp_eq (hπ c (hR.blk c x hx).1).1 (hπn c hc) x g
  have hstep : Step ρ H w π (mergeH σ C H C') w' := by
    refine ⟨hπ, by rw [hnext]; omega, ⟨fun c x hx => ?_, fun c c' x x' hx hx' ho hcc g0 hf hf' => ?_⟩, h3.os, h3.tape, h3.output, h3.size, fun g hg hn => h3.old g hg fun h => hn (hownC g h), fun g hg => ?_⟩
    · rcases hget c x hx with ⟨b, y, g1, rfl, g3, _, rfl⟩ | ⟨g1, g2⟩
      · obtain ⟨r1, r2, r3, r4⟩ := h3.rel.blk b y g3
        refine ⟨by rw [hnext]; exact hτM b g1, ?_, by rw [hτblk b g1]; exact r3, ok_ren (ABlk.ok_keep r4 r2 hA g1 (Nat.le_refl _) (hπf b g1) fun _ _ => rfl)⟩
        rw [hnext]
        cases y with
        | cells e l => exact renL_under hτM l r2
        | obj U s l => exact renL_under hτM l r2
        | row e T l md => rfl
        | dead => rfl
      · obtain ⟨r1, r2, r3, r4⟩ := hR.blk c x g1
        refine ⟨by rw [hnext]; omega, ?_, ?_, ABlk.ok_keep r4 r2 hπ r1 h3.size (hπn c g2) fun g hg => h3.old _ (hR.low g1 hg) (hout c x g g1 hg g2)⟩
        · rw [hnext]
          cases x with
          | cells e l => exact belowL_mono (Nat.le_add_right _ _) l r2
          | obj U s l => exact belowL_mono (Nat.le_add_right _ _) l r2
          | row e T l md => rfl
          | dead => rfl
        · rw [(hπ c r1).1]; exact Nat.lt_of_lt_of_le r3 h3.size
    · rcases hget c x hx with ⟨b, y, g1, rfl, g3, g4, rfl⟩ | ⟨g1, g2⟩ <;> rcases hget c' x' hx' with ⟨b', y', g1', rfl, g3', g4', rfl⟩ | ⟨g1', g2'⟩
      · rw [hfpN b y g0 g1] at hf
        rw [hfpN b' y' g0 g1'] at hf'
        exact h3.rel.inj b b' y y' g3 g3' (by rw [renB_own] at ho; exact ho) (fun h => hcc (by rw [h])) g0 hf hf'
      · rw [hfpN b y g0 g1] at hf
        rw [hfpO c' x' g0 g1' g2'] at hf'
        exact hne b y c' x' g1 g3 g4 g1' g2' (.inl (by rw [renB_own] at ho; exact ho)) g0 hf hf'
      · rw [hfpN b' y' g0 g1'] at hf'
        rw [hfpO c x g0 g1 g2] at hf
        exact hne b' y' c x g1' g3' g4' g1 g2 (.inr ho) g0 hf' hf
      · rw [hfpO c x g0 g1 g2] at hf
        rw [hfpO c' x' g0 g1' g2'] at hf'
        exact hR.inj c c' x x' g1 g1' ho hcc g0 hf hf'
    · obtain ⟨c, x, hx, ho, hf⟩ := hg
      rcases hget c x hx with ⟨b, y, g1, rfl, g3, _, rfl⟩ | ⟨g1, g2⟩
      · rw [hfpN b y g g1] at hf
        rw [renB_own] at ho
        rcases h3.owns _ ⟨b, y, g3, ho, hf⟩ with g | g
        · exact .inl g
        · exact .inr (hownC _ g)
      · rw [hfpO c x g g1 g2] at hf
        exact .inr ⟨c, x, g1, ho, hf⟩
  refine ⟨_, _, π, ?_, h2, hstep⟩
  rw [hnext]
  have key : ∀ v : AVal, v.under C'.next = true → tr ρ' v = tr π (renV τ v) ∧ (renV τ v).under (H.next + m) = true := fun v hv =>
    ⟨by rw [tr_ren, tr_agree hA v hv], renV_under hτM v hv⟩
  cases out with
  | ret v =>
    cases e <;> simp only [Out.rel] at h1
    exact ⟨h1.1.trans (key v h1.2).1, (key v h1.2).2⟩
  | panic v =>
    cases e <;> simp only [Out.rel] at h1
    refine ⟨?_, (key v h1.2).2⟩
    rw [h1.1, (key v h1.2).1]

end Go.Proofs.Ytcgnoegejmhgmaa.Ev

/-
  Ev: a state cut down to what is named, its blocks numbered anew.
-/
namespace Go.Proofs.Ytcgnoegejmhgmaa.Ev
set_option linter.unusedVariables false
set_option linter.unusedSimpArgs false
open Go.RowKit

mutual
def idsV : AVal → List Nat
  | .ptr b _ _ _ | .sl b _ _ _ _ _ | .map b | .yld b => [b]
  | .func _ a c => idsL a ++ idsL c
  | .agg l => idsL l
  | .tup l => idsL l
  | .iface _ v => idsV v
  | .meth _ v => idsV v
  | _ => []
def idsL : List AVal → List Nat
  | [] => []
  | v :: r => idsV v ++ idsL r
end

def okId (σ τ : List (Nat × Nat)) (N b : Nat) : Bool := Nat.beq (sigA σ (sigA τ b)) b && Nat.blt (sigA τ b) N
def okIds (σ τ : List (Nat × Nat)) (N : Nat) : List Nat → Bool
  | [] => true
  | b :: r => okId σ τ N b && okIds σ τ N r

theorem okIds_append {σ τ : List (Nat × Nat)} {N : Nat} : ∀ {a b : List Nat}, okIds σ τ N (a ++ b) = true → okIds σ τ N a = true ∧ okIds σ τ N b = true
  | [], b, h => ⟨rfl, h⟩
  | x :: a, b, h => by
    simp only [List.cons_append, okIds, Bool.and_eq_true] at h ⊢
    obtain ⟨h1, h2⟩ := okIds_append h.2
    exact ⟨⟨h.1, h1⟩, h2⟩

theorem okId_iff {σ τ : List (Nat × Nat)} {N b : Nat} (h : okIds σ τ N [b] = true) : sigA σ (sigA τ b) = b ∧ sigA τ b < N := by
  simp only [okIds, okId, Bool.and_eq_true, Nat.blt_eq, Bool.and_true] at h
  exact ⟨nat_beq_eq.1 h.1, h.2⟩

mutual
theorem ren_inv {σ τ : List (Nat × Nat)} {N : Nat} : ∀ v : AVal, okIds σ τ N (idsV v) = true → renV σ (renV τ v) = v ∧ (renV τ v).under N = true
  | .int _ _, _ | .bool _, _ | .str _, _ | .nilp, _ | .nils, _ | .nilm, _ | .nilf, _ | .niface, _ => ⟨rfl, rfl⟩
  | .ptr b i sz j, h | .sl b i sz j n c, h | .map b, h | .yld b, h => by
    obtain ⟨h1, h2⟩ := okId_iff h
    simp only [renV, h1, AVal.under, Nat.blt_eq, h2, and_self]
  | .func f a c, h => by
    obtain ⟨h1, h2⟩ := okIds_append h
    obtain ⟨a1, a2⟩ := renL_inv a h1
    obtain ⟨c1, c2⟩ := renL_inv c h2
    simp only [renV, a1, c1, AVal.under, a2, c2, Bool.and_self, and_self]
  | .agg l, h => by
    obtain ⟨a1, a2⟩ := renL_inv l h
    simp only [renV, a1, AVal.under, a2, and_self]
  | .tup l, h => by
    obtain ⟨a1, a2⟩ := renL_inv l h
    simp only [renV, a1, AVal.under, a2, and_self]
  | .iface t v, h => by
    obtain ⟨a1, a2⟩ := ren_inv v h
    simp only [renV, a1, AVal.under, a2, and_self]
  | .meth m v, h => by
    obtain ⟨a1, a2⟩ := ren_inv v h
    simp only [renV, a1, AVal.under, a2, and_self]
theorem renL_inv {σ τ : List (Nat × Nat)} {N : Nat} : ∀ l : List AVal, okIds σ τ N (idsL l) = true → renL σ (renL τ l) = l ∧ belowL N (renL τ l) = true
  | [], _ => ⟨rfl, rfl⟩
  | v :: r, h => by
    obtain ⟨h1, h2⟩ := okIds_append h
    obtain ⟨a1, a2⟩ := ren_inv v h1
    obtain ⟨c1, c2⟩ := renL_inv r h2
    simp only [renL, a1, c1, belowL, a2, c2, Bool.and_self, and_self]
end

/-- The temporaries that are named. -/
def mkE (τ : List (Nat × Nat)) (E : Env) : List Nat → Env
  | [] => []
  | t :: ts => match getE E t with
    | some v => (t, renV τ v) :: mkE τ E ts
    | none => mkE τ E ts
def okE (σ τ : List (Nat × Nat)) (N : Nat) (E : Env) : List Nat → Bool
  | [] => true
  | t :: ts => match getE E t with
    | some v => okIds σ τ N (idsV v) && okE σ τ N E ts
    | none => okE σ τ N E ts
/-- The blocks that are named, from i on. -/
def mkB (σ τ : List (Nat × Nat)) (H : AHeap) : Nat → Nat → List (Nat × ABlk)
  | _, 0 => []
  | i, m + 1 => match H.get (sigA σ i) with
    | some x => (i, renB τ x) :: mkB σ τ H (i + 1) m
    | none => mkB σ τ H (i + 1) m
def okB (σ τ : List (Nat × Nat)) (N : Nat) (H : AHeap) : Nat → Nat → Bool
  | _, 0 => true
  | i, m + 1 => match H.get (sigA σ i) with
    | some x => (match x with
      | .cells _ l => okIds σ τ N (idsL l)
      | .obj _ _ l => okIds σ τ N (idsL l)
      | _ => true) && (Nat.blt i N && okB σ τ N H (i + 1) m)
    | none => okB σ τ N H (i + 1) m

theorem mkE_sub {σ τ : List (Nat × Nat)} {N : Nat} {E : Env} : ∀ ts : List Nat, okE σ τ N E ts = true → subER N σ (mkE τ E ts) E
  | [], _ => trivial
  | t :: ts, h => by
    cases hv : getE E t with
    | some v =>
      simp only [okE, hv, Bool.and_eq_true] at h
      obtain ⟨a1, a2⟩ := ren_inv v h.1
      simp only [mkE, hv]
      exact subER_cons hv a2 a1.symm (mkE_sub ts h.2)
    | none =>
      simp only [okE, hv] at h
      simp only [mkE, hv]
      exact mkE_sub ts h

theorem mkB_sub {σ τ : List (Nat × Nat)} {N : Nat} {H : AHeap} : ∀ m i : Nat, okB σ τ N H i m = true → subHR N σ (mkB σ τ H i m) H
  | 0, i, _ => trivial
  | m + 1, i, h => by
    cases hx : H.get (sigA σ i) with
    | some x =>
      simp only [okB, hx, Bool.and_eq_true] at h
      obtain ⟨h1, h2, h3⟩ := h
      simp only [mkB, hx]
      refine subHR_cons hx h2 ?_ ?_ (mkB_sub m (i + 1) h3)
      · cases x with
        | cells e l => exact (renL_inv l h1).2
        | obj U s l => exact (renL_inv l h1).2
        | row e T l md => rfl
        | dead => rfl
      · cases x with
        | cells e l => simp only [renB, (renL_inv l h1).1]
        | obj U s l => simp only [renB, (renL_inv l h1).1]
        | row e T l md => rfl
        | dead => rfl
    | none =>
      simp only [okB, hx] at h
      simp only [mkB, hx]
      exact mkB_sub m (i + 1) h

/-! ### the numbers -/

def elemN (b : Nat) : List Nat → Bool
  | [] => false
  | c :: r => match Nat.beq b c with
    | true => true
    | false => elemN b r
def addIds : List Nat → List Nat → List Nat
  | acc, [] => acc
  | acc, b :: r => match elemN b acc with
    | true => addIds acc r
    | false => addIds (acc ++ [b]) r
def upN : Nat → Nat → List Nat
  | _, 0 => []
  | i, m + 1 => i :: upN (i + 1) m
def rootsE (E : Env) : List Nat → List Nat
  | [] => []
  | t :: ts => match getE E t with
    | some v => idsV v ++ rootsE E ts
    | none => rootsE E ts
/-- All blocks that are reached. done: those whose cells are read already. -/
def reach (H : AHeap) : Nat → List Nat → List Nat → List Nat
  | 0, done, todo => done ++ todo
  | _ + 1, done, [] => done
  | n + 1, done, b :: r => match H.get b with
    | some (.cells _ l) => reach H n (done ++ [b]) (addMore done b r (idsL l))
    | some (.obj _ _ l) => reach H n (done ++ [b]) (addMore done b r (idsL l))
    | _ => reach H n (done ++ [b]) r
where addMore (done : List Nat) (b : Nat) (r : List Nat) : List Nat → List Nat
  | [] => r
  | c :: l => match elemN c done || (Nat.beq c b || elemN c r) with
    | true => addMore done b r l
    | false => addMore done b (r ++ [c]) l
/-- From number to block, and back; what is below base keeps its number. -/
def zipS (base : Nat) : Nat → List Nat → List (Nat × Nat)
  | _, [] => []
  | i, b :: r => match Nat.ble base i with
    | true => (i, b) :: zipS base (i + 1) r
    | false => zipS base (i + 1) r
def zipT (base : Nat) : Nat → List Nat → List (Nat × Nat)
  | _, [] => []
  | i, b :: r => match Nat.ble base i with
    | true => (b, i) :: zipT base (i + 1) r
    | false => zipT base (i + 1) r

def forceL (l : List Nat) (K : List Nat → Prop) : Prop := match l with
  | [] => K []
  | a :: r => forceK a fun a => forceL r fun r => K (a :: r)
theorem forceL_eq : ∀ (l : List Nat) (K : List Nat → Prop), forceL l K = K l
  | [], _ => rfl
  | a :: r, K => by simp only [forceL, forceK_eq, forceL_eq r]

/-- The state is cut down; K: what is asked there. -/
noncomputable def canonK (base : Nat) (ts : List Nat) (E : Env) (H : AHeap) (K : Env → AHeap → Prop) : Prop :=
  forceL (reach H 60 [] (addIds (upN 0 base) (rootsE E ts))) fun ids => forceK ids.length fun n =>
    match (sigOk base (zipS base 0 ids) && sigInj (zipS base 0 ids) (mkB (zipS base 0 ids) (zipT base 0 ids) H 0 n)) && (okE (zipS base 0 ids) (zipT base 0 ids) n E ts && okB (zipS base 0 ids) (zipT base 0 ids) n H 0 n) with
    | true => match Nat.ble base n with
      | true => K (mkE (zipT base 0 ids) E ts) ⟨n, mkB (zipS base 0 ids) (zipT base 0 ids) H 0 n⟩
      | false => Stuck 41 []
    | false => Stuck 40 []

theorem canonK_ok {base : Nat} {ts : List Nat} {E : Env} {H : AHeap} {K : Env → AHeap → Prop} (h : canonK base ts E H K) :
    ∃ E' H' σ, K E' H' ∧ sigOk base σ = true ∧ sigInj σ H'.bs = true ∧ subER H'.next σ E' E ∧ subHR H'.next σ H'.bs H ∧ base ≤ H'.next := by
  unfold canonK at h
  rw [forceL_eq, forceK_eq] at h
  generalize reach H 60 [] (addIds (upN 0 base) (rootsE E ts)) = ids at h
  split at h
  · rename_i hc
    simp only [Bool.and_eq_true] at hc
    split at h
    · rename_i hb
      exact ⟨_, _, zipS base 0 ids, h, hc.1.1, hc.1.2, mkE_sub ts hc.2.1, mkB_sub _ 0 hc.2.2, by simpa only [Nat.ble_eq] using hb⟩
    · exact (not_stuck h).elim
  · exact (not_stuck h).elim

/-- Behind a walk: the state is cut down to the temporaries ts (exits: to those that ts names for them). -/
noncomputable def canQ (base : Nat) (ts : AExit → List Nat) (Q : AExit → Env → AHeap → Prop) : AExit → Env → AHeap → Prop
  | .panic v, E, H => Q (.panic v) E H
  | .ret, E, H => match ts .ret with
    | [] => Q .ret E H
    | t :: l => canonK base (t :: l) E H (Q .ret)
  | .normal, E, H => canonK base (ts .normal) E H (Q .normal)
  | .exit i, E, H => canonK base (ts (.exit i)) E H (Q (.exit i))

theorem Gd.can {X : Ctx} {f : FuncId} {H0 : AHeap} {c : Code} {Q : AExit → Env → AHeap → Prop} {E : Env} {H : AHeap} {base : Nat} {ts : AExit → List Nat} (hb : H0.next ≤ base) (h : Gd X f H0 c (canQ base ts Q) E H) : Gd X f H0 c Q E H := by
  intro fn hf N hN d ρ0 w0 ρ a w hS hE hd hn
  refine wp_mono (h fn hf N hN d ρ0 w0 ρ a w hS hE hd hn) ?_
  rintro e a' w' ⟨x, E', H', ρ', q1, q2, q3, q4, q5, q6⟩
  cases x with
  | panic v => exact ⟨_, E', H', ρ', q1, q2, q3, q4, q5, q6⟩
  | ret =>
    simp only [canQ] at q2
    split at q2
    · exact ⟨_, E', H', ρ', q1, q2, q3, q4, q5, q6⟩
    · obtain ⟨E1, H1, σ, g1, g2, g3, g4, g5, g6⟩ := canonK_ok q2
      obtain ⟨k1, k2⟩ := sub_stepR q6 q3 hb g2 g3 g4 g5 (Nat.le_trans hb g6)
      cases e <;> simp only [AExit.rel] at q1
      exact ⟨.ret, E1, H1, _, trivial, g1, k2, q4, q5, k1⟩
  | normal =>
    obtain ⟨E1, H1, σ, g1, g2, g3, g4, g5, g6⟩ := canonK_ok q2
    obtain ⟨k1, k2⟩ := sub_stepR q6 q3 hb g2 g3 g4 g5 (Nat.le_trans hb g6)
    cases e <;> simp only [AExit.rel] at q1
    exact ⟨.normal, E1, H1, _, trivial, g1, k2, q4, q5, k1⟩
  | exit i =>
    obtain ⟨E1, H1, σ, g1, g2, g3, g4, g5, g6⟩ := canonK_ok q2
    obtain ⟨k1, k2⟩ := sub_stepR q6 q3 hb g2 g3 g4 g5 (Nat.le_trans hb g6)
    cases e <;> simp only [AExit.rel] at q1
    exact ⟨.exit i, E1, H1, _, q1, g1, k2, q4, q5, k1⟩

/-- A walk whose outcome is cut down. -/
theorem Gd.walkC {X : Ctx} (hX : CtxOk X) {f : FuncId} {H0 : AHeap} {n : Nat} {c : Code} {Q : AExit → Env → AHeap → Prop} {E : Env} {H : AHeap} (base : Nat) (ts : AExit → List Nat) (hb : H0.next ≤ base) (hin : InFn X f c) (h : wpC X n f base c E H (canQ base ts Q)) : Gd X f H0 c Q E H :=
  Gd.can hb (Gd.walk hX hb hin h)

/-- A branch whose arms are the same. -/
def same (c : Bool) (A : Prop) : Prop := branch c A A
def twice (A : Prop) : Prop := A ∧ A
theorem twice_iff (A : Prop) : twice A ↔ A := and_self_iff
theorem same_iff (c : Bool) (A : Prop) : same c A ↔ A := by cases c <;> exact Iff.rfl

/-! ### obligations, one by one -/

theorem obl_mk {c : Bool} {A : Prop} (h : c = true) (hA : A) : obl c A := obl_iff.2 ⟨h, hA⟩
theorem obl_dec {p : Prop} [Decidable p] {A : Prop} (h : p) (hA : A) : obl (decide p) A := obl_iff.2 ⟨decide_eq_true h, hA⟩

theorem obl_and {p : Prop} [Decidable p] {b : Bool} {A : Prop} (h : p) (hb : b = true) (hA : A) : obl (decide p && b) A := obl_iff.2 ⟨by rw [decide_eq_true h, hb]; rfl, hA⟩
theorem obl_tt {b : Bool} {A : Prop} (hb : b = true) (hA : A) : obl (true && b) A := obl_iff.2 ⟨by rw [hb]; rfl, hA⟩
theorem br_mk {c : Bool} {A B : Prop} (h1 : c = true → A) (h2 : c = false → B) : branch c A B := branch_iff.2 ⟨h1, h2⟩
theorem br_dec {p : Prop} [Decidable p] {A B : Prop} (h1 : p → A) (h2 : ¬ p → B) : branch (decide p) A B := branch_iff.2 ⟨fun h => h1 (of_decide_eq_true h), fun h => h2 (of_decide_eq_false h)⟩

/-- Indexes into arrays of this function's are symbols. -/
def symT (T : Tabs) (f : Nat) : Tabs := { T with sms := f :: T.sms }
theorem symT_ok {T : Tabs} {P : Program} (h : TabsOk T P) (f : Nat) : TabsOk (symT T f) P := ⟨h.mixed, h.fns, h.rows, h.fcs, h.gcs, h.lcs, h.op⟩

end Go.Proofs.Ytcgnoegejmhgmaa.Ev

