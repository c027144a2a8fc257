/-
  MemberPlays answers true.
-/
import Derived.Test.YtcgnoegejmhgmaaMpW
import Derived.Test.YtcgnoegejmhgmaaMpP
namespace Go.Proofs.Ytcgnoegejmhgmaa
set_option linter.unusedVariables false
set_option linter.unusedSimpArgs false
open Go.RowKit Ev

theorem numE0 {l : List Int} {A B : Prop} {hd : Decidable (l.map (toI (intRow .i64)) = [])} (hl : l.length ≤ 1000) (h : l = []) (hB : B) :
    obl (true && l.all (okI (intRow .i64)) && (decide (l.length = (l.map (toI (intRow .i64))).length) && decide ((l.map (toI (intRow .i64))).length ≤ 1000)) && true) (branch (!@decide _ hd) A B) :=
  obl_mk (Bool.and_eq_true_iff.2 ⟨okNum l hl, rfl⟩) (br_not (fun hn => absurd (by rw [h]; rfl) hn) (fun _ => hB))
theorem numE2 {l l' : List Int} {A B : Prop} {hd : Decidable (l.map (toI (intRow .i64)) = l'.map (toI (intRow .i64)))} (hl : l.length ≤ 1000) (h : l = l') (hB : B) :
    obl (true && l.all (okI (intRow .i64)) && (decide (l.length = (l.map (toI (intRow .i64))).length) && decide ((l.map (toI (intRow .i64))).length ≤ 1000)) && (true && l'.all (okI (intRow .i64)) && (decide (l'.length = (l'.map (toI (intRow .i64))).length) && decide ((l'.map (toI (intRow .i64))).length ≤ 1000)))) (branch (!@decide _ hd) A B) := by
  subst h
  exact obl_mk (Bool.and_eq_true_iff.2 ⟨okNum l hl, okNum l hl⟩) (br_not (fun hn => absurd rfl hn) (fun _ => hB))

noncomputable abbrev MpGd (H0 : AHeap) (c : Code) (Q : AExit → Env → AHeap → Prop) (E : Env) (H : AHeap) : Prop := Gd (TR3.ctx Try.prog) 4 H0 c Q E H
theorem mpIn (p : List Bool) : InFn (TR3.ctx Try.prog) 4 (codeAt p mpB) :=
  inFn_at TR3ok.ctx (fn := Try.f4) (by kernel_rfl) (by kernel_rfl) p
theorem mp_r : mpR = .seq mp5 (.seq (.block 1 (.seq mp7 (.seq (.seq mp9 (.block 2 (.loop mpR2))) mp14))) mp6) := by kernel_rfl
theorem mp_14 : tailN 1 mp14 = .seq mp15 (.block 4 (.loop mpR4)) := by kernel_rfl
theorem mp_seqs14 : isSeqs 1 mp14 = true := by kernel_rfl
theorem mp_eq3 : tailN 3 mpB = .seq (.seq mp4 (.block 0 (.loop mpR))) mp19 := by kernel_rfl
theorem mp_seqs3 : isSeqs 3 mpB = true := by kernel_rfl
theorem mp_body : Try.f4.body = some mpB := by kernel_rfl
theorem mp_fns : (TR3.ctx Try.prog).fns 4 = some Try.f4 := by kernel_rfl

def mpGo (hs : List PairR) (i : Int) (S : MemS) (R : RefS) : AExit → Env → AHeap → Prop := fun x E H => match x with
  | .normal => E = mpE1 (mlV hs) i ∧ H = mpH hs S R
  | _ => False

/-! ### one by one -/

def p2I (hs : List PairR) (i : Int) (S : MemS) (R : RefS) (N : Nat) (E : Env) (H : AHeap) : Prop :=
  ∃ n : Nat, N = 8 - n ∧ n ≤ 8 ∧ E = mpE2 (mlV hs) i n ∧ H = mpH hs S R
def p2Q (hs : List PairR) (i : Int) (S : MemS) (R : RefS) : AExit → Env → AHeap → Prop := fun x E H => match x with
  | .exit 2 => E = mpE1 (mlV hs) i ∧ H = mpH hs S R
  | _ => False
def p2P (hs : List PairR) (i : Int) (S : MemS) (R : RefS) (N : Nat) : AExit → Env → AHeap → Prop := fun x E H => match x with
  | .normal => ∃ m', m' < N ∧ p2I hs i S R m' E H
  | x => p2Q hs i S R x E H

set_option maxRecDepth 100000 in
theorem p2_loop (H0 : AHeap) (hH : H0.next ≤ 1) (hs : List PairR) (i : Int) (S : MemS) (R : RefS) (B : Int) (hJ : JR S R B) (hB : B ≤ 1000) : ∀ N E H, p2I hs i S R N E H → MpGd H0 (.loop mpR2) (p2Q hs i S R) E H := by
  have hW := hJ.wf
  have hR := hJ.wfR hB
  refine Gd.loop (p2I hs i S R) (fun N E H hI => ?_)
  show MpGd H0 mpR2 (p2P hs i S R N) E H
  obtain ⟨n, hm, hn, rfl, rfl⟩ := hI
  have e : rOf R (modeM (modesOf R) n) = ofM S (modeM S n) := by rw [hJ.mode, hJ.of]
  have hl := of_len hW (modeM S n)
  have next : n < 8 → p2P hs i S R N .normal (mpE2 (mlV hs) i ((n : Int) + 1)) (mpH hs S R) := fun h => ⟨8 - (n + 1), by omega, n + 1, rfl, by omega, rfl, rfl⟩
  refine Gd.walkC TR3ok.ctx 1 (tsP (tsP1 ++ [10]) tsP1) hH (mpIn _) (Eq.mpr (w_mp_r2 hs i n S R _) ?_)
  refine br_dec (fun h => ?_) (fun h => ⟨rfl, rfl⟩)
  refine ⟨rfl, rfl, ⟨rfl, rfl⟩, hW, rfl, rfl, ⟨rfl, rfl⟩, hR, br_not (fun h => absurd (hJ.mode n).symm h) (fun _ => ?_)⟩
  refine ⟨rfl, rfl, ⟨rfl, rfl⟩, hW, rfl, rfl, ⟨rfl, rfl⟩, hW, rfl, rfl, ⟨rfl, rfl⟩, hR, rfl, rfl, ⟨rfl, rfl⟩, hR, br_dec (fun h0 => ?_) (fun h0 => ?_)⟩
  · exact numE0 (Nat.le_trans hl (by omega)) (e.symm.trans h0) (obl_mk (inI64_small (by omega)) (next (by omega)))
  · exact numE2 (Nat.le_trans hl (by omega)) e.symm (obl_mk (inI64_small (by omega)) (next (by omega)))

/-! ### an own list is spoilt -/

def p4I (hs : List PairR) (i : Int) (S : MemS) (R : RefS) (N : Nat) (E : Env) (H : AHeap) : Prop :=
  ∃ (k : Nat) (o : List Int), N = o.length - k ∧ k ≤ o.length ∧ o.length ≤ 1000 ∧ E = mpE4 (mlV hs) i (slI 3 o) k ∧ H = mpH1 hs S R o
def p4Q (hs : List PairR) (i : Int) (S : MemS) (R : RefS) : AExit → Env → AHeap → Prop := fun x E H => match x with
  | .exit 4 => E = mpE1 (mlV hs) i ∧ H = mpH hs S R
  | _ => False
def p4P (hs : List PairR) (i : Int) (S : MemS) (R : RefS) (N : Nat) : AExit → Env → AHeap → Prop := fun x E H => match x with
  | .normal => ∃ m', m' < N ∧ p4I hs i S R m' E H
  | x => p4Q hs i S R x E H

set_option maxRecDepth 100000 in
theorem p4_loop (H0 : AHeap) (hH : H0.next ≤ 1) (hs : List PairR) (i : Int) (S : MemS) (R : RefS) : ∀ N E H, p4I hs i S R N E H → MpGd H0 (.loop mpR4) (p4Q hs i S R) E H := by
  refine Gd.loop (p4I hs i S R) (fun N E H hI => ?_)
  show MpGd H0 mpR4 (p4P hs i S R N) E H
  obtain ⟨k, o, hm, hk, ho, rfl, rfl⟩ := hI
  refine Gd.walkC TR3ok.ctx 1 (tsP (tsP1 ++ [11, 12]) tsP1) hH (mpIn _) (Eq.mpr (w_mp_r4 hs i S R o k _) ?_)
  refine br_dec (fun h => ?_) (fun h => ⟨rfl, rfl⟩)
  refine obl_dec (by omega) (obl_and (by omega) rfl (obl_mk (inI64_small (by omega)) ?_))
  have hl : (o.set (0 + (k : Int).toNat) (-1)).length = o.length := List.length_set
  refine ⟨o.length - (k + 1), by omega, k + 1, o.set (0 + (k : Int).toNat) (-1), by rw [hl], by rw [hl]; omega, by rw [hl]; exact ho, ?_, rfl⟩
  show mpE4 (mlV hs) i (.sl 3 0 1 0 o.length none) ((k : Int) + 1) = mpE4 (mlV hs) i (.sl 3 0 1 0 (o.set (0 + (k : Int).toNat) (-1)).length none) ((k + 1 : Nat) : Int)
  rw [hl]; rfl

/-! ### one round -/

def Row64 (p : PairR) : Prop := True

set_option maxRecDepth 100000 in
theorem mp_7 (H0 : AHeap) (hH : H0.next ≤ 1) (hs : List PairR) (i : Nat) (hi : i < hs.length) (S : MemS) (R : RefS) (B : Int) (hJ : JR S R B) (hB : B + 1 ≤ 1000) :
    MpGd H0 mp7 (mpGo hs i (moveR S (hs.getD i ⟨0, 0⟩).a (hs.getD i ⟨0, 0⟩).b) (rMove R (hs.getD i ⟨0, 0⟩).a (hs.getD i ⟨0, 0⟩).b)) (mpE1 (mlV hs) (i : Int)) (mpH hs S R) := by
  have hW := hJ.wf
  have hR := hJ.wfR (by omega)
  have idx : 0 + (i : Int).toNat = i := by omega
  have hw := w_mp_7 hs i S R
  rw [idx] at hw
  generalize hs.getD i ⟨0, 0⟩ = p at *
  obtain ⟨a, b⟩ := p
  have hJ1 := hJ.move a b
  have hE := hJ.moveE a b
  have hW1 := hJ1.wf
  have hR1 := hJ1.wfR hB
  refine Gd.walkC TR3ok.ctx 1 (tsP tsP1 []) hH (mpIn _) (Eq.mpr (hw _) ?_)
  dsimp only [mpGo]
  generalize moveR S a b = S1 at *
  generalize hr : rMove R a b = R1 at *
  have hMd := hJ1.mode a
  have hAll := hJ1.all
  have hOf := hJ1.of b
  have la := all_len hW1
  have lo := Nat.le_trans (of_len hW1 b) (by omega : 8 ≤ 1000)
  have h1 : 0 ≤ (i : Int) ∧ (i : Int) < (hs.length : Int) := by omega
  have sv : ∀ x : Int, (decide (i < hs.length) && sameV (.int .i64 x) (.int .i64 x)) = true := fun x => by
    rw [decide_eq_true hi, Bool.true_and]; simp [sameV]
  refine obl_dec h1 (obl_dec hi (obl_dec h1 (obl_dec hi (obl_dec h1 (obl_dec hi (obl_dec h1 (obl_dec hi ?_)))))))
  refine ⟨rfl, rfl, ⟨rfl, rfl⟩, hW, obl_mk (sv b) (obl_mk (sv a) ⟨rfl, rfl, ⟨rfl, rfl⟩, hR, br_not (fun h => absurd hE.symm h) (fun _ => ?_)⟩)⟩
  refine obl_dec h1 (obl_dec hi (obl_dec h1 (obl_dec hi ⟨rfl, rfl, ⟨rfl, rfl⟩, hW1, obl_mk (sv a) ⟨rfl, rfl, ⟨rfl, rfl⟩, hR1, br_not (fun h => absurd hMd.symm h) (fun _ => ?_)⟩⟩)))
  refine ⟨rfl, rfl, ⟨rfl, rfl⟩, hW1, rfl, rfl, ⟨rfl, rfl⟩, hR1, br_dec (fun h0 => numE0 la (hAll.symm.trans h0) ?_) (fun h0 => numE2 la hAll.symm ?_)⟩
  · refine obl_dec h1 (obl_dec hi (obl_dec h1 (obl_dec hi ⟨rfl, rfl, ⟨rfl, rfl⟩, hW1, obl_mk (sv b) ⟨rfl, rfl, ⟨rfl, rfl⟩, hR1, br_dec (fun h0 => numE0 lo (hOf.symm.trans h0) ⟨rfl, rfl⟩) (fun h0 => numE2 lo hOf.symm ⟨rfl, rfl⟩)⟩⟩)))
  · refine obl_dec h1 (obl_dec hi (obl_dec h1 (obl_dec hi ⟨rfl, rfl, ⟨rfl, rfl⟩, hW1, obl_mk (sv b) ⟨rfl, rfl, ⟨rfl, rfl⟩, hR1, br_dec (fun h0 => numE0 lo (hOf.symm.trans h0) ⟨rfl, rfl⟩) (fun h0 => numE2 lo hOf.symm ⟨rfl, rfl⟩)⟩⟩)))

set_option maxRecDepth 100000 in
theorem mp_spoil (H0 : AHeap) (hH : H0.next ≤ 1) (hs : List PairR) (i : Int) (S : MemS) (R : RefS) (hW : WfM S) : MpGd H0 mp14 (mpGo hs i S R) (mpE1 (mlV hs) i) (mpH hs S R) := by
  have lo := Nat.le_trans (of_len hW (modeM S 0)) (by omega : 8 ≤ 1000)
  refine Gd.walkN TR3ok.ctx (base := 1) hH (It := fun E H => canonK 1 (tsP1 ++ [11]) E H (fun E H => E = mpE3 (mlV hs) i (slI 3 (ofM S (modeM S 0))) ∧ H = mpH1 hs S R (ofM S (modeM S 0)))) 1 200 _ _ _ mp_seqs14 (mpIn _) (Eq.mpr (w_mp_14 hs i S R (fun E H => E = mpE3 (mlV hs) i (slI 3 (ofM S (modeM S 0))) ∧ H = mpH1 hs S R (ofM S (modeM S 0))) _) ?_) (fun E H h => ?_)
  · exact ⟨rfl, rfl, ⟨rfl, rfl⟩, hW, rfl, rfl, ⟨rfl, rfl⟩, hW, rfl, rfl⟩
  obtain ⟨E', H', σ, ⟨rfl, rfl⟩, g2, g3, g4, g5, g6⟩ := canonK_ok h
  refine Gd.sub (base := 1) hH (Nat.le_trans hH g6) ?_ g2 g3 g4 g5
  rw [mp_14]
  refine Gd.seq (Gd.walkC TR3ok.ctx 1 (tsP (tsP1 ++ [11, 12]) []) hH (mpIn _) (Eq.mpr (w_mp_15 hs i S R (ofM S (modeM S 0)) _) ?_))
  refine Gd.block (Gd.mono (p4_loop H0 hH hs i S R (ofM S (modeM S 0)).length _ _ ⟨0, _, rfl, Nat.zero_le _, lo, rfl, rfl⟩) (fun x E H h => ?_))
  unfold p4Q at h
  split at h
  · exact h
  · exact h.elim

/-! ### the rounds -/

def p1I (hs : List PairR) (N : Nat) (E : Env) (H : AHeap) : Prop :=
  ∃ (i : Nat) (S : MemS) (R : RefS), N = hs.length - i ∧ i ≤ hs.length ∧ i ≤ 80 ∧ JR S R (8 + i) ∧ E = mpE1 (mlV hs) i ∧ H = mpH hs S R
def p1Q (hs : List PairR) : AExit → Env → AHeap → Prop := fun x E H => match x with
  | .exit 0 => ∃ S R, JR S R 100 ∧ E = mpE5 ∧ H = mpH hs S R
  | _ => False
def p1P (hs : List PairR) (N : Nat) : AExit → Env → AHeap → Prop := fun x E H => match x with
  | .normal => ∃ m', m' < N ∧ p1I hs m' E H
  | x => p1Q hs x E H

theorem JR.le {S : MemS} {R : RefS} {B B' : Int} (h : JR S R B) (hB : B ≤ B') : JR S R B' := ⟨h.wf, h.modes, h.len, h.lo, Int.le_trans h.hi hB, h.came, h.inj, h.ord⟩

set_option maxRecDepth 100000 in
theorem p1_loop (H0 : AHeap) (hH : H0.next ≤ 1) (hs : List PairR) : ∀ N E H, p1I hs N E H → MpGd H0 (.loop mpR) (p1Q hs) E H := by
  refine Gd.loop (p1I hs) (fun N E H hI => ?_)
  show MpGd H0 mpR (p1P hs N) E H
  obtain ⟨i, S, R, hm, hi, h80, hJ, rfl, rfl⟩ := hI
  have out : p1P hs N (.exit 0) mpE5 (mpH hs S R) := ⟨S, R, hJ.le (by omega), rfl, rfl⟩
  rw [mp_r]
  refine Gd.seq (Gd.walkC TR3ok.ctx 1 (tsP tsP1 [7, 8]) hH (mpIn _) (Eq.mpr (w_mp_5 hs i S R _) ?_))
  refine br_dec (fun h => br_dec (fun h8 => ?_) (fun _ => out)) (fun _ => out)
  have hil : i < hs.length := by omega
  have h7 := mp_7 H0 hH hs i hil S R (8 + i) hJ (by omega)
  have hJ1 := hJ.move (hs.getD i ⟨0, 0⟩).a (hs.getD i ⟨0, 0⟩).b
  generalize moveR S (hs.getD i ⟨0, 0⟩).a (hs.getD i ⟨0, 0⟩).b = S1 at *
  generalize rMove R (hs.getD i ⟨0, 0⟩).a (hs.getD i ⟨0, 0⟩).b = R1 at *
  have body : MpGd H0 (.seq mp7 (.seq (.seq mp9 (.block 2 (.loop mpR2))) mp14)) (mpGo hs i S1 R1) (mpE1 (mlV hs) i) (mpH hs S R) := by
    refine Gd.seq (Gd.mono h7 (fun x E H h => ?_))
    cases x <;> try exact h.elim
    obtain ⟨rfl, rfl⟩ := h
    refine Gd.seq (Gd.seq (Gd.walkC TR3ok.ctx 1 (tsP (tsP1 ++ [10]) []) hH (mpIn _) (Eq.mpr (w_mp_9 hs i S1 R1 _) ?_)))
    refine Gd.block (Gd.mono (p2_loop H0 hH hs i S1 R1 _ hJ1 (by omega) 8 _ _ ⟨0, rfl, by omega, rfl, rfl⟩) (fun x E H h => ?_))
    unfold p2Q at h
    split at h
    · obtain ⟨rfl, rfl⟩ := h
      exact mp_spoil H0 hH hs i S1 R1 hJ1.wf
    · exact h.elim
  show MpGd H0 (.seq (.block 1 (.seq mp7 (.seq (.seq mp9 (.block 2 (.loop mpR2))) mp14))) mp6) (p1P hs N) (mpE1 (mlV hs) i) (mpH hs S R)
  refine Gd.seq (Gd.block (Gd.mono body (fun x E H h => ?_)))
  cases x <;> try exact h.elim
  obtain ⟨rfl, rfl⟩ := h
  refine Gd.walkC TR3ok.ctx 1 (tsP tsP1 []) hH (mpIn _) (Eq.mpr (w_mp_6 hs i S1 R1 _) ?_)
  exact obl_mk (inI64_small (by omega)) ⟨hs.length - (i + 1), by omega, i + 1, S1, R1, rfl, by omega, by omega, hJ1.le (by omega), rfl, rfl⟩

end Go.Proofs.Ytcgnoegejmhgmaa
