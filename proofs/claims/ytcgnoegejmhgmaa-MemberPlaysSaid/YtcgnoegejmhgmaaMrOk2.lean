/-
  The document's members: a move, and Of: contracts.
-/
import Derived.Test.YtcgnoegejmhgmaaMrW2
namespace Go.Proofs.Ytcgnoegejmhgmaa
set_option linter.unusedVariables false
set_option linter.unusedSimpArgs false
open Go.RowKit Ev

set_option maxRecDepth 100000 in
theorem rmove_sound : GcSound Try.prog 14 (gcSub decRef refC (fRef qMove)) := by
  refine ref_gc Try.call14 (fun R rest K hW hC ρ w hR hb => ?_)
  unfold qMove at hC
  split at hC
  rotate_left
  · exact (not_stuck hC).elim
  rename_i t m
  rw [forceH_eq] at hC
  have hin := inFn_at TR1ok.ctx (f := 14) (fn := Try.f14) (body := rvB) (by kernel_rfl) (by kernel_rfl) []
  refine fn_good TR1ok.ctx (fn := Try.f14) (c := rvB) (by kernel_rfl) (by kernel_rfl) (Gd.walkC TR1ok.ctx 3 tsMv (Nat.le_refl _) hin (Eq.mpr (w_rmove R t m K) ?_)) hR hb
  have hlo := hW.lo
  have hhi := hW.hi
  refine ⟨rfl, rfl, ⟨rfl, rfl⟩, hW, br_dec (fun h => ?_) (fun h => ?_)⟩
  · have h : modeM (modesOf R) t = 0 := h
    have e1 : moveE (modesOf R) t m = 9 := by unfold moveE; rw [if_pos h]
    have e2 : rMove R t m = R := by unfold rMove; rw [if_pos h]
    rw [e1, e2] at hC; exact hC
  have h : ¬ modeM (modesOf R) t = 0 := h
  have bad : isM m = false → K (.ret (.int .i64 15)) ⟨3, refH R⟩ := fun hm => by
    have e1 : moveE (modesOf R) t m = 15 := by unfold moveE; rw [if_neg h, if_neg (by rw [hm]; decide)]
    have e2 : rMove R t m = R := by unfold rMove; rw [if_neg h, if_neg (by rw [hm]; decide)]
    rw [e1, e2] at hC; exact hC
  refine br_dec (fun h1 => bad (decide_eq_false (by omega))) (fun h1 => br_dec (fun h2 => bad (decide_eq_false (by omega))) (fun h2 => ?_))
  have hm : isM m = true := decide_eq_true (by omega)
  have ht : 0 ≤ t ∧ t < (R.modes.length : Int) := by
    by_cases ht : 0 ≤ t ∧ t < (R.modes.length : Int)
    · exact ht
    · exact absurd (by unfold modeM; rw [if_neg ht]) h
  have hmo : modeM (modesOf R) t = R.modes.getD t.toNat 0 := by unfold modeM; rw [if_pos ht]
  have e1 : moveE (modesOf R) t m = 0 := by unfold moveE; rw [if_neg h, if_pos hm]
  have hlen := hW.len
  rw [e1] at hC
  rw [Nat.zero_add]
  refine obl_dec ht (obl_dec (by omega) (br_not (fun h3 => ?_) (fun h3 => ?_)))
  · have e2 : rMove R t m = ⟨R.modes.set t.toNat m, R.came.set t.toNat (R.last + 1), R.last + 1⟩ := by unfold rMove; rw [if_neg h, if_pos hm, if_neg (by rw [hmo]; exact h3)]
    rw [e2] at hC
    simp only [refH, List.length_set] at hC
    exact obl_mk (inI64_small (by omega)) (obl_dec ht (obl_and (by omega) rfl (obl_dec (by omega) (obl_and (by omega) rfl hC))))
  · have e2 : rMove R t m = R := by unfold rMove; rw [if_neg h, if_pos hm, if_pos (by rw [hmo]; exact h3)]
    rw [e2] at hC; exact hC

/-! ### Of -/

theorem rRow_succ (R : RefS) (k c : Int) (i : Nat) : rRow R k c (i + 1) = if rIn R k c i = true then rRow R k c i ++ [(i : Int)] else rRow R k c i := by
  unfold rRow
  rw [List.range_succ, List.filter_append, List.map_append]
  by_cases h : rIn R k c i = true
  · rw [if_pos h]; simp [h]
  · rw [if_neg h]; simp [h]
theorem rRow_len (R : RefS) (k c : Int) (i : Nat) : (rRow R k c i).length ≤ i := by
  unfold rRow
  rw [List.length_map]
  exact Nat.le_trans (List.length_filter_le _ _) (by simp)
theorem rTo_len (R : RefS) (k : Int) : ∀ c, (rTo R k c).length ≤ c * R.modes.length
  | 0 => by simp [rTo]
  | c + 1 => by
    have h1 := rTo_len R k c
    have h2 := rRow_len R k ((c : Int) + 1) R.modes.length
    rw [rTo, List.length_append, Nat.succ_mul]
    omega
theorem rTo_8000 {R : RefS} (hW : WfR R) (k : Int) (c : Nat) (hc : c ≤ 1000) : (rTo R k c).length ≤ 8000 := by
  have h1 := rTo_len R k c
  have h2 : c * R.modes.length ≤ 1000 * 8 := Nat.mul_le_mul hc hW.n8
  omega

/-- What is found up to now. -/
def roOut (R : RefS) (l : List Int) (v : AVal) (H : AHeap) : Prop := (l = [] ∧ v = .nils ∧ H = roH R) ∨ ∃ o, l = o ∧ o ≠ [] ∧ v = slI 3 o ∧ H = roH1 R o

noncomputable abbrev RoGd (R : RefS) (c : Code) (Q : AExit → Env → AHeap → Prop) (E : Env) (H : AHeap) : Prop := Gd (TR1.ctx Try.prog) 18 (roH R) c Q E H
theorem roIn (p : List Bool) : InFn (TR1.ctx Try.prog) 18 (codeAt p roB) :=
  inFn_at TR1ok.ctx (fn := Try.f18) (by kernel_rfl) (by kernel_rfl) p
theorem ro_eq2 : tailN 2 roB = .seq (.seq ro2 (.block 0 (.loop roR))) ro10 := by kernel_rfl
theorem ro_seqs2 : isSeqs 2 roB = true := by kernel_rfl
theorem ro_r : roR = .seq ro3 (.seq (.block 1 (.seq ro5 (.block 2 (.loop roR2)))) ro4) := by kernel_rfl
theorem ro_body : Try.f18.body = some roB := by kernel_rfl
theorem ro_fns : (TR1.ctx Try.prog).fns 18 = some Try.f18 := by kernel_rfl

def r2I (R : RefS) (k : Int) (c : Nat) (N : Nat) (E : Env) (H : AHeap) : Prop :=
  ∃ (i : Nat) (v : AVal), N = R.modes.length - i ∧ i ≤ R.modes.length ∧ roOut R (rTo R k c ++ rRow R k ((c : Int) + 1) i) v H ∧ E = roE2 k v ((c : Int) + 1) i
def r2Q (R : RefS) (k : Int) (c : Nat) : AExit → Env → AHeap → Prop := fun x E H => match x with
  | .exit 2 => ∃ v, roOut R (rTo R k (c + 1)) v H ∧ E = roE1 k v ((c : Int) + 1)
  | _ => False
def r2P (R : RefS) (k : Int) (c : Nat) (N : Nat) : AExit → Env → AHeap → Prop := fun x E H => match x with
  | .normal => ∃ m', m' < N ∧ r2I R k c m' E H
  | x => r2Q R k c x E H

set_option maxRecDepth 100000 in
theorem r2_loop (R : RefS) (hW : WfR R) (k : Int) (c : Nat) (hc : c < 1000) : ∀ N E H, r2I R k c N E H → RoGd R (.loop roR2) (r2Q R k c) E H := by
  have h8 := hW.n8
  have hlen := hW.len
  refine Gd.loop (r2I R k c) (fun N E H hI => ?_)
  show RoGd R roR2 (r2P R k c N) E H
  obtain ⟨i, v, hm, hi, hout, rfl⟩ := hI
  have idx : 0 + (i : Int).toNat = i := by omega
  have ix : inI64 ((i : Int) + 1) = true := inI64_small (by omega)
  have hs := rRow_succ R k ((c : Int) + 1) i
  have hl : (rTo R k c ++ rRow R k ((c : Int) + 1) i).length ≤ 9000 := by
    have h1 := rTo_8000 hW k c (by omega)
    have h2 := rRow_len R k ((c : Int) + 1) i
    rw [List.length_append]; omega
  have fin : ¬ ((i : Int) < (R.modes.length : Int)) → rTo R k (c + 1) = rTo R k c ++ rRow R k ((c : Int) + 1) i := fun h => by
    rw [rTo, show i = R.modes.length by omega]
  have no1 : R.modes.getD i 0 ≠ k → rRow R k ((c : Int) + 1) (i + 1) = rRow R k ((c : Int) + 1) i := fun h => by
    rw [hs, if_neg]; unfold rIn; rw [decide_eq_false h, Bool.false_and]; decide
  have no2 : R.came.getD i 0 ≠ (c : Int) + 1 → rRow R k ((c : Int) + 1) (i + 1) = rRow R k ((c : Int) + 1) i := fun h => by
    rw [hs, if_neg]
    unfold rIn
    rw [decide_eq_false h, Bool.and_false]; decide
  have yes : R.modes.getD i 0 = k → R.came.getD i 0 = (c : Int) + 1 → rRow R k ((c : Int) + 1) (i + 1) = rRow R k ((c : Int) + 1) i ++ [(i : Int)] := fun h1 h2 => by
    rw [hs, if_pos]
    unfold rIn
    rw [decide_eq_true h1, decide_eq_true h2]; rfl
  have next : ∀ v H, roOut R (rTo R k c ++ rRow R k ((c : Int) + 1) (i + 1)) v H → i < R.modes.length → r2P R k c N .normal (roE2 k v ((c : Int) + 1) ((i : Int) + 1)) H := fun v H h hi =>
    ⟨R.modes.length - (i + 1), by omega, i + 1, v, rfl, by omega, h, rfl⟩
  rcases hout with ⟨h0, rfl, rfl⟩ | ⟨o, h0, hne, rfl, rfl⟩
  · refine Gd.walkC TR1ok.ctx 3 (tsR [0, 1, 5, 6, 7] [0, 1, 5, 6]) (Nat.le_refl _) (roIn _) (Eq.mpr (w_ro_rn R k c i _) ?_)
    rw [idx]
    refine br_dec (fun h => ?_) (fun h => ⟨.nils, .inl ⟨by rw [fin h]; exact h0, rfl, rfl⟩, rfl⟩)
    have hi' : i < R.modes.length := by omega
    refine obl_dec (by omega) (obl_dec (by omega) (br_dec (fun hk => obl_dec (by omega) (obl_dec (by omega) (br_dec (fun hc => obl_mk ix (next _ _ (.inr ⟨[(i : Int)], ?_, by simp, rfl, rfl⟩) hi')) (fun hc => obl_mk ix (next _ _ (.inl ⟨by rw [no2 hc]; exact h0, rfl, rfl⟩) hi'))))) (fun hk => obl_mk ix (next _ _ (.inl ⟨by rw [no1 hk]; exact h0, rfl, rfl⟩) hi'))))
    rw [yes hk hc, ← List.append_assoc, h0]; rfl
  · refine Gd.walkC TR1ok.ctx 3 (tsR [0, 1, 5, 6, 7] [0, 1, 5, 6]) (Nat.le_refl _) (roIn _) (Eq.mpr (w_ro_rs R k o c i _) ?_)
    rw [idx]
    refine br_dec (fun h => ?_) (fun h => ⟨slI 3 o, .inr ⟨o, by rw [fin h]; exact h0, hne, rfl, rfl⟩, rfl⟩)
    have hi' : i < R.modes.length := by omega
    rw [h0] at hl
    refine obl_dec (by omega) (obl_dec (by omega) (br_dec (fun hk => obl_dec (by omega) (obl_dec (by omega) (br_dec (fun hc => obl_mk (by rw [Bool.true_and, decide_eq_true_eq, List.length_append, List.length_singleton]; omega) (obl_mk ix (next _ _ (.inr ⟨o ++ [(i : Int)], ?_, by simp, rfl, rfl⟩) hi'))) (fun hc => obl_mk ix (next _ _ (.inr ⟨o, by rw [no2 hc]; exact h0, hne, rfl, rfl⟩) hi'))))) (fun hk => obl_mk ix (next _ _ (.inr ⟨o, by rw [no1 hk]; exact h0, hne, rfl, rfl⟩) hi'))))
    rw [yes hk hc, ← List.append_assoc, h0]

def r5Q (R : RefS) (k : Int) (c : Nat) : AExit → Env → AHeap → Prop := fun x E H => match x with
  | .normal => ∃ v, roOut R (rTo R k (c + 1)) v H ∧ E = roE1 k v ((c : Int) + 1)
  | _ => False
set_option maxRecDepth 100000 in
theorem r5_good (R : RefS) (hW : WfR R) (k : Int) (c : Nat) (hc : c < 1000) (v : AVal) (H : AHeap) (hv : roOut R (rTo R k c) v H) : RoGd R (.seq ro5 (.block 2 (.loop roR2))) (r5Q R k c) (roE1 k v ((c : Int) + 1)) H := by
  have go : ∀ v H, roOut R (rTo R k c) v H → RoGd R (.block 2 (.loop roR2)) (r5Q R k c) (roE2 k v ((c : Int) + 1) 0) H := fun v H hv => by
    refine Gd.block (Gd.mono (r2_loop R hW k c hc R.modes.length _ _ ⟨0, v, rfl, Nat.zero_le _, by simpa [rRow] using hv, rfl⟩) (fun x E H h => ?_))
    unfold r2Q at h
    split at h
    · exact h
    · exact h.elim
  rcases hv with ⟨h0, rfl, rfl⟩ | ⟨o, h0, hne, rfl, rfl⟩
  · exact Gd.seq (Gd.walkC TR1ok.ctx 3 (tsR [0, 1, 5, 6, 7] []) (Nat.le_refl _) (roIn _) (Eq.mpr (w_ro_5n R k c _) (go _ _ (.inl ⟨h0, rfl, rfl⟩))))
  · exact Gd.seq (Gd.walkC TR1ok.ctx 3 (tsR [0, 1, 5, 6, 7] []) (Nat.le_refl _) (roIn _) (Eq.mpr (w_ro_5s R k o c _) (go _ _ (.inr ⟨o, h0, hne, rfl, rfl⟩))))

def r1I (R : RefS) (k : Int) (N : Nat) (E : Env) (H : AHeap) : Prop :=
  ∃ (c : Nat) (v : AVal), N = R.last.toNat - c ∧ c ≤ R.last.toNat ∧ roOut R (rTo R k c) v H ∧ E = roE1 k v ((c : Int) + 1)
def r1Q (R : RefS) (k : Int) : AExit → Env → AHeap → Prop := fun x E H => match x with
  | .exit 0 => ∃ v, roOut R (rOf R k) v H ∧ E = [(5, v)]
  | _ => False
def r1P (R : RefS) (k : Int) (N : Nat) : AExit → Env → AHeap → Prop := fun x E H => match x with
  | .normal => ∃ m', m' < N ∧ r1I R k m' E H
  | x => r1Q R k x E H

set_option maxRecDepth 100000 in
theorem r1_loop (R : RefS) (hW : WfR R) (k : Int) : ∀ N E H, r1I R k N E H → RoGd R (.loop roR) (r1Q R k) E H := by
  have hlo := hW.lo
  have hhi := hW.hi
  refine Gd.loop (r1I R k) (fun N E H hI => ?_)
  show RoGd R roR (r1P R k N) E H
  obtain ⟨c, v, hm, hi, hout, rfl⟩ := hI
  have inner : ∀ v H, roOut R (rTo R k c) v H → c < R.last.toNat → (∀ v' H', roOut R (rTo R k (c + 1)) v' H' → RoGd R ro4 (r1P R k N) (roE1 k v' ((c : Int) + 1)) H') → RoGd R (.seq (.block 1 (.seq ro5 (.block 2 (.loop roR2)))) ro4) (r1P R k N) (roE1 k v ((c : Int) + 1)) H := by
    intro v H hv hc hk
    refine Gd.seq (Gd.block (Gd.mono (r5_good R hW k c (by omega) v H hv) (fun x E H h => ?_)))
    cases x <;> try exact h.elim
    obtain ⟨v', hv', rfl⟩ := h
    exact hk v' _ hv'
  have last : c < R.last.toNat → ∀ v' H', roOut R (rTo R k (c + 1)) v' H' → RoGd R ro4 (r1P R k N) (roE1 k v' ((c : Int) + 1)) H' := by
    intro hc v' H' hv'
    rcases hv' with ⟨h0, rfl, rfl⟩ | ⟨o, h0, hne, rfl, rfl⟩
    · exact Gd.walkC TR1ok.ctx 3 (tsR [0, 1, 5, 6] []) (Nat.le_refl _) (roIn _) (Eq.mpr (w_ro_4n R k c _) (obl_mk (inI64_small (by omega)) ⟨R.last.toNat - (c + 1), by omega, c + 1, _, rfl, by omega, .inl ⟨h0, rfl, rfl⟩, rfl⟩))
    · exact Gd.walkC TR1ok.ctx 3 (tsR [0, 1, 5, 6] []) (Nat.le_refl _) (roIn _) (Eq.mpr (w_ro_4s R k o c _) (obl_mk (inI64_small (by omega)) ⟨R.last.toNat - (c + 1), by omega, c + 1, _, rfl, by omega, .inr ⟨o, h0, hne, rfl, rfl⟩, rfl⟩))
  have fin : ¬ ((c : Int) + 1 ≤ R.last) → rOf R k = rTo R k c := fun h => by unfold rOf; rw [show R.last.toNat = c by omega]
  rw [ro_r]
  rcases hout with ⟨h0, rfl, rfl⟩ | ⟨o, h0, hne, rfl, rfl⟩
  · refine Gd.seq (Gd.walkC TR1ok.ctx 3 (tsR [0, 1, 5, 6] [5]) (Nat.le_refl _) (roIn _) (Eq.mpr (w_ro_3n R k c _) (br_dec (fun h => ?_) (fun h => ⟨_, .inl ⟨by rw [fin h]; exact h0, rfl, rfl⟩, rfl⟩))))
    exact inner _ _ (.inl ⟨h0, rfl, rfl⟩) (by omega) (last (by omega))
  · refine Gd.seq (Gd.walkC TR1ok.ctx 3 (tsR [0, 1, 5, 6] [5]) (Nat.le_refl _) (roIn _) (Eq.mpr (w_ro_3s R k o c _) (br_dec (fun h => ?_) (fun h => ⟨_, .inr ⟨o, by rw [fin h]; exact h0, hne, rfl, rfl⟩, rfl⟩))))
    exact inner _ _ (.inr ⟨o, h0, hne, rfl, rfl⟩) (by omega) (last (by omega))

def roK (R : RefS) (k : Int) (out : Out) (H' : AHeap) : Prop := ∃ v, out = .ret v ∧ roOut R (rOf R k) v H'

set_option maxRecDepth 100000 in
theorem ro_good (R : RefS) (hW : WfR R) (k : Int) : RoGd R roB (endA (TR1.ctx Try.prog).P Try.f18 (roK R k)) (env0 [.ptr 0 0 0 0, .int .i64 k] 0) (roH R) := by
  refine Gd.walkN TR1ok.ctx (base := 3) (Nat.le_refl _) (It := fun E H => canonK 3 [0, 1, 5] E H (fun E H => E = roE k .nils ∧ H = roH R)) 2 200 _ _ _ ro_seqs2 (roIn []) (Eq.mpr (w_ro_a R k (fun E H => E = roE k .nils ∧ H = roH R) _) ⟨rfl, rfl⟩) (fun E H h => ?_)
  obtain ⟨E', H', σ, ⟨rfl, rfl⟩, g2, g3, g4, g5, g6⟩ := canonK_ok h
  refine Gd.sub (base := 3) (Nat.le_refl _) g6 ?_ g2 g3 g4 g5
  rw [ro_eq2]
  refine Gd.seq (Gd.seq (Gd.walkC TR1ok.ctx 3 (tsR [0, 1, 5, 6] []) (Nat.le_refl _) (roIn _) (Eq.mpr (w_ro_2 R k _) ?_)))
  refine Gd.block (Gd.mono (r1_loop R hW k R.last.toNat _ _ ⟨0, .nils, rfl, Nat.zero_le _, .inl ⟨rfl, rfl, rfl⟩, rfl⟩) (fun x E H h => ?_))
  unfold r1Q at h
  split at h
  · obtain ⟨v, hv, rfl⟩ := h
    rcases hv with ⟨h0, rfl, rfl⟩ | ⟨o, h0, hne, rfl, rfl⟩
    · exact Gd.walkC TR1ok.ctx 3 (tsR [4] []) (Nat.le_refl _) (roIn _) (Eq.mpr (w_ro_10n R (roK R k)) ⟨_, rfl, .inl ⟨h0, rfl, rfl⟩⟩)
    · exact Gd.walkC TR1ok.ctx 3 (tsR [4] []) (Nat.le_refl _) (roIn _) (Eq.mpr (w_ro_10s R o (roK R k)) ⟨_, rfl, .inr ⟨o, h0, hne, rfl, rfl⟩⟩)
  · exact h.elim

theorem rof_sound : GcSound Try.prog 18 (gcSub decRef refC (fRef qOf)) := by
  refine ref_gc Try.call18 (fun R rest K hW hC ρ w hR hb => ?_)
  unfold qOf at hC
  split at hC
  rotate_left
  · exact (not_stuck hC).elim
  rename_i k
  rw [forceH_eq, forceH_eq] at hC
  refine (fn_good TR1ok.ctx (fn := Try.f18) (c := roB) ro_fns ro_body (ro_good R hW k) hR hb).mono ?_
  rintro e w' ⟨out, H', ρ', h1, ⟨v, rfl, hv⟩, h3⟩
  refine ⟨_, _, ρ', h1, ?_, h3⟩
  rcases hv with ⟨h0, rfl, rfl⟩ | ⟨o, rfl, hne, rfl, rfl⟩
  · exact (branch_iff.1 hC).1 (decide_eq_true h0)
  · exact (branch_iff.1 hC).2 (decide_eq_false hne)

noncomputable def TR2 : Tabs := (TR1.addGc 14 (gcSub decRef refC (fRef qMove))).addGc 18 (gcSub decRef refC (fRef qOf))
theorem TR2ok : TabsOk TR2 Try.prog := (TR1ok.addGc rmove_sound).addGc rof_sound

/-! ### the states of All -/

noncomputable abbrev ra2 : Code := codeAt [true, true, false, false] raB
noncomputable abbrev raR : Code := codeAt [true, true, false, true, false, false] raB
noncomputable abbrev ra7 : Code := codeAt [true, true, true] raB
def raE (o : AVal) : Env := [(0, .ptr 0 0 0 0), (3, o)]
def raE1 (o : AVal) (m : Int) : Env := [(0, .ptr 0 0 0 0), (3, o), (4, .int .i64 m)]
def tsA2 (a b : List Nat) : AExit → List Nat := fun x => match x with
  | .ret => [2]
  | .normal => a
  | _ => b

end Go.Proofs.Ytcgnoegejmhgmaa
