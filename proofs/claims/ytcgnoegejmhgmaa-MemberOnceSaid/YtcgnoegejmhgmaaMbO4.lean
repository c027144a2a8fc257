/-
  MemberOnce: the whole; its arguments, opened.
-/
import Derived.Test.YtcgnoegejmhgmaaMbO3
namespace Go.Proofs.Ytcgnoegejmhgmaa
set_option linter.unusedVariables false
set_option linter.unusedSimpArgs false
open Go.RowKit Ev

/-! ### one round -/

theorem on_cd : tailN 4 onC = .seq (.seq on13 (.cond (condO (.tmp 0) (codeAt (pC ++ [true, true, true, true, false, true]) onB)) onT onF)) onD := by kernel_rfl
theorem on_seqsC : isSeqs 4 onC = true := by kernel_rfl
theorem on_t : onT = .seq on14 (.seq (.seq on15 (.block 2 (.loop onR2))) onW) := by kernel_rfl
theorem on_d : tailN 2 onD = .seq (.seq on26 (.block 4 (.loop onR4))) (.seq on38 (.block 8 (.loop onR8))) := by kernel_rfl
theorem on_seqsD : isSeqs 2 onD = true := by kernel_rfl
theorem on_r : onR = .seq onA (.seq (.block 1 onC) onZ) := by kernel_rfl

/-- What is asked of a piece of a round: it goes on, with all as it was. -/
def onGo (hs : List PairR) (n i : Int) (S : MemS) : AExit → Env → AHeap → Prop := fun x E H => match x with
  | .normal => E = onE1 (mlV hs) n i ∧ H = onH1 hs S
  | _ => False

set_option maxRecDepth 100000 in
/-- The moved one: the lists. -/
theorem on_lists (H0 : AHeap) (hH : H0.next ≤ 1) (hs : List PairR) (n i t m : Int) (S : MemS) (hW : WfM S) (ht : 0 ≤ t ∧ t < S.modes.length) (hm : isM m = true) :
    OnGd H0 (.seq on13 (.cond (condO (.tmp 0) (codeAt (pC ++ [true, true, true, true, false, true]) onB)) onT onF)) (onGo hs n i (moveR S t m)) (onE2 (mlV hs) n i t m (modeM S t) (slI 2 (ofM S (modeM S t))) (slI 3 (ofM S m))) (onHb hs (moveR S t m) (rowI (ofM S (modeM S t))) (rowI (ofM S m))) := by
  have hW1 := wf_moveR hW t m
  have l1 := of_len hW (modeM S t)
  have l2 := of_len hW m
  have l3 := of_len hW1 (modeM S t)
  have l4 := of_len hW1 m
  refine Gd.seq (Gd.walkC TMOok.ctx 1 (tsO (tsO2 ++ [78]) []) hH (onIn _) (Eq.mpr (w_on_13 hs n i t m (modeM S t) (moveR S t m) (ofM S (modeM S t)) (ofM S m) _) ?_))
  show OnGd H0 (.cond (condO (.tmp 0) (codeAt (pC ++ [true, true, true, true, false, true]) onB)) onT onF) (onGo hs n i (moveR S t m)) (onE2b (mlV hs) n i t m (modeM S t) (slI 2 (ofM S (modeM S t))) (slI 3 (ofM S m)) (!decide (modeM S t = m))) (onHb hs (moveR S t m) (rowI (ofM S (modeM S t))) (rowI (ofM S m)))
  refine Gd.cond (b := !decide (modeM S t = m)) (by kernel_rfl) (fun hb => ?_) (fun hb => ?_)
  · have hne : modeM S t ≠ m := by simpa using hb
    have b1 := move_from hW ht hm hne
    have b2 := last_move hW ht hm hne
    have len4 : (ofM S m ++ [t]).length ≤ 8 := by rw [← b2]; exact l4
    generalize moveR S t m = S1 at *
    generalize modeM S t = f at *
    generalize ofM S f = o at *
    generalize ofM S m = th at *
    rw [on_t]
    refine Gd.seq (Gd.walkC TMOok.ctx 1 (tsO (tsO2 ++ [13]) []) hH (onIn _) (Eq.mpr (w_on_14 hs n i t m f S1 o th _ _) ?_))
    refine Gd.seq (Gd.seq (Gd.walkC TMOok.ctx 1 (tsO (tsO2 ++ [13, 14]) []) hH (onIn _) (Eq.mpr (w_on_15 hs n i t m f S1 o th _) ?_)))
    refine Gd.block (Gd.mono (o2_loop H0 hH hs n i t m f S1 o th l1 o.length _ _ ⟨0, rfl, Nat.zero_le _, .inl ⟨rfl, rfl, rfl⟩⟩) (fun x E H h => ?_))
    unfold o2Q at h
    split at h
    · rcases h with ⟨h0, rfl, rfl⟩ | ⟨r, h0, rfl, rfl⟩
      · rw [h0] at b1
        refine Gd.walkC TMOok.ctx 1 (tsO tsO1 []) hH (onIn _) (Eq.mpr (w_on_wn hs n i t m f S1 th _) ?_)
        refine ⟨rfl, rfl, ⟨rfl, rfl⟩, hW1, obl_mk ?_ (br_not (fun h => absurd ?_ h) (fun _ => ?_))⟩
        · exact Bool.and_eq_true_iff.2 ⟨okNum _ (by show (ofM S1 f).length ≤ 1000; omega), rfl⟩
        · rw [map_toI]; exact b1
        refine ⟨rfl, rfl, ⟨rfl, rfl⟩, hW1, obl_mk (by rw [Bool.true_and, decide_eq_true_eq]; omega) (obl_mk ?_ (br_not (fun h => absurd ?_ h) (fun _ => ⟨rfl, rfl⟩)))⟩
        · exact Bool.and_eq_true_iff.2 ⟨okNum _ (by show (ofM S1 m).length ≤ 1000; omega), okNum (th ++ [t]) (by omega)⟩
        · rw [map_toI, map_toI]; exact b2
      · rw [h0] at b1
        have hr : r.length ≤ 8 := by rw [← b1]; exact l3
        refine Gd.walkC TMOok.ctx 1 (tsO tsO1 []) hH (onIn _) (Eq.mpr (w_on_w hs n i t m f S1 th r _) ?_)
        refine ⟨rfl, rfl, ⟨rfl, rfl⟩, hW1, obl_mk ?_ (br_not (fun h => absurd ?_ h) (fun _ => ?_))⟩
        · exact Bool.and_eq_true_iff.2 ⟨okNum _ (by show (ofM S1 f).length ≤ 1000; omega), okNum r (by omega)⟩
        · rw [map_toI, map_toI]; exact b1
        refine ⟨rfl, rfl, ⟨rfl, rfl⟩, hW1, obl_mk (by rw [Bool.true_and, decide_eq_true_eq]; omega) (obl_mk ?_ (br_not (fun h => absurd ?_ h) (fun _ => ⟨rfl, rfl⟩)))⟩
        · exact Bool.and_eq_true_iff.2 ⟨okNum _ (by show (ofM S1 m).length ≤ 1000; omega), okNum (th ++ [t]) (by omega)⟩
        · rw [map_toI, map_toI]; exact b2
    · exact h.elim
  · have heq : modeM S t = m := by simpa using hb
    have b0 := move_same hW ht hm heq
    rw [b0] at *
    refine Gd.walkC TMOok.ctx 1 (tsO tsO1 []) hH (onIn _) (Eq.mpr (w_on_f hs n i t m (modeM S t) S (ofM S (modeM S t)) (ofM S m) _ _) ?_)
    refine ⟨rfl, rfl, ⟨rfl, rfl⟩, hW, obl_mk ?_ (br_not (fun h => absurd ?_ h) (fun _ => ⟨rfl, rfl⟩))⟩
    · exact Bool.and_eq_true_iff.2 ⟨okNum _ (by show (ofM S m).length ≤ 1000; omega), okNum (ofM S m) (by omega)⟩
    · rfl

set_option maxRecDepth 100000 in
/-- All are looked at. -/
theorem on_look (H0 : AHeap) (hH : H0.next ≤ 1) (hs : List PairR) (n i : Int) (S : MemS) (hW : WfM S) (hn : n = S.modes.length) : OnGd H0 onD (onGo hs n i S) (onE1 (mlV hs) n i) (onH1 hs S) := by
  refine Gd.walkN TMOok.ctx (base := 1) hH (It := fun E H => canonK 1 tsO4 E H (fun E H => E = onE4 (mlV hs) n i (slI 3 (allM S)) ∧ H = onHb hs S (cntB fun _ => 0) (rowI (allM S)))) 2 200 _ _ _ on_seqsD (onIn _) (Eq.mpr (w_on_d hs n i S (fun E H => E = onE4 (mlV hs) n i (slI 3 (allM S)) ∧ H = onHb hs S (cntB fun _ => 0) (rowI (allM S))) _) ?_) (fun E H h => ?_)
  · exact ⟨rfl, rfl, ⟨rfl, rfl⟩, hW, rfl, rfl⟩
  obtain ⟨E', H', σ, ⟨rfl, rfl⟩, g2, g3, g4, g5, g6⟩ := canonK_ok h
  refine Gd.sub (base := 1) hH (Nat.le_trans hH g6) ?_ g2 g3 g4 g5
  rw [on_d]
  refine Gd.seq (Gd.seq (Gd.walkC TMOok.ctx 1 (tsO (tsO4 ++ [17]) []) hH (onIn _) (Eq.mpr (w_on_26 hs n i S (fun _ => 0) (allM S) _) ?_)))
  refine Gd.block (Gd.mono (o4_loop H0 hH hs n i S hW hn (allM S).length _ _ ⟨0, _, rfl, Nat.zero_le _, cnt_0 S, rfl, rfl⟩) (fun x E H h => ?_))
  unfold o4Q at h
  split at h
  · obtain ⟨c, hc, rfl, rfl⟩ := h
    refine Gd.seq (Gd.walkC TMOok.ctx 1 (tsO [1, 5, 6, 7, 15, 20] []) hH (onIn _) (Eq.mpr (w_on_38 hs n i S c _) ?_))
    refine Gd.block (Gd.mono (o8_loop H0 hH hs n i S hW hn c hc 8 _ _ ⟨0, rfl, by omega, rfl, rfl⟩) (fun x E H h => ?_))
    unfold o8Q at h
    split at h
    · exact h
    · exact h.elim
  · exact h.elim

/-! ### the rounds -/

def o1I (hs : List PairR) (n : Int) (N : Nat) (E : Env) (H : AHeap) : Prop :=
  ∃ (i : Nat) (S : MemS), N = hs.length - i ∧ i ≤ hs.length ∧ WfM S ∧ n = S.modes.length ∧ E = onE1 (mlV hs) n i ∧ H = onH1 hs S
def o1Q (hs : List PairR) : AExit → Env → AHeap → Prop := fun x E H => match x with
  | .exit 0 => E = [] ∧ H = ⟨1, [(0, mlRow hs)]⟩
  | _ => False
def o1P (hs : List PairR) (n : Int) (N : Nat) : AExit → Env → AHeap → Prop := fun x E H => match x with
  | .normal => ∃ m', m' < N ∧ o1I hs n m' E H
  | x => o1Q hs x E H

set_option maxRecDepth 100000 in
theorem o1_loop (H0 : AHeap) (hH : H0.next ≤ 1) (hs : List PairR) (hb : ∀ p ∈ hs, Byte2 p) (n : Int) : ∀ N E H, o1I hs n N E H → OnGd H0 (.loop onR) (o1Q hs) E H := by
  refine Gd.loop (o1I hs n) (fun N E H hI => ?_)
  show OnGd H0 onR (o1P hs n N) E H
  obtain ⟨i, S, hm, hi, hW, hn, rfl, rfl⟩ := hI
  have h1 := hW.n1
  have h8 := hW.n8
  have idx : 0 + (i : Int).toNat = i := by omega
  rw [on_r]
  refine Gd.seq (Gd.walkC TMOok.ctx 1 (tsO tsO1 []) hH (onIn _) (Eq.mpr (w_on_x hs n i S _) ?_))
  refine br_dec (fun h => br_dec (fun h80 => ?_) (fun _ => ⟨rfl, rfl⟩)) (fun _ => ⟨rfl, rfl⟩)
  have hp : Byte2 (hs.getD i ⟨0, 0⟩) := by
    have : hs.getD i ⟨0, 0⟩ ∈ hs := by
      have hi' : i < hs.length := by omega
      simp [List.getD, hi']
    exact hb _ this
  have hc := w_on_c hs n i S
  rw [idx] at hc
  generalize hs.getD i ⟨0, 0⟩ = p at *
  obtain ⟨ha, hb'⟩ := hp
  generalize p.a = pa at *
  generalize p.b = pb at *
  have ht : 0 ≤ pa % n ∧ pa % n < S.modes.length := ⟨Int.emod_nonneg _ (by omega), by rw [← hn]; exact Int.emod_lt_of_pos _ (by omega)⟩
  have hmd : isM (1 + pb % 28) = true := by unfold isM; rw [decide_eq_true_eq]; omega
  have hW1 := wf_moveR hW (pa % n) (1 + pb % 28)
  have hl1 : n = (moveR S (pa % n) (1 + pb % 28)).modes.length := by rw [len_moveR]; exact hn
  have hmm := move_mode hW ht hmd
  show OnGd H0 (.seq (.block 1 onC) onZ) (o1P hs n N) (onE1 (mlV hs) n i) (onH1 hs S)
  refine Gd.seq (Gd.block (Gd.walkN TMOok.ctx (base := 1) hH (It := fun E H => canonK 1 tsO2 E H (fun E H => E = onE2 (mlV hs) n i (pa % n) (1 + pb % 28) (modeM S (pa % n)) (slI 2 (ofM S (modeM S (pa % n)))) (slI 3 (ofM S (1 + pb % 28))) ∧ H = onHb hs (moveR S (pa % n) (1 + pb % 28)) (rowI (ofM S (modeM S (pa % n)))) (rowI (ofM S (1 + pb % 28))))) 4 200 _ _ _ on_seqsC (onIn _) (Eq.mpr (hc (fun E H => E = onE2 (mlV hs) n i (pa % n) (1 + pb % 28) (modeM S (pa % n)) (slI 2 (ofM S (modeM S (pa % n)))) (slI 3 (ofM S (1 + pb % 28))) ∧ H = onHb hs (moveR S (pa % n) (1 + pb % 28)) (rowI (ofM S (modeM S (pa % n)))) (rowI (ofM S (1 + pb % 28)))) _) ?_) (fun E H h => ?_)))
  · refine obl_dec (by omega) (obl_dec (by omega) (obl_mk (inI64_small (by omega)) (obl_dec (by omega) (obl_dec (by omega) (obl_dec (by omega) (obl_dec (by omega) (obl_mk (inI64_small (by omega)) (obl_mk (inI64_small (by omega)) ?_))))))))
    refine ⟨rfl, rfl, ⟨rfl, rfl⟩, hW, rfl, rfl, ⟨rfl, rfl⟩, hW, rfl, rfl, ⟨rfl, rfl⟩, hW, rfl, rfl, ⟨rfl, rfl⟩, hW, br_not (fun h => absurd (moveE_ok hW ht hmd) h) (fun _ => ?_)⟩
    exact ⟨rfl, rfl, ⟨rfl, rfl⟩, hW1, br_not (fun h => absurd hmm h) (fun _ => ⟨rfl, rfl⟩)⟩
  obtain ⟨E', H', σ, ⟨rfl, rfl⟩, g2, g3, g4, g5, g6⟩ := canonK_ok h
  refine Gd.sub (base := 1) hH (Nat.le_trans hH g6) ?_ g2 g3 g4 g5
  rw [on_cd]
  refine Gd.seq (Gd.mono (on_lists H0 hH hs n i (pa % n) (1 + pb % 28) S hW ht hmd) (fun x E H h => ?_))
  cases x <;> try exact h.elim
  obtain ⟨rfl, rfl⟩ := h
  refine Gd.mono (on_look H0 hH hs n i _ hW1 hl1) (fun x E H h => ?_)
  cases x <;> try exact h.elim
  obtain ⟨rfl, rfl⟩ := h
  refine Gd.walkC TMOok.ctx 1 (tsO tsO1 []) hH (onIn _) (Eq.mpr (w_on_z hs n i _ _) ?_)
  exact obl_mk (inI64_small (by omega)) ⟨hs.length - (i + 1), by omega, i + 1, _, rfl, by omega, hW1, hl1, rfl, rfl⟩

/-! ### the whole -/

noncomputable abbrev onK : AExit → Env → AHeap → Prop := endA (TMO.ctx Try.prog).P Try.f5 (fun o _ => o = .ret (.bool true))
theorem on_eq4 : tailN 4 onB = .seq (.seq (codeAt [true, true, true, true, false, false] onB) (.block 0 (.loop onR))) on43 := by kernel_rfl
theorem on_seqs4 : isSeqs 4 onB = true := by kernel_rfl
theorem on_body : Try.f5.body = some onB := by kernel_rfl
theorem on_fns : (TMO.ctx Try.prog).fns 5 = some Try.f5 := by kernel_rfl

set_option maxRecDepth 100000 in
theorem on_good (hs : List PairR) (hb : ∀ p ∈ hs, Byte2 p) (c : Int) (hc : 0 ≤ c ∧ c ≤ 255) :
    OnGd ⟨1, [(0, mlRow hs)]⟩ onB onK (env0 [.int .u8 c, mlV hs] 0) ⟨1, [(0, mlRow hs)]⟩ := by
  have hn := new_len (1 + c % 8) 4 (by omega)
  have hW : WfM (newS (1 + c % 8) 4) := wf_new (by omega) rfl
  refine Gd.walkN TMOok.ctx (base := 1) (Nat.le_refl _) (It := fun E H => canonK 1 tsO0 E H (fun E H => E = onE0 (mlV hs) (1 + c % 8) ∧ H = onH1 hs (newS (1 + c % 8) 4))) 4 200 _ _ _ on_seqs4 (onIn []) (Eq.mpr (w_on_a hs c (fun E H => E = onE0 (mlV hs) (1 + c % 8) ∧ H = onH1 hs (newS (1 + c % 8) 4)) (fun o => o = .ret (.bool true))) ?_) (fun E H h => ?_)
  · exact obl_dec (by omega) (obl_mk (inI64_small (by omega)) (obl_mk (inI64_small (by omega)) (branch_iff.2 ⟨(fun h => by rw [newBad_no hc rfl] at h; cases h), fun _ => ⟨rfl, rfl⟩⟩)))
  obtain ⟨E', H', σ, ⟨rfl, rfl⟩, g2, g3, g4, g5, g6⟩ := canonK_ok h
  refine Gd.sub (base := 1) (Nat.le_refl _) g6 ?_ g2 g3 g4 g5
  generalize hN : newS (1 + c % 8) 4 = S at *
  generalize 1 + c % 8 = n at *
  rw [on_eq4]
  refine Gd.seq (Gd.seq (Gd.walkC TMOok.ctx 1 (tsO tsO1 []) (Nat.le_refl _) (onIn _) (Eq.mpr (w_on_set hs n S _) ?_)))
  refine Gd.block (Gd.mono (o1_loop _ (Nat.le_refl _) hs hb n hs.length _ _ ⟨0, S, rfl, Nat.zero_le _, hW, hn, rfl, rfl⟩) (fun z E H h => ?_))
  unfold o1Q at h
  split at h
  · obtain ⟨rfl, rfl⟩ := h
    exact Gd.walk TMOok.ctx (base := 1) (Nat.le_refl _) (onIn _) (Eq.mpr (w_on_43r hs (fun o => o = .ret (.bool true))) rfl)
  · exact h.elim

set_option maxRecDepth 100000 in
theorem on_goodn (c : Int) (hc : 0 ≤ c ∧ c ≤ 255) : OnGd ⟨0, []⟩ onB onK (env0 [.int .u8 c, .nils] 0) ⟨0, []⟩ := by
  refine Gd.ghost (Ghost.more 0 []) ?_
  refine Gd.walkN TMOok.ctx (base := 1) (Nat.zero_le _) (It := fun E H => canonK 1 tsO0 E H (fun E H => E = onE0 .nils (1 + c % 8) ∧ H = onHn (newS (1 + c % 8) 4))) 4 200 _ _ _ on_seqs4 (onIn []) (Eq.mpr (w_on_an c (fun E H => E = onE0 .nils (1 + c % 8) ∧ H = onHn (newS (1 + c % 8) 4)) (fun o => o = .ret (.bool true))) ?_) (fun E H h => ?_)
  · exact obl_dec (by omega) (obl_mk (inI64_small (by omega)) (obl_mk (inI64_small (by omega)) (branch_iff.2 ⟨(fun h => by rw [newBad_no hc rfl] at h; cases h), fun _ => ⟨rfl, rfl⟩⟩)))
  obtain ⟨E', H', σ, ⟨rfl, rfl⟩, g2, g3, g4, g5, g6⟩ := canonK_ok h
  refine Gd.sub (base := 1) (Nat.zero_le _) (Nat.zero_le _) ?_ g2 g3 g4 g5
  generalize hN : newS (1 + c % 8) 4 = S at *
  generalize 1 + c % 8 = n at *
  rw [on_eq4]
  refine Gd.seq (Gd.seq (Gd.walkC TMOok.ctx 1 (tsO tsO1 []) (Nat.zero_le _) (onIn _) (Eq.mpr (w_on_setn n S _) ?_)))
  refine Gd.block (Gd.mono (Gd.loop (fun _ E H => E = onE1 .nils n 0 ∧ H = onHn S) (fun m E H hI => ?_) 0 _ _ ⟨rfl, rfl⟩ : OnGd ⟨0, []⟩ (.loop onR) (fun x E H => match x with
    | .exit 0 => E = [] ∧ H = ⟨1, []⟩
    | _ => False) _ _) (fun z E H h => ?_))
  · obtain ⟨rfl, rfl⟩ := hI
    rw [on_r]
    refine Gd.seq (Gd.walkC TMOok.ctx 1 (tsO tsO1 []) (Nat.zero_le _) (onIn _) (Eq.mpr (w_on_xn n S _) ?_))
    exact ⟨rfl, rfl⟩
  · split at h
    · obtain ⟨rfl, rfl⟩ := h
      exact Gd.walk TMOok.ctx (base := 1) (Nat.zero_le _) (onIn _) (Eq.mpr (w_on_43 (fun o => o = .ret (.bool true))) rfl)
    · exact h.elim

set_option maxRecDepth 100000 in
theorem memberOnce_raw {H : Type} {enc : TypeId × Value → H} {b0 b1 : Nat} {d0 d1 : DataW H} {p0 p1 : List MemPlace} (v0 v1 : Value) (W : World)
    (hv0 : Value.okWide Try.prog W .any b0 5 v0) (h0 : DataW.Trod enc Try.prog W 0 (fun _ => true) true 5 v0 d0 p0) (_ : ∀ x ∈ p0, x.block < W.heap.size)
    (hv1 : Value.okWide Try.prog W .any b1 22 v1) (h1 : DataW.Trod enc Try.prog W 0 (fun _ => true) true 22 v1 d1 p1) (_ : ∀ x ∈ p1, x.block < W.heap.size) :
    Calls Try.prog 5 #[v0, v1] W fun e w' => e = .returned (.bool true) ∧ Below W.heap.size W w' := by
  obtain ⟨_, e0, ⟨c, rfl, w_c⟩⟩ := open_any (K := .one (.int .u8)) (by kernel_rfl) hv0 h0
  have w_c : 0 ≤ c ∧ c ≤ 255 := by simpa [Lit.wf, IntKind.min, IntKind.max, IntKind.signed, IntKind.bits] using w_c
  rcases open_row (T := pairRow .u8) Try.underlying22 flat_pair8 cells_pair8 (by decide) open_pairs hv1 h1 with e1 | ⟨ρ, hs, e1, _, hb, hR⟩
  · rw [e0 rho0, e1 rho0]
    exact fn_law TMOok.ctx on_fns on_body (fun b x h => by cases h) (on_goodn c w_c) (rel_nil rho0 W) rfl
  · rw [e0 ρ, e1]
    refine fn_law TMOok.ctx on_fns on_body (fun b x h => ?_) (on_good hs (fun p hp => ?_) c w_c) hR rfl
    · obtain ⟨rfl, h⟩ := get_one h
      cases h; rfl
    · obtain ⟨_, _, q1, ⟨a, rfl, wa⟩, _, _, rfl, ⟨b, rfl, wb⟩, rfl⟩ := hb p hp
      injection q1 with q1 q2
      injection q1 with _ q1
      injection q2 with q2 _
      injection q2 with _ q2
      rw [← q1] at wa
      rw [← q2] at wb
      have wa : 0 ≤ p.a ∧ p.a ≤ 255 := by simpa [Lit.wf, IntKind.min, IntKind.max, IntKind.signed, IntKind.bits] using wa
      have wb : 0 ≤ p.b ∧ p.b ≤ 255 := by simpa [Lit.wf, IntKind.min, IntKind.max, IntKind.signed, IntKind.bits] using wb
      exact ⟨wa, wb⟩

end Go.Proofs.Ytcgnoegejmhgmaa
