/-
  MemberOnce: the loops.
-/
import Derived.Test.YtcgnoegejmhgmaaMbO1
import Derived.Test.YtcgnoegejmhgmaaMbO2
namespace Go.Proofs.Ytcgnoegejmhgmaa
set_option linter.unusedVariables false
set_option linter.unusedSimpArgs false
open Go.RowKit Ev

noncomputable abbrev OnGd (H0 : AHeap) (c : Code) (Q : AExit → Env → AHeap → Prop) (E : Env) (H : AHeap) : Prop := Gd (TMO.ctx Try.prog) 5 H0 c Q E H
theorem onIn (p : List Bool) : InFn (TMO.ctx Try.prog) 5 (codeAt p onB) :=
  inFn_at TMOok.ctx (fn := Try.f5) (by kernel_rfl) (by kernel_rfl) p

/-! ### the list without t -/

def o2I (hs : List PairR) (n i t m f : Int) (S : MemS) (o th : List Int) (N : Nat) (E : Env) (H : AHeap) : Prop :=
  ∃ k : Nat, N = o.length - k ∧ k ≤ o.length ∧ ((without t (o.take k) = [] ∧ E = onE3 (mlV hs) n i t m f (slI 2 o) (slI 3 th) .nils k ∧ H = onHb hs S (rowI o) (rowI th)) ∨
    ∃ r, without t (o.take k) = r ∧ E = onE3 (mlV hs) n i t m f (slI 2 o) (slI 3 th) (slI 4 r) k ∧ H = onHc hs S (rowI o) (rowI th) (rowI r))
def o2Q (hs : List PairR) (n i t m f : Int) (S : MemS) (o th : List Int) : AExit → Env → AHeap → Prop := fun x E H => match x with
  | .exit 2 => (without t o = [] ∧ E = onE3e (mlV hs) n i t m f (slI 2 th) .nils ∧ H = onHa hs S (rowI th)) ∨
    ∃ r, without t o = r ∧ E = onE3e (mlV hs) n i t m f (slI 2 th) (slI 3 r) ∧ H = onHb hs S (rowI th) (rowI r)
  | _ => False
def o2P (hs : List PairR) (n i t m f : Int) (S : MemS) (o th : List Int) (N : Nat) : AExit → Env → AHeap → Prop := fun x E H => match x with
  | .normal => ∃ m', m' < N ∧ o2I hs n i t m f S o th m' E H
  | x => o2Q hs n i t m f S o th x E H

set_option maxRecDepth 100000 in
theorem o2_loop (H0 : AHeap) (hH : H0.next ≤ 1) (hs : List PairR) (n i t m f : Int) (S : MemS) (o th : List Int) (ho : o.length ≤ 8) : ∀ N E H, o2I hs n i t m f S o th N E H → OnGd H0 (.loop onR2) (o2Q hs n i t m f S o th) E H := by
  refine Gd.loop (o2I hs n i t m f S o th) (fun N E H hI => ?_)
  show OnGd H0 onR2 (o2P hs n i t m f S o th N) E H
  obtain ⟨k, hm, hi, hst⟩ := hI
  have idx : 0 + (k : Int).toNat = k := by omega
  have ix : inI64 ((k : Int) + 1) = true := inI64_small (by omega)
  have hlen : ∀ j, (without t (o.take j)).length ≤ 8 := fun j => by
    have h1 : (without t (o.take j)).length ≤ (o.take j).length := List.length_filter_le _ _
    rw [List.length_take] at h1
    omega
  have hall : ¬ ((k : Int) < (o.length : Int)) → o.take k = o := fun h => List.take_of_length_le (by omega)
  rcases hst with ⟨h0, rfl, rfl⟩ | ⟨r, h0, rfl, rfl⟩
  · refine Gd.walkC TMOok.ctx 1 (tsO (tsO2 ++ [13, 14]) [1, 5, 6, 7, 8, 9, 10, 12, 13]) hH (onIn _) (Eq.mpr (w_on_r2n hs n i t m f S o th k _) ?_)
    rw [idx]
    refine br_dec (fun h => ?_) (fun h => ?_)
    · have hs2 := take_snoc (o := o) (i := k) (by omega)
      have hw := without_snoc t (o.getD k 0) (o.take k)
      rw [← hs2, h0] at hw
      refine obl_dec (by omega) (obl_dec (by omega) (br_not (fun hb => ?_) (fun hb => ?_)))
      · rw [if_neg hb] at hw
        exact obl_dec (by omega) (obl_dec (by omega) (obl_mk ix ⟨o.length - (k + 1), by omega, k + 1, rfl, by omega, .inr ⟨[o.getD k 0], hw, rfl, rfl⟩⟩))
      · rw [if_pos hb] at hw
        exact obl_mk ix ⟨o.length - (k + 1), by omega, k + 1, rfl, by omega, .inl ⟨hw, rfl, rfl⟩⟩
    · rw [hall h] at h0
      exact .inl ⟨h0, rfl, rfl⟩
  · refine Gd.walkC TMOok.ctx 1 (tsO (tsO2 ++ [13, 14]) [1, 5, 6, 7, 8, 9, 10, 12, 13]) hH (onIn _) (Eq.mpr (w_on_r2 hs n i t m f S o th r k _) ?_)
    rw [idx]
    refine br_dec (fun h => ?_) (fun h => ?_)
    · have hs2 := take_snoc (o := o) (i := k) (by omega)
      have hw := without_snoc t (o.getD k 0) (o.take k)
      have h8 := hlen (k + 1)
      rw [← hs2, h0] at hw
      refine obl_dec (by omega) (obl_dec (by omega) (br_not (fun hb => ?_) (fun hb => ?_)))
      · rw [if_neg hb] at hw
        rw [hw] at h8
        exact obl_dec (by omega) (obl_dec (by omega) (obl_mk (by rw [Bool.true_and, decide_eq_true_eq]; omega) (obl_mk ix ⟨o.length - (k + 1), by omega, k + 1, rfl, by omega, .inr ⟨_, hw, rfl, rfl⟩⟩)))
      · rw [if_pos hb] at hw
        exact obl_mk ix ⟨o.length - (k + 1), by omega, k + 1, rfl, by omega, .inr ⟨r, hw, rfl, rfl⟩⟩
    · rw [hall h] at h0
      exact .inr ⟨r, h0, rfl, rfl⟩

/-! ### a list's terminals are counted -/

def o6I (hs : List PairR) (n i : Int) (S : MemS) (ks : List Int) (k : Nat) (N : Nat) (E : Env) (H : AHeap) : Prop :=
  ∃ (j : Nat) (c : Nat → Int), N = (ofM S (ks.getD k 0)).length - j ∧ j ≤ (ofM S (ks.getD k 0)).length ∧ CntOk S (ks.take k) ((ofM S (ks.getD k 0)).take j) c ∧
    E = onE6 (mlV hs) n i (slI 3 ks) k (slI 4 (ofM S (ks.getD k 0))) j ∧ H = onHc hs S (cntB c) (rowI ks) (rowI (ofM S (ks.getD k 0)))
def o6Q (hs : List PairR) (n i : Int) (S : MemS) (ks : List Int) (k : Nat) : AExit → Env → AHeap → Prop := fun x E H => match x with
  | .exit 6 => ∃ c, CntOk S (ks.take k) (ofM S (ks.getD k 0)) c ∧ E = onE5 (mlV hs) n i (slI 3 ks) k ∧ H = onHb hs S (cntB c) (rowI ks)
  | _ => False
def o6P (hs : List PairR) (n i : Int) (S : MemS) (ks : List Int) (k : Nat) (N : Nat) : AExit → Env → AHeap → Prop := fun x E H => match x with
  | .normal => ∃ m', m' < N ∧ o6I hs n i S ks k m' E H
  | x => o6Q hs n i S ks k x E H

set_option maxRecDepth 100000 in
theorem o6_loop (H0 : AHeap) (hH : H0.next ≤ 1) (hs : List PairR) (n i : Int) (S : MemS) (hW : WfM S) (hn : n = S.modes.length) (ks : List Int) (k : Nat) (hk : k < ks.length) : ∀ N E H, o6I hs n i S ks k N E H → OnGd H0 (.loop onR6) (o6Q hs n i S ks k) E H := by
  have h8 := of_len hW (ks.getD k 0)
  have hnd := ofM_nodup hW (ks.getD k 0)
  have hmem : ∀ u ∈ ofM S (ks.getD k 0), (0 ≤ u ∧ u < S.modes.length) ∧ modeM S u = ks.getD k 0 := fun u hu => of_mode hW hu
  refine Gd.loop (o6I hs n i S ks k) (fun N E H hI => ?_)
  show OnGd H0 onR6 (o6P hs n i S ks k N) E H
  unfold o6P o6I o6Q at *
  obtain ⟨j, c, hm, hj, hc, rfl, rfl⟩ := hI
  generalize ofM S (ks.getD k 0) = l at *
  have idx : 0 + (j : Int).toNat = j := by omega
  have idk : 0 + (k : Int).toNat = k := by omega
  have ix : inI64 ((j : Int) + 1) = true := inI64_small (by omega)
  refine Gd.walkC TMOok.ctx 1 (tsO (tsO5 ++ [19]) (tsO4 ++ [17])) hH (onIn _) (Eq.mpr (w_on_r6 hs n i S c ks l k j _) ?_)
  rw [idx, idk]
  refine br_dec (fun h => ?_) (fun h => ?_)
  · have hjl : j < l.length := by omega
    obtain ⟨⟨x0, x1⟩, x2⟩ := hmem _ (getD_mem hjl)
    have hn8 := hW.n8
    have hinc := cnt_inc hc hjl hnd ⟨x0, by omega⟩
    have hcx := cnt_le hc (u := (l.getD j 0).toNat) (by omega)
    have e8 := getD8 c (u := (l.getD j 0).toNat) (by omega)
    unfold list8 at e8
    refine obl_dec (by omega) (obl_dec (by omega) (br_dec (fun h => by omega) (fun _ => obl_dec (by omega) (obl_dec (by omega) (br_dec (fun h => by omega) (fun _ => obl_dec (by omega) (obl_dec (by omega) (obl_dec (by omega) (obl_dec (by omega) ?_)))))))))
    refine ⟨rfl, rfl, ⟨rfl, rfl⟩, hW, obl_mk ?_ (br_not (fun h => absurd x2 h) (fun _ => ?_))⟩
    · rw [decide_eq_true hk, Bool.true_and]
      simp [sameV]
    refine obl_dec (by omega) (obl_dec (by omega) (obl_dec (by omega) (obl_dec (by simp only [List.length_cons, List.length_nil]; omega) (obl_mk (by rw [e8]; exact inI64_small (by omega)) (obl_dec (by omega) (obl_dec (by show (l.getD j 0).toNat < 8; omega) (obl_mk ix ?_)))))))
    exact ⟨l.length - (j + 1), by omega, j + 1, incC c (l.getD j 0), rfl, by omega, hinc, rfl, rfl⟩
  · rw [show l.take j = l from List.take_of_length_le (by omega)] at hc
    exact ⟨c, hc, rfl, rfl⟩

/-! ### the modes, one by one -/

def o4I (hs : List PairR) (n i : Int) (S : MemS) (N : Nat) (E : Env) (H : AHeap) : Prop :=
  ∃ (k : Nat) (c : Nat → Int), N = (allM S).length - k ∧ k ≤ (allM S).length ∧ CntOk S ((allM S).take k) [] c ∧ E = onE5 (mlV hs) n i (slI 3 (allM S)) k ∧ H = onHb hs S (cntB c) (rowI (allM S))
def o4Q (hs : List PairR) (n i : Int) (S : MemS) : AExit → Env → AHeap → Prop := fun x E H => match x with
  | .exit 4 => ∃ c, CntOk S (allM S) [] c ∧ E = onE7 (mlV hs) n i ∧ H = onHa hs S (cntB c)
  | _ => False
def o4P (hs : List PairR) (n i : Int) (S : MemS) (N : Nat) : AExit → Env → AHeap → Prop := fun x E H => match x with
  | .normal => ∃ m', m' < N ∧ o4I hs n i S m' E H
  | x => o4Q hs n i S x E H

theorem on_r4 : onR4 = .seq on27 (.seq (.block 5 onG) on28) := by kernel_rfl
theorem on_g2 : tailN 2 onG = .seq on32 (.block 6 (.loop onR6)) := by kernel_rfl
theorem on_seqsG : isSeqs 2 onG = true := by kernel_rfl

set_option maxRecDepth 100000 in
theorem o4_loop (H0 : AHeap) (hH : H0.next ≤ 1) (hs : List PairR) (n i : Int) (S : MemS) (hW : WfM S) (hn : n = S.modes.length) : ∀ N E H, o4I hs n i S N E H → OnGd H0 (.loop onR4) (o4Q hs n i S) E H := by
  have hl := all_len hW
  refine Gd.loop (o4I hs n i S) (fun N E H hI => ?_)
  show OnGd H0 onR4 (o4P hs n i S N) E H
  obtain ⟨k, c, hm, hj, hc, rfl, rfl⟩ := hI
  have idk : 0 + (k : Int).toNat = k := by omega
  have ik1 : 0 < k → 0 + ((k : Int) - 1).toNat = k - 1 := by omega
  rw [on_r4]
  refine Gd.seq (Gd.walkC TMOok.ctx 1 (tsO (tsO4 ++ [17]) [1, 5, 6, 7, 15]) hH (onIn _) (Eq.mpr (w_on_27 hs n i S c (allM S) k _) ?_))
  refine br_dec (fun h => ?_) (fun h => ?_)
  · have hk : k < (allM S).length := by omega
    show OnGd H0 (.seq (.block 5 onG) on28) (o4P hs n i S N) (onE5 (mlV hs) n i (slI 3 (allM S)) k) (onHb hs S (cntB c) (rowI (allM S)))
    have hmem : (allM S).getD k 0 ∈ allM S := getD_mem hk
    have hne := all_of hW hmem
    have hlen : (ofM S ((allM S).getD k 0)).length ≠ 0 := fun h => hne (List.length_eq_zero_iff.1 h)
    refine Gd.seq (Gd.block (Gd.walkN TMOok.ctx (base := 1) hH (It := fun E H => canonK 1 tsO5 E H (fun E H => E = onE5l (mlV hs) n i (slI 3 (allM S)) k (slI 4 (ofM S ((allM S).getD k 0))) ∧ H = onHc hs S (cntB c) (rowI (allM S)) (rowI (ofM S ((allM S).getD k 0))))) 2 200 _ _ _ on_seqsG (onIn _) (Eq.mpr (w_on_g hs n i S c (allM S) k (fun E H => E = onE5l (mlV hs) n i (slI 3 (allM S)) k (slI 4 (ofM S ((allM S).getD k 0))) ∧ H = onHc hs S (cntB c) (rowI (allM S)) (rowI (ofM S ((allM S).getD k 0)))) _) ?_) (fun E H h => ?_)))
    · rw [idk]
      refine obl_dec (by omega) (obl_dec (by omega) ⟨rfl, rfl, ⟨rfl, rfl⟩, hW, br_dec (fun h => by have h : ((ofM S ((allM S).getD k 0)).length : Int) = 0 := h; omega) (fun _ => br_dec (fun h0 => ?_) (fun _ => ⟨rfl, rfl⟩))⟩)
      have h0' : 0 < k := by omega
      have hr := all_rise hW h0' hk
      rw [ik1 h0']
      exact obl_mk (inI64_small (by omega)) (obl_dec (by omega) (obl_dec (by omega) (obl_dec (by omega) (obl_dec (by omega) (br_dec (fun h => by omega) (fun _ => ⟨rfl, rfl⟩))))))
    obtain ⟨E', H', σ, ⟨rfl, rfl⟩, g2, g3, g4, g5, g6⟩ := canonK_ok h
    refine Gd.sub (base := 1) hH (Nat.le_trans hH g6) ?_ g2 g3 g4 g5
    rw [on_g2]
    refine Gd.seq (Gd.walkC TMOok.ctx 1 (tsO (tsO5 ++ [19]) []) hH (onIn _) (Eq.mpr (w_on_32 hs n i S c (allM S) (ofM S ((allM S).getD k 0)) k _) ?_))
    refine Gd.block (Gd.mono (o6_loop H0 hH hs n i S hW hn (allM S) k hk (ofM S ((allM S).getD k 0)).length _ _ ⟨0, c, rfl, Nat.zero_le _, hc, rfl, rfl⟩) (fun x E H h => ?_))
    unfold o6Q at h
    split at h
    · obtain ⟨c', hc', rfl, rfl⟩ := h
      refine Gd.walkC TMOok.ctx 1 (tsO (tsO4 ++ [17]) []) hH (onIn _) (Eq.mpr (w_on_28 hs n i S c' (allM S) k _) ?_)
      exact obl_mk (inI64_small (by omega)) ⟨(allM S).length - (k + 1), by omega, k + 1, c', rfl, by omega, cnt_next hW hk (all_not hW hk) hc', rfl, rfl⟩
    · exact h.elim
  · rw [show (allM S).take k = allM S from List.take_of_length_le (by omega)] at hc
    exact ⟨c, hc, rfl, rfl⟩

/-! ### the counts -/

def o8I (hs : List PairR) (n i : Int) (S : MemS) (c : Nat → Int) (N : Nat) (E : Env) (H : AHeap) : Prop :=
  ∃ k : Nat, N = 8 - k ∧ k ≤ 8 ∧ E = onE8 (mlV hs) n i k ∧ H = onHa hs S (cntB c)
def o8Q (hs : List PairR) (n i : Int) (S : MemS) : AExit → Env → AHeap → Prop := fun x E H => match x with
  | .exit 8 => E = onE1 (mlV hs) n i ∧ H = onH1 hs S
  | _ => False
def o8P (hs : List PairR) (n i : Int) (S : MemS) (c : Nat → Int) (N : Nat) : AExit → Env → AHeap → Prop := fun x E H => match x with
  | .normal => ∃ m', m' < N ∧ o8I hs n i S c m' E H
  | x => o8Q hs n i S x E H

set_option maxRecDepth 100000 in
theorem o8_loop (H0 : AHeap) (hH : H0.next ≤ 1) (hs : List PairR) (n i : Int) (S : MemS) (hW : WfM S) (hn : n = S.modes.length) (c : Nat → Int) (hc : CntOk S (allM S) [] c) : ∀ N E H, o8I hs n i S c N E H → OnGd H0 (.loop onR8) (o8Q hs n i S) E H := by
  refine Gd.loop (o8I hs n i S c) (fun N E H hI => ?_)
  show OnGd H0 onR8 (o8P hs n i S c N) E H
  obtain ⟨k, hm, hk, rfl, rfl⟩ := hI
  have ix : inI64 ((k : Int) + 1) = true := inI64_small (by omega)
  have idk : (k : Int).toNat = k := by omega
  refine Gd.walkC TMOok.ctx 1 (tsO [1, 5, 6, 7, 15, 20] [1, 5, 6, 7]) hH (onIn _) (Eq.mpr (w_on_r8 hs n i S c k _) ?_)
  rw [idk]
  refine br_dec (fun h => ?_) (fun h => ⟨rfl, rfl⟩)
  have hk8 : k < 8 := by omega
  have e1 := cnt_end hW hc hk8
  have e8 := getD8 c hk8
  unfold list8 at e8
  have next : o8P hs n i S c N .normal (onE8 (mlV hs) n i ((k : Int) + 1)) (onHa hs S (cntB c)) := ⟨8 - (k + 1), by omega, k + 1, rfl, by omega, rfl, rfl⟩
  refine br_dec (fun h => ?_) (fun h => br_dec (fun h2 => ?_) (fun _ => by omega))
  · rw [if_pos (by omega)] at e1
    refine obl_dec (by omega) (obl_dec (by simp only [List.length_cons, List.length_nil]; omega) (br_not (fun h => absurd (by rw [e8]; exact e1) h) (fun _ => br_dec (fun h => by omega) (fun _ => obl_mk ix next))))
  · rw [if_neg (by omega)] at e1
    refine obl_dec (by omega) (obl_dec (by simp only [List.length_cons, List.length_nil]; omega) (br_not (fun h => absurd (by rw [e8]; exact e1) h) (fun _ => obl_mk ix next)))

end Go.Proofs.Ytcgnoegejmhgmaa
