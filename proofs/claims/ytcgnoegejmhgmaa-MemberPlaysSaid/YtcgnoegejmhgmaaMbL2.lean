/-
  MemberLast answers true.
-/
import Derived.Test.YtcgnoegejmhgmaaMbL1
namespace Go.Proofs.Ytcgnoegejmhgmaa
set_option linter.unusedVariables false
set_option linter.unusedSimpArgs false
open Go.RowKit Ev

theorem br_not {p : Prop} [Decidable p] {A B : Prop} (h1 : ¬ p → A) (h2 : p → B) : branch (!decide p) A B :=
  branch_iff.2 ⟨fun h => h1 (of_decide_eq_false ((Bool.not_eq_true' _).mp h)), fun h => h2 (of_decide_eq_true ((Bool.not_eq_false' _).mp h))⟩

theorem map_toI (l : List Int) : l.map (toI (intRow .i64)) = l := by
  conv => rhs; rw [← List.map_id l]
  apply List.map_congr_left
  intro a _
  rfl
theorem all_okI (l : List Int) : l.all (okI (intRow .i64)) = true := by
  rw [List.all_eq_true]
  intro a _
  rfl
theorem okNum (l : List Int) (h : l.length ≤ 1000) : (true && l.all (okI (intRow .i64)) && (decide (l.length = (l.map (toI (intRow .i64))).length) && decide ((l.map (toI (intRow .i64))).length ≤ 1000))) = true := by
  rw [map_toI, all_okI, decide_eq_true rfl, decide_eq_true h]; rfl

theorem of_len {S : MemS} (hW : WfM S) (k : Int) : (ofM S k).length ≤ 8 := by
  unfold ofM
  cases hg : getK k S.lists with
  | none => exact Nat.zero_le _
  | some l => exact len8 hW hg

theorem take_snoc : ∀ {o : List Int} {i : Nat}, i < o.length → o.take (i + 1) = o.take i ++ [o.getD i 0]
  | [], i, h => absurd h (Nat.not_lt_zero _)
  | a :: o, 0, h => by simp [List.getD]
  | a :: o, i + 1, h => by
    have := take_snoc (o := o) (i := i) (by simpa using h)
    rw [List.take_succ_cons, this]
    simp [List.getD]
theorem without_snoc (t a : Int) (l : List Int) : without t (l ++ [a]) = if a = t then without t l else without t l ++ [a] := by
  unfold without
  rw [List.filter_append]
  by_cases h : a = t
  · rw [if_pos h]; simp [h]
  · rw [if_neg h]; simp [h]

theorem mode_of {S : MemS} (hW : WfM S) {t : Int} (ht : 0 ≤ t ∧ t < S.modes.length) : isM (modeM S t) = true ∧ modeM S t ≠ 0 := by
  have h : isM (modeM S t) = true := by
    unfold modeM; rw [if_pos ht]; exact hW.is _ (by omega)
  refine ⟨h, fun e => ?_⟩
  rw [e] at h
  exact absurd (of_decide_eq_true h) (by omega)

theorem moveE_ok {S : MemS} (hW : WfM S) {t m : Int} (ht : 0 ≤ t ∧ t < S.modes.length) (hm : isM m = true) : moveE S t m = 0 := by
  unfold moveE
  rw [if_neg (mode_of hW ht).2, if_pos hm]
theorem moveR_ne {S : MemS} (hW : WfM S) {t m : Int} (ht : 0 ≤ t ∧ t < S.modes.length) (hm : isM m = true) (hne : modeM S t ≠ m) : moveR S t m = moveS S t m := by
  unfold moveR
  rw [if_neg (mode_of hW ht).2, if_pos hm, if_neg hne]

/-- Away and back again. -/
theorem there_back {S : MemS} (hW : WfM S) {t a : Int} (ht : 0 ≤ t ∧ t < S.modes.length) (ha : isM a = true) (hne : a ≠ modeM S t) :
    moveE S t a = 0 ∧ moveE (moveR S t a) t (modeM S t) = 0 ∧ ofM (moveR (moveR S t a) t (modeM S t)) (modeM S t) = without t (ofM S (modeM S t)) ++ [t] := by
  have hn2 : modeM S t ≠ a := Ne.symm hne
  have e1 := moveR_ne hW ht ha hn2
  have hW1 : WfM (moveS S t a) := wf_move hW (mode_of hW ht).2 ha hn2
  have ht1 : 0 ≤ t ∧ t < (moveS S t a).modes.length := by rw [show (moveS S t a).modes.length = S.modes.length from List.length_set]; exact ht
  have hm1 : modeM (moveS S t a) t = a := by rw [modeM_move ht, if_pos rfl]
  rw [e1]
  refine ⟨moveE_ok hW ht ha, moveE_ok hW1 ht1 (mode_of hW ht).1, ?_⟩
  rw [moveR_ne hW1 ht1 (mode_of hW ht).1 (by rw [hm1]; exact hne), ofM_move hW1 (by rw [hm1]; exact hne), if_pos rfl, ofM_move hW hn2, if_neg hn2, if_pos rfl]

/-- Who moves is the last one. -/
theorem last_move {S : MemS} (hW : WfM S) {t m : Int} (ht : 0 ≤ t ∧ t < S.modes.length) (hm : isM m = true) (hne : modeM S t ≠ m) : ofM (moveR S t m) m = ofM S m ++ [t] := by
  rw [moveR_ne hW ht hm hne, ofM_move hW hne, if_pos rfl]

theorem inI64_small {n : Int} (h : -1000000 ≤ n ∧ n ≤ 1000000) : inI64 n = true := by
  unfold inI64
  rw [decide_eq_true_eq]
  omega

def Byte2 (p : PairR) : Prop := (0 ≤ p.a ∧ p.a ≤ 255) ∧ 0 ≤ p.b ∧ p.b ≤ 255

noncomputable abbrev MlGd (H0 : AHeap) (c : Code) (Q : AExit → Env → AHeap → Prop) (E : Env) (H : AHeap) : Prop := Gd (TM8.ctx Try.prog) 3 H0 c Q E H
noncomputable abbrev mlK : AExit → Env → AHeap → Prop := endA (TM8.ctx Try.prog).P Try.f3 (fun o _ => o = .ret (.bool true))

theorem mlIn (p : List Bool) : InFn (TM8.ctx Try.prog) 3 (codeAt p mlB) :=
  inFn_at TM8ok.ctx (fn := Try.f3) (by kernel_rfl) (by kernel_rfl) p
theorem mlIn_set : InFn (TM8.ctx Try.prog) 3 (seqL (seqL (tailN 4 mlB))) := by
  have e : seqL (seqL (tailN 4 mlB)) = codeAt [true, true, true, true, false, false] mlB := by kernel_rfl
  rw [e]; exact mlIn _
theorem mlIn_b : InFn (TM8.ctx Try.prog) 3 (seqR (tailN 4 mlB)) := by
  have e : seqR (tailN 4 mlB) = codeAt [true, true, true, true, true] mlB := by kernel_rfl
  rw [e]; exact mlIn _
theorem mlIn_set2 : InFn (TM8.ctx Try.prog) 3 (seqL (seqL (tailN 10 mlB))) := by
  have e : seqL (seqL (tailN 10 mlB)) = codeAt [true, true, true, true, true, true, true, true, true, true, false, false] mlB := by kernel_rfl
  rw [e]; exact mlIn _
theorem mlIn_end : InFn (TM8.ctx Try.prog) 3 (seqR (tailN 10 mlB)) := by
  have e : seqR (tailN 10 mlB) = codeAt [true, true, true, true, true, true, true, true, true, true, true] mlB := by kernel_rfl
  rw [e]; exact mlIn _
theorem ml_seqs4 : isSeqs 4 mlB = true := by kernel_rfl
theorem ml_seqs5 : isSeqs 5 (seqR (tailN 4 mlB)) = true := by kernel_rfl
theorem ml_body : Try.f3.body = some mlB := by kernel_rfl
theorem ml_fns : (TM8.ctx Try.prog).fns 3 = some Try.f3 := by kernel_rfl
theorem ml_eq4 : tailN 4 mlB = .seq (.seq (seqL (seqL (tailN 4 mlB))) (.block 0 (.loop mlR))) (seqR (tailN 4 mlB)) := by kernel_rfl
theorem ml_eq10 : tailN 5 (seqR (tailN 4 mlB)) = .seq (.seq (seqL (seqL (tailN 10 mlB))) (.block 2 (.loop mlR2))) (seqR (tailN 10 mlB)) := by kernel_rfl

/-! ### what is left of the list -/

def l2I (t a h : Int) (S : MemS) (o : List Int) (m : Nat) (E : Env) (H : AHeap) : Prop :=
  ∃ i : Nat, m = o.length - i ∧ i ≤ o.length ∧ ((without t (o.take i) = [] ∧ E = mlE3 t a h .nils (slI 2 o) i ∧ H = mlH2 S o) ∨
    ∃ r, without t (o.take i) = r ∧ r ≠ [] ∧ E = mlE3 t a h (slI 2 r) (slI 3 o) i ∧ H = mlH3 S r o)
def l2Q (t a h : Int) (S : MemS) (o : List Int) : AExit → Env → AHeap → Prop := fun x E H => match x with
  | .exit 2 => (without t o = [] ∧ E = mlE2 t a h .nils (slI 2 o) ∧ H = mlH2 S o) ∨ ∃ r, without t o = r ∧ E = mlE2 t a h (slI 2 r) (slI 3 o) ∧ H = mlH3 S r o
  | _ => False
def l2P (t a h : Int) (S : MemS) (o : List Int) (m : Nat) : AExit → Env → AHeap → Prop := fun x E H => match x with
  | .normal => ∃ m', m' < m ∧ l2I t a h S o m' E H
  | x => l2Q t a h S o x E H

set_option maxRecDepth 100000 in
theorem l2_loop (H0 : AHeap) (hH : H0.next ≤ 1) (t a h : Int) (S : MemS) (o : List Int) (ho : o.length ≤ 8) : ∀ m E H, l2I t a h S o m E H → MlGd H0 (.loop mlR2) (l2Q t a h S o) E H := by
  refine Gd.loop (l2I t a h S o) (fun m E H hI => ?_)
  show MlGd H0 mlR2 (l2P t a h S o m) E H
  obtain ⟨i, hm, hi, hs⟩ := hI
  have idx : 0 + (i : Int).toNat = i := by omega
  have ix : inI64 ((i : Int) + 1) = true := inI64_small (by omega)
  have hlen : ∀ j, (without t (o.take j)).length ≤ 8 := fun j => by
    have h1 : (without t (o.take j)).length ≤ (o.take j).length := List.length_filter_le _ _
    rw [List.length_take] at h1
    omega
  have hall : ¬ ((i : Int) < (o.length : Int)) → o.take i = o := fun h => List.take_of_length_le (by omega)
  rcases hs with ⟨h0, rfl, rfl⟩ | ⟨r, h0, hne, rfl, rfl⟩
  · refine Gd.walkC TM8ok.ctx 1 tsL3 hH (mlIn _) (Eq.mpr (w_ml_r0 t a h S o i _) ?_)
    rw [idx]
    refine br_dec (fun h => ?_) (fun h => ?_)
    · have hs := take_snoc (o := o) (i := i) (by omega)
      have hw := without_snoc t (o.getD i 0) (o.take i)
      rw [← hs, h0] at hw
      refine obl_dec (by omega) (obl_dec (by omega) (br_not (fun hb => ?_) (fun hb => ?_)))
      · rw [if_neg hb] at hw
        exact obl_dec (by omega) (obl_dec (by omega) (obl_mk ix ⟨o.length - (i + 1), by omega, i + 1, rfl, by omega, .inr ⟨[o.getD i 0], hw, by simp, rfl, rfl⟩⟩))
      · rw [if_pos hb] at hw
        exact obl_mk ix ⟨o.length - (i + 1), by omega, i + 1, rfl, by omega, .inl ⟨hw, rfl, rfl⟩⟩
    · rw [hall h] at h0
      exact .inl ⟨h0, rfl, rfl⟩
  · refine Gd.walkC TM8ok.ctx 1 tsL3 hH (mlIn _) (Eq.mpr (w_ml_r1 t a h S r o i _) ?_)
    rw [idx]
    refine br_dec (fun h => ?_) (fun h => ?_)
    · have hs := take_snoc (o := o) (i := i) (by omega)
      have hw := without_snoc t (o.getD i 0) (o.take i)
      have h8 := hlen (i + 1)
      rw [← hs, h0] at hw
      refine obl_dec (by omega) (obl_dec (by omega) (br_not (fun hb => ?_) (fun hb => ?_)))
      · rw [if_neg hb] at hw
        rw [hw] at h8
        exact obl_dec (by omega) (obl_dec (by omega) (obl_mk (by rw [Bool.true_and, decide_eq_true_eq]; omega) (obl_mk ix ⟨o.length - (i + 1), by omega, i + 1, rfl, by omega, .inr ⟨_, hw, by simp, rfl, rfl⟩⟩)))
      · rw [if_pos hb] at hw
        exact obl_mk ix ⟨o.length - (i + 1), by omega, i + 1, rfl, by omega, .inr ⟨r, hw, hne, rfl, rfl⟩⟩
    · rw [hall h] at h0
      exact .inr ⟨r, h0, rfl, rfl⟩

set_option maxRecDepth 100000 in
/-- Behind the first loop. -/
theorem ml_rest (H0 : AHeap) (hH : H0.next ≤ 1) (n x y : Int) (S : MemS) (hW : WfM S) (hn : n = S.modes.length) (hx : 0 ≤ x ∧ x ≤ 255) (hy : 0 ≤ y ∧ y ≤ 255) : MlGd H0 (seqR (tailN 4 mlB)) mlK (mlE n) ⟨5, mlHs x y S⟩ := by
  have h1 := hW.n1
  have h8 := hW.n8
  have ht : 0 ≤ x % n ∧ x % n < S.modes.length := ⟨Int.emod_nonneg _ (by omega), by rw [← hn]; exact Int.emod_lt_of_pos _ (by omega)⟩
  have hm : isM (1 + y % 28) = true := by unfold isM; rw [decide_eq_true_eq]; omega
  refine Gd.walkN TM8ok.ctx (base := 1) hH (It := fun E H => canonK 1 tsL2 E H (fun E H => 1 + y % 28 ≠ modeM S (x % n) ∧ E = mlE2 (x % n) (1 + y % 28) (modeM S (x % n)) .nils (slI 2 (ofM S (modeM S (x % n)))) ∧ H = mlH2 S (ofM S (modeM S (x % n))))) 5 200 _ _ _ ml_seqs5 mlIn_b (Eq.mpr (w_ml_b n x y S (fun E H => 1 + y % 28 ≠ modeM S (x % n) ∧ E = mlE2 (x % n) (1 + y % 28) (modeM S (x % n)) .nils (slI 2 (ofM S (modeM S (x % n)))) ∧ H = mlH2 S (ofM S (modeM S (x % n)))) (fun o => o = .ret (.bool true))) ?_) (fun E H h => ?_)
  · refine obl_mk (inI64_small (by omega)) (obl_dec (by omega) (obl_dec (by omega) (obl_mk (inI64_small (by omega)) (obl_mk (inI64_small (by omega)) ⟨rfl, rfl, ⟨rfl, rfl⟩, hW, br_dec (fun _ => rfl) (fun h => ⟨rfl, rfl, ⟨rfl, rfl⟩, hW, h, rfl, rfl⟩)⟩))))
  obtain ⟨E', H', σ, ⟨hne, rfl, rfl⟩, g2, g3, g4, g5, g6⟩ := canonK_ok h
  refine Gd.sub (base := 1) hH (Nat.le_trans hH g6) ?_ g2 g3 g4 g5
  obtain ⟨b1, b2, b3⟩ := there_back hW ht hm hne
  have hlen := of_len hW (modeM S (x % n))
  have hW1 := wf_moveR hW (x % n) (1 + y % 28)
  have hW2 := wf_moveR hW1 (x % n) (modeM S (x % n))
  have hl2 := of_len hW2 (modeM S (x % n))
  generalize x % n = t at *
  generalize 1 + y % 28 = a at *
  generalize hh : modeM S t = h' at *
  generalize ho : ofM S h' = o at *
  rw [ml_eq10]
  refine Gd.seq (Gd.seq (Gd.walkC TM8ok.ctx 1 tsL3 hH mlIn_set2 (Eq.mpr (w_ml_set2 t a h' S o _) ?_)))
  refine Gd.block (Gd.mono (l2_loop H0 hH t a h' S o hlen o.length _ _ ⟨0, rfl, Nat.zero_le _, .inl ⟨rfl, rfl, rfl⟩⟩) (fun x E H h => ?_))
  unfold l2Q at h
  split at h
  · rcases h with ⟨h0, rfl, rfl⟩ | ⟨r, h0, rfl, rfl⟩
    · refine Gd.walk TM8ok.ctx (base := 1) hH mlIn_end (Eq.mpr (w_ml_e0 t a h' S o (fun o => o = .ret (.bool true))) ?_)
      rw [h0] at b3
      refine ⟨rfl, rfl, ⟨rfl, rfl⟩, hW, br_dec (fun _ => ?_) (fun h => absurd b1 h)⟩
      refine ⟨rfl, rfl, ⟨rfl, rfl⟩, hW1, br_dec (fun _ => ?_) (fun h => absurd b2 h)⟩
      refine ⟨rfl, rfl, ⟨rfl, rfl⟩, hW2, obl_mk ?_ (br_dec (fun _ => rfl) (fun h => absurd ?_ h))⟩
      · exact Bool.and_eq_true_iff.2 ⟨okNum _ (by show (ofM (moveR (moveR S t a) t h') h').length ≤ 1000; omega), okNum [t] (by simp)⟩
      · rw [map_toI, map_toI]; exact b3
    · refine Gd.walk TM8ok.ctx (base := 1) hH mlIn_end (Eq.mpr (w_ml_e1 t a h' S r o (fun o => o = .ret (.bool true))) ?_)
      rw [h0] at b3
      have hr : (r ++ [t]).length ≤ 8 := by rw [← b3]; exact hl2
      refine ⟨rfl, rfl, ⟨rfl, rfl⟩, hW, br_dec (fun _ => ?_) (fun h => absurd b1 h)⟩
      refine ⟨rfl, rfl, ⟨rfl, rfl⟩, hW1, br_dec (fun _ => ?_) (fun h => absurd b2 h)⟩
      refine ⟨rfl, rfl, ⟨rfl, rfl⟩, hW2, obl_mk (by rw [Bool.true_and, decide_eq_true_eq]; omega) (obl_mk ?_ (br_dec (fun _ => rfl) (fun h => absurd ?_ h)))⟩
      · exact Bool.and_eq_true_iff.2 ⟨okNum _ (by show (ofM (moveR (moveR S t a) t h') h').length ≤ 1000; omega), okNum (r ++ [t]) (by omega)⟩
      · rw [map_toI, map_toI]; exact b3
  · exact h.elim

/-! ### the moves -/

theorem getB_nil0 {l : List (Nat × ABlk)} (h : ∀ p ∈ l, p.1 ≠ 0) : getB l 0 = none := by
  induction l with
  | nil => rfl
  | cons p l ih =>
    obtain ⟨c, x⟩ := p
    rw [getB_cons, if_neg (h _ (List.mem_cons_self ..))]
    exact ih fun q hq => h q (List.mem_cons_of_mem _ hq)
/-- The argument is not looked at any more. -/
theorem drop0 (X : ABlk) (x y : Int) (S : MemS) : Ghost ⟨5, (0, X) :: mlHs x y S⟩ ⟨5, mlHs x y S⟩ := fun ρ w hR =>
  ⟨ρ, (Step.drop hR 0).ext rfl fun b => by
    rw [AHeap.get_put]
    unfold AHeap.get
    simp only [getB_cons]
    by_cases h0 : 0 = b
    · subst h0
      rw [if_pos rfl, getB_nil0]
      · rfl
      · intro p hp
        simp [mlHs] at hp
        rcases hp with rfl | rfl | rfl | rfl <;> simp
    · rw [if_neg h0, if_neg h0]⟩


def l1I (H0 : AHeap) (hs : List PairR) (n x y : Int) (m : Nat) (E : Env) (H : AHeap) : Prop :=
  ∃ (i : Nat) (S : MemS), m = hs.length - i ∧ i ≤ hs.length ∧ WfM S ∧ n = S.modes.length ∧ E = mlE1 (mlV hs) n i ∧ H = ⟨5, (0, mlRow hs) :: mlHs x y S⟩
def l1Q (n x y : Int) : AExit → Env → AHeap → Prop := fun z E H => match z with
  | .exit 0 => ∃ S : MemS, WfM S ∧ n = S.modes.length ∧ E = mlE n ∧ Ghost H ⟨5, mlHs x y S⟩
  | _ => False
def l1P (H0 : AHeap) (hs : List PairR) (n x y : Int) (m : Nat) : AExit → Env → AHeap → Prop := fun z E H => match z with
  | .normal => ∃ m', m' < m ∧ l1I H0 hs n x y m' E H
  | z => l1Q n x y z E H

set_option maxRecDepth 100000 in
theorem l1_loop (H0 : AHeap) (hH : H0.next ≤ 1) (hs : List PairR) (hb : ∀ p ∈ hs, Byte2 p) (n x y : Int) : ∀ m E H, l1I H0 hs n x y m E H → MlGd H0 (.loop mlR) (l1Q n x y) E H := by
  refine Gd.loop (l1I H0 hs n x y) (fun m E H hI => ?_)
  show MlGd H0 mlR (l1P H0 hs n x y m) E H
  obtain ⟨i, S, hm, hi, hW, hn, rfl, rfl⟩ := hI
  have h1 := hW.n1
  have h8 := hW.n8
  have idx : 0 + (i : Int).toNat = i := by omega
  have out : l1P H0 hs n x y m (.exit 0) (mlE n) ⟨5, (0, mlRow hs) :: mlHs x y S⟩ := ⟨S, hW, hn, rfl, drop0 _ _ _ _⟩
  refine Gd.walkC TM8ok.ctx 1 tsL hH (mlIn _) (Eq.mpr (w_ml_r hs n x y i S _) ?_)
  rw [idx]
  refine br_dec (fun h => br_dec (fun h60 => ?_) (fun _ => out)) (fun _ => out)
  have hp : Byte2 (hs.getD i ⟨0, 0⟩) := by
    have : hs.getD i ⟨0, 0⟩ ∈ hs := by
      have hi' : i < hs.length := by omega
      simp [List.getD, hi']
    exact hb _ this
  generalize hs.getD i ⟨0, 0⟩ = p at *
  obtain ⟨ha, hb'⟩ := hp
  generalize p.a = pa at *
  generalize p.b = pb at *
  have ht : 0 ≤ pa % n ∧ pa % n < S.modes.length := ⟨Int.emod_nonneg _ (by omega), by rw [← hn]; exact Int.emod_lt_of_pos _ (by omega)⟩
  have hmd : isM (1 + pb % 28) = true := by unfold isM; rw [decide_eq_true_eq]; omega
  have hW1 := wf_moveR hW (pa % n) (1 + pb % 28)
  have hl1 : n = (moveR S (pa % n) (1 + pb % 28)).modes.length := by rw [len_moveR]; exact hn
  have ix : inI64 ((i : Int) + 1) = true := inI64_small (by omega)
  have next : l1P H0 hs n x y m .normal (mlE1 (mlV hs) n ((i : Int) + 1)) ⟨5, (0, mlRow hs) :: mlHs x y (moveR S (pa % n) (1 + pb % 28))⟩ :=
    ⟨hs.length - (i + 1), by omega, i + 1, _, rfl, by omega, hW1, hl1, rfl, rfl⟩
  refine obl_dec (by omega) (obl_dec (by omega) (obl_mk (inI64_small (by omega)) (obl_dec (by omega) (obl_dec (by omega) (obl_dec (by omega) (obl_dec (by omega) (obl_mk (inI64_small (by omega)) (obl_mk (inI64_small (by omega)) ?_))))))))
  refine ⟨rfl, rfl, ⟨rfl, rfl⟩, hW, rfl, rfl, ⟨rfl, rfl⟩, hW, br_not (fun h => absurd (moveE_ok hW ht hmd) h) (fun _ => ?_)⟩
  refine ⟨rfl, rfl, ⟨rfl, rfl⟩, hW1, br_not (fun hne => ?_) (fun _ => obl_mk ix next)⟩
  have hl := last_move hW ht hmd hne
  have h8' := of_len hW1 (1 + pb % 28)
  have hlen : (ofM (moveR S (pa % n) (1 + pb % 28)) (1 + pb % 28)).length = (ofM S (1 + pb % 28)).length + 1 := by rw [hl]; simp
  show branch (decide (((ofM (moveR S (pa % n) (1 + pb % 28)) (1 + pb % 28)).length : Int) = 0)) _ _
  refine br_dec (fun h => by omega) (fun _ => obl_mk (inI64_small (by show -1000000 ≤ ((ofM (moveR S (pa % n) (1 + pb % 28)) (1 + pb % 28)).length : Int) - 1 ∧ ((ofM (moveR S (pa % n) (1 + pb % 28)) (1 + pb % 28)).length : Int) - 1 ≤ 1000000; omega)) (obl_dec (by show (0 : Int) ≤ ((ofM (moveR S (pa % n) (1 + pb % 28)) (1 + pb % 28)).length : Int) - 1 ∧ ((ofM (moveR S (pa % n) (1 + pb % 28)) (1 + pb % 28)).length : Int) - 1 < ((ofM (moveR S (pa % n) (1 + pb % 28)) (1 + pb % 28)).length : Int); omega) (obl_dec (by show 0 + (((ofM (moveR S (pa % n) (1 + pb % 28)) (1 + pb % 28)).length : Int) - 1).toNat < (ofM (moveR S (pa % n) (1 + pb % 28)) (1 + pb % 28)).length; omega) (br_not (fun hb => absurd ?_ hb) (fun _ => obl_mk ix next)))))
  show (ofM (moveR S (pa % n) (1 + pb % 28)) (1 + pb % 28)).getD (0 + (((ofM (moveR S (pa % n) (1 + pb % 28)) (1 + pb % 28)).length : Int) - 1).toNat) 0 = pa % n
  have e : 0 + (((ofM (moveR S (pa % n) (1 + pb % 28)) (1 + pb % 28)).length : Int) - 1).toNat = (ofM S (1 + pb % 28)).length := by omega
  rw [e, hl]
  simp [List.getD]

end Go.Proofs.Ytcgnoegejmhgmaa
