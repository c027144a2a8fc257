/-
  The document's members: mode, new ones: contracts.
-/
import Derived.Test.YtcgnoegejmhgmaaMrW1
namespace Go.Proofs.Ytcgnoegejmhgmaa
set_option linter.unusedVariables false
set_option linter.unusedSimpArgs false
open Go.RowKit Ev

theorem rmode_sound : GcSound Try.prog 15 (gcSub decRef refC (fRef qMode)) := by
  refine ref_gc Try.call15 (fun R rest K hW hC ρ w hR hb => ?_)
  unfold qMode at hC
  split at hC
  rotate_left
  · exact (not_stuck hC).elim
  rename_i t
  rw [forceH_eq] at hC
  refine ((callC_ok TM8ok.ctx 90) 15 _ _ K (Eq.mpr (w_rmode R t K) ?_) ρ w hR hb).2
  refine br_dec (fun h => ?_) (fun h => br_dec (fun h2 => ?_) (fun h2 => obl_dec (by omega) (obl_dec (by omega) ?_)))
  · have e : modeM (modesOf R) t = 0 := by unfold modeM; rw [if_neg (by omega)]
    rw [e] at hC; exact hC
  · have e : modeM (modesOf R) t = 0 := by unfold modeM; rw [if_neg (by show ¬ (0 ≤ t ∧ t < (R.modes.length : Int)); omega)]
    rw [e] at hC; exact hC
  · have e : modeM (modesOf R) t = R.modes.getD (0 + t.toNat) 0 := by unfold modeM; rw [if_pos (by show (0 ≤ t ∧ t < (R.modes.length : Int)); omega), Nat.zero_add]
    rw [e] at hC; exact hC

/-! ### new ones -/

theorem rnIn (p : List Bool) : InFn (TM8.ctx Try.prog) 13 (codeAt p rnB) :=
  inFn_at TM8ok.ctx (fn := Try.f13) (by kernel_rfl) (by kernel_rfl) p
theorem rnIn3 : InFn (TM8.ctx Try.prog) 13 (tailN 3 rnB) := by
  have e : tailN 3 rnB = codeAt [true, true, true] rnB := by kernel_rfl
  rw [e]; exact rnIn _
theorem rn_seqs3 : isSeqs 3 rnB = true := by kernel_rfl
theorem rn_body : Try.f13.body = some rnB := by kernel_rfl
theorem rn_fns : (TM8.ctx Try.prog).fns 13 = some Try.f13 := by kernel_rfl

def rnK (n m : Int) (out : Out) (H' : AHeap) : Prop := ∃ H'', Ghost H' H'' ∧ ((newBad n m = true ∧ out = .ret .nilp ∧ H'' = ⟨3, []⟩) ∨ (newBad n m = false ∧ out = .ret (.ptr 0 0 0 0) ∧ H'' = ⟨3, refH (rNew n m)⟩))

noncomputable abbrev RnGd (n m : Int) (c : Code) (E : Env) (H : AHeap) : Prop := Gd (TM8.ctx Try.prog) 13 ⟨0, []⟩ c (canQ 0 tsRo (endA (TM8.ctx Try.prog).P Try.f13 (rnK n m))) E H

set_option maxRecDepth 100000 in
theorem rn_good (n m : Int) : RnGd n m rnB (env0 [.int .i64 n, .int .i64 m] 0) ⟨0, []⟩ := by
  refine Gd.walkN TM8ok.ctx (base := 0) (Nat.le_refl _) (It := fun E H => canonK 0 [0, 1, 5] E H (fun E H => newBad n m = false ∧ E = rnE n m ∧ H = ⟨1, [(0, refB .nils .nils 0)]⟩)) 3 200 _ _ _ rn_seqs3 (rnIn []) (Eq.mpr (w_rnew_a n m (fun E H => newBad n m = false ∧ E = rnE n m ∧ H = ⟨1, [(0, refB .nils .nils 0)]⟩) (rnK n m)) ?_) (fun E H h => ?_)
  · have bad : (n < 1 ∨ 8 < n ∨ ¬ (1 ≤ m ∧ m ≤ 28)) → rnK n m (.ret .nilp) ⟨0, []⟩ := fun h => ⟨⟨3, []⟩, Ghost.mores 0 [] 3, .inl ⟨decide_eq_true h, rfl, rfl⟩⟩
    exact br_dec (fun h => bad (by omega)) (fun h => br_dec (fun h2 => bad (by omega)) (fun h2 => br_dec (fun h3 => bad (by omega)) (fun h3 => br_dec (fun h4 => bad (by omega)) (fun h4 => ⟨decide_eq_false (by omega), rfl, rfl⟩))))
  obtain ⟨E', H', σ, ⟨hb, rfl, rfl⟩, g2, g3, g4, g5, g6⟩ := canonK_ok h
  refine Gd.sub (base := 0) (Nat.le_refl _) g6 ?_ g2 g3 g4 g5
  have hn : n = 1 ∨ n = 2 ∨ n = 3 ∨ n = 4 ∨ n = 5 ∨ n = 6 ∨ n = 7 ∨ n = 8 := by
    have := of_decide_eq_false hb
    omega
  rcases hn with rfl | rfl | rfl | rfl | rfl | rfl | rfl | rfl
  · refine Gd.walk TM8ok.ctx (base := 0) (Nat.le_refl _) rnIn3 (Eq.mpr (w_rnew_1 m (rnK 1 m)) ?_)
    exact ⟨_, .refl _, .inr ⟨hb, rfl, rfl⟩⟩
  · refine Gd.walk TM8ok.ctx (base := 0) (Nat.le_refl _) rnIn3 (Eq.mpr (w_rnew_2 m (rnK 2 m)) ?_)
    exact ⟨_, .refl _, .inr ⟨hb, rfl, rfl⟩⟩
  · refine Gd.walk TM8ok.ctx (base := 0) (Nat.le_refl _) rnIn3 (Eq.mpr (w_rnew_3 m (rnK 3 m)) ?_)
    exact ⟨_, .refl _, .inr ⟨hb, rfl, rfl⟩⟩
  · refine Gd.walk TM8ok.ctx (base := 0) (Nat.le_refl _) rnIn3 (Eq.mpr (w_rnew_4 m (rnK 4 m)) ?_)
    exact ⟨_, .refl _, .inr ⟨hb, rfl, rfl⟩⟩
  · refine Gd.walk TM8ok.ctx (base := 0) (Nat.le_refl _) rnIn3 (Eq.mpr (w_rnew_5 m (rnK 5 m)) ?_)
    exact ⟨_, .refl _, .inr ⟨hb, rfl, rfl⟩⟩
  · refine Gd.walk TM8ok.ctx (base := 0) (Nat.le_refl _) rnIn3 (Eq.mpr (w_rnew_6 m (rnK 6 m)) ?_)
    exact ⟨_, .refl _, .inr ⟨hb, rfl, rfl⟩⟩
  · refine Gd.walk TM8ok.ctx (base := 0) (Nat.le_refl _) rnIn3 (Eq.mpr (w_rnew_7 m (rnK 7 m)) ?_)
    exact ⟨_, .refl _, .inr ⟨hb, rfl, rfl⟩⟩
  · refine Gd.walk TM8ok.ctx (base := 0) (Nat.le_refl _) rnIn3 (Eq.mpr (w_rnew_8 m (rnK 8 m)) ?_)
    exact ⟨_, .refl _, .inr ⟨hb, rfl, rfl⟩⟩

theorem rnew_sound : GcSound Try.prog 13 (gcSub decNew (fun _ => ⟨0, []⟩) qNew) := by
  refine gc_sub Try.call13 decNew_ok (fun s k hk ρ w hR hb => ?_)
  obtain ⟨n, m⟩ := s
  refine calls_ghost (K' := rnK n m) (fn_good TM8ok.ctx (fn := Try.f13) (c := rnB) rn_fns rn_body (Gd.can (Nat.le_refl _) (rn_good n m)) hR hb) (fun out H' h => ?_)
  obtain ⟨H'', hg, h⟩ := h
  unfold qNew at hk
  simp only [forceH_eq] at hk
  rcases h with ⟨h1, rfl, rfl⟩ | ⟨h1, rfl, rfl⟩
  · exact ⟨_, hg, (branch_iff.1 hk).1 h1⟩
  · exact ⟨_, hg, (branch_iff.1 hk).2 h1⟩

noncomputable def TR1 : Tabs := (TM8.addGc 15 (gcSub decRef refC (fRef qMode))).addGc 13 (gcSub decNew (fun _ => ⟨0, []⟩) qNew)
theorem TR1ok : TabsOk TR1 Try.prog := (TM8ok.addGc rmode_sound).addGc rnew_sound

/-! ### the states of Of -/

noncomputable abbrev ro2 : Code := codeAt [true, true, false, false] roB
noncomputable abbrev roR : Code := codeAt [true, true, false, true, false, false] roB
noncomputable abbrev ro3 : Code := codeAt [true, true, false, true, false, false, false] roB
noncomputable abbrev ro5 : Code := codeAt [true, true, false, true, false, false, true, false, false, false] roB
noncomputable abbrev roR2 : Code := codeAt [true, true, false, true, false, false, true, false, false, true, false, false] roB
noncomputable abbrev ro4 : Code := codeAt [true, true, false, true, false, false, true, true] roB
noncomputable abbrev ro10 : Code := codeAt [true, true, true] roB
def roE (k : Int) (o : AVal) : Env := [(0, .ptr 0 0 0 0), (1, .int .i64 k), (5, o)]
def roE1 (k : Int) (o : AVal) (c : Int) : Env := [(0, .ptr 0 0 0 0), (1, .int .i64 k), (5, o), (6, .int .i64 c)]
def roE2 (k : Int) (o : AVal) (c i : Int) : Env := [(0, .ptr 0 0 0 0), (1, .int .i64 k), (5, o), (6, .int .i64 c), (7, .int .i64 i)]
def roH (R : RefS) : AHeap := ⟨3, refH R⟩
def roH1 (R : RefS) (o : List Int) : AHeap := ⟨4, [(0, refB (.sl 1 0 1 0 R.modes.length none) (.sl 2 0 1 0 R.came.length none) R.last), (1, rowI R.modes), (2, rowI R.came), (3, rowI o)]⟩
def tsR (a b : List Nat) : AExit → List Nat := fun x => match x with
  | .ret => [4]
  | .normal => a
  | _ => b

end Go.Proofs.Ytcgnoegejmhgmaa
