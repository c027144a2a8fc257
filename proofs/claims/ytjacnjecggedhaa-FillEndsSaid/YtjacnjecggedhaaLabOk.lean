/-
  The label's plain functions: the contracts.
-/
import Derived.Test.YtjacnjecggedhaaLabW
namespace Go.Proofs.Ytjacnjecggedhaa
set_option linter.unusedVariables false
set_option linter.unusedSimpArgs false
open Go.RowKit Ev

theorem sizes_sound : FcSound Try.prog 58 fcSizes := by
  refine fc_pure T0ok.ctx (n := 100) Try.call58 (fun args H v h => ?_)
  unfold fcSizes at h
  split at h <;> cases h
  exact ⟨rfl, rfl, by rw [w_sizes]⟩

theorem TL1ok : TabsOk TL1 Try.prog := (T0ok.addFc sizes_sound)

theorem size_sound : FcSound Try.prog 57 fcSize := by
  refine fc_pure TL1ok.ctx (n := 100) Try.call57 (fun args H v h => ?_)
  unfold fcSize at h
  split at h <;> cases h
  rename_i k
  refine ⟨rfl, rfl, ?_⟩
  rw [w_size]
  simp only [branch_iff, obl_iff, decide_eq_true_eq, decide_eq_false_iff_not]
  refine ⟨fun h0 => ⟨fun h4 => ⟨⟨h0, h4⟩, by omega, ?_⟩, fun h4 => ?_⟩, fun h0 => ?_⟩
  · have : k = 0 ∨ k = 1 ∨ k = 2 ∨ k = 3 := by omega
    rcases this with rfl | rfl | rfl | rfl <;> rfl
  · unfold lSize; rw [if_neg (by omega), if_neg (by omega)]
  · unfold lSize; rw [if_neg (by omega), if_neg (by omega)]

theorem rsize_sound : FcSound Try.prog 52 fcSize := by
  refine fc_pure TL1ok.ctx (n := 100) Try.call52 (fun args H v h => ?_)
  unfold fcSize at h
  split at h <;> cases h
  rename_i k
  refine ⟨rfl, rfl, ?_⟩
  rw [w_rsize]
  simp only [branch_iff, decide_eq_true_eq, decide_eq_false_iff_not]
  refine ⟨fun h0 => by subst h0; rfl, fun h0 => ⟨fun h1 => by subst h1; rfl, fun h1 => ?_⟩⟩
  unfold lSize; rw [if_neg h0, if_neg h1]

theorem TL2ok : TabsOk TL2 Try.prog := ((TL1ok.addFc size_sound).addFc rsize_sound)

theorem check_sound : FcSound Try.prog 47 fcCheck := by
  refine fc_pure TL2ok.ctx (n := 100) Try.call47 (fun args H v h => ?_)
  unfold fcCheck at h
  split at h <;> cases h
  rename_i k b
  refine ⟨rfl, rfl, ?_⟩
  rw [w_check]
  simp only [branch_iff, decide_eq_true_eq, decide_eq_false_iff_not, Bool.not_eq_true', Bool.not_eq_false']
  refine ⟨fun h0 => ?_, fun h0 => ⟨fun h4 => ?_, fun h4 => ⟨fun hl => ?_, fun hl => ?_⟩⟩⟩
  · rw [if_neg (by unfold lOk; simp; omega)]
  · rw [if_neg (by unfold lOk; simp; omega)]
  · rw [if_neg (by unfold lOk; simp; omega)]
  · rw [if_pos (by unfold lOk; simp; omega)]

theorem may_sound : FcSound Try.prog 35 fcMay := by
  refine fc_pure TL2ok.ctx (n := 100) Try.call35 (fun args H v h => ?_)
  unfold fcMay at h
  split at h <;> cases h
  rename_i k b
  refine ⟨rfl, rfl, ?_⟩
  rw [w_may]
  simp only [branch_iff, decide_eq_true_eq, decide_eq_false_iff_not]
  refine ⟨fun h0 => ⟨fun h3 => ?_, fun h3 => ?_⟩, fun h0 => ?_⟩
  all_goals
    congr 2
    unfold lOk
    rw [Bool.eq_iff_iff]
    simp
    try omega

theorem TLok : TabsOk TL Try.prog := ((TL2ok.addFc check_sound).addFc may_sound)

end Go.Proofs.Ytjacnjecggedhaa
