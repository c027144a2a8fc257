/-
  The closed law of pieces.
-/
import Derived.Test.YtcbkenicjmhkdaaGseK
namespace Go.Proofs.Ytcbkenicjmhkdaa
set_option linter.unusedVariables false
set_option linter.unusedSimpArgs false
open Go.RowKit Ev

theorem known_gse {Z : List UInt8} : gMay true true 0 0 1 3 [] [] = true ∧ gBody true true 0 0 1 [] Z [] = two 1 ++ Z := by
  constructor
  · decide
  · simp [gBody]

theorem known_true8 : LawT (TA.ctx Try.prog) 7 [] := by
  refine ⟨?_⟩
  rw [w_known8]
  have r : (repN 4093 (0 : UInt8)).length = 4093 := by rw [repN_eq, List.length_replicate]
  have hx : ((repN 4093 (0 : UInt8)).drop 0).take 4093 = repN 4093 (0 : UInt8) := by
    rw [List.drop_zero, List.take_of_length_le (by omega)]
  rw [hx]
  generalize repN 4093 (0 : UInt8) = Z at r
  obtain ⟨m1, m2⟩ := known_gse (Z := Z)
  obtain ⟨_, m3⟩ := known_gse (Z := Z ++ [120])
  have t1 : two 1 = [0, 1] := by decide
  have hl : (two 1 ++ Z).length = 4095 := by rw [t1, List.length_append, r]; rfl
  have hl2 : (two 1 ++ (Z ++ [120])).length = 4096 := by rw [t1, List.length_append, List.length_append, r]; rfl
  have e0 : gErr true true 0 0 1 3 [] Z [] = 0 := by unfold gErr; rw [m1, m2, hl]; rfl
  have e3 : gErr true true 0 0 1 3 [] (Z ++ [120]) [] = 3 := by unfold gErr; rw [m1, m3, hl2]; rfl
  have hh : two (gHead true true 3 4095) = [255, 255] := by decide
  have en : gEnc true true 0 0 1 3 [] Z [] = [255, 255, 0, 1] ++ Z := by
    unfold gEnc
    rw [if_pos e0, m2, hl, hh, t1]
    rfl
  rw [e0, e3, en]
  simp only [obl_iff, branch_iff, decide_eq_true_eq, decide_eq_false_iff_not, List.length_append, r]
  (repeat' (first | apply And.intro | intro _)) <;> first | omega | trivial | (rename_i h; exact absurd trivial h) | (rename_i h; exact absurd rfl h) | simp

end Go.Proofs.Ytcbkenicjmhkdaa
