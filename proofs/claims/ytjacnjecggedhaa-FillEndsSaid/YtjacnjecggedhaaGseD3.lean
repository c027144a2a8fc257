/-
  Pieces out of bytes: a body's fields, the contract.
-/
import Derived.Test.YtjacnjecggedhaaGseD2
namespace Go.Proofs.Ytjacnjecggedhaa
set_option linter.unusedVariables false
set_option linter.unusedSimpArgs false
open Go.RowKit Ev

theorem lSize_nn (k : Int) : 0 ≤ lSize k ∧ lSize k ≤ 6 := by
  unfold lSize
  split
  · omega
  · split <;> omega

set_option maxRecDepth 100000 in
theorem read_sound : GcSound Try.prog 42 (gcData gRead) := by
  refine gc_data TR3ok.ctx (n := 100) Try.call42 (fun r k h => ?_)
  unfold gRead at h
  split at h
  · rename_i st en kind b
    have hk := lSize_nn kind
    simp only [branch_iff, obl_iff, decide_eq_true_eq] at h
    obtain ⟨hb, hy, hn⟩ := h
    -- it is given up; it goes through
    have bad : rOk st en kind b = false → (Out.panic shortV).data = true ∧ k (.panic shortV) := fun h => ⟨rfl, hn h⟩
    have good : ∀ {id total typ k' : Int} {lb data sum : List UInt8}, rOk st en kind b = true → id = rId st en b → total = rTotal st en b → typ = rTyp st en b → k' = rK st kind → lb = rLb st en kind b → data = rData st en kind b → sum = rSum st en b →
        (Out.ret (.agg [.bool st, .bool en, .int .i64 id, .int .i64 total, .int .i64 typ, .int .i64 k', .str lb, .str data, .str sum])).data = true ∧ k (.ret (.agg [.bool st, .bool en, .int .i64 id, .int .i64 total, .int .i64 typ, .int .i64 k', .str lb, .str data, .str sum])) := by
      rintro _ _ _ _ _ _ _ h rfl rfl rfl rfl rfl rfl rfl
      exact ⟨rfl, hy h⟩
    cases st <;> cases en
    · rw [w_read_ff]
      simp only [branch_iff, decide_eq_true_eq, decide_eq_false_iff_not]
      refine ⟨fun hc => bad ?_, fun hc => good ?_ rfl rfl rfl rfl rfl rfl rfl⟩
      · have : b.length = 0 := by omega
        simp [rOk, rC, rB, rA, List.eq_nil_of_length_eq_zero this]
      · simp [rOk, rC, rB, rA]; omega
    · rw [w_read_ft]
      simp only [branch_iff, obl_iff, decide_eq_true_eq, decide_eq_false_iff_not, inI64_iff, List.length_drop, List.drop_drop]
      refine ⟨fun hc => bad ?_, fun hc => ⟨by omega, fun hc1 => ?_, fun hc1 => ⟨by omega, fun hc2 => bad ?_, fun hc2 => good ?_ rfl rfl rfl rfl rfl ?_ ?_⟩⟩⟩
      · simp [rOk, rC, rB, rA]; omega
      · refine bad ?_; simp [rOk, rC, rB, rA]; omega
      · simp [rOk, rC, rB, rA]; omega
      · simp [rOk, rC, rB, rA]; omega
      · simp only [rData]
        rw [if_pos (by rfl)]
        congr 1
        omega
      · simp only [rSum]
        rw [if_pos (by rfl), List.take_of_length_le (by simp; omega)]
        congr 1
        omega
    · rw [w_read_tf]
      simp only [branch_iff, obl_iff, decide_eq_true_eq, decide_eq_false_iff_not, inI64_iff, List.length_drop, List.drop_drop, w16_drop]
      refine ⟨fun hc => bad ?_, fun hc => ⟨fun hc1 => bad ?_, fun hc1 => ⟨fun hc2 => bad ?_, fun hc2 => ⟨fun hc3 => bad ?_, fun hc3 => ⟨by omega, good ?_ rfl rfl rfl rfl rfl ?_ rfl⟩⟩⟩⟩⟩
      · simp [rOk, rC, rB, rA]; omega
      · simp [rOk, rC, rB, rA]; omega
      · simp [rOk, rC, rB, rA]; omega
      · simp [rOk, rC, rB, rA]; omega
      · simp [rOk, rC, rB, rA]; omega
      · simp only [rData, rC, rB, rA]
        rw [if_neg (by decide)]
        congr 1
        simp
        try omega
    · rw [w_read_tt]
      simp only [branch_iff, obl_iff, decide_eq_true_eq, decide_eq_false_iff_not, inI64_iff, List.length_drop, List.drop_drop, w16_drop]
      refine ⟨fun hc => bad ?_, fun hc => ⟨fun hc1 => bad ?_, fun hc1 => ⟨by omega, good ?_ rfl rfl rfl rfl rfl ?_ rfl⟩⟩⟩
      · simp [rOk, rC, rB, rA]; omega
      · simp [rOk, rC, rB, rA]; omega
      · simp [rOk, rC, rB, rA]; omega
      · simp only [rData, rC, rB, rA]
        rw [if_neg (by decide)]
        congr 1
        simp
        try omega
  · exact (not_stuck h).elim

theorem TR4ok : TabsOk TR4 Try.prog := TR3ok.addGc read_sound

end Go.Proofs.Ytjacnjecggedhaa
