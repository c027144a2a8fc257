/-
  CutKnown: it is true.
-/
import Derived.Test.YtdjidmnehfjmbaaCutK
namespace Go.Proofs.Ytdjidmnehfjmbaa
set_option linter.unusedVariables false
set_option linter.unusedSimpArgs false
open Go.RowKit Ev

theorem nextR_bad {typ k : Int} {b data : List UInt8} {at_ id lk : Int} {lb : List UInt8} {space : Int} {whole : Bool} (h : nOk typ k b data at_ id lk lb = false) : nextR typ k b data at_ id lk lb space whole = ⟨false, false, 0, 0, 0, 0, [], [], [], k, b, at_, 2⟩ := by
  unfold nextR; rw [if_pos h]

theorem cknown_true : LawT (TC.ctx Try.prog) 4 [] := by
  refine ⟨?_⟩
  rw [w_cknown (fun o => o = .ret (.bool true))]
  have l1 : (List.take 65520 (List.drop 0 (repN 65520 (0 : UInt8)))).length = 65520 := by rw [repN_eq, List.drop_zero, List.length_take, List.length_replicate]; rfl
  have l2 : (List.take 5000 (List.drop 0 (repN 5000 (0 : UInt8)))).length = 5000 := by rw [repN_eq, List.drop_zero, List.length_take, List.length_replicate]; rfl
  have l3 : (repN 65520 (0 : UInt8)).length = 65520 := by rw [repN_eq, List.length_replicate]
  have l4 : (repN 5000 (0 : UInt8)).length = 5000 := by rw [repN_eq, List.length_replicate]
  generalize List.take 65520 (List.drop 0 (repN 65520 (0 : UInt8))) = d1 at l1 ⊢
  generalize List.take 5000 (List.drop 0 (repN 5000 (0 : UInt8))) = d2 at l2 ⊢
  have e1 : nextR 0 2 [] d1 0 0 2 [] 100 false = ⟨false, false, 0, 0, 0, 0, [], [], [], 2, [], 0, 2⟩ := nextR_bad (by unfold nOk cMay; rw [l1]; rfl)
  have e2 : nextR 0 2 [] d2 0 0 2 [] 1099511627776 false = ⟨true, false, 0, pTotal 2 [] 5000, 0, 2, [], d2.take 4090, [], 2, [], 4090, 0⟩ := by
    unfold nextR nOk cMay
    rw [l2]
    rfl
  rw [e1, e2]
  simp [obl_iff, branch, l2, l3, l4, obl]

end Go.Proofs.Ytdjidmnehfjmbaa
