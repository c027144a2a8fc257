/-
  The chapter's rows.
-/
import Derived.Test.YtofnedbclnlnmaaPduW4
namespace Go.Proofs.Ytofnedbclnlnmaa
set_option linter.unusedVariables false
set_option linter.unusedSimpArgs false
open Go.RowKit Ev

def fcWorks : FC := fun args _ => match args with
  | [] => some (true, .bool true)
  | _ => none

theorem works_sound : FcSound Try.prog 14 fcWorks := by
  refine fc_pure TP3ok.ctx (n := 100) Try.call14 (fun args H v h => ?_)
  unfold fcWorks at h
  split at h <;> cases h
  refine ⟨rfl, rfl, ?_⟩
  rw [w_works]
  have e : (List.take (65531 : Nat) (List.drop (0 : Nat) (repN (65531 : Nat) (0 : UInt8)))).length = 65531 := by
    rw [repN_eq, List.drop_zero, List.length_take, List.length_replicate]; rfl
  simp only [obl_iff, branch_iff, decide_eq_true_eq, decide_eq_false_iff_not, e]
  refine ⟨by rw [repN_eq, List.length_replicate]; exact Nat.le_refl _, by decide, fun _ => trivial, fun h => absurd ?_ h⟩
  exact pErr_3 (by decide) (by decide)

noncomputable def TP4 : Tabs := TP3.addFc 14 fcWorks
theorem TP4ok : TabsOk TP4 Try.prog := TP3ok.addFc works_sound

end Go.Proofs.Ytofnedbclnlnmaa
