/-
  The chapter's rows: the contract.
-/
import Derived.Test.YtjacnjecggedhaaFlW1
namespace Go.Proofs.Ytjacnjecggedhaa
set_option linter.unusedVariables false
set_option linter.unusedSimpArgs false
open Go.RowKit Ev

def fcWorks24 : FC := fun args _ => match args with
  | [] => some (true, .bool true)
  | _ => none

set_option maxRecDepth 100000 in
theorem works_sound24 : FcSound Try.prog 10 fcWorks24 := by
  refine fc_pure TAok.ctx (n := 400) Try.call10 (fun args H v h => ?_)
  unfold fcWorks24 at h
  split at h <;> cases h
  refine ⟨rfl, rfl, Eq.mpr (w_works24 _) ?_⟩
  simp only [twice_iff, and_self]

noncomputable def TF : Tabs := (TA.addFc 10 fcWorks24)
theorem TFok : TabsOk TF Try.prog := (TAok.addFc works_sound24)

end Go.Proofs.Ytjacnjecggedhaa
