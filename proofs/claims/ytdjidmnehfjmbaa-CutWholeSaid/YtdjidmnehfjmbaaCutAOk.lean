/-
  The tables with the loop of CutAgain, and the rows of the chapter.
-/
import Derived.Test.YtdjidmnehfjmbaaCutALc
import Derived.Test.YtdjidmnehfjmbaaCutKLaw
namespace Go.Proofs.Ytdjidmnehfjmbaa
set_option linter.unusedVariables false
set_option linter.unusedSimpArgs false
open Go.RowKit Ev

def fcCWorks : FC := fun args _ => match args with
  | [] => some (true, .bool true)
  | _ => none

theorem cworks_sound : FcSound Try.prog 7 fcCWorks := by
  refine fc_pure TCok.ctx (n := 100) Try.call7 (fun args H v h => ?_)
  unfold fcCWorks at h
  split at h <;> cases h
  exact ⟨rfl, rfl, by rw [w_cworks (fun o => o = .ret (.bool true))]⟩

noncomputable def TCW : Tabs := TC.addFc 7 fcCWorks
theorem TCWok : TabsOk TCW Try.prog := TCok.addFc cworks_sound
noncomputable def TCA : Tabs := TCW.addLc 3 0 lcA
theorem TCAok : TabsOk TCA Try.prog := TCWok.addLc lcA_sound

end Go.Proofs.Ytdjidmnehfjmbaa
