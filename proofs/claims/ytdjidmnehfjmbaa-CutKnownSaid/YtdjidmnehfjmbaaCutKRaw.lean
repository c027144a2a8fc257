/-
  CutK: the laws' arguments, opened.
-/
import Derived.Test.YtdjidmnehfjmbaaCutKLaw
import Derived.Test.YtdjidmnehfjmbaaEm4
namespace Go.Proofs.Ytdjidmnehfjmbaa
set_option linter.unusedVariables false
set_option linter.unusedSimpArgs false
open Go.RowKit Ev

theorem cutKnown_raw (W : World)
 :
    Calls Try.prog 4 #[] W fun e w' => e = .returned (.bool true) ∧ Below W.heap.size W w' := by
  exact law_true TCok.ctx (args := []) (cknown_true) rfl rho0 W

end Go.Proofs.Ytdjidmnehfjmbaa
