/-
  LabK: the laws' arguments, opened.
-/
import Derived.Test.YtgbjecgkbhknmaaLabKLaw
import Derived.Test.YtgbjecgkbhknmaaEm4
namespace Go.Proofs.Ytgbjecgkbhknmaa
set_option linter.unusedVariables false
set_option linter.unusedSimpArgs false
open Go.RowKit Ev

theorem labelKnown_raw (W : World)
 :
    Calls Try.prog 7 #[] W fun e w' => e = .returned (.bool true) ∧ Below W.heap.size W w' := by
  exact law_true TLSok.ctx (args := []) (lknown_true) rfl rho0 W

end Go.Proofs.Ytgbjecgkbhknmaa
