/-
  GseK: the laws' arguments, opened.
-/
import Derived.Test.YtcbkenicjmhkdaaGseKLaw
import Derived.Test.YtcbkenicjmhkdaaEm4
namespace Go.Proofs.Ytcbkenicjmhkdaa
set_option linter.unusedVariables false
set_option linter.unusedSimpArgs false
open Go.RowKit Ev

theorem gseKnown_raw (W : World)
 :
    Calls Try.prog 7 #[] W fun e w' => e = .returned (.bool true) ∧ Below W.heap.size W w' := by
  exact law_true TAok.ctx (args := []) (known_true8) rfl rho0 W

end Go.Proofs.Ytcbkenicjmhkdaa
