/-
  MbK: the laws' arguments, opened.
-/
import Derived.Test.YtcgnoegejmhgmaaMbKLaw
import Derived.Test.YtcgnoegejmhgmaaEm4
namespace Go.Proofs.Ytcgnoegejmhgmaa
set_option linter.unusedVariables false
set_option linter.unusedSimpArgs false
open Go.RowKit Ev

set_option maxRecDepth 100000 in
theorem memberKnown_raw (W : World)
 :
    Calls Try.prog 6 #[] W fun e w' => e = .returned (.bool true) ∧ Below W.heap.size W w' := by
  exact law_true TM7ok.ctx (args := []) (known_true17) rfl rho0 W

end Go.Proofs.Ytcgnoegejmhgmaa
