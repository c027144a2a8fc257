/-
  ExtK: the laws' arguments, opened.
-/
import Derived.Test.YtddjaneacmdkmaaExtKLaw
import Derived.Test.YtddjaneacmdkmaaEm4
namespace Go.Proofs.Ytddjaneacmdkmaa
set_option linter.unusedVariables false
set_option linter.unusedSimpArgs false
open Go.RowKit Ev

theorem extKnown_raw (W : World)
 :
    Calls Try.prog 7 #[] W fun e w' => e = .returned (.bool true) ∧ Below W.heap.size W w' := by
  exact law_true TEok.ctx (args := []) (eknown_true) rfl rho0 W

end Go.Proofs.Ytddjaneacmdkmaa
