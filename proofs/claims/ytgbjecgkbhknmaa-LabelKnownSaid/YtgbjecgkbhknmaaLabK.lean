/-
  Walks, printed: what calls come to, as they are reckoned.
-/
import Derived.Test.YtgbjecgkbhknmaaLabSOk
namespace Go.Proofs.Ytgbjecgkbhknmaa
set_option linter.unusedVariables false
set_option linter.unusedSimpArgs false
open Go.RowKit Ev

set_option maxRecDepth 100000 in
theorem w_known (K : Out → Prop) : (callC (TLS.ctx Try.prog) 100 7 [] ⟨0, []⟩ (fun o _ => K o)
) = (K (Out.ret (AVal.bool true))) := by kernel_rfl

end Go.Proofs.Ytgbjecgkbhknmaa
