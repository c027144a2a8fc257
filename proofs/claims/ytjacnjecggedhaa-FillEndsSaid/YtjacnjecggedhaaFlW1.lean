/-
  Walks, printed: what calls come to, as they are reckoned.
-/
import Derived.Test.YtjacnjecggedhaaGseAll2
namespace Go.Proofs.Ytjacnjecggedhaa
set_option linter.unusedVariables false
set_option linter.unusedSimpArgs false
open Go.RowKit Ev

set_option maxRecDepth 100000 in
theorem w_works24 (K : Out → Prop) : (callC (TA.ctx Try.prog) 400 10 [] ⟨0, []⟩ (fun o _ => K o)
) = (twice (twice (twice (K (Out.ret (AVal.bool true)))))) := by kernel_rfl

end Go.Proofs.Ytjacnjecggedhaa
