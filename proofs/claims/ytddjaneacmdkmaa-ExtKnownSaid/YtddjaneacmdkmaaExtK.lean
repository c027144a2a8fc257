/-
  Walks, printed: what calls come to, as they are reckoned.
-/
import Derived.Test.YtddjaneacmdkmaaExtFc
namespace Go.Proofs.Ytddjaneacmdkmaa
set_option linter.unusedVariables false
set_option linter.unusedSimpArgs false
open Go.RowKit Ev

set_option maxRecDepth 100000 in
theorem w_eknown (K : Out → Prop) : (callC (TE.ctx Try.prog) 100 7 [] ⟨0, []⟩ (fun o _ => K o)
) = (K (Out.ret (AVal.bool true))) := by kernel_rfl

end Go.Proofs.Ytddjaneacmdkmaa
