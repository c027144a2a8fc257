/-
  Walks, printed: what calls come to, as they are reckoned.
-/
import Derived.Test.YtjacnjecggedhaaFlKSt
namespace Go.Proofs.Ytjacnjecggedhaa
set_option linter.unusedVariables false
set_option linter.unusedSimpArgs false
open Go.RowKit Ev

set_option maxRecDepth 100000 in
theorem w_known_f4 (K : Out → Prop) : (wpC (TF.ctx Try.prog) 400 6 0 (tailN 8 (bodyC Try.f6)) k3E k3H (endA (TF.ctx Try.prog).P Try.f6 (fun o _ => K o))
) = (K (Out.ret (AVal.bool true))) := by kernel_rfl

end Go.Proofs.Ytjacnjecggedhaa
