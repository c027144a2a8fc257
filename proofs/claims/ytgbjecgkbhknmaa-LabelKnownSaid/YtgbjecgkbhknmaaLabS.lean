/-
  Walks, printed: what calls come to, as they are reckoned.
-/
import Derived.Test.YtgbjecgkbhknmaaLabOk
namespace Go.Proofs.Ytgbjecgkbhknmaa
set_option linter.unusedVariables false
set_option linter.unusedSimpArgs false
open Go.RowKit Ev

set_option maxRecDepth 100000 in
theorem w_same (k k2 : Int) (b b2 : List UInt8) (K : Out → Prop) : (callC (TL.ctx Try.prog) 100 16 [.agg [.int .i64 k, .str b], .agg [.int .i64 k2, .str b2]] ⟨0, []⟩ (fun o _ => K o)
) = (branch (decide (k = k2) && (decide (b = b2) && true))
  (K (Out.ret (AVal.bool (decide ((if lOk k b = true then (0 : Int) else (2 : Int)) = (0 : Int))))))
  (K (Out.ret (AVal.bool false)))) := by kernel_rfl

end Go.Proofs.Ytgbjecgkbhknmaa
