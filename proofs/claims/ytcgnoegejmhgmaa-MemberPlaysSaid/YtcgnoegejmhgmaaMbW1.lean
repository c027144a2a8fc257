/-
  Walks, printed: what calls come to, as they are reckoned.
-/
import Derived.Test.YtcgnoegejmhgmaaMbFc
namespace Go.Proofs.Ytcgnoegejmhgmaa
set_option linter.unusedVariables false
set_option linter.unusedSimpArgs false
open Go.RowKit Ev

set_option maxRecDepth 100000 in
theorem w_is (n : Int) (K : Out → Prop) : (callC (TM1.ctx Try.prog) 90 19 [.int .i64 n] ⟨0, []⟩ (fun o _ => K o)
) =  (branch (decide (n < (1 : Int))) (K (Out.ret (AVal.bool false))) (branch (decide ((28 : Int) < n)) (K (Out.ret (AVal.bool false))) (obl (decide ((0 : Int) ≤ n ∧ n < (29 : Int))) (K (Out.ret (AVal.bool
 (decide ((0 : Int) < [(0 : Int), (16008 : Int), (21408 : Int), (25728 : Int), (32208 : Int), (38688 : Int), (43040 : Int), (48408 : Int), (51648 : Int), (53840 : Int), (57472 : Int), (58192 : Int),
 (38688 : Int), (43040 : Int), (48408 : Int), (53840 : Int), (57472 : Int), (58192 : Int), (43040 : Int), (48408 : Int), (51648 : Int), (53840 : Int), (57472 : Int), (58192 : Int), (48408 : Int),
 (51648 : Int), (53840 : Int), (57472 : Int), (58192 : Int)].getD n.toNat (0 : Int))))))))) := by kernel_rfl

end Go.Proofs.Ytcgnoegejmhgmaa
