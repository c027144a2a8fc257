/-
  Walks, printed: what calls come to, as they are reckoned.
-/
import Derived.Test.YtofnedbclnlnmaaPduOk3
namespace Go.Proofs.Ytofnedbclnlnmaa
set_option linter.unusedVariables false
set_option linter.unusedSimpArgs false
open Go.RowKit Ev

set_option maxRecDepth 100000 in
theorem w_works (K : Out → Prop) : (callC (TP3.ctx Try.prog) 100 14 [] ⟨0, []⟩ (fun o _ => K o)
) = (obl (decide ((65531 : Nat) ≤ (repN (65531 : Nat) (0 : UInt8)).length))
  (obl
    (decide
      ((List.take (65531 : Nat) (List.drop (0 : Nat) (repN (65531 : Nat) (0 : UInt8)))).length ≤
        (9223372036854775000 : Nat)))
    (branch
      (decide
        (pErr (1 : Int) (1 : Int) [(97 : UInt8), (98 : UInt8), (99 : UInt8)]
            (↑(List.take (65531 : Nat) (List.drop (0 : Nat) (repN (65531 : Nat) (0 : UInt8)))).length : Int) =
          (3 : Int)))
      (K (Out.ret (AVal.bool true))) (K (Out.ret (AVal.bool false)))))) := by kernel_rfl

end Go.Proofs.Ytofnedbclnlnmaa
