/-
  Walks, printed: what calls come to, as they are reckoned.
-/
import Derived.Test.YtofnedbclnlnmaaPduOk2
namespace Go.Proofs.Ytofnedbclnlnmaa
set_option linter.unusedVariables false
set_option linter.unusedSimpArgs false
open Go.RowKit Ev

set_option maxRecDepth 100000 in
theorem w_right (total typ k : Int) (b data sum : List UInt8) (K : Out → Prop) : (callC (TP2.ctx Try.prog) 100 16 [.int .i64 total, .int .i64 typ, .agg [.int .i64 k, .str b], .str data, .str sum] ⟨0, []⟩ (fun o _ => K o)
) = (obl (decide (data.length ≤ (9223372036854775000 : Nat)))
  (branch (!decide (pErr typ k b (↑data.length : Int) = (0 : Int)))
    (K (Out.ret (AVal.int IntKind.i64 (pErr typ k b (↑data.length : Int)))))
    (branch (!decide (total = pTotal k b (↑data.length : Int))) (K (Out.ret (AVal.int IntKind.i64 (4 : Int))))
      (branch (!decide ((↑sum.length : Int) = (4 : Int))) (K (Out.ret (AVal.int IntKind.i64 (10 : Int))))
        (branch
          (!(decide
                ((if decide ((0 : Nat) < (pSum typ k b data).length) = true then
                    (↑((pSum typ k b data).getD (0 : Nat) (0 : UInt8)).toNat : Int)
                  else (0 : Int)) =
                  if decide ((0 : Nat) < sum.length) = true then (↑(sum.getD (0 : Nat) (0 : UInt8)).toNat : Int)
                  else (0 : Int)) &&
              (decide
                  ((if decide ((1 : Nat) < (pSum typ k b data).length) = true then
                      (↑((pSum typ k b data).getD (1 : Nat) (0 : UInt8)).toNat : Int)
                    else (0 : Int)) =
                    if decide ((1 : Nat) < sum.length) = true then (↑(sum.getD (1 : Nat) (0 : UInt8)).toNat : Int)
                    else (0 : Int)) &&
                (decide
                    ((if decide ((2 : Nat) < (pSum typ k b data).length) = true then
                        (↑((pSum typ k b data).getD (2 : Nat) (0 : UInt8)).toNat : Int)
                      else (0 : Int)) =
                      if decide ((2 : Nat) < sum.length) = true then (↑(sum.getD (2 : Nat) (0 : UInt8)).toNat : Int)
                      else (0 : Int)) &&
                  (decide
                      ((if decide ((3 : Nat) < (pSum typ k b data).length) = true then
                          (↑((pSum typ k b data).getD (3 : Nat) (0 : UInt8)).toNat : Int)
                        else (0 : Int)) =
                        if decide ((3 : Nat) < sum.length) = true then (↑(sum.getD (3 : Nat) (0 : UInt8)).toNat : Int)
                        else (0 : Int)) &&
                    true)))))
          (K (Out.ret (AVal.int IntKind.i64 (10 : Int))))
          (K (Out.ret (AVal.int IntKind.i64 (0 : Int))))))))) := by kernel_rfl

set_option maxRecDepth 100000 in
theorem w_rright (total typ k : Int) (b data sum : List UInt8) (K : Out → Prop) : (callC (TP2.ctx Try.prog) 100 17 [.int .i64 total, .int .i64 typ, .agg [.int .i64 k, .str b], .str data, .str sum] ⟨0, []⟩ (fun o _ => K o)
) = (obl (decide (data.length ≤ (9223372036854775000 : Nat)))
  (branch (!decide (pErr typ k b (↑data.length : Int) = (0 : Int)))
    (K (Out.ret (AVal.int IntKind.i64 (pErr typ k b (↑data.length : Int)))))
    (branch (!decide (total = pTotal k b (↑data.length : Int))) (K (Out.ret (AVal.int IntKind.i64 (4 : Int))))
      (branch (!decide (sum = pSum typ k b data)) (K (Out.ret (AVal.int IntKind.i64 (10 : Int))))
        (K (Out.ret (AVal.int IntKind.i64 (0 : Int)))))))) := by kernel_rfl

end Go.Proofs.Ytofnedbclnlnmaa
