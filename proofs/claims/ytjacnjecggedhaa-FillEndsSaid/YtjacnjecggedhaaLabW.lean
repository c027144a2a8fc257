/-
  Walks, printed: what calls come to, as they are reckoned.
-/
import Derived.Test.YtjacnjecggedhaaLabFc
namespace Go.Proofs.Ytjacnjecggedhaa
set_option linter.unusedVariables false
set_option linter.unusedSimpArgs false
open Go.RowKit Ev

set_option maxRecDepth 100000 in
theorem w_sizes (K : Out → Prop) : (callC (T0.ctx Try.prog) 100 58 [] ⟨0, []⟩ (fun o _ => K o)
) = (K
  (Out.ret
    (AVal.agg
      [AVal.int IntKind.i64 (6 : Int), AVal.int IntKind.i64 (3 : Int), AVal.int IntKind.i64 (0 : Int),
        AVal.int IntKind.i64 (0 : Int)]))) := by kernel_rfl

set_option maxRecDepth 100000 in
theorem w_size (k : Int) (K : Out → Prop) : (callC (TL1.ctx Try.prog) 100 57 [.int .i64 k] ⟨0, []⟩ (fun o _ => K o)
) = (branch (decide ((0 : Int) ≤ k))
  (branch (decide (k < (4 : Int)))
    (obl (decide ((0 : Int) ≤ k ∧ k < (4 : Int)))
      (obl (decide (k.toNat < (4 : Nat)))
        (K (Out.ret (AVal.int IntKind.i64 ([(6 : Int), (3 : Int), (0 : Int), (0 : Int)].getD k.toNat (0 : Int)))))))
    (K (Out.ret (AVal.int IntKind.i64 (0 : Int)))))
  (K (Out.ret (AVal.int IntKind.i64 (0 : Int))))) := by kernel_rfl

set_option maxRecDepth 100000 in
theorem w_rsize (k : Int) (K : Out → Prop) : (callC (TL1.ctx Try.prog) 100 52 [.int .i64 k] ⟨0, []⟩ (fun o _ => K o)
) = (branch (decide (k = (0 : Int))) (K (Out.ret (AVal.int IntKind.i64 (6 : Int))))
  (branch (decide (k = (1 : Int))) (K (Out.ret (AVal.int IntKind.i64 (3 : Int))))
    (K (Out.ret (AVal.int IntKind.i64 (0 : Int)))))) := by kernel_rfl

set_option maxRecDepth 100000 in
theorem w_check (k : Int) (b : List UInt8) (K : Out → Prop) : (callC (TL2.ctx Try.prog) 100 47 [.agg [.int .i64 k, .str b]] ⟨0, []⟩ (fun o _ => K o)
) = (branch (decide (k < (0 : Int))) (K (Out.ret (AVal.int IntKind.i64 (2 : Int))))
  (branch (decide ((4 : Int) ≤ k)) (K (Out.ret (AVal.int IntKind.i64 (2 : Int))))
    (branch (!decide ((↑b.length : Int) = lSize k)) (K (Out.ret (AVal.int IntKind.i64 (2 : Int))))
      (K (Out.ret (AVal.int IntKind.i64 (0 : Int))))))) := by kernel_rfl

set_option maxRecDepth 100000 in
theorem w_may (k : Int) (b : List UInt8) (K : Out → Prop) : (callC (TL2.ctx Try.prog) 100 35 [.agg [.int .i64 k, .str b]] ⟨0, []⟩ (fun o _ => K o)
) = (branch (decide ((0 : Int) ≤ k))
  (branch (decide (k ≤ (3 : Int))) (K (Out.ret (AVal.bool (decide ((↑b.length : Int) = lSize k)))))
    (K (Out.ret (AVal.bool false))))
  (K (Out.ret (AVal.bool false)))) := by kernel_rfl

end Go.Proofs.Ytjacnjecggedhaa
