/-
  Walks, printed: what calls come to, as they are reckoned.
-/
import Derived.Test.YtcgnoegejmhgmaaMrOk2
namespace Go.Proofs.Ytcgnoegejmhgmaa
set_option linter.unusedVariables false
set_option linter.unusedSimpArgs false
open Go.RowKit Ev

set_option maxRecDepth 100000 in
theorem w_ra_a (R : RefS) (It : Env → AHeap → Prop) (K : AExit → Env → AHeap → Prop) : (wpN (TR2.ctx Try.prog) 2 200 17 3 raB (env0 [.ptr 0 0 0 0] 0) (roH R) (fun E H => canonK 3 [0, 3] E H It) K
) =  (It [(0, AVal.ptr 0 0 0 0), (3, AVal.nils)] (AHeap.mk 3 [(0, ABlk.cells 48 [AVal.sl 1 0 1 0 R.modes.length none, AVal.sl 2 0 1 0 R.came.length none, AVal.int IntKind.i64 R.last]), (1, ABlk.row 3
 (intRow IntKind.i64) R.modes RowMd.plain), (2, ABlk.row 3 (intRow IntKind.i64) R.came RowMd.plain)])) := by kernel_rfl

set_option maxRecDepth 100000 in
theorem w_ra_2 (R : RefS) (Q : AExit → Env → AHeap → Prop) : (wpC (TR2.ctx Try.prog) 200 17 3 ra2 (raE .nils) (roH R) (canQ 3 (tsA2 [0, 3, 4] []) Q)
) =  (Q AExit.normal [(0, AVal.ptr 0 0 0 0), (3, AVal.nils), (4, AVal.int IntKind.i64 (1 : Int))] (AHeap.mk 3 [(0, ABlk.cells 48 [AVal.sl 1 0 1 0 R.modes.length none, AVal.sl 2 0 1 0 R.came.length none,
 AVal.int IntKind.i64 R.last]), (1, ABlk.row 3 (intRow IntKind.i64) R.modes RowMd.plain), (2, ABlk.row 3 (intRow IntKind.i64) R.came RowMd.plain)])) := by kernel_rfl

set_option maxRecDepth 100000 in
theorem w_ra_rn (R : RefS) (m : Nat) (Q : AExit → Env → AHeap → Prop) : (wpC (TR2.ctx Try.prog) 200 17 3 raR (raE1 .nils ((m : Int) + 1)) (roH R) (canQ 3 (tsA2 [0, 3, 4] [3]) Q)
) =  (branch (decide ((↑m : Int) + (1 : Int) ≤ (28 : Int))) (∃ (hT : intRow IntKind.i64 = intRow IntKind.i64), ∃ (hT' : intRow IntKind.i64 = intRow IntKind.i64), (R.modes.length = R.modes.length ∧
 R.came.length = R.came.length) ∧ WfR (RefS.mk R.modes R.came R.last) ∧ branch (decide (rOf (RefS.mk R.modes R.came R.last) ((↑m : Int) + (1 : Int)) = [])) (obl (inI64 ((↑m : Int) + (1 : Int) + (1 :
 Int))) (Q AExit.normal [(0, AVal.ptr 0 0 0 0), (3, AVal.nils), (4, AVal.int IntKind.i64 ((↑m : Int) + (1 : Int) + (1 : Int)))] (AHeap.mk 3 [(0, ABlk.cells 48 [AVal.sl 1 0 1 0 R.modes.length none,
 AVal.sl 2 0 1 0 R.came.length none, AVal.int IntKind.i64 R.last]), (1, ABlk.row 3 (intRow IntKind.i64) R.modes RowMd.plain), (2, ABlk.row 3 (intRow IntKind.i64) R.came RowMd.plain)]))) (branch (decide
 ((0 : Int) < (↑(rOf (RefS.mk R.modes R.came R.last) ((↑m : Int) + (1 : Int))).length : Int))) (obl (inI64 ((↑m : Int) + (1 : Int) + (1 : Int))) (Q AExit.normal [(0, AVal.ptr 0 0 0 0), (3, AVal.sl 3 0
 1 0 1 none), (4, AVal.int IntKind.i64 ((↑m : Int) + (1 : Int) + (1 : Int)))] (AHeap.mk 4 [(0, ABlk.cells 48 [AVal.sl 1 0 1 0 R.modes.length none, AVal.sl 2 0 1 0 R.came.length none, AVal.int
 IntKind.i64 R.last]), (1, ABlk.row 3 (intRow IntKind.i64) R.modes RowMd.plain), (2, ABlk.row 3 (intRow IntKind.i64) R.came RowMd.plain), (3, ABlk.row 3 (intRow IntKind.i64) [(↑m : Int) + (1 : Int)]
 RowMd.plain)]))) (obl (inI64 ((↑m : Int) + (1 : Int) + (1 : Int))) (Q AExit.normal [(0, AVal.ptr 0 0 0 0), (3, AVal.nils), (4, AVal.int IntKind.i64 ((↑m : Int) + (1 : Int) + (1 : Int)))] (AHeap.mk 3
 [(0, ABlk.cells 48 [AVal.sl 1 0 1 0 R.modes.length none, AVal.sl 2 0 1 0 R.came.length none, AVal.int IntKind.i64 R.last]), (1, ABlk.row 3 (intRow IntKind.i64) R.modes RowMd.plain), (2, ABlk.row 3
 (intRow IntKind.i64) R.came RowMd.plain)]))))) (Q (AExit.exit 0) [(3, AVal.nils)] (AHeap.mk 3 [(0, ABlk.cells 48 [AVal.sl 1 0 1 0 R.modes.length none, AVal.sl 2 0 1 0 R.came.length none, AVal.int
 IntKind.i64 R.last]), (1, ABlk.row 3 (intRow IntKind.i64) R.modes RowMd.plain), (2, ABlk.row 3 (intRow IntKind.i64) R.came RowMd.plain)]))) := by kernel_rfl

set_option maxRecDepth 100000 in
theorem w_ra_rs (R : RefS) (o : List Int) (m : Nat) (Q : AExit → Env → AHeap → Prop) : (wpC (TR2.ctx Try.prog) 200 17 3 raR (raE1 (slI 3 o) ((m : Int) + 1)) (roH1 R o) (canQ 3 (tsA2 [0, 3, 4] [3]) Q)
) =  (branch (decide ((↑m : Int) + (1 : Int) ≤ (28 : Int))) (∃ (hT : intRow IntKind.i64 = intRow IntKind.i64), ∃ (hT' : intRow IntKind.i64 = intRow IntKind.i64), (R.modes.length = R.modes.length ∧
 R.came.length = R.came.length) ∧ WfR (RefS.mk R.modes R.came R.last) ∧ branch (decide (rOf (RefS.mk R.modes R.came R.last) ((↑m : Int) + (1 : Int)) = [])) (obl (inI64 ((↑m : Int) + (1 : Int) + (1 :
 Int))) (Q AExit.normal [(0, AVal.ptr 0 0 0 0), (3, AVal.sl 3 0 1 0 o.length none), (4, AVal.int IntKind.i64 ((↑m : Int) + (1 : Int) + (1 : Int)))] (AHeap.mk 4 [(0, ABlk.cells 48 [AVal.sl 1 0 1 0
 R.modes.length none, AVal.sl 2 0 1 0 R.came.length none, AVal.int IntKind.i64 R.last]), (1, ABlk.row 3 (intRow IntKind.i64) R.modes RowMd.plain), (2, ABlk.row 3 (intRow IntKind.i64) R.came
 RowMd.plain), (3, ABlk.row 3 (intRow IntKind.i64) o RowMd.plain)]))) (branch (decide ((0 : Int) < (↑(rOf (RefS.mk R.modes R.came R.last) ((↑m : Int) + (1 : Int))).length : Int))) (obl (true && decide
 (o.length = o.length ∧ 1 = 1 ∧ 1 = 1 ∧ 0 < 1 ∧ (o ++ [(↑m : Int) + (1 : Int)]).length ≤ 9223372036854775807 ∧ (o ++ [(↑m : Int) + (1 : Int)]).length * 8 ≤ 140737488355328)) (obl (inI64 ((↑m : Int) +
 (1 : Int) + (1 : Int))) (Q AExit.normal [(0, AVal.ptr 0 0 0 0), (3, AVal.sl 3 0 1 0 (o ++ [(↑m : Int) + (1 : Int)]).length none), (4, AVal.int IntKind.i64 ((↑m : Int) + (1 : Int) + (1 : Int)))]
 (AHeap.mk 4 [(0, ABlk.cells 48 [AVal.sl 1 0 1 0 R.modes.length none, AVal.sl 2 0 1 0 R.came.length none, AVal.int IntKind.i64 R.last]), (1, ABlk.row 3 (intRow IntKind.i64) R.modes RowMd.plain), (2,
 ABlk.row 3 (intRow IntKind.i64) R.came RowMd.plain), (3, ABlk.row 3 (intRow IntKind.i64) (o ++ [(↑m : Int) + (1 : Int)]) RowMd.plain)])))) (obl (inI64 ((↑m : Int) + (1 : Int) + (1 : Int))) (Q
 AExit.normal [(0, AVal.ptr 0 0 0 0), (3, AVal.sl 3 0 1 0 o.length none), (4, AVal.int IntKind.i64 ((↑m : Int) + (1 : Int) + (1 : Int)))] (AHeap.mk 4 [(0, ABlk.cells 48 [AVal.sl 1 0 1 0 R.modes.length
 none, AVal.sl 2 0 1 0 R.came.length none, AVal.int IntKind.i64 R.last]), (1, ABlk.row 3 (intRow IntKind.i64) R.modes RowMd.plain), (2, ABlk.row 3 (intRow IntKind.i64) R.came RowMd.plain), (3, ABlk.row
 3 (intRow IntKind.i64) o RowMd.plain)]))))) (Q (AExit.exit 0) [(3, AVal.sl 3 0 1 0 o.length none)] (AHeap.mk 4 [(0, ABlk.cells 48 [AVal.sl 1 0 1 0 R.modes.length none, AVal.sl 2 0 1 0 R.came.length
 none, AVal.int IntKind.i64 R.last]), (1, ABlk.row 3 (intRow IntKind.i64) R.modes RowMd.plain), (2, ABlk.row 3 (intRow IntKind.i64) R.came RowMd.plain), (3, ABlk.row 3 (intRow IntKind.i64) o
 RowMd.plain)]))) := by kernel_rfl

set_option maxRecDepth 100000 in
theorem w_ra_7n (R : RefS) (K : Out → AHeap → Prop) : (wpC (TR2.ctx Try.prog) 200 17 3 ra7 [(3, .nils)] (roH R) (canQ 3 (tsA2 [2] []) (endA (TR2.ctx Try.prog).P Try.f17 K))
) =  (K (Out.ret AVal.nils) (AHeap.mk 3 [(0, ABlk.cells 48 [AVal.sl 1 0 1 0 R.modes.length none, AVal.sl 2 0 1 0 R.came.length none, AVal.int IntKind.i64 R.last]), (1, ABlk.row 3 (intRow IntKind.i64)
 R.modes RowMd.plain), (2, ABlk.row 3 (intRow IntKind.i64) R.came RowMd.plain)])) := by kernel_rfl

set_option maxRecDepth 100000 in
theorem w_ra_7s (R : RefS) (o : List Int) (K : Out → AHeap → Prop) : (wpC (TR2.ctx Try.prog) 200 17 3 ra7 [(3, slI 3 o)] (roH1 R o) (canQ 3 (tsA2 [2] []) (endA (TR2.ctx Try.prog).P Try.f17 K))
) =  (K (Out.ret (AVal.sl 3 0 1 0 o.length none)) (AHeap.mk 4 [(0, ABlk.cells 48 [AVal.sl 1 0 1 0 R.modes.length none, AVal.sl 2 0 1 0 R.came.length none, AVal.int IntKind.i64 R.last]), (1, ABlk.row 3
 (intRow IntKind.i64) R.modes RowMd.plain), (2, ABlk.row 3 (intRow IntKind.i64) R.came RowMd.plain), (3, ABlk.row 3 (intRow IntKind.i64) o RowMd.plain)])) := by kernel_rfl

end Go.Proofs.Ytcgnoegejmhgmaa
