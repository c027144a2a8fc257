/-
  Walks, printed: what calls come to, as they are reckoned.
-/
import Derived.Test.YtcgnoegejmhgmaaMrOk1
namespace Go.Proofs.Ytcgnoegejmhgmaa
set_option linter.unusedVariables false
set_option linter.unusedSimpArgs false
open Go.RowKit Ev

set_option maxRecDepth 100000 in
theorem w_rmove (R : RefS) (t m : Int) (K : Out → AHeap → Prop) : (wpC (TR1.ctx Try.prog) 90 14 3 rvB (env0 [.ptr 0 0 0 0, .int .i64 t, .int .i64 m] 0) ⟨3, refH R⟩ (canQ 3 tsMv (endA (TR1.ctx Try.prog).P Try.f14 K))
) =  (∃ (hT : intRow IntKind.i64 = intRow IntKind.i64), ∃ (hT' : intRow IntKind.i64 = intRow IntKind.i64), (R.modes.length = R.modes.length ∧ R.came.length = R.came.length) ∧ WfR (RefS.mk R.modes R.came
 R.last) ∧ branch (decide (modeM (modesOf (RefS.mk R.modes R.came R.last)) t = (0 : Int))) (K (Out.ret (AVal.int IntKind.i64 (9 : Int))) (AHeap.mk 3 [(0, ABlk.cells 48 [AVal.sl 1 0 1 0 R.modes.length
 none, AVal.sl 2 0 1 0 R.came.length none, AVal.int IntKind.i64 R.last]), (1, ABlk.row 3 (intRow IntKind.i64) R.modes RowMd.plain), (2, ABlk.row 3 (intRow IntKind.i64) R.came RowMd.plain)])) (branch
 (decide (m < (1 : Int))) (K (Out.ret (AVal.int IntKind.i64 (15 : Int))) (AHeap.mk 3 [(0, ABlk.cells 48 [AVal.sl 1 0 1 0 R.modes.length none, AVal.sl 2 0 1 0 R.came.length none, AVal.int IntKind.i64
 R.last]), (1, ABlk.row 3 (intRow IntKind.i64) R.modes RowMd.plain), (2, ABlk.row 3 (intRow IntKind.i64) R.came RowMd.plain)])) (branch (decide ((28 : Int) < m)) (K (Out.ret (AVal.int IntKind.i64 (15 :
 Int))) (AHeap.mk 3 [(0, ABlk.cells 48 [AVal.sl 1 0 1 0 R.modes.length none, AVal.sl 2 0 1 0 R.came.length none, AVal.int IntKind.i64 R.last]), (1, ABlk.row 3 (intRow IntKind.i64) R.modes RowMd.plain),
 (2, ABlk.row 3 (intRow IntKind.i64) R.came RowMd.plain)])) (obl (decide ((0 : Int) ≤ t ∧ t < (↑R.modes.length : Int))) (obl (decide (0 + t.toNat < R.modes.length)) (branch (!decide (R.modes.getD (0 +
 t.toNat) (0 : Int) = m)) (obl (inI64 (R.last + (1 : Int))) (obl (decide ((0 : Int) ≤ t ∧ t < (↑R.modes.length : Int))) (obl (decide (0 + t.toNat < R.modes.length) && true) (obl (decide ((0 : Int) ≤ t
 ∧ t < (↑R.came.length : Int))) (obl (decide (0 + t.toNat < R.came.length) && true) (K (Out.ret (AVal.int IntKind.i64 (0 : Int))) (AHeap.mk 3 [(0, ABlk.cells 48 [AVal.sl 1 0 1 0 R.modes.length none,
 AVal.sl 2 0 1 0 R.came.length none, AVal.int IntKind.i64 (R.last + (1 : Int))]), (1, ABlk.row 3 (intRow IntKind.i64) (R.modes.set (0 + t.toNat) m) RowMd.plain), (2, ABlk.row 3 (intRow IntKind.i64)
 (R.came.set (0 + t.toNat) (R.last + (1 : Int))) RowMd.plain)]))))))) (K (Out.ret (AVal.int IntKind.i64 (0 : Int))) (AHeap.mk 3 [(0, ABlk.cells 48 [AVal.sl 1 0 1 0 R.modes.length none, AVal.sl 2 0 1 0
 R.came.length none, AVal.int IntKind.i64 R.last]), (1, ABlk.row 3 (intRow IntKind.i64) R.modes RowMd.plain), (2, ABlk.row 3 (intRow IntKind.i64) R.came RowMd.plain)])))))))) := by kernel_rfl

set_option maxRecDepth 100000 in
theorem w_ro_a (R : RefS) (k : Int) (It : Env → AHeap → Prop) (K : AExit → Env → AHeap → Prop) : (wpN (TR1.ctx Try.prog) 2 200 18 3 roB (env0 [.ptr 0 0 0 0, .int .i64 k] 0) (roH R) (fun E H => canonK 3 [0, 1, 5] E H It) K
) =  (It [(0, AVal.ptr 0 0 0 0), (1, AVal.int IntKind.i64 k), (5, AVal.nils)] (AHeap.mk 3 [(0, ABlk.cells 48 [AVal.sl 1 0 1 0 R.modes.length none, AVal.sl 2 0 1 0 R.came.length none, AVal.int IntKind.i64
 R.last]), (1, ABlk.row 3 (intRow IntKind.i64) R.modes RowMd.plain), (2, ABlk.row 3 (intRow IntKind.i64) R.came RowMd.plain)])) := by kernel_rfl

set_option maxRecDepth 100000 in
theorem w_ro_2 (R : RefS) (k : Int) (Q : AExit → Env → AHeap → Prop) : (wpC (TR1.ctx Try.prog) 200 18 3 ro2 (roE k .nils) (roH R) (canQ 3 (tsR [0, 1, 5, 6] []) Q)
) =  (Q AExit.normal [(0, AVal.ptr 0 0 0 0), (1, AVal.int IntKind.i64 k), (5, AVal.nils), (6, AVal.int IntKind.i64 (1 : Int))] (AHeap.mk 3 [(0, ABlk.cells 48 [AVal.sl 1 0 1 0 R.modes.length none, AVal.sl 2
 0 1 0 R.came.length none, AVal.int IntKind.i64 R.last]), (1, ABlk.row 3 (intRow IntKind.i64) R.modes RowMd.plain), (2, ABlk.row 3 (intRow IntKind.i64) R.came RowMd.plain)])) := by kernel_rfl

set_option maxRecDepth 100000 in
theorem w_ro_3n (R : RefS) (k : Int) (c : Nat) (Q : AExit → Env → AHeap → Prop) : (wpC (TR1.ctx Try.prog) 200 18 3 ro3 (roE1 k .nils ((c : Int) + 1)) (roH R) (canQ 3 (tsR [0, 1, 5, 6] [5]) Q)
) =  (branch (decide ((↑c : Int) + (1 : Int) ≤ R.last)) (Q AExit.normal [(0, AVal.ptr 0 0 0 0), (1, AVal.int IntKind.i64 k), (5, AVal.nils), (6, AVal.int IntKind.i64 ((↑c : Int) + (1 : Int)))] (AHeap.mk 3
 [(0, ABlk.cells 48 [AVal.sl 1 0 1 0 R.modes.length none, AVal.sl 2 0 1 0 R.came.length none, AVal.int IntKind.i64 R.last]), (1, ABlk.row 3 (intRow IntKind.i64) R.modes RowMd.plain), (2, ABlk.row 3
 (intRow IntKind.i64) R.came RowMd.plain)])) (Q (AExit.exit 0) [(5, AVal.nils)] (AHeap.mk 3 [(0, ABlk.cells 48 [AVal.sl 1 0 1 0 R.modes.length none, AVal.sl 2 0 1 0 R.came.length none, AVal.int
 IntKind.i64 R.last]), (1, ABlk.row 3 (intRow IntKind.i64) R.modes RowMd.plain), (2, ABlk.row 3 (intRow IntKind.i64) R.came RowMd.plain)]))) := by kernel_rfl

set_option maxRecDepth 100000 in
theorem w_ro_5n (R : RefS) (k : Int) (c : Nat) (Q : AExit → Env → AHeap → Prop) : (wpC (TR1.ctx Try.prog) 200 18 3 ro5 (roE1 k .nils ((c : Int) + 1)) (roH R) (canQ 3 (tsR [0, 1, 5, 6, 7] []) Q)
) =  (Q AExit.normal [(0, AVal.ptr 0 0 0 0), (1, AVal.int IntKind.i64 k), (5, AVal.nils), (6, AVal.int IntKind.i64 ((↑c : Int) + (1 : Int))), (7, AVal.int IntKind.i64 (0 : Int))] (AHeap.mk 3 [(0,
 ABlk.cells 48 [AVal.sl 1 0 1 0 R.modes.length none, AVal.sl 2 0 1 0 R.came.length none, AVal.int IntKind.i64 R.last]), (1, ABlk.row 3 (intRow IntKind.i64) R.modes RowMd.plain), (2, ABlk.row 3 (intRow
 IntKind.i64) R.came RowMd.plain)])) := by kernel_rfl

set_option maxRecDepth 100000 in
theorem w_ro_rn (R : RefS) (k : Int) (c i : Nat) (Q : AExit → Env → AHeap → Prop) : (wpC (TR1.ctx Try.prog) 200 18 3 roR2 (roE2 k .nils ((c : Int) + 1) (i : Int)) (roH R) (canQ 3 (tsR [0, 1, 5, 6, 7] [0, 1, 5, 6]) Q)
) =  (branch (decide ((↑i : Int) < (↑R.modes.length : Int))) (obl (decide ((0 : Int) ≤ (↑i : Int) ∧ (↑i : Int) < (↑R.modes.length : Int))) (obl (decide (0 + (↑i : Int).toNat < R.modes.length)) (branch
 (decide (R.modes.getD (0 + (↑i : Int).toNat) (0 : Int) = k)) (obl (decide ((0 : Int) ≤ (↑i : Int) ∧ (↑i : Int) < (↑R.came.length : Int))) (obl (decide (0 + (↑i : Int).toNat < R.came.length)) (branch
 (decide (R.came.getD (0 + (↑i : Int).toNat) (0 : Int) = (↑c : Int) + (1 : Int))) (obl (inI64 ((↑i : Int) + (1 : Int))) (Q AExit.normal [(0, AVal.ptr 0 0 0 0), (1, AVal.int IntKind.i64 k), (5, AVal.sl
 3 0 1 0 1 none), (6, AVal.int IntKind.i64 ((↑c : Int) + (1 : Int))), (7, AVal.int IntKind.i64 ((↑i : Int) + (1 : Int)))] (AHeap.mk 4 [(0, ABlk.cells 48 [AVal.sl 1 0 1 0 R.modes.length none, AVal.sl 2
 0 1 0 R.came.length none, AVal.int IntKind.i64 R.last]), (1, ABlk.row 3 (intRow IntKind.i64) R.modes RowMd.plain), (2, ABlk.row 3 (intRow IntKind.i64) R.came RowMd.plain), (3, ABlk.row 3 (intRow
 IntKind.i64) [(↑i : Int)] RowMd.plain)]))) (obl (inI64 ((↑i : Int) + (1 : Int))) (Q AExit.normal [(0, AVal.ptr 0 0 0 0), (1, AVal.int IntKind.i64 k), (5, AVal.nils), (6, AVal.int IntKind.i64 ((↑c :
 Int) + (1 : Int))), (7, AVal.int IntKind.i64 ((↑i : Int) + (1 : Int)))] (AHeap.mk 3 [(0, ABlk.cells 48 [AVal.sl 1 0 1 0 R.modes.length none, AVal.sl 2 0 1 0 R.came.length none, AVal.int IntKind.i64
 R.last]), (1, ABlk.row 3 (intRow IntKind.i64) R.modes RowMd.plain), (2, ABlk.row 3 (intRow IntKind.i64) R.came RowMd.plain)])))))) (obl (inI64 ((↑i : Int) + (1 : Int))) (Q AExit.normal [(0, AVal.ptr 0
 0 0 0), (1, AVal.int IntKind.i64 k), (5, AVal.nils), (6, AVal.int IntKind.i64 ((↑c : Int) + (1 : Int))), (7, AVal.int IntKind.i64 ((↑i : Int) + (1 : Int)))] (AHeap.mk 3 [(0, ABlk.cells 48 [AVal.sl 1 0
 1 0 R.modes.length none, AVal.sl 2 0 1 0 R.came.length none, AVal.int IntKind.i64 R.last]), (1, ABlk.row 3 (intRow IntKind.i64) R.modes RowMd.plain), (2, ABlk.row 3 (intRow IntKind.i64) R.came
 RowMd.plain)])))))) (Q (AExit.exit 2) [(0, AVal.ptr 0 0 0 0), (1, AVal.int IntKind.i64 k), (5, AVal.nils), (6, AVal.int IntKind.i64 ((↑c : Int) + (1 : Int)))] (AHeap.mk 3 [(0, ABlk.cells 48 [AVal.sl 1
 0 1 0 R.modes.length none, AVal.sl 2 0 1 0 R.came.length none, AVal.int IntKind.i64 R.last]), (1, ABlk.row 3 (intRow IntKind.i64) R.modes RowMd.plain), (2, ABlk.row 3 (intRow IntKind.i64) R.came
 RowMd.plain)]))) := by kernel_rfl

set_option maxRecDepth 100000 in
theorem w_ro_4n (R : RefS) (k : Int) (c : Nat) (Q : AExit → Env → AHeap → Prop) : (wpC (TR1.ctx Try.prog) 200 18 3 ro4 (roE1 k .nils ((c : Int) + 1)) (roH R) (canQ 3 (tsR [0, 1, 5, 6] []) Q)
) =  (obl (inI64 ((↑c : Int) + (1 : Int) + (1 : Int))) (Q AExit.normal [(0, AVal.ptr 0 0 0 0), (1, AVal.int IntKind.i64 k), (5, AVal.nils), (6, AVal.int IntKind.i64 ((↑c : Int) + (1 : Int) + (1 : Int)))]
 (AHeap.mk 3 [(0, ABlk.cells 48 [AVal.sl 1 0 1 0 R.modes.length none, AVal.sl 2 0 1 0 R.came.length none, AVal.int IntKind.i64 R.last]), (1, ABlk.row 3 (intRow IntKind.i64) R.modes RowMd.plain), (2,
 ABlk.row 3 (intRow IntKind.i64) R.came RowMd.plain)]))) := by kernel_rfl

set_option maxRecDepth 100000 in
theorem w_ro_3s (R : RefS) (k : Int) (o : List Int) (c : Nat) (Q : AExit → Env → AHeap → Prop) : (wpC (TR1.ctx Try.prog) 200 18 3 ro3 (roE1 k (slI 3 o) ((c : Int) + 1)) (roH1 R o) (canQ 3 (tsR [0, 1, 5, 6] [5]) Q)
) =  (branch (decide ((↑c : Int) + (1 : Int) ≤ R.last)) (Q AExit.normal [(0, AVal.ptr 0 0 0 0), (1, AVal.int IntKind.i64 k), (5, AVal.sl 3 0 1 0 o.length none), (6, AVal.int IntKind.i64 ((↑c : Int) + (1 :
 Int)))] (AHeap.mk 4 [(0, ABlk.cells 48 [AVal.sl 1 0 1 0 R.modes.length none, AVal.sl 2 0 1 0 R.came.length none, AVal.int IntKind.i64 R.last]), (1, ABlk.row 3 (intRow IntKind.i64) R.modes
 RowMd.plain), (2, ABlk.row 3 (intRow IntKind.i64) R.came RowMd.plain), (3, ABlk.row 3 (intRow IntKind.i64) o RowMd.plain)])) (Q (AExit.exit 0) [(5, AVal.sl 3 0 1 0 o.length none)] (AHeap.mk 4 [(0,
 ABlk.cells 48 [AVal.sl 1 0 1 0 R.modes.length none, AVal.sl 2 0 1 0 R.came.length none, AVal.int IntKind.i64 R.last]), (1, ABlk.row 3 (intRow IntKind.i64) R.modes RowMd.plain), (2, ABlk.row 3 (intRow
 IntKind.i64) R.came RowMd.plain), (3, ABlk.row 3 (intRow IntKind.i64) o RowMd.plain)]))) := by kernel_rfl

set_option maxRecDepth 100000 in
theorem w_ro_5s (R : RefS) (k : Int) (o : List Int) (c : Nat) (Q : AExit → Env → AHeap → Prop) : (wpC (TR1.ctx Try.prog) 200 18 3 ro5 (roE1 k (slI 3 o) ((c : Int) + 1)) (roH1 R o) (canQ 3 (tsR [0, 1, 5, 6, 7] []) Q)
) =  (Q AExit.normal [(0, AVal.ptr 0 0 0 0), (1, AVal.int IntKind.i64 k), (5, AVal.sl 3 0 1 0 o.length none), (6, AVal.int IntKind.i64 ((↑c : Int) + (1 : Int))), (7, AVal.int IntKind.i64 (0 : Int))]
 (AHeap.mk 4 [(0, ABlk.cells 48 [AVal.sl 1 0 1 0 R.modes.length none, AVal.sl 2 0 1 0 R.came.length none, AVal.int IntKind.i64 R.last]), (1, ABlk.row 3 (intRow IntKind.i64) R.modes RowMd.plain), (2,
 ABlk.row 3 (intRow IntKind.i64) R.came RowMd.plain), (3, ABlk.row 3 (intRow IntKind.i64) o RowMd.plain)])) := by kernel_rfl

set_option maxRecDepth 100000 in
theorem w_ro_rs (R : RefS) (k : Int) (o : List Int) (c i : Nat) (Q : AExit → Env → AHeap → Prop) : (wpC (TR1.ctx Try.prog) 200 18 3 roR2 (roE2 k (slI 3 o) ((c : Int) + 1) (i : Int)) (roH1 R o) (canQ 3 (tsR [0, 1, 5, 6, 7] [0, 1, 5, 6]) Q)
) =  (branch (decide ((↑i : Int) < (↑R.modes.length : Int))) (obl (decide ((0 : Int) ≤ (↑i : Int) ∧ (↑i : Int) < (↑R.modes.length : Int))) (obl (decide (0 + (↑i : Int).toNat < R.modes.length)) (branch
 (decide (R.modes.getD (0 + (↑i : Int).toNat) (0 : Int) = k)) (obl (decide ((0 : Int) ≤ (↑i : Int) ∧ (↑i : Int) < (↑R.came.length : Int))) (obl (decide (0 + (↑i : Int).toNat < R.came.length)) (branch
 (decide (R.came.getD (0 + (↑i : Int).toNat) (0 : Int) = (↑c : Int) + (1 : Int))) (obl (true && decide (o.length = o.length ∧ 1 = 1 ∧ 1 = 1 ∧ 0 < 1 ∧ (o ++ [(↑i : Int)]).length ≤ 9223372036854775807 ∧
 (o ++ [(↑i : Int)]).length * 8 ≤ 140737488355328)) (obl (inI64 ((↑i : Int) + (1 : Int))) (Q AExit.normal [(0, AVal.ptr 0 0 0 0), (1, AVal.int IntKind.i64 k), (5, AVal.sl 3 0 1 0 (o ++ [(↑i :
 Int)]).length none), (6, AVal.int IntKind.i64 ((↑c : Int) + (1 : Int))), (7, AVal.int IntKind.i64 ((↑i : Int) + (1 : Int)))] (AHeap.mk 4 [(0, ABlk.cells 48 [AVal.sl 1 0 1 0 R.modes.length none,
 AVal.sl 2 0 1 0 R.came.length none, AVal.int IntKind.i64 R.last]), (1, ABlk.row 3 (intRow IntKind.i64) R.modes RowMd.plain), (2, ABlk.row 3 (intRow IntKind.i64) R.came RowMd.plain), (3, ABlk.row 3
 (intRow IntKind.i64) (o ++ [(↑i : Int)]) RowMd.plain)])))) (obl (inI64 ((↑i : Int) + (1 : Int))) (Q AExit.normal [(0, AVal.ptr 0 0 0 0), (1, AVal.int IntKind.i64 k), (5, AVal.sl 3 0 1 0 o.length
 none), (6, AVal.int IntKind.i64 ((↑c : Int) + (1 : Int))), (7, AVal.int IntKind.i64 ((↑i : Int) + (1 : Int)))] (AHeap.mk 4 [(0, ABlk.cells 48 [AVal.sl 1 0 1 0 R.modes.length none, AVal.sl 2 0 1 0
 R.came.length none, AVal.int IntKind.i64 R.last]), (1, ABlk.row 3 (intRow IntKind.i64) R.modes RowMd.plain), (2, ABlk.row 3 (intRow IntKind.i64) R.came RowMd.plain), (3, ABlk.row 3 (intRow
 IntKind.i64) o RowMd.plain)])))))) (obl (inI64 ((↑i : Int) + (1 : Int))) (Q AExit.normal [(0, AVal.ptr 0 0 0 0), (1, AVal.int IntKind.i64 k), (5, AVal.sl 3 0 1 0 o.length none), (6, AVal.int
 IntKind.i64 ((↑c : Int) + (1 : Int))), (7, AVal.int IntKind.i64 ((↑i : Int) + (1 : Int)))] (AHeap.mk 4 [(0, ABlk.cells 48 [AVal.sl 1 0 1 0 R.modes.length none, AVal.sl 2 0 1 0 R.came.length none,
 AVal.int IntKind.i64 R.last]), (1, ABlk.row 3 (intRow IntKind.i64) R.modes RowMd.plain), (2, ABlk.row 3 (intRow IntKind.i64) R.came RowMd.plain), (3, ABlk.row 3 (intRow IntKind.i64) o
 RowMd.plain)])))))) (Q (AExit.exit 2) [(0, AVal.ptr 0 0 0 0), (1, AVal.int IntKind.i64 k), (5, AVal.sl 3 0 1 0 o.length none), (6, AVal.int IntKind.i64 ((↑c : Int) + (1 : Int)))] (AHeap.mk 4 [(0,
 ABlk.cells 48 [AVal.sl 1 0 1 0 R.modes.length none, AVal.sl 2 0 1 0 R.came.length none, AVal.int IntKind.i64 R.last]), (1, ABlk.row 3 (intRow IntKind.i64) R.modes RowMd.plain), (2, ABlk.row 3 (intRow
 IntKind.i64) R.came RowMd.plain), (3, ABlk.row 3 (intRow IntKind.i64) o RowMd.plain)]))) := by kernel_rfl

set_option maxRecDepth 100000 in
theorem w_ro_4s (R : RefS) (k : Int) (o : List Int) (c : Nat) (Q : AExit → Env → AHeap → Prop) : (wpC (TR1.ctx Try.prog) 200 18 3 ro4 (roE1 k (slI 3 o) ((c : Int) + 1)) (roH1 R o) (canQ 3 (tsR [0, 1, 5, 6] []) Q)
) =  (obl (inI64 ((↑c : Int) + (1 : Int) + (1 : Int))) (Q AExit.normal [(0, AVal.ptr 0 0 0 0), (1, AVal.int IntKind.i64 k), (5, AVal.sl 3 0 1 0 o.length none), (6, AVal.int IntKind.i64 ((↑c : Int) + (1 :
 Int) + (1 : Int)))] (AHeap.mk 4 [(0, ABlk.cells 48 [AVal.sl 1 0 1 0 R.modes.length none, AVal.sl 2 0 1 0 R.came.length none, AVal.int IntKind.i64 R.last]), (1, ABlk.row 3 (intRow IntKind.i64) R.modes
 RowMd.plain), (2, ABlk.row 3 (intRow IntKind.i64) R.came RowMd.plain), (3, ABlk.row 3 (intRow IntKind.i64) o RowMd.plain)]))) := by kernel_rfl

set_option maxRecDepth 100000 in
theorem w_ro_10n (R : RefS) (K : Out → AHeap → Prop) : (wpC (TR1.ctx Try.prog) 200 18 3 ro10 [(5, .nils)] (roH R) (canQ 3 (tsR [4] []) (endA (TR1.ctx Try.prog).P Try.f18 K))
) =  (K (Out.ret AVal.nils) (AHeap.mk 3 [(0, ABlk.cells 48 [AVal.sl 1 0 1 0 R.modes.length none, AVal.sl 2 0 1 0 R.came.length none, AVal.int IntKind.i64 R.last]), (1, ABlk.row 3 (intRow IntKind.i64)
 R.modes RowMd.plain), (2, ABlk.row 3 (intRow IntKind.i64) R.came RowMd.plain)])) := by kernel_rfl

set_option maxRecDepth 100000 in
theorem w_ro_10s (R : RefS) (o : List Int) (K : Out → AHeap → Prop) : (wpC (TR1.ctx Try.prog) 200 18 3 ro10 [(5, slI 3 o)] (roH1 R o) (canQ 3 (tsR [4] []) (endA (TR1.ctx Try.prog).P Try.f18 K))
) =  (K (Out.ret (AVal.sl 3 0 1 0 o.length none)) (AHeap.mk 4 [(0, ABlk.cells 48 [AVal.sl 1 0 1 0 R.modes.length none, AVal.sl 2 0 1 0 R.came.length none, AVal.int IntKind.i64 R.last]), (1, ABlk.row 3
 (intRow IntKind.i64) R.modes RowMd.plain), (2, ABlk.row 3 (intRow IntKind.i64) R.came RowMd.plain), (3, ABlk.row 3 (intRow IntKind.i64) o RowMd.plain)])) := by kernel_rfl

end Go.Proofs.Ytcgnoegejmhgmaa
