/-
  Walks, printed: what calls come to, as they are reckoned.
-/
import Derived.Test.YtcgnoegejmhgmaaMrV
namespace Go.Proofs.Ytcgnoegejmhgmaa
set_option linter.unusedVariables false
set_option linter.unusedSimpArgs false
open Go.RowKit Ev

set_option maxRecDepth 100000 in
theorem w_rmode (R : RefS) (t : Int) (K : Out → AHeap → Prop) : (callC (TM8.ctx Try.prog) 90 15 [.ptr 0 0 0 0, .int .i64 t] ⟨3, refH R⟩ K
) =  (branch (decide (t < (0 : Int))) (K (Out.ret (AVal.int IntKind.i64 (0 : Int))) (AHeap.mk 3 [(0, ABlk.cells 48 [AVal.sl 1 0 1 0 R.modes.length none, AVal.sl 2 0 1 0 R.came.length none, AVal.int
 IntKind.i64 R.last]), (1, ABlk.row 3 (intRow IntKind.i64) R.modes RowMd.plain), (2, ABlk.row 3 (intRow IntKind.i64) R.came RowMd.plain)])) (branch (decide ((↑R.modes.length : Int) ≤ t)) (K (Out.ret
 (AVal.int IntKind.i64 (0 : Int))) (AHeap.mk 3 [(0, ABlk.cells 48 [AVal.sl 1 0 1 0 R.modes.length none, AVal.sl 2 0 1 0 R.came.length none, AVal.int IntKind.i64 R.last]), (1, ABlk.row 3 (intRow
 IntKind.i64) R.modes RowMd.plain), (2, ABlk.row 3 (intRow IntKind.i64) R.came RowMd.plain)])) (obl (decide ((0 : Int) ≤ t ∧ t < (↑R.modes.length : Int))) (obl (decide (0 + t.toNat < R.modes.length))
 (K (Out.ret (AVal.int IntKind.i64 (R.modes.getD (0 + t.toNat) (0 : Int)))) (AHeap.mk 3 [(0, ABlk.cells 48 [AVal.sl 1 0 1 0 R.modes.length none, AVal.sl 2 0 1 0 R.came.length none, AVal.int IntKind.i64
 R.last]), (1, ABlk.row 3 (intRow IntKind.i64) R.modes RowMd.plain), (2, ABlk.row 3 (intRow IntKind.i64) R.came RowMd.plain)])))))) := by kernel_rfl

set_option maxRecDepth 100000 in
theorem w_rnew_a (n m : Int) (It : Env → AHeap → Prop) (K : Out → AHeap → Prop) : (wpN (TM8.ctx Try.prog) 3 200 13 0 rnB (env0 [.int .i64 n, .int .i64 m] 0) ⟨0, []⟩ (fun E H => canonK 0 [0, 1, 5] E H It) (canQ 0 tsRo (endA (TM8.ctx Try.prog).P Try.f13 K))
) =  (branch (decide (n < (1 : Int))) (K (Out.ret AVal.nilp) (AHeap.mk 0 [])) (branch (decide ((8 : Int) < n)) (K (Out.ret AVal.nilp) (AHeap.mk 0 [])) (branch (decide (m < (1 : Int))) (K (Out.ret
 AVal.nilp) (AHeap.mk 0 [])) (branch (decide ((28 : Int) < m)) (K (Out.ret AVal.nilp) (AHeap.mk 0 [])) (It [(0, AVal.int IntKind.i64 n), (1, AVal.int IntKind.i64 m), (5, AVal.ptr 0 0 0 0)] (AHeap.mk 1
 [(0, ABlk.cells 48 [AVal.nils, AVal.nils, AVal.int IntKind.i64 (0 : Int)])])))))) := by kernel_rfl

set_option maxRecDepth 100000 in
theorem w_rnew_1 (m : Int) (K : Out → AHeap → Prop) : (wpC (TM8.ctx Try.prog) 200 13 0 (tailN 3 rnB) (rnE 1 m) ⟨1, [(0, refB .nils .nils 0)]⟩ (canQ 0 tsRo (endA (TM8.ctx Try.prog).P Try.f13 K))
) =  (K (Out.ret (AVal.ptr 0 0 0 0)) (AHeap.mk 3 [(0, ABlk.cells 48 [AVal.sl 1 0 1 0 1 none, AVal.sl 2 0 1 0 1 none, AVal.int IntKind.i64 (1 : Int)]), (1, ABlk.row 3 (intRow IntKind.i64) [m] RowMd.plain),
 (2, ABlk.row 3 (intRow IntKind.i64) [(1 : Int)] RowMd.plain)])) := by kernel_rfl

set_option maxRecDepth 100000 in
theorem w_rnew_2 (m : Int) (K : Out → AHeap → Prop) : (wpC (TM8.ctx Try.prog) 200 13 0 (tailN 3 rnB) (rnE 2 m) ⟨1, [(0, refB .nils .nils 0)]⟩ (canQ 0 tsRo (endA (TM8.ctx Try.prog).P Try.f13 K))
) =  (K (Out.ret (AVal.ptr 0 0 0 0)) (AHeap.mk 3 [(0, ABlk.cells 48 [AVal.sl 1 0 1 0 2 none, AVal.sl 2 0 1 0 2 none, AVal.int IntKind.i64 (2 : Int)]), (1, ABlk.row 3 (intRow IntKind.i64) ([m] ++ [m])
 RowMd.plain), (2, ABlk.row 3 (intRow IntKind.i64) [(1 : Int), (2 : Int)] RowMd.plain)])) := by kernel_rfl

set_option maxRecDepth 100000 in
theorem w_rnew_3 (m : Int) (K : Out → AHeap → Prop) : (wpC (TM8.ctx Try.prog) 200 13 0 (tailN 3 rnB) (rnE 3 m) ⟨1, [(0, refB .nils .nils 0)]⟩ (canQ 0 tsRo (endA (TM8.ctx Try.prog).P Try.f13 K))
) =  (K (Out.ret (AVal.ptr 0 0 0 0)) (AHeap.mk 3 [(0, ABlk.cells 48 [AVal.sl 1 0 1 0 3 none, AVal.sl 2 0 1 0 3 none, AVal.int IntKind.i64 (3 : Int)]), (1, ABlk.row 3 (intRow IntKind.i64) ([m] ++ [m] ++
 [m]) RowMd.plain), (2, ABlk.row 3 (intRow IntKind.i64) [(1 : Int), (2 : Int), (3 : Int)] RowMd.plain)])) := by kernel_rfl

set_option maxRecDepth 100000 in
theorem w_rnew_4 (m : Int) (K : Out → AHeap → Prop) : (wpC (TM8.ctx Try.prog) 200 13 0 (tailN 3 rnB) (rnE 4 m) ⟨1, [(0, refB .nils .nils 0)]⟩ (canQ 0 tsRo (endA (TM8.ctx Try.prog).P Try.f13 K))
) =  (K (Out.ret (AVal.ptr 0 0 0 0)) (AHeap.mk 3 [(0, ABlk.cells 48 [AVal.sl 1 0 1 0 4 none, AVal.sl 2 0 1 0 4 none, AVal.int IntKind.i64 (4 : Int)]), (1, ABlk.row 3 (intRow IntKind.i64) ([m] ++ [m] ++ [m]
 ++ [m]) RowMd.plain), (2, ABlk.row 3 (intRow IntKind.i64) [(1 : Int), (2 : Int), (3 : Int), (4 : Int)] RowMd.plain)])) := by kernel_rfl

set_option maxRecDepth 100000 in
theorem w_rnew_5 (m : Int) (K : Out → AHeap → Prop) : (wpC (TM8.ctx Try.prog) 200 13 0 (tailN 3 rnB) (rnE 5 m) ⟨1, [(0, refB .nils .nils 0)]⟩ (canQ 0 tsRo (endA (TM8.ctx Try.prog).P Try.f13 K))
) =  (K (Out.ret (AVal.ptr 0 0 0 0)) (AHeap.mk 3 [(0, ABlk.cells 48 [AVal.sl 1 0 1 0 5 none, AVal.sl 2 0 1 0 5 none, AVal.int IntKind.i64 (5 : Int)]), (1, ABlk.row 3 (intRow IntKind.i64) ([m] ++ [m] ++ [m]
 ++ [m] ++ [m]) RowMd.plain), (2, ABlk.row 3 (intRow IntKind.i64) [(1 : Int), (2 : Int), (3 : Int), (4 : Int), (5 : Int)] RowMd.plain)])) := by kernel_rfl

set_option maxRecDepth 100000 in
theorem w_rnew_6 (m : Int) (K : Out → AHeap → Prop) : (wpC (TM8.ctx Try.prog) 200 13 0 (tailN 3 rnB) (rnE 6 m) ⟨1, [(0, refB .nils .nils 0)]⟩ (canQ 0 tsRo (endA (TM8.ctx Try.prog).P Try.f13 K))
) =  (K (Out.ret (AVal.ptr 0 0 0 0)) (AHeap.mk 3 [(0, ABlk.cells 48 [AVal.sl 1 0 1 0 6 none, AVal.sl 2 0 1 0 6 none, AVal.int IntKind.i64 (6 : Int)]), (1, ABlk.row 3 (intRow IntKind.i64) ([m] ++ [m] ++ [m]
 ++ [m] ++ [m] ++ [m]) RowMd.plain), (2, ABlk.row 3 (intRow IntKind.i64) [(1 : Int), (2 : Int), (3 : Int), (4 : Int), (5 : Int), (6 : Int)] RowMd.plain)])) := by kernel_rfl

set_option maxRecDepth 100000 in
theorem w_rnew_7 (m : Int) (K : Out → AHeap → Prop) : (wpC (TM8.ctx Try.prog) 200 13 0 (tailN 3 rnB) (rnE 7 m) ⟨1, [(0, refB .nils .nils 0)]⟩ (canQ 0 tsRo (endA (TM8.ctx Try.prog).P Try.f13 K))
) =  (K (Out.ret (AVal.ptr 0 0 0 0)) (AHeap.mk 3 [(0, ABlk.cells 48 [AVal.sl 1 0 1 0 7 none, AVal.sl 2 0 1 0 7 none, AVal.int IntKind.i64 (7 : Int)]), (1, ABlk.row 3 (intRow IntKind.i64) ([m] ++ [m] ++ [m]
 ++ [m] ++ [m] ++ [m] ++ [m]) RowMd.plain), (2, ABlk.row 3 (intRow IntKind.i64) [(1 : Int), (2 : Int), (3 : Int), (4 : Int), (5 : Int), (6 : Int), (7 : Int)] RowMd.plain)])) := by kernel_rfl

set_option maxRecDepth 100000 in
theorem w_rnew_8 (m : Int) (K : Out → AHeap → Prop) : (wpC (TM8.ctx Try.prog) 200 13 0 (tailN 3 rnB) (rnE 8 m) ⟨1, [(0, refB .nils .nils 0)]⟩ (canQ 0 tsRo (endA (TM8.ctx Try.prog).P Try.f13 K))
) =  (K (Out.ret (AVal.ptr 0 0 0 0)) (AHeap.mk 3 [(0, ABlk.cells 48 [AVal.sl 1 0 1 0 8 none, AVal.sl 2 0 1 0 8 none, AVal.int IntKind.i64 (8 : Int)]), (1, ABlk.row 3 (intRow IntKind.i64) ([m] ++ [m] ++ [m]
 ++ [m] ++ [m] ++ [m] ++ [m] ++ [m]) RowMd.plain), (2, ABlk.row 3 (intRow IntKind.i64) [(1 : Int), (2 : Int), (3 : Int), (4 : Int), (5 : Int), (6 : Int), (7 : Int), (8 : Int)] RowMd.plain)])) := by
 kernel_rfl

end Go.Proofs.Ytcgnoegejmhgmaa
