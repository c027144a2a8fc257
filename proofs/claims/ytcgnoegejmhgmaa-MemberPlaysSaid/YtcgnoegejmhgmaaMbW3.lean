/-
  Walks, printed: what calls come to, as they are reckoned.
-/
import Derived.Test.YtcgnoegejmhgmaaMbOk1
namespace Go.Proofs.Ytcgnoegejmhgmaa
set_option linter.unusedVariables false
set_option linter.unusedSimpArgs false
open Go.RowKit Ev

set_option maxRecDepth 100000 in
theorem w_of1 (S : MemS) (B : List (Int × List Int)) (k : Int) (l : List Int) (K : Out → AHeap → Prop) : (wpC (TM4.ctx Try.prog) 90 10 3 ofB (env0 [.ptr 0 0 0 0, .int .i64 k] 0) ⟨4, (3, rowI l) :: memF S B k [slI 3 l] ++ []⟩ (canQ 3 tsOf (endA (TM4.ctx Try.prog).P Try.f10 K))
) =  (obl (decide (k = k)) (obl (decide ((0 : Int) ≤ (↑l.length : Int) ∧ (↑l.length : Int) = (↑l.length : Int) ∧ (↑l.length : Int) ≤ (9223372036854775807 : Int) ∧ (8 : Int) * (↑l.length : Int) ≤
 (281474976710656 : Int) ∧ 1 = 1 ∧ 0 < 1)) (obl (decide (k = k)) (obl (decide (0 + l.length ≤ l.length) && (List.take l.length (List.drop 0 l)).all (reOk (intRow IntKind.i64) (intRow IntKind.i64)) &&
 decide ((↑l.length : Int).toNat = (List.map (reDec (intRow IntKind.i64) (intRow IntKind.i64)) (List.take l.length (List.drop 0 l))).length ∧ (↑l.length : Int).toNat ≤ (repN (↑l.length : Int).toNat (0
 : Int)).length ∧ 0 < 1)) (K (Out.ret (AVal.sl 3 0 1 0 (↑l.length : Int).toNat none)) (AHeap.mk 5 [(0, ABlk.cells 45 [AVal.sl 1 0 1 0 S.modes.length none, AVal.map 2]), (1, ABlk.row 3 (intRow
 IntKind.i64) S.modes RowMd.plain), (2, ABlk.obj (MapT listV) (MapSt.mk B (some k)) [AVal.sl 4 0 1 0 l.length none]), (3, ABlk.row 3 (intRow IntKind.i64) (List.map (reDec (intRow IntKind.i64) (intRow
 IntKind.i64)) (List.take l.length (List.drop 0 l)) ++ List.drop (List.map (reDec (intRow IntKind.i64) (intRow IntKind.i64)) (List.take l.length (List.drop 0 l))).length (repN (↑l.length : Int).toNat
 (0 : Int))) RowMd.plain), (4, ABlk.row 3 (intRow IntKind.i64) l RowMd.plain)])))))) := by kernel_rfl

set_option maxRecDepth 100000 in
theorem w_of0 (S : MemS) (B : List (Int × List Int)) (k : Int) (K : Out → AHeap → Prop) : (wpC (TM4.ctx Try.prog) 90 10 3 ofB (env0 [.ptr 0 0 0 0, .int .i64 k] 0) ⟨3, memF S B k [] ++ []⟩ (canQ 3 tsOf (endA (TM4.ctx Try.prog).P Try.f10 K))
) =  (obl (decide (k = k)) (obl (decide (k = k)) (K (Out.ret (AVal.sl 3 0 1 0 0 none)) (AHeap.mk 4 [(0, ABlk.cells 45 [AVal.sl 1 0 1 0 S.modes.length none, AVal.map 2]), (1, ABlk.row 3 (intRow IntKind.i64)
 S.modes RowMd.plain), (2, ABlk.obj (MapT listV) (MapSt.mk B (some k)) []), (3, ABlk.row 3 (intRow IntKind.i64) [] RowMd.plain)])))) := by kernel_rfl

set_option maxRecDepth 100000 in
theorem w_mv_a (S : MemS) (t m : Int) (It : Env → AHeap → Prop) (K : Out → AHeap → Prop) : (wpN (TM4.ctx Try.prog) 3 90 9 3 mvB (env0 [.ptr 0 0 0 0, .int .i64 t, .int .i64 m] 0) ⟨3, memH S⟩ (fun E H => canonK 3 [0, 2, 4, 7] E H It) (canQ 3 tsMv (endA (TM4.ctx Try.prog).P Try.f9 K))
) =  (∃ (hT : intRow IntKind.i64 = intRow IntKind.i64), ∃ (hU : MapT listV = MapT listV), (S.modes.length = S.modes.length ∧ isUnf (MapSt.mk S.lists none) = true) ∧ WfM (MemS.mk S.modes S.lists) ∧ branch
 (decide (modeM (MemS.mk S.modes S.lists) t = (0 : Int))) (K (Out.ret (AVal.int IntKind.i64 (9 : Int))) (AHeap.mk 3 [(0, ABlk.cells 45 [AVal.sl 1 0 1 0 S.modes.length none, AVal.map 2]), (1, ABlk.row 3
 (intRow IntKind.i64) S.modes RowMd.plain), (2, ABlk.obj (MapT listV) (MapSt.mk S.lists none) [])])) (branch (!decide ((1 : Int) ≤ m ∧ m ≤ (28 : Int))) (K (Out.ret (AVal.int IntKind.i64 (15 : Int)))
 (AHeap.mk 3 [(0, ABlk.cells 45 [AVal.sl 1 0 1 0 S.modes.length none, AVal.map 2]), (1, ABlk.row 3 (intRow IntKind.i64) S.modes RowMd.plain), (2, ABlk.obj (MapT listV) (MapSt.mk S.lists none) [])]))
 (branch (decide (modeM (MemS.mk S.modes S.lists) t = m)) (K (Out.ret (AVal.int IntKind.i64 (0 : Int))) (AHeap.mk 3 [(0, ABlk.cells 45 [AVal.sl 1 0 1 0 S.modes.length none, AVal.map 2]), (1, ABlk.row 3
 (intRow IntKind.i64) S.modes RowMd.plain), (2, ABlk.obj (MapT listV) (MapSt.mk S.lists none) [])])) (It [(0, AVal.ptr 0 0 0 0), (2, AVal.int IntKind.i64 m), (4, AVal.ptr 3 0 0 0), (7, AVal.int
 IntKind.i64 (modeM (MemS.mk S.modes S.lists) t))] (AHeap.mk 4 [(0, ABlk.cells 45 [AVal.sl 1 0 1 0 S.modes.length none, AVal.map 2]), (1, ABlk.row 3 (intRow IntKind.i64) S.modes RowMd.plain), (2,
 ABlk.obj (MapT listV) (MapSt.mk S.lists none) []), (3, ABlk.cells 3 [AVal.int IntKind.i64 t])]))))) := by kernel_rfl

set_option maxRecDepth 100000 in
theorem w_mv_b (S : MemS) (B : List (Int × List Int)) (t m f : Int) (l : List Int) (It : Env → AHeap → Prop) (K : AExit → Env → AHeap → Prop) : (wpN (TM4.ctx Try.prog) 2 90 9 3 (tailN 3 mvB) (mvE m f) ⟨5, (4, rowI l) :: memF S B f [slI 4 l] ++ [(3, cellI t)]⟩ (fun E H => canonK 3 [0, 2, 4, 7] E H It) K
) =  (obl (decide (f = f)) (∃ (hT : intRow IntKind.i64 = intRow IntKind.i64), (l.length = l.length ∧ l.length.le 1000) ∧ obl (decide (f = f)) (obl (decide (f = f)) (branch (decide ((↑(List.filter (fun (x :
 Int) => !decide (x = t)) l).length : Int) = (0 : Int))) (obl (decide (f = f)) (It [(0, AVal.ptr 0 0 0 0), (2, AVal.int IntKind.i64 m), (4, AVal.ptr 3 0 0 0), (7, AVal.int IntKind.i64 f)] (AHeap.mk 4
 [(0, ABlk.cells 45 [AVal.sl 1 0 1 0 S.modes.length none, AVal.map 2]), (1, ABlk.row 3 (intRow IntKind.i64) S.modes RowMd.plain), (2, ABlk.obj (MapT listV) (MapSt.mk B (some f)) []), (3, ABlk.cells 3
 [AVal.int IntKind.i64 t])]))) (It [(0, AVal.ptr 0 0 0 0), (2, AVal.int IntKind.i64 m), (4, AVal.ptr 3 0 0 0), (7, AVal.int IntKind.i64 f)] (AHeap.mk 5 [(0, ABlk.cells 45 [AVal.sl 1 0 1 0
 S.modes.length none, AVal.map 2]), (1, ABlk.row 3 (intRow IntKind.i64) S.modes RowMd.plain), (2, ABlk.obj (MapT listV) (MapSt.mk B (some f)) [AVal.sl 4 0 1 0 (List.filter (fun (x : Int) => !decide (x
 = t)) l).length none]), (3, ABlk.cells 3 [AVal.int IntKind.i64 t]), (4, ABlk.row 3 (intRow IntKind.i64) (List.filter (fun (x : (intRow IntKind.i64).α) => !decide (x = t)) l) RowMd.plain)])))))) := by
 kernel_rfl

set_option maxRecDepth 100000 in
theorem w_mv_c1 (S : MemS) (B : List (Int × List Int)) (t m f : Int) (l : List Int) (K : Out → AHeap → Prop) : (wpC (TM4.ctx Try.prog) 90 9 3 (tailN 5 mvB) (mvE m f) ⟨6, (5, rowI l) :: memF S B m [slI 5 l] ++ [(3, cellI t)]⟩ (canQ 3 tsMv (endA (TM4.ctx Try.prog).P Try.f9 K))
) =  (obl (decide ((0 : Int) ≤ t ∧ t < (↑S.modes.length : Int))) (obl (decide (0 + t.toNat < S.modes.length) && true) (obl (decide (m = m)) (obl (true && decide (l.length = l.length ∧ 1 = 1 ∧ 1 = 1 ∧ 0 < 1
 ∧ (l ++ [t]).length ≤ 9223372036854775807 ∧ (l ++ [t]).length * 8 ≤ 140737488355328)) (obl (decide (m = m)) (K (Out.ret (AVal.int IntKind.i64 (0 : Int))) (AHeap.mk 4 [(0, ABlk.cells 45 [AVal.sl 1 0 1
 0 S.modes.length none, AVal.map 2]), (1, ABlk.row 3 (intRow IntKind.i64) (S.modes.set (0 + t.toNat) m) RowMd.plain), (2, ABlk.obj (MapT listV) (MapSt.mk B (some m)) [AVal.sl 3 0 1 0 (l ++ [t]).length
 none]), (3, ABlk.row 3 (intRow IntKind.i64) (l ++ [t]) RowMd.plain)]))))))) := by kernel_rfl

set_option maxRecDepth 100000 in
theorem w_mv_c0 (S : MemS) (B : List (Int × List Int)) (t m f : Int) (K : Out → AHeap → Prop) : (wpC (TM4.ctx Try.prog) 90 9 3 (tailN 5 mvB) (mvE m f) ⟨5, memF S B m [] ++ [(3, cellI t)]⟩ (canQ 3 tsMv (endA (TM4.ctx Try.prog).P Try.f9 K))
) =  (obl (decide ((0 : Int) ≤ t ∧ t < (↑S.modes.length : Int))) (obl (decide (0 + t.toNat < S.modes.length) && true) (obl (decide (m = m)) (obl (decide (m = m)) (K (Out.ret (AVal.int IntKind.i64 (0 :
 Int))) (AHeap.mk 4 [(0, ABlk.cells 45 [AVal.sl 1 0 1 0 S.modes.length none, AVal.map 2]), (1, ABlk.row 3 (intRow IntKind.i64) (S.modes.set (0 + t.toNat) m) RowMd.plain), (2, ABlk.obj (MapT listV)
 (MapSt.mk B (some m)) [AVal.sl 3 0 1 0 1 none]), (3, ABlk.row 3 (intRow IntKind.i64) [t] RowMd.plain)])))))) := by kernel_rfl

set_option maxRecDepth 100000 in
theorem w_of_nil (k : Int) (K : Out → Prop) : (callC (TM4.ctx Try.prog) 90 10 [.nilp, .int .i64 k] ⟨0, []⟩ (fun o _ => K o)
) =  (K (Out.ret AVal.nils)) := by kernel_rfl

set_option maxRecDepth 100000 in
theorem w_mv_nil (t m : Int) (K : Out → Prop) : (callC (TM4.ctx Try.prog) 90 9 [.nilp, .int .i64 t, .int .i64 m] ⟨0, []⟩ (fun o _ => K o)
) =  (K (Out.ret (AVal.int IntKind.i64 (1 : Int)))) := by kernel_rfl

end Go.Proofs.Ytcgnoegejmhgmaa
