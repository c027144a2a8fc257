/-
  Walks, printed: what calls come to, as they are reckoned.
-/
import Derived.Test.YtcgnoegejmhgmaaMbT5
namespace Go.Proofs.Ytcgnoegejmhgmaa
set_option linter.unusedVariables false
set_option linter.unusedSimpArgs false
open Go.RowKit Ev

set_option maxRecDepth 100000 in
theorem w_all (S : MemS) (K : Out → AHeap → Prop) : (wpC (TM5.ctx Try.prog) 90 16 3 allB (env0 [.ptr 0 0 0 0] 0) ⟨3, memH S⟩ (canQ 3 tsAll (endA (TM5.ctx Try.prog).P Try.f16 K))
) =  (∃ (hU : MapT listV = MapT listV), (isUnf (MapSt.mk S.lists none) = true ∧ (S.2 = [] → False) ∧ S.lists.length.le 1000 ∧ ∀ (p : Int × List Int), List.Mem p S.lists → (p.fst - (1 : Int)).NonNeg ∧ ((28
 : Int) - p.fst).NonNeg) ∧ K (Out.ret (AVal.sl 3 0 1 0 (sortI (List.map (fun (x : Int × listV.σ) => x.fst) S.lists)).length none)) (AHeap.mk 4 [(0, ABlk.cells 45 [AVal.sl 1 0 1 0 S.modes.length none,
 AVal.map 2]), (1, ABlk.row 3 (intRow IntKind.i64) S.modes RowMd.plain), (2, ABlk.obj (MapT listV) (MapSt.mk S.lists none) []), (3, ABlk.row 3 (intRow IntKind.i64) (sortI (List.map (fun (x : Int ×
 listV.σ) => x.fst) S.lists)) RowMd.plain)])) := by kernel_rfl

set_option maxRecDepth 100000 in
theorem w_new_a (n m : Int) (It : Env → AHeap → Prop) (K : Out → AHeap → Prop) : (wpN (TM5.ctx Try.prog) 3 200 7 0 newB (env0 [.int .i64 n, .int .i64 m] 0) ⟨0, []⟩ (fun E H => canonK 0 [0, 1, 5] E H It) (canQ 0 tsNew (endA (TM5.ctx Try.prog).P Try.f7 K))
) =  (branch (decide (n < (1 : Int))) (K (Out.ret AVal.nilp) (AHeap.mk 0 [])) (branch (decide ((8 : Int) < n)) (K (Out.ret AVal.nilp) (AHeap.mk 0 [])) (branch (!decide ((1 : Int) ≤ m ∧ m ≤ (28 : Int))) (K
 (Out.ret AVal.nilp) (AHeap.mk 0 [])) (It [(0, AVal.int IntKind.i64 n), (1, AVal.int IntKind.i64 m), (5, AVal.ptr 0 0 0 0)] (AHeap.mk 2 [(0, ABlk.cells 45 [AVal.nils, AVal.map 1]), (1, ABlk.obj (MapT
 listV) (MapSt.mk [] none) [])]))))) := by kernel_rfl

set_option maxRecDepth 100000 in
theorem w_new_1 (m : Int) (K : Out → AHeap → Prop) : (wpC (TM5.ctx Try.prog) 200 7 0 (tailN 3 newB) (newE 1 m) ⟨2, [(0, membersB .nils (.map 1)), (1, .obj (MapT listV) ⟨[], some m⟩ [])]⟩ (canQ 0 tsNew (endA (TM5.ctx Try.prog).P Try.f7 K))
) =  (obl (decide (m = m)) (obl (decide (m = m)) (K (Out.ret (AVal.ptr 0 0 0 0)) (AHeap.mk 4 [(0, ABlk.cells 45 [AVal.sl 1 0 1 0 1 none, AVal.map 2]), (1, ABlk.row 3 (intRow IntKind.i64) [m] RowMd.plain),
 (2, ABlk.obj (MapT listV) (MapSt.mk [] (some m)) [AVal.sl 3 0 1 0 1 none]), (3, ABlk.row 3 (intRow IntKind.i64) [(0 : Int)] RowMd.plain)])))) := by kernel_rfl

set_option maxRecDepth 100000 in
theorem w_new_2 (m : Int) (K : Out → AHeap → Prop) : (wpC (TM5.ctx Try.prog) 200 7 0 (tailN 3 newB) (newE 2 m) ⟨2, [(0, membersB .nils (.map 1)), (1, .obj (MapT listV) ⟨[], some m⟩ [])]⟩ (canQ 0 tsNew (endA (TM5.ctx Try.prog).P Try.f7 K))
) =  (obl (decide (m = m)) (obl (decide (m = m)) (obl (decide (m = m)) (obl (decide (m = m)) (K (Out.ret (AVal.ptr 0 0 0 0)) (AHeap.mk 4 [(0, ABlk.cells 45 [AVal.sl 1 0 1 0 2 none, AVal.map 2]), (1,
 ABlk.row 3 (intRow IntKind.i64) ([m] ++ [m]) RowMd.plain), (2, ABlk.obj (MapT listV) (MapSt.mk [] (some m)) [AVal.sl 3 0 1 0 2 none]), (3, ABlk.row 3 (intRow IntKind.i64) [(0 : Int), (1 : Int)]
 RowMd.plain)])))))) := by kernel_rfl

set_option maxRecDepth 100000 in
theorem w_new_3 (m : Int) (K : Out → AHeap → Prop) : (wpC (TM5.ctx Try.prog) 200 7 0 (tailN 3 newB) (newE 3 m) ⟨2, [(0, membersB .nils (.map 1)), (1, .obj (MapT listV) ⟨[], some m⟩ [])]⟩ (canQ 0 tsNew (endA (TM5.ctx Try.prog).P Try.f7 K))
) =  (obl (decide (m = m)) (obl (decide (m = m)) (obl (decide (m = m)) (obl (decide (m = m)) (obl (decide (m = m)) (obl (decide (m = m)) (K (Out.ret (AVal.ptr 0 0 0 0)) (AHeap.mk 4 [(0, ABlk.cells 45
 [AVal.sl 1 0 1 0 3 none, AVal.map 2]), (1, ABlk.row 3 (intRow IntKind.i64) ([m] ++ [m] ++ [m]) RowMd.plain), (2, ABlk.obj (MapT listV) (MapSt.mk [] (some m)) [AVal.sl 3 0 1 0 3 none]), (3, ABlk.row 3
 (intRow IntKind.i64) [(0 : Int), (1 : Int), (2 : Int)] RowMd.plain)])))))))) := by kernel_rfl

set_option maxRecDepth 100000 in
theorem w_new_4 (m : Int) (K : Out → AHeap → Prop) : (wpC (TM5.ctx Try.prog) 200 7 0 (tailN 3 newB) (newE 4 m) ⟨2, [(0, membersB .nils (.map 1)), (1, .obj (MapT listV) ⟨[], some m⟩ [])]⟩ (canQ 0 tsNew (endA (TM5.ctx Try.prog).P Try.f7 K))
) =  (obl (decide (m = m)) (obl (decide (m = m)) (obl (decide (m = m)) (obl (decide (m = m)) (obl (decide (m = m)) (obl (decide (m = m)) (obl (decide (m = m)) (obl (decide (m = m)) (K (Out.ret (AVal.ptr 0
 0 0 0)) (AHeap.mk 4 [(0, ABlk.cells 45 [AVal.sl 1 0 1 0 4 none, AVal.map 2]), (1, ABlk.row 3 (intRow IntKind.i64) ([m] ++ [m] ++ [m] ++ [m]) RowMd.plain), (2, ABlk.obj (MapT listV) (MapSt.mk [] (some
 m)) [AVal.sl 3 0 1 0 4 none]), (3, ABlk.row 3 (intRow IntKind.i64) [(0 : Int), (1 : Int), (2 : Int), (3 : Int)] RowMd.plain)])))))))))) := by kernel_rfl

set_option maxRecDepth 100000 in
theorem w_new_5 (m : Int) (K : Out → AHeap → Prop) : (wpC (TM5.ctx Try.prog) 200 7 0 (tailN 3 newB) (newE 5 m) ⟨2, [(0, membersB .nils (.map 1)), (1, .obj (MapT listV) ⟨[], some m⟩ [])]⟩ (canQ 0 tsNew (endA (TM5.ctx Try.prog).P Try.f7 K))
) =  (obl (decide (m = m)) (obl (decide (m = m)) (obl (decide (m = m)) (obl (decide (m = m)) (obl (decide (m = m)) (obl (decide (m = m)) (obl (decide (m = m)) (obl (decide (m = m)) (obl (decide (m = m))
 (obl (decide (m = m)) (K (Out.ret (AVal.ptr 0 0 0 0)) (AHeap.mk 4 [(0, ABlk.cells 45 [AVal.sl 1 0 1 0 5 none, AVal.map 2]), (1, ABlk.row 3 (intRow IntKind.i64) ([m] ++ [m] ++ [m] ++ [m] ++ [m])
 RowMd.plain), (2, ABlk.obj (MapT listV) (MapSt.mk [] (some m)) [AVal.sl 3 0 1 0 5 none]), (3, ABlk.row 3 (intRow IntKind.i64) [(0 : Int), (1 : Int), (2 : Int), (3 : Int), (4 : Int)]
 RowMd.plain)])))))))))))) := by kernel_rfl

set_option maxRecDepth 100000 in
theorem w_new_6 (m : Int) (K : Out → AHeap → Prop) : (wpC (TM5.ctx Try.prog) 200 7 0 (tailN 3 newB) (newE 6 m) ⟨2, [(0, membersB .nils (.map 1)), (1, .obj (MapT listV) ⟨[], some m⟩ [])]⟩ (canQ 0 tsNew (endA (TM5.ctx Try.prog).P Try.f7 K))
) =  (obl (decide (m = m)) (obl (decide (m = m)) (obl (decide (m = m)) (obl (decide (m = m)) (obl (decide (m = m)) (obl (decide (m = m)) (obl (decide (m = m)) (obl (decide (m = m)) (obl (decide (m = m))
 (obl (decide (m = m)) (obl (decide (m = m)) (obl (decide (m = m)) (K (Out.ret (AVal.ptr 0 0 0 0)) (AHeap.mk 4 [(0, ABlk.cells 45 [AVal.sl 1 0 1 0 6 none, AVal.map 2]), (1, ABlk.row 3 (intRow
 IntKind.i64) ([m] ++ [m] ++ [m] ++ [m] ++ [m] ++ [m]) RowMd.plain), (2, ABlk.obj (MapT listV) (MapSt.mk [] (some m)) [AVal.sl 3 0 1 0 6 none]), (3, ABlk.row 3 (intRow IntKind.i64) [(0 : Int), (1 :
 Int), (2 : Int), (3 : Int), (4 : Int), (5 : Int)] RowMd.plain)])))))))))))))) := by kernel_rfl

set_option maxRecDepth 100000 in
theorem w_new_7 (m : Int) (K : Out → AHeap → Prop) : (wpC (TM5.ctx Try.prog) 200 7 0 (tailN 3 newB) (newE 7 m) ⟨2, [(0, membersB .nils (.map 1)), (1, .obj (MapT listV) ⟨[], some m⟩ [])]⟩ (canQ 0 tsNew (endA (TM5.ctx Try.prog).P Try.f7 K))
) =  (obl (decide (m = m)) (obl (decide (m = m)) (obl (decide (m = m)) (obl (decide (m = m)) (obl (decide (m = m)) (obl (decide (m = m)) (obl (decide (m = m)) (obl (decide (m = m)) (obl (decide (m = m))
 (obl (decide (m = m)) (obl (decide (m = m)) (obl (decide (m = m)) (obl (decide (m = m)) (obl (decide (m = m)) (K (Out.ret (AVal.ptr 0 0 0 0)) (AHeap.mk 4 [(0, ABlk.cells 45 [AVal.sl 1 0 1 0 7 none,
 AVal.map 2]), (1, ABlk.row 3 (intRow IntKind.i64) ([m] ++ [m] ++ [m] ++ [m] ++ [m] ++ [m] ++ [m]) RowMd.plain), (2, ABlk.obj (MapT listV) (MapSt.mk [] (some m)) [AVal.sl 3 0 1 0 7 none]), (3, ABlk.row
 3 (intRow IntKind.i64) [(0 : Int), (1 : Int), (2 : Int), (3 : Int), (4 : Int), (5 : Int), (6 : Int)] RowMd.plain)])))))))))))))))) := by kernel_rfl

set_option maxRecDepth 100000 in
theorem w_new_8 (m : Int) (K : Out → AHeap → Prop) : (wpC (TM5.ctx Try.prog) 200 7 0 (tailN 3 newB) (newE 8 m) ⟨2, [(0, membersB .nils (.map 1)), (1, .obj (MapT listV) ⟨[], some m⟩ [])]⟩ (canQ 0 tsNew (endA (TM5.ctx Try.prog).P Try.f7 K))
) =  (obl (decide (m = m)) (obl (decide (m = m)) (obl (decide (m = m)) (obl (decide (m = m)) (obl (decide (m = m)) (obl (decide (m = m)) (obl (decide (m = m)) (obl (decide (m = m)) (obl (decide (m = m))
 (obl (decide (m = m)) (obl (decide (m = m)) (obl (decide (m = m)) (obl (decide (m = m)) (obl (decide (m = m)) (obl (decide (m = m)) (obl (decide (m = m)) (K (Out.ret (AVal.ptr 0 0 0 0)) (AHeap.mk 4
 [(0, ABlk.cells 45 [AVal.sl 1 0 1 0 8 none, AVal.map 2]), (1, ABlk.row 3 (intRow IntKind.i64) ([m] ++ [m] ++ [m] ++ [m] ++ [m] ++ [m] ++ [m] ++ [m]) RowMd.plain), (2, ABlk.obj (MapT listV) (MapSt.mk
 [] (some m)) [AVal.sl 3 0 1 0 8 none]), (3, ABlk.row 3 (intRow IntKind.i64) [(0 : Int), (1 : Int), (2 : Int), (3 : Int), (4 : Int), (5 : Int), (6 : Int), (7 : Int)] RowMd.plain)])))))))))))))))))) :=
 by kernel_rfl

set_option maxRecDepth 100000 in
theorem w_all_nil (K : Out → Prop) : (callC (TM5.ctx Try.prog) 90 16 [.nilp] ⟨0, []⟩ (fun o _ => K o)
) =  (K (Out.ret AVal.nils)) := by kernel_rfl

end Go.Proofs.Ytcgnoegejmhgmaa
