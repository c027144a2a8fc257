/-
  Walks, printed: what calls come to, as they are reckoned.
-/
import Derived.Test.YtcgnoegejmhgmaaMrOk3
namespace Go.Proofs.Ytcgnoegejmhgmaa
set_option linter.unusedVariables false
set_option linter.unusedSimpArgs false
open Go.RowKit Ev

set_option maxRecDepth 100000 in
theorem w_mp_a (hs : List PairR) (t m : Int) (It : Env → AHeap → Prop) (K : Out → Prop) : (wpN (TR3.ctx Try.prog) 3 200 4 1 mpB (env0 [.int .i64 t, .int .i64 m, mlV hs] 0) ⟨1, [(0, pRow hs)]⟩ (fun E H => canonK 1 tsP0 E H It) (endA (TR3.ctx Try.prog).P Try.f4 (fun o _ => K o))
) =  (branch (newBad t m) (branch (newBad t m) (K (Out.ret (AVal.bool true))) (K (Out.ret (AVal.bool false)))) (branch (newBad t m) (K (Out.ret (AVal.bool false))) (It [(2, AVal.sl 0 0 2 0 hs.length none),
 (7, AVal.ptr 1 0 0 0), (8, AVal.ptr 2 0 0 0)] (AHeap.mk 7 [(0, ABlk.row 37 (pairRow IntKind.i64) hs RowMd.ro), (1, ABlk.cells 45 [AVal.sl 3 0 1 0 (List.replicate t.toNat m).length none, AVal.map 4]),
 (2, ABlk.cells 48 [AVal.sl 5 0 1 0 (List.replicate t.toNat m).length none, AVal.sl 6 0 1 0 (List.map (fun (i : Nat) => (↑i : Int) + (1 : Int)) (List.range t.toNat)).length none, AVal.int IntKind.i64
 t]), (3, ABlk.row 3 (intRow IntKind.i64) (List.replicate t.toNat m) RowMd.plain), (4, ABlk.obj (MapT listV) (MapSt.mk [(m, List.map (fun (i : Nat) => (↑i : Int)) (List.range t.toNat))] none) []), (5,
 ABlk.row 3 (intRow IntKind.i64) (List.replicate t.toNat m) RowMd.plain), (6, ABlk.row 3 (intRow IntKind.i64) (List.map (fun (i : Nat) => (↑i : Int) + (1 : Int)) (List.range t.toNat)) RowMd.plain)]))))
 := by kernel_rfl

set_option maxRecDepth 100000 in
theorem w_mp_an (t m : Int) (It : Env → AHeap → Prop) (K : Out → Prop) : (wpN (TR3.ctx Try.prog) 3 200 4 1 mpB (env0 [.int .i64 t, .int .i64 m, .nils] 0) ⟨1, []⟩ (fun E H => canonK 1 tsP0 E H It) (endA (TR3.ctx Try.prog).P Try.f4 (fun o _ => K o))
) =  (branch (newBad t m) (branch (newBad t m) (K (Out.ret (AVal.bool true))) (K (Out.ret (AVal.bool false)))) (branch (newBad t m) (K (Out.ret (AVal.bool false))) (It [(2, AVal.nils), (7, AVal.ptr 1 0 0
 0), (8, AVal.ptr 2 0 0 0)] (AHeap.mk 7 [(1, ABlk.cells 45 [AVal.sl 3 0 1 0 (List.replicate t.toNat m).length none, AVal.map 4]), (2, ABlk.cells 48 [AVal.sl 5 0 1 0 (List.replicate t.toNat m).length
 none, AVal.sl 6 0 1 0 (List.map (fun (i : Nat) => (↑i : Int) + (1 : Int)) (List.range t.toNat)).length none, AVal.int IntKind.i64 t]), (3, ABlk.row 3 (intRow IntKind.i64) (List.replicate t.toNat m)
 RowMd.plain), (4, ABlk.obj (MapT listV) (MapSt.mk [(m, List.map (fun (i : Nat) => (↑i : Int)) (List.range t.toNat))] none) []), (5, ABlk.row 3 (intRow IntKind.i64) (List.replicate t.toNat m)
 RowMd.plain), (6, ABlk.row 3 (intRow IntKind.i64) (List.map (fun (i : Nat) => (↑i : Int) + (1 : Int)) (List.range t.toNat)) RowMd.plain)])))) := by kernel_rfl

set_option maxRecDepth 100000 in
theorem w_mp_4 (hs : List PairR) (S : MemS) (R : RefS) (Q : AExit → Env → AHeap → Prop) : (wpC (TR3.ctx Try.prog) 200 4 1 mp4 (mpE0 (mlV hs)) (mpH hs S R) (canQ 1 (tsP tsP1 []) Q)
) =  (Q AExit.normal [(2, AVal.sl 0 0 2 0 hs.length none), (7, AVal.ptr 1 0 0 0), (8, AVal.ptr 2 0 0 0), (9, AVal.int IntKind.i64 (0 : Int))] (AHeap.mk 7 [(0, ABlk.row 37 (pairRow IntKind.i64) hs
 RowMd.ro), (1, ABlk.cells 45 [AVal.sl 3 0 1 0 S.modes.length none, AVal.map 4]), (2, ABlk.cells 48 [AVal.sl 5 0 1 0 R.modes.length none, AVal.sl 6 0 1 0 R.came.length none, AVal.int IntKind.i64
 R.last]), (3, ABlk.row 3 (intRow IntKind.i64) S.modes RowMd.plain), (4, ABlk.obj (MapT listV) (MapSt.mk S.lists none) []), (5, ABlk.row 3 (intRow IntKind.i64) R.modes RowMd.plain), (6, ABlk.row 3
 (intRow IntKind.i64) R.came RowMd.plain)])) := by kernel_rfl

set_option maxRecDepth 100000 in
theorem w_mp_4n (S : MemS) (R : RefS) (Q : AExit → Env → AHeap → Prop) : (wpC (TR3.ctx Try.prog) 200 4 1 mp4 (mpE0 .nils) (mpHn S R) (canQ 1 (tsP tsP1 []) Q)
) =  (Q AExit.normal [(2, AVal.nils), (7, AVal.ptr 1 0 0 0), (8, AVal.ptr 2 0 0 0), (9, AVal.int IntKind.i64 (0 : Int))] (AHeap.mk 7 [(1, ABlk.cells 45 [AVal.sl 3 0 1 0 S.modes.length none, AVal.map 4]),
 (2, ABlk.cells 48 [AVal.sl 5 0 1 0 R.modes.length none, AVal.sl 6 0 1 0 R.came.length none, AVal.int IntKind.i64 R.last]), (3, ABlk.row 3 (intRow IntKind.i64) S.modes RowMd.plain), (4, ABlk.obj (MapT
 listV) (MapSt.mk S.lists none) []), (5, ABlk.row 3 (intRow IntKind.i64) R.modes RowMd.plain), (6, ABlk.row 3 (intRow IntKind.i64) R.came RowMd.plain)])) := by kernel_rfl

set_option maxRecDepth 100000 in
theorem w_mp_5n (S : MemS) (R : RefS) (Q : AExit → Env → AHeap → Prop) : (wpC (TR3.ctx Try.prog) 200 4 1 mp5 (mpE1 .nils 0) (mpHn S R) (canQ 1 (tsP tsP1 [7, 8]) Q)
) =  (Q (AExit.exit 0) [(7, AVal.ptr 1 0 0 0), (8, AVal.ptr 2 0 0 0)] (AHeap.mk 7 [(1, ABlk.cells 45 [AVal.sl 3 0 1 0 S.modes.length none, AVal.map 4]), (2, ABlk.cells 48 [AVal.sl 5 0 1 0 R.modes.length
 none, AVal.sl 6 0 1 0 R.came.length none, AVal.int IntKind.i64 R.last]), (3, ABlk.row 3 (intRow IntKind.i64) S.modes RowMd.plain), (4, ABlk.obj (MapT listV) (MapSt.mk S.lists none) []), (5, ABlk.row 3
 (intRow IntKind.i64) R.modes RowMd.plain), (6, ABlk.row 3 (intRow IntKind.i64) R.came RowMd.plain)])) := by kernel_rfl

set_option maxRecDepth 100000 in
theorem w_mp_5 (hs : List PairR) (i : Nat) (S : MemS) (R : RefS) (Q : AExit → Env → AHeap → Prop) : (wpC (TR3.ctx Try.prog) 200 4 1 mp5 (mpE1 (mlV hs) (i : Int)) (mpH hs S R) (canQ 1 (tsP tsP1 [7, 8]) Q)
) =  (branch (decide ((↑i : Int) < (↑hs.length : Int))) (branch (decide ((↑i : Int) < (80 : Int))) (Q AExit.normal [(2, AVal.sl 0 0 2 0 hs.length none), (7, AVal.ptr 1 0 0 0), (8, AVal.ptr 2 0 0 0), (9,
 AVal.int IntKind.i64 (↑i : Int))] (AHeap.mk 7 [(0, ABlk.row 37 (pairRow IntKind.i64) hs RowMd.ro), (1, ABlk.cells 45 [AVal.sl 3 0 1 0 S.modes.length none, AVal.map 4]), (2, ABlk.cells 48 [AVal.sl 5 0
 1 0 R.modes.length none, AVal.sl 6 0 1 0 R.came.length none, AVal.int IntKind.i64 R.last]), (3, ABlk.row 3 (intRow IntKind.i64) S.modes RowMd.plain), (4, ABlk.obj (MapT listV) (MapSt.mk S.lists none)
 []), (5, ABlk.row 3 (intRow IntKind.i64) R.modes RowMd.plain), (6, ABlk.row 3 (intRow IntKind.i64) R.came RowMd.plain)])) (Q (AExit.exit 0) [(7, AVal.ptr 1 0 0 0), (8, AVal.ptr 2 0 0 0)] (AHeap.mk 7
 [(0, ABlk.row 37 (pairRow IntKind.i64) hs RowMd.ro), (1, ABlk.cells 45 [AVal.sl 3 0 1 0 S.modes.length none, AVal.map 4]), (2, ABlk.cells 48 [AVal.sl 5 0 1 0 R.modes.length none, AVal.sl 6 0 1 0
 R.came.length none, AVal.int IntKind.i64 R.last]), (3, ABlk.row 3 (intRow IntKind.i64) S.modes RowMd.plain), (4, ABlk.obj (MapT listV) (MapSt.mk S.lists none) []), (5, ABlk.row 3 (intRow IntKind.i64)
 R.modes RowMd.plain), (6, ABlk.row 3 (intRow IntKind.i64) R.came RowMd.plain)]))) (Q (AExit.exit 0) [(7, AVal.ptr 1 0 0 0), (8, AVal.ptr 2 0 0 0)] (AHeap.mk 7 [(0, ABlk.row 37 (pairRow IntKind.i64) hs
 RowMd.ro), (1, ABlk.cells 45 [AVal.sl 3 0 1 0 S.modes.length none, AVal.map 4]), (2, ABlk.cells 48 [AVal.sl 5 0 1 0 R.modes.length none, AVal.sl 6 0 1 0 R.came.length none, AVal.int IntKind.i64
 R.last]), (3, ABlk.row 3 (intRow IntKind.i64) S.modes RowMd.plain), (4, ABlk.obj (MapT listV) (MapSt.mk S.lists none) []), (5, ABlk.row 3 (intRow IntKind.i64) R.modes RowMd.plain), (6, ABlk.row 3
 (intRow IntKind.i64) R.came RowMd.plain)]))) := by kernel_rfl

set_option maxRecDepth 100000 in
theorem w_mp_7 (hs : List PairR) (i : Nat) (S : MemS) (R : RefS) (Q : AExit → Env → AHeap → Prop) : (wpC (TR3.ctx Try.prog) 200 4 1 mp7 (mpE1 (mlV hs) (i : Int)) (mpH hs S R) (canQ 1 (tsP tsP1 []) Q)
) =  (obl (decide ((0 : Int) ≤ (↑i : Int) ∧ (↑i : Int) < (↑hs.length : Int))) (obl (decide (0 + (↑i : Int).toNat < hs.length)) (obl (decide ((0 : Int) ≤ (↑i : Int) ∧ (↑i : Int) < (↑hs.length : Int))) (obl
 (decide (0 + (↑i : Int).toNat < hs.length)) (obl (decide ((0 : Int) ≤ (↑i : Int) ∧ (↑i : Int) < (↑hs.length : Int))) (obl (decide (0 + (↑i : Int).toNat < hs.length)) (obl (decide ((0 : Int) ≤ (↑i :
 Int) ∧ (↑i : Int) < (↑hs.length : Int))) (obl (decide (0 + (↑i : Int).toNat < hs.length)) (∃ (hT : intRow IntKind.i64 = intRow IntKind.i64), ∃ (hU : MapT listV = MapT listV), (S.modes.length =
 S.modes.length ∧ isUnf (MapSt.mk S.lists none) = true) ∧ WfM (MemS.mk S.modes S.lists) ∧ obl (decide (0 + (↑i : Int).toNat < hs.length) && sameV (AVal.int IntKind.i64 (hs.getD (0 + (↑i : Int).toNat)
 (PairR.mk (0 : Int) (0 : Int))).b) (AVal.int IntKind.i64 (hs.getD (0 + (↑i : Int).toNat) (PairR.mk (0 : Int) (0 : Int))).b)) (obl (decide (0 + (↑i : Int).toNat < hs.length) && sameV (AVal.int
 IntKind.i64 (hs.getD (0 + (↑i : Int).toNat) (PairR.mk (0 : Int) (0 : Int))).a) (AVal.int IntKind.i64 (hs.getD (0 + (↑i : Int).toNat) (PairR.mk (0 : Int) (0 : Int))).a)) (∃ (hT_1 : intRow IntKind.i64 =
 intRow IntKind.i64), ∃ (hT' : intRow IntKind.i64 = intRow IntKind.i64), (R.modes.length = R.modes.length ∧ R.came.length = R.came.length) ∧ WfR (RefS.mk R.modes R.came R.last) ∧ branch (!decide (moveE
 (MemS.mk S.modes S.lists) (hs.getD (0 + (↑i : Int).toNat) (PairR.mk (0 : Int) (0 : Int))).a (hs.getD (0 + (↑i : Int).toNat) (PairR.mk (0 : Int) (0 : Int))).b = moveE (modesOf (RefS.mk R.modes R.came
 R.last)) (hs.getD (0 + (↑i : Int).toNat) (PairR.mk (0 : Int) (0 : Int))).a (hs.getD (0 + (↑i : Int).toNat) (PairR.mk (0 : Int) (0 : Int))).b)) (Q AExit.ret [(6, AVal.bool false)] (AHeap.mk 1 [(0,
 ABlk.row 37 (pairRow IntKind.i64) hs RowMd.ro)])) (obl (decide ((0 : Int) ≤ (↑i : Int) ∧ (↑i : Int) < (↑hs.length : Int))) (obl (decide (0 + (↑i : Int).toNat < hs.length)) (obl (decide ((0 : Int) ≤
 (↑i : Int) ∧ (↑i : Int) < (↑hs.length : Int))) (obl (decide (0 + (↑i : Int).toNat < hs.length)) (∃ (hT_2 : intRow IntKind.i64 = intRow IntKind.i64), ∃ (hU_1 : MapT listV = MapT listV), ((moveR
 (MemS.mk S.modes S.lists) (hs.getD (0 + (↑i : Int).toNat) (PairR.mk (0 : Int) (0 : Int))).a (hs.getD (0 + (↑i : Int).toNat) (PairR.mk (0 : Int) (0 : Int))).b).modes.length = (moveR (MemS.mk S.modes
 S.lists) (hs.getD (0 + (↑i : Int).toNat) (PairR.mk (0 : Int) (0 : Int))).a (hs.getD (0 + (↑i : Int).toNat) (PairR.mk (0 : Int) (0 : Int))).b).modes.length ∧ isUnf (MapSt.mk (moveR (MemS.mk S.modes
 S.lists) (hs.getD (0 + (↑i : Int).toNat) (PairR.mk (0 : Int) (0 : Int))).a (hs.getD (0 + (↑i : Int).toNat) (PairR.mk (0 : Int) (0 : Int))).b).lists none) = true) ∧ WfM (MemS.mk (moveR (MemS.mk S.modes
 S.lists) (hs.getD (0 + (↑i : Int).toNat) (PairR.mk (0 : Int) (0 : Int))).a (hs.getD (0 + (↑i : Int).toNat) (PairR.mk (0 : Int) (0 : Int))).b).modes (moveR (MemS.mk S.modes S.lists) (hs.getD (0 + (↑i :
 Int).toNat) (PairR.mk (0 : Int) (0 : Int))).a (hs.getD (0 + (↑i : Int).toNat) (PairR.mk (0 : Int) (0 : Int))).b).lists) ∧ obl (decide (0 + (↑i : Int).toNat < hs.length) && sameV (AVal.int IntKind.i64
 (hs.getD (0 + (↑i : Int).toNat) (PairR.mk (0 : Int) (0 : Int))).a) (AVal.int IntKind.i64 (hs.getD (0 + (↑i : Int).toNat) (PairR.mk (0 : Int) (0 : Int))).a)) (∃ (hT_3 : intRow IntKind.i64 = intRow
 IntKind.i64), ∃ (hT'_1 : intRow IntKind.i64 = intRow IntKind.i64), ((rMove (RefS.mk R.modes R.came R.last) (hs.getD (0 + (↑i : Int).toNat) (PairR.mk (0 : Int) (0 : Int))).a (hs.getD (0 + (↑i :
 Int).toNat) (PairR.mk (0 : Int) (0 : Int))).b).modes.length = (rMove (RefS.mk R.modes R.came R.last) (hs.getD (0 + (↑i : Int).toNat) (PairR.mk (0 : Int) (0 : Int))).a (hs.getD (0 + (↑i : Int).toNat)
 (PairR.mk (0 : Int) (0 : Int))).b).modes.length ∧ (rMove (RefS.mk R.modes R.came R.last) (hs.getD (0 + (↑i : Int).toNat) (PairR.mk (0 : Int) (0 : Int))).a (hs.getD (0 + (↑i : Int).toNat) (PairR.mk (0
 : Int) (0 : Int))).b).came.length = (rMove (RefS.mk R.modes R.came R.last) (hs.getD (0 + (↑i : Int).toNat) (PairR.mk (0 : Int) (0 : Int))).a (hs.getD (0 + (↑i : Int).toNat) (PairR.mk (0 : Int) (0 :
 Int))).b).came.length) ∧ WfR (RefS.mk (rMove (RefS.mk R.modes R.came R.last) (hs.getD (0 + (↑i : Int).toNat) (PairR.mk (0 : Int) (0 : Int))).a (hs.getD (0 + (↑i : Int).toNat) (PairR.mk (0 : Int) (0 :
 Int))).b).modes (rMove (RefS.mk R.modes R.came R.last) (hs.getD (0 + (↑i : Int).toNat) (PairR.mk (0 : Int) (0 : Int))).a (hs.getD (0 + (↑i : Int).toNat) (PairR.mk (0 : Int) (0 : Int))).b).came (rMove
 (RefS.mk R.modes R.came R.last) (hs.getD (0 + (↑i : Int).toNat) (PairR.mk (0 : Int) (0 : Int))).a (hs.getD (0 + (↑i : Int).toNat) (PairR.mk (0 : Int) (0 : Int))).b).last) ∧ branch (!decide (modeM
 (MemS.mk (moveR (MemS.mk S.modes S.lists) (hs.getD (0 + (↑i : Int).toNat) (PairR.mk (0 : Int) (0 : Int))).a (hs.getD (0 + (↑i : Int).toNat) (PairR.mk (0 : Int) (0 : Int))).b).modes (moveR (MemS.mk
 S.modes S.lists) (hs.getD (0 + (↑i : Int).toNat) (PairR.mk (0 : Int) (0 : Int))).a (hs.getD (0 + (↑i : Int).toNat) (PairR.mk (0 : Int) (0 : Int))).b).lists) (hs.getD (0 + (↑i : Int).toNat) (PairR.mk
 (0 : Int) (0 : Int))).a = modeM (modesOf (RefS.mk (rMove (RefS.mk R.modes R.came R.last) (hs.getD (0 + (↑i : Int).toNat) (PairR.mk (0 : Int) (0 : Int))).a (hs.getD (0 + (↑i : Int).toNat) (PairR.mk (0
 : Int) (0 : Int))).b).modes (rMove (RefS.mk R.modes R.came R.last) (hs.getD (0 + (↑i : Int).toNat) (PairR.mk (0 : Int) (0 : Int))).a (hs.getD (0 + (↑i : Int).toNat) (PairR.mk (0 : Int) (0 :
 Int))).b).came (rMove (RefS.mk R.modes R.came R.last) (hs.getD (0 + (↑i : Int).toNat) (PairR.mk (0 : Int) (0 : Int))).a (hs.getD (0 + (↑i : Int).toNat) (PairR.mk (0 : Int) (0 : Int))).b).last))
 (hs.getD (0 + (↑i : Int).toNat) (PairR.mk (0 : Int) (0 : Int))).a)) (Q AExit.ret [(6, AVal.bool false)] (AHeap.mk 1 [(0, ABlk.row 37 (pairRow IntKind.i64) hs RowMd.ro)])) (∃ (hT_4 : intRow IntKind.i64
 = intRow IntKind.i64), ∃ (hU_2 : MapT listV = MapT listV), ((moveR (MemS.mk S.modes S.lists) (hs.getD (0 + (↑i : Int).toNat) (PairR.mk (0 : Int) (0 : Int))).a (hs.getD (0 + (↑i : Int).toNat) (PairR.mk
 (0 : Int) (0 : Int))).b).modes.length = (moveR (MemS.mk S.modes S.lists) (hs.getD (0 + (↑i : Int).toNat) (PairR.mk (0 : Int) (0 : Int))).a (hs.getD (0 + (↑i : Int).toNat) (PairR.mk (0 : Int) (0 :
 Int))).b).modes.length ∧ isUnf (MapSt.mk (moveR (MemS.mk S.modes S.lists) (hs.getD (0 + (↑i : Int).toNat) (PairR.mk (0 : Int) (0 : Int))).a (hs.getD (0 + (↑i : Int).toNat) (PairR.mk (0 : Int) (0 :
 Int))).b).lists none) = true) ∧ WfM (MemS.mk (moveR (MemS.mk S.modes S.lists) (hs.getD (0 + (↑i : Int).toNat) (PairR.mk (0 : Int) (0 : Int))).a (hs.getD (0 + (↑i : Int).toNat) (PairR.mk (0 : Int) (0 :
 Int))).b).modes (moveR (MemS.mk S.modes S.lists) (hs.getD (0 + (↑i : Int).toNat) (PairR.mk (0 : Int) (0 : Int))).a (hs.getD (0 + (↑i : Int).toNat) (PairR.mk (0 : Int) (0 : Int))).b).lists) ∧ ∃ (hT_5 :
 intRow IntKind.i64 = intRow IntKind.i64), ∃ (hT'_2 : intRow IntKind.i64 = intRow IntKind.i64), ((rMove (RefS.mk R.modes R.came R.last) (hs.getD (0 + (↑i : Int).toNat) (PairR.mk (0 : Int) (0 : Int))).a
 (hs.getD (0 + (↑i : Int).toNat) (PairR.mk (0 : Int) (0 : Int))).b).modes.length = (rMove (RefS.mk R.modes R.came R.last) (hs.getD (0 + (↑i : Int).toNat) (PairR.mk (0 : Int) (0 : Int))).a (hs.getD (0 +
 (↑i : Int).toNat) (PairR.mk (0 : Int) (0 : Int))).b).modes.length ∧ (rMove (RefS.mk R.modes R.came R.last) (hs.getD (0 + (↑i : Int).toNat) (PairR.mk (0 : Int) (0 : Int))).a (hs.getD (0 + (↑i :
 Int).toNat) (PairR.mk (0 : Int) (0 : Int))).b).came.length = (rMove (RefS.mk R.modes R.came R.last) (hs.getD (0 + (↑i : Int).toNat) (PairR.mk (0 : Int) (0 : Int))).a (hs.getD (0 + (↑i : Int).toNat)
 (PairR.mk (0 : Int) (0 : Int))).b).came.length) ∧ WfR (RefS.mk (rMove (RefS.mk R.modes R.came R.last) (hs.getD (0 + (↑i : Int).toNat) (PairR.mk (0 : Int) (0 : Int))).a (hs.getD (0 + (↑i : Int).toNat)
 (PairR.mk (0 : Int) (0 : Int))).b).modes (rMove (RefS.mk R.modes R.came R.last) (hs.getD (0 + (↑i : Int).toNat) (PairR.mk (0 : Int) (0 : Int))).a (hs.getD (0 + (↑i : Int).toNat) (PairR.mk (0 : Int) (0
 : Int))).b).came (rMove (RefS.mk R.modes R.came R.last) (hs.getD (0 + (↑i : Int).toNat) (PairR.mk (0 : Int) (0 : Int))).a (hs.getD (0 + (↑i : Int).toNat) (PairR.mk (0 : Int) (0 : Int))).b).last) ∧
 branch (decide (rAll (RefS.mk (rMove (RefS.mk R.modes R.came R.last) (hs.getD (0 + (↑i : Int).toNat) (PairR.mk (0 : Int) (0 : Int))).a (hs.getD (0 + (↑i : Int).toNat) (PairR.mk (0 : Int) (0 :
 Int))).b).modes (rMove (RefS.mk R.modes R.came R.last) (hs.getD (0 + (↑i : Int).toNat) (PairR.mk (0 : Int) (0 : Int))).a (hs.getD (0 + (↑i : Int).toNat) (PairR.mk (0 : Int) (0 : Int))).b).came (rMove
 (RefS.mk R.modes R.came R.last) (hs.getD (0 + (↑i : Int).toNat) (PairR.mk (0 : Int) (0 : Int))).a (hs.getD (0 + (↑i : Int).toNat) (PairR.mk (0 : Int) (0 : Int))).b).last) = [])) (obl (true && (allM
 (MemS.mk (moveR (MemS.mk S.modes S.lists) (hs.getD (0 + (↑i : Int).toNat) (PairR.mk (0 : Int) (0 : Int))).a (hs.getD (0 + (↑i : Int).toNat) (PairR.mk (0 : Int) (0 : Int))).b).modes (moveR (MemS.mk
 S.modes S.lists) (hs.getD (0 + (↑i : Int).toNat) (PairR.mk (0 : Int) (0 : Int))).a (hs.getD (0 + (↑i : Int).toNat) (PairR.mk (0 : Int) (0 : Int))).b).lists)).all (okI (intRow IntKind.i64)) && (decide
 ((allM (MemS.mk (moveR (MemS.mk S.modes S.lists) (hs.getD (0 + (↑i : Int).toNat) (PairR.mk (0 : Int) (0 : Int))).a (hs.getD (0 + (↑i : Int).toNat) (PairR.mk (0 : Int) (0 : Int))).b).modes (moveR
 (MemS.mk S.modes S.lists) (hs.getD (0 + (↑i : Int).toNat) (PairR.mk (0 : Int) (0 : Int))).a (hs.getD (0 + (↑i : Int).toNat) (PairR.mk (0 : Int) (0 : Int))).b).lists)).length = (List.map (toI (intRow
 IntKind.i64)) (allM (MemS.mk (moveR (MemS.mk S.modes S.lists) (hs.getD (0 + (↑i : Int).toNat) (PairR.mk (0 : Int) (0 : Int))).a (hs.getD (0 + (↑i : Int).toNat) (PairR.mk (0 : Int) (0 : Int))).b).modes
 (moveR (MemS.mk S.modes S.lists) (hs.getD (0 + (↑i : Int).toNat) (PairR.mk (0 : Int) (0 : Int))).a (hs.getD (0 + (↑i : Int).toNat) (PairR.mk (0 : Int) (0 : Int))).b).lists))).length) && decide
 ((List.map (toI (intRow IntKind.i64)) (allM (MemS.mk (moveR (MemS.mk S.modes S.lists) (hs.getD (0 + (↑i : Int).toNat) (PairR.mk (0 : Int) (0 : Int))).a (hs.getD (0 + (↑i : Int).toNat) (PairR.mk (0 :
 Int) (0 : Int))).b).modes (moveR (MemS.mk S.modes S.lists) (hs.getD (0 + (↑i : Int).toNat) (PairR.mk (0 : Int) (0 : Int))).a (hs.getD (0 + (↑i : Int).toNat) (PairR.mk (0 : Int) (0 :
 Int))).b).lists))).length ≤ 1000)) && true) (branch (!decide (List.map (toI (intRow IntKind.i64)) (allM (MemS.mk (moveR (MemS.mk S.modes S.lists) (hs.getD (0 + (↑i : Int).toNat) (PairR.mk (0 : Int) (0
 : Int))).a (hs.getD (0 + (↑i : Int).toNat) (PairR.mk (0 : Int) (0 : Int))).b).modes (moveR (MemS.mk S.modes S.lists) (hs.getD (0 + (↑i : Int).toNat) (PairR.mk (0 : Int) (0 : Int))).a (hs.getD (0 + (↑i
 : Int).toNat) (PairR.mk (0 : Int) (0 : Int))).b).lists)) = [])) (Q AExit.ret [(6, AVal.bool false)] (AHeap.mk 1 [(0, ABlk.row 37 (pairRow IntKind.i64) hs RowMd.ro)])) (obl (decide ((0 : Int) ≤ (↑i :
 Int) ∧ (↑i : Int) < (↑hs.length : Int))) (obl (decide (0 + (↑i : Int).toNat < hs.length)) (obl (decide ((0 : Int) ≤ (↑i : Int) ∧ (↑i : Int) < (↑hs.length : Int))) (obl (decide (0 + (↑i : Int).toNat <
 hs.length)) (∃ (hT_6 : intRow IntKind.i64 = intRow IntKind.i64), ∃ (hU_3 : MapT listV = MapT listV), ((moveR (MemS.mk S.modes S.lists) (hs.getD (0 + (↑i : Int).toNat) (PairR.mk (0 : Int) (0 : Int))).a
 (hs.getD (0 + (↑i : Int).toNat) (PairR.mk (0 : Int) (0 : Int))).b).modes.length = (moveR (MemS.mk S.modes S.lists) (hs.getD (0 + (↑i : Int).toNat) (PairR.mk (0 : Int) (0 : Int))).a (hs.getD (0 + (↑i :
 Int).toNat) (PairR.mk (0 : Int) (0 : Int))).b).modes.length ∧ isUnf (MapSt.mk (moveR (MemS.mk S.modes S.lists) (hs.getD (0 + (↑i : Int).toNat) (PairR.mk (0 : Int) (0 : Int))).a (hs.getD (0 + (↑i :
 Int).toNat) (PairR.mk (0 : Int) (0 : Int))).b).lists none) = true) ∧ WfM (MemS.mk (moveR (MemS.mk S.modes S.lists) (hs.getD (0 + (↑i : Int).toNat) (PairR.mk (0 : Int) (0 : Int))).a (hs.getD (0 + (↑i :
 Int).toNat) (PairR.mk (0 : Int) (0 : Int))).b).modes (moveR (MemS.mk S.modes S.lists) (hs.getD (0 + (↑i : Int).toNat) (PairR.mk (0 : Int) (0 : Int))).a (hs.getD (0 + (↑i : Int).toNat) (PairR.mk (0 :
 Int) (0 : Int))).b).lists) ∧ obl (decide (0 + (↑i : Int).toNat < hs.length) && sameV (AVal.int IntKind.i64 (hs.getD (0 + (↑i : Int).toNat) (PairR.mk (0 : Int) (0 : Int))).b) (AVal.int IntKind.i64
 (hs.getD (0 + (↑i : Int).toNat) (PairR.mk (0 : Int) (0 : Int))).b)) (∃ (hT_7 : intRow IntKind.i64 = intRow IntKind.i64), ∃ (hT'_3 : intRow IntKind.i64 = intRow IntKind.i64), ((rMove (RefS.mk R.modes
 R.came R.last) (hs.getD (0 + (↑i : Int).toNat) (PairR.mk (0 : Int) (0 : Int))).a (hs.getD (0 + (↑i : Int).toNat) (PairR.mk (0 : Int) (0 : Int))).b).modes.length = (rMove (RefS.mk R.modes R.came
 R.last) (hs.getD (0 + (↑i : Int).toNat) (PairR.mk (0 : Int) (0 : Int))).a (hs.getD (0 + (↑i : Int).toNat) (PairR.mk (0 : Int) (0 : Int))).b).modes.length ∧ (rMove (RefS.mk R.modes R.came R.last)
 (hs.getD (0 + (↑i : Int).toNat) (PairR.mk (0 : Int) (0 : Int))).a (hs.getD (0 + (↑i : Int).toNat) (PairR.mk (0 : Int) (0 : Int))).b).came.length = (rMove (RefS.mk R.modes R.came R.last) (hs.getD (0 +
 (↑i : Int).toNat) (PairR.mk (0 : Int) (0 : Int))).a (hs.getD (0 + (↑i : Int).toNat) (PairR.mk (0 : Int) (0 : Int))).b).came.length) ∧ WfR (RefS.mk (rMove (RefS.mk R.modes R.came R.last) (hs.getD (0 +
 (↑i : Int).toNat) (PairR.mk (0 : Int) (0 : Int))).a (hs.getD (0 + (↑i : Int).toNat) (PairR.mk (0 : Int) (0 : Int))).b).modes (rMove (RefS.mk R.modes R.came R.last) (hs.getD (0 + (↑i : Int).toNat)
 (PairR.mk (0 : Int) (0 : Int))).a (hs.getD (0 + (↑i : Int).toNat) (PairR.mk (0 : Int) (0 : Int))).b).came (rMove (RefS.mk R.modes R.came R.last) (hs.getD (0 + (↑i : Int).toNat) (PairR.mk (0 : Int) (0
 : Int))).a (hs.getD (0 + (↑i : Int).toNat) (PairR.mk (0 : Int) (0 : Int))).b).last) ∧ branch (decide (rOf (RefS.mk (rMove (RefS.mk R.modes R.came R.last) (hs.getD (0 + (↑i : Int).toNat) (PairR.mk (0 :
 Int) (0 : Int))).a (hs.getD (0 + (↑i : Int).toNat) (PairR.mk (0 : Int) (0 : Int))).b).modes (rMove (RefS.mk R.modes R.came R.last) (hs.getD (0 + (↑i : Int).toNat) (PairR.mk (0 : Int) (0 : Int))).a
 (hs.getD (0 + (↑i : Int).toNat) (PairR.mk (0 : Int) (0 : Int))).b).came (rMove (RefS.mk R.modes R.came R.last) (hs.getD (0 + (↑i : Int).toNat) (PairR.mk (0 : Int) (0 : Int))).a (hs.getD (0 + (↑i :
 Int).toNat) (PairR.mk (0 : Int) (0 : Int))).b).last) (hs.getD (0 + (↑i : Int).toNat) (PairR.mk (0 : Int) (0 : Int))).b = [])) (obl (true && (ofM (MemS.mk (moveR (MemS.mk S.modes S.lists) (hs.getD (0 +
 (↑i : Int).toNat) (PairR.mk (0 : Int) (0 : Int))).a (hs.getD (0 + (↑i : Int).toNat) (PairR.mk (0 : Int) (0 : Int))).b).modes (moveR (MemS.mk S.modes S.lists) (hs.getD (0 + (↑i : Int).toNat) (PairR.mk
 (0 : Int) (0 : Int))).a (hs.getD (0 + (↑i : Int).toNat) (PairR.mk (0 : Int) (0 : Int))).b).lists) (hs.getD (0 + (↑i : Int).toNat) (PairR.mk (0 : Int) (0 : Int))).b).all (okI (intRow IntKind.i64)) &&
 (decide ((ofM (MemS.mk (moveR (MemS.mk S.modes S.lists) (hs.getD (0 + (↑i : Int).toNat) (PairR.mk (0 : Int) (0 : Int))).a (hs.getD (0 + (↑i : Int).toNat) (PairR.mk (0 : Int) (0 : Int))).b).modes
 (moveR (MemS.mk S.modes S.lists) (hs.getD (0 + (↑i : Int).toNat) (PairR.mk (0 : Int) (0 : Int))).a (hs.getD (0 + (↑i : Int).toNat) (PairR.mk (0 : Int) (0 : Int))).b).lists) (hs.getD (0 + (↑i :
 Int).toNat) (PairR.mk (0 : Int) (0 : Int))).b).length = (List.map (toI (intRow IntKind.i64)) (ofM (MemS.mk (moveR (MemS.mk S.modes S.lists) (hs.getD (0 + (↑i : Int).toNat) (PairR.mk (0 : Int) (0 :
 Int))).a (hs.getD (0 + (↑i : Int).toNat) (PairR.mk (0 : Int) (0 : Int))).b).modes (moveR (MemS.mk S.modes S.lists) (hs.getD (0 + (↑i : Int).toNat) (PairR.mk (0 : Int) (0 : Int))).a (hs.getD (0 + (↑i :
 Int).toNat) (PairR.mk (0 : Int) (0 : Int))).b).lists) (hs.getD (0 + (↑i : Int).toNat) (PairR.mk (0 : Int) (0 : Int))).b)).length) && decide ((List.map (toI (intRow IntKind.i64)) (ofM (MemS.mk (moveR
 (MemS.mk S.modes S.lists) (hs.getD (0 + (↑i : Int).toNat) (PairR.mk (0 : Int) (0 : Int))).a (hs.getD (0 + (↑i : Int).toNat) (PairR.mk (0 : Int) (0 : Int))).b).modes (moveR (MemS.mk S.modes S.lists)
 (hs.getD (0 + (↑i : Int).toNat) (PairR.mk (0 : Int) (0 : Int))).a (hs.getD (0 + (↑i : Int).toNat) (PairR.mk (0 : Int) (0 : Int))).b).lists) (hs.getD (0 + (↑i : Int).toNat) (PairR.mk (0 : Int) (0 :
 Int))).b)).length ≤ 1000)) && true) (branch (!decide (List.map (toI (intRow IntKind.i64)) (ofM (MemS.mk (moveR (MemS.mk S.modes S.lists) (hs.getD (0 + (↑i : Int).toNat) (PairR.mk (0 : Int) (0 :
 Int))).a (hs.getD (0 + (↑i : Int).toNat) (PairR.mk (0 : Int) (0 : Int))).b).modes (moveR (MemS.mk S.modes S.lists) (hs.getD (0 + (↑i : Int).toNat) (PairR.mk (0 : Int) (0 : Int))).a (hs.getD (0 + (↑i :
 Int).toNat) (PairR.mk (0 : Int) (0 : Int))).b).lists) (hs.getD (0 + (↑i : Int).toNat) (PairR.mk (0 : Int) (0 : Int))).b) = [])) (Q AExit.ret [(6, AVal.bool false)] (AHeap.mk 1 [(0, ABlk.row 37
 (pairRow IntKind.i64) hs RowMd.ro)])) (Q AExit.normal [(2, AVal.sl 0 0 2 0 hs.length none), (7, AVal.ptr 1 0 0 0), (8, AVal.ptr 2 0 0 0), (9, AVal.int IntKind.i64 (↑i : Int))] (AHeap.mk 7 [(0,
 ABlk.row 37 (pairRow IntKind.i64) hs RowMd.ro), (1, ABlk.cells 45 [AVal.sl 3 0 1 0 (moveR (MemS.mk S.modes S.lists) (hs.getD (0 + (↑i : Int).toNat) (PairR.mk (0 : Int) (0 : Int))).a (hs.getD (0 + (↑i
 : Int).toNat) (PairR.mk (0 : Int) (0 : Int))).b).modes.length none, AVal.map 4]), (2, ABlk.cells 48 [AVal.sl 5 0 1 0 (rMove (RefS.mk R.modes R.came R.last) (hs.getD (0 + (↑i : Int).toNat) (PairR.mk (0
 : Int) (0 : Int))).a (hs.getD (0 + (↑i : Int).toNat) (PairR.mk (0 : Int) (0 : Int))).b).modes.length none, AVal.sl 6 0 1 0 (rMove (RefS.mk R.modes R.came R.last) (hs.getD (0 + (↑i : Int).toNat)
 (PairR.mk (0 : Int) (0 : Int))).a (hs.getD (0 + (↑i : Int).toNat) (PairR.mk (0 : Int) (0 : Int))).b).came.length none, AVal.int IntKind.i64 (rMove (RefS.mk R.modes R.came R.last) (hs.getD (0 + (↑i :
 Int).toNat) (PairR.mk (0 : Int) (0 : Int))).a (hs.getD (0 + (↑i : Int).toNat) (PairR.mk (0 : Int) (0 : Int))).b).last]), (3, ABlk.row 3 (intRow IntKind.i64) (moveR (MemS.mk S.modes S.lists) (hs.getD
 (0 + (↑i : Int).toNat) (PairR.mk (0 : Int) (0 : Int))).a (hs.getD (0 + (↑i : Int).toNat) (PairR.mk (0 : Int) (0 : Int))).b).modes RowMd.plain), (4, ABlk.obj (MapT listV) (MapSt.mk (moveR (MemS.mk
 S.modes S.lists) (hs.getD (0 + (↑i : Int).toNat) (PairR.mk (0 : Int) (0 : Int))).a (hs.getD (0 + (↑i : Int).toNat) (PairR.mk (0 : Int) (0 : Int))).b).lists none) []), (5, ABlk.row 3 (intRow
 IntKind.i64) (rMove (RefS.mk R.modes R.came R.last) (hs.getD (0 + (↑i : Int).toNat) (PairR.mk (0 : Int) (0 : Int))).a (hs.getD (0 + (↑i : Int).toNat) (PairR.mk (0 : Int) (0 : Int))).b).modes
 RowMd.plain), (6, ABlk.row 3 (intRow IntKind.i64) (rMove (RefS.mk R.modes R.came R.last) (hs.getD (0 + (↑i : Int).toNat) (PairR.mk (0 : Int) (0 : Int))).a (hs.getD (0 + (↑i : Int).toNat) (PairR.mk (0
 : Int) (0 : Int))).b).came RowMd.plain)])))) (obl (true && (ofM (MemS.mk (moveR (MemS.mk S.modes S.lists) (hs.getD (0 + (↑i : Int).toNat) (PairR.mk (0 : Int) (0 : Int))).a (hs.getD (0 + (↑i :
 Int).toNat) (PairR.mk (0 : Int) (0 : Int))).b).modes (moveR (MemS.mk S.modes S.lists) (hs.getD (0 + (↑i : Int).toNat) (PairR.mk (0 : Int) (0 : Int))).a (hs.getD (0 + (↑i : Int).toNat) (PairR.mk (0 :
 Int) (0 : Int))).b).lists) (hs.getD (0 + (↑i : Int).toNat) (PairR.mk (0 : Int) (0 : Int))).b).all (okI (intRow IntKind.i64)) && (decide ((ofM (MemS.mk (moveR (MemS.mk S.modes S.lists) (hs.getD (0 +
 (↑i : Int).toNat) (PairR.mk (0 : Int) (0 : Int))).a (hs.getD (0 + (↑i : Int).toNat) (PairR.mk (0 : Int) (0 : Int))).b).modes (moveR (MemS.mk S.modes S.lists) (hs.getD (0 + (↑i : Int).toNat) (PairR.mk
 (0 : Int) (0 : Int))).a (hs.getD (0 + (↑i : Int).toNat) (PairR.mk (0 : Int) (0 : Int))).b).lists) (hs.getD (0 + (↑i : Int).toNat) (PairR.mk (0 : Int) (0 : Int))).b).length = (List.map (toI (intRow
 IntKind.i64)) (ofM (MemS.mk (moveR (MemS.mk S.modes S.lists) (hs.getD (0 + (↑i : Int).toNat) (PairR.mk (0 : Int) (0 : Int))).a (hs.getD (0 + (↑i : Int).toNat) (PairR.mk (0 : Int) (0 : Int))).b).modes
 (moveR (MemS.mk S.modes S.lists) (hs.getD (0 + (↑i : Int).toNat) (PairR.mk (0 : Int) (0 : Int))).a (hs.getD (0 + (↑i : Int).toNat) (PairR.mk (0 : Int) (0 : Int))).b).lists) (hs.getD (0 + (↑i :
 Int).toNat) (PairR.mk (0 : Int) (0 : Int))).b)).length) && decide ((List.map (toI (intRow IntKind.i64)) (ofM (MemS.mk (moveR (MemS.mk S.modes S.lists) (hs.getD (0 + (↑i : Int).toNat) (PairR.mk (0 :
 Int) (0 : Int))).a (hs.getD (0 + (↑i : Int).toNat) (PairR.mk (0 : Int) (0 : Int))).b).modes (moveR (MemS.mk S.modes S.lists) (hs.getD (0 + (↑i : Int).toNat) (PairR.mk (0 : Int) (0 : Int))).a (hs.getD
 (0 + (↑i : Int).toNat) (PairR.mk (0 : Int) (0 : Int))).b).lists) (hs.getD (0 + (↑i : Int).toNat) (PairR.mk (0 : Int) (0 : Int))).b)).length ≤ 1000)) && (true && (rOf (RefS.mk (rMove (RefS.mk R.modes
 R.came R.last) (hs.getD (0 + (↑i : Int).toNat) (PairR.mk (0 : Int) (0 : Int))).a (hs.getD (0 + (↑i : Int).toNat) (PairR.mk (0 : Int) (0 : Int))).b).modes (rMove (RefS.mk R.modes R.came R.last)
 (hs.getD (0 + (↑i : Int).toNat) (PairR.mk (0 : Int) (0 : Int))).a (hs.getD (0 + (↑i : Int).toNat) (PairR.mk (0 : Int) (0 : Int))).b).came (rMove (RefS.mk R.modes R.came R.last) (hs.getD (0 + (↑i :
 Int).toNat) (PairR.mk (0 : Int) (0 : Int))).a (hs.getD (0 + (↑i : Int).toNat) (PairR.mk (0 : Int) (0 : Int))).b).last) (hs.getD (0 + (↑i : Int).toNat) (PairR.mk (0 : Int) (0 : Int))).b).all (okI
 (intRow IntKind.i64)) && (decide ((rOf (RefS.mk (rMove (RefS.mk R.modes R.came R.last) (hs.getD (0 + (↑i : Int).toNat) (PairR.mk (0 : Int) (0 : Int))).a (hs.getD (0 + (↑i : Int).toNat) (PairR.mk (0 :
 Int) (0 : Int))).b).modes (rMove (RefS.mk R.modes R.came R.last) (hs.getD (0 + (↑i : Int).toNat) (PairR.mk (0 : Int) (0 : Int))).a (hs.getD (0 + (↑i : Int).toNat) (PairR.mk (0 : Int) (0 :
 Int))).b).came (rMove (RefS.mk R.modes R.came R.last) (hs.getD (0 + (↑i : Int).toNat) (PairR.mk (0 : Int) (0 : Int))).a (hs.getD (0 + (↑i : Int).toNat) (PairR.mk (0 : Int) (0 : Int))).b).last)
 (hs.getD (0 + (↑i : Int).toNat) (PairR.mk (0 : Int) (0 : Int))).b).length = (List.map (toI (intRow IntKind.i64)) (rOf (RefS.mk (rMove (RefS.mk R.modes R.came R.last) (hs.getD (0 + (↑i : Int).toNat)
 (PairR.mk (0 : Int) (0 : Int))).a (hs.getD (0 + (↑i : Int).toNat) (PairR.mk (0 : Int) (0 : Int))).b).modes (rMove (RefS.mk R.modes R.came R.last) (hs.getD (0 + (↑i : Int).toNat) (PairR.mk (0 : Int) (0
 : Int))).a (hs.getD (0 + (↑i : Int).toNat) (PairR.mk (0 : Int) (0 : Int))).b).came (rMove (RefS.mk R.modes R.came R.last) (hs.getD (0 + (↑i : Int).toNat) (PairR.mk (0 : Int) (0 : Int))).a (hs.getD (0
 + (↑i : Int).toNat) (PairR.mk (0 : Int) (0 : Int))).b).last) (hs.getD (0 + (↑i : Int).toNat) (PairR.mk (0 : Int) (0 : Int))).b)).length) && decide ((List.map (toI (intRow IntKind.i64)) (rOf (RefS.mk
 (rMove (RefS.mk R.modes R.came R.last) (hs.getD (0 + (↑i : Int).toNat) (PairR.mk (0 : Int) (0 : Int))).a (hs.getD (0 + (↑i : Int).toNat) (PairR.mk (0 : Int) (0 : Int))).b).modes (rMove (RefS.mk
 R.modes R.came R.last) (hs.getD (0 + (↑i : Int).toNat) (PairR.mk (0 : Int) (0 : Int))).a (hs.getD (0 + (↑i : Int).toNat) (PairR.mk (0 : Int) (0 : Int))).b).came (rMove (RefS.mk R.modes R.came R.last)
 (hs.getD (0 + (↑i : Int).toNat) (PairR.mk (0 : Int) (0 : Int))).a (hs.getD (0 + (↑i : Int).toNat) (PairR.mk (0 : Int) (0 : Int))).b).last) (hs.getD (0 + (↑i : Int).toNat) (PairR.mk (0 : Int) (0 :
 Int))).b)).length ≤ 1000)))) (branch (!decide (List.map (toI (intRow IntKind.i64)) (ofM (MemS.mk (moveR (MemS.mk S.modes S.lists) (hs.getD (0 + (↑i : Int).toNat) (PairR.mk (0 : Int) (0 : Int))).a
 (hs.getD (0 + (↑i : Int).toNat) (PairR.mk (0 : Int) (0 : Int))).b).modes (moveR (MemS.mk S.modes S.lists) (hs.getD (0 + (↑i : Int).toNat) (PairR.mk (0 : Int) (0 : Int))).a (hs.getD (0 + (↑i :
 Int).toNat) (PairR.mk (0 : Int) (0 : Int))).b).lists) (hs.getD (0 + (↑i : Int).toNat) (PairR.mk (0 : Int) (0 : Int))).b) = List.map (toI (intRow IntKind.i64)) (rOf (RefS.mk (rMove (RefS.mk R.modes
 R.came R.last) (hs.getD (0 + (↑i : Int).toNat) (PairR.mk (0 : Int) (0 : Int))).a (hs.getD (0 + (↑i : Int).toNat) (PairR.mk (0 : Int) (0 : Int))).b).modes (rMove (RefS.mk R.modes R.came R.last)
 (hs.getD (0 + (↑i : Int).toNat) (PairR.mk (0 : Int) (0 : Int))).a (hs.getD (0 + (↑i : Int).toNat) (PairR.mk (0 : Int) (0 : Int))).b).came (rMove (RefS.mk R.modes R.came R.last) (hs.getD (0 + (↑i :
 Int).toNat) (PairR.mk (0 : Int) (0 : Int))).a (hs.getD (0 + (↑i : Int).toNat) (PairR.mk (0 : Int) (0 : Int))).b).last) (hs.getD (0 + (↑i : Int).toNat) (PairR.mk (0 : Int) (0 : Int))).b))) (Q AExit.ret
 [(6, AVal.bool false)] (AHeap.mk 1 [(0, ABlk.row 37 (pairRow IntKind.i64) hs RowMd.ro)])) (Q AExit.normal [(2, AVal.sl 0 0 2 0 hs.length none), (7, AVal.ptr 1 0 0 0), (8, AVal.ptr 2 0 0 0), (9,
 AVal.int IntKind.i64 (↑i : Int))] (AHeap.mk 7 [(0, ABlk.row 37 (pairRow IntKind.i64) hs RowMd.ro), (1, ABlk.cells 45 [AVal.sl 3 0 1 0 (moveR (MemS.mk S.modes S.lists) (hs.getD (0 + (↑i : Int).toNat)
 (PairR.mk (0 : Int) (0 : Int))).a (hs.getD (0 + (↑i : Int).toNat) (PairR.mk (0 : Int) (0 : Int))).b).modes.length none, AVal.map 4]), (2, ABlk.cells 48 [AVal.sl 5 0 1 0 (rMove (RefS.mk R.modes R.came
 R.last) (hs.getD (0 + (↑i : Int).toNat) (PairR.mk (0 : Int) (0 : Int))).a (hs.getD (0 + (↑i : Int).toNat) (PairR.mk (0 : Int) (0 : Int))).b).modes.length none, AVal.sl 6 0 1 0 (rMove (RefS.mk R.modes
 R.came R.last) (hs.getD (0 + (↑i : Int).toNat) (PairR.mk (0 : Int) (0 : Int))).a (hs.getD (0 + (↑i : Int).toNat) (PairR.mk (0 : Int) (0 : Int))).b).came.length none, AVal.int IntKind.i64 (rMove
 (RefS.mk R.modes R.came R.last) (hs.getD (0 + (↑i : Int).toNat) (PairR.mk (0 : Int) (0 : Int))).a (hs.getD (0 + (↑i : Int).toNat) (PairR.mk (0 : Int) (0 : Int))).b).last]), (3, ABlk.row 3 (intRow
 IntKind.i64) (moveR (MemS.mk S.modes S.lists) (hs.getD (0 + (↑i : Int).toNat) (PairR.mk (0 : Int) (0 : Int))).a (hs.getD (0 + (↑i : Int).toNat) (PairR.mk (0 : Int) (0 : Int))).b).modes RowMd.plain),
 (4, ABlk.obj (MapT listV) (MapSt.mk (moveR (MemS.mk S.modes S.lists) (hs.getD (0 + (↑i : Int).toNat) (PairR.mk (0 : Int) (0 : Int))).a (hs.getD (0 + (↑i : Int).toNat) (PairR.mk (0 : Int) (0 :
 Int))).b).lists none) []), (5, ABlk.row 3 (intRow IntKind.i64) (rMove (RefS.mk R.modes R.came R.last) (hs.getD (0 + (↑i : Int).toNat) (PairR.mk (0 : Int) (0 : Int))).a (hs.getD (0 + (↑i : Int).toNat)
 (PairR.mk (0 : Int) (0 : Int))).b).modes RowMd.plain), (6, ABlk.row 3 (intRow IntKind.i64) (rMove (RefS.mk R.modes R.came R.last) (hs.getD (0 + (↑i : Int).toNat) (PairR.mk (0 : Int) (0 : Int))).a
 (hs.getD (0 + (↑i : Int).toNat) (PairR.mk (0 : Int) (0 : Int))).b).came RowMd.plain)])))))))))))) (obl (true && (allM (MemS.mk (moveR (MemS.mk S.modes S.lists) (hs.getD (0 + (↑i : Int).toNat)
 (PairR.mk (0 : Int) (0 : Int))).a (hs.getD (0 + (↑i : Int).toNat) (PairR.mk (0 : Int) (0 : Int))).b).modes (moveR (MemS.mk S.modes S.lists) (hs.getD (0 + (↑i : Int).toNat) (PairR.mk (0 : Int) (0 :
 Int))).a (hs.getD (0 + (↑i : Int).toNat) (PairR.mk (0 : Int) (0 : Int))).b).lists)).all (okI (intRow IntKind.i64)) && (decide ((allM (MemS.mk (moveR (MemS.mk S.modes S.lists) (hs.getD (0 + (↑i :
 Int).toNat) (PairR.mk (0 : Int) (0 : Int))).a (hs.getD (0 + (↑i : Int).toNat) (PairR.mk (0 : Int) (0 : Int))).b).modes (moveR (MemS.mk S.modes S.lists) (hs.getD (0 + (↑i : Int).toNat) (PairR.mk (0 :
 Int) (0 : Int))).a (hs.getD (0 + (↑i : Int).toNat) (PairR.mk (0 : Int) (0 : Int))).b).lists)).length = (List.map (toI (intRow IntKind.i64)) (allM (MemS.mk (moveR (MemS.mk S.modes S.lists) (hs.getD (0
 + (↑i : Int).toNat) (PairR.mk (0 : Int) (0 : Int))).a (hs.getD (0 + (↑i : Int).toNat) (PairR.mk (0 : Int) (0 : Int))).b).modes (moveR (MemS.mk S.modes S.lists) (hs.getD (0 + (↑i : Int).toNat)
 (PairR.mk (0 : Int) (0 : Int))).a (hs.getD (0 + (↑i : Int).toNat) (PairR.mk (0 : Int) (0 : Int))).b).lists))).length) && decide ((List.map (toI (intRow IntKind.i64)) (allM (MemS.mk (moveR (MemS.mk
 S.modes S.lists) (hs.getD (0 + (↑i : Int).toNat) (PairR.mk (0 : Int) (0 : Int))).a (hs.getD (0 + (↑i : Int).toNat) (PairR.mk (0 : Int) (0 : Int))).b).modes (moveR (MemS.mk S.modes S.lists) (hs.getD (0
 + (↑i : Int).toNat) (PairR.mk (0 : Int) (0 : Int))).a (hs.getD (0 + (↑i : Int).toNat) (PairR.mk (0 : Int) (0 : Int))).b).lists))).length ≤ 1000)) && (true && (rAll (RefS.mk (rMove (RefS.mk R.modes
 R.came R.last) (hs.getD (0 + (↑i : Int).toNat) (PairR.mk (0 : Int) (0 : Int))).a (hs.getD (0 + (↑i : Int).toNat) (PairR.mk (0 : Int) (0 : Int))).b).modes (rMove (RefS.mk R.modes R.came R.last)
 (hs.getD (0 + (↑i : Int).toNat) (PairR.mk (0 : Int) (0 : Int))).a (hs.getD (0 + (↑i : Int).toNat) (PairR.mk (0 : Int) (0 : Int))).b).came (rMove (RefS.mk R.modes R.came R.last) (hs.getD (0 + (↑i :
 Int).toNat) (PairR.mk (0 : Int) (0 : Int))).a (hs.getD (0 + (↑i : Int).toNat) (PairR.mk (0 : Int) (0 : Int))).b).last)).all (okI (intRow IntKind.i64)) && (decide ((rAll (RefS.mk (rMove (RefS.mk
 R.modes R.came R.last) (hs.getD (0 + (↑i : Int).toNat) (PairR.mk (0 : Int) (0 : Int))).a (hs.getD (0 + (↑i : Int).toNat) (PairR.mk (0 : Int) (0 : Int))).b).modes (rMove (RefS.mk R.modes R.came R.last)
 (hs.getD (0 + (↑i : Int).toNat) (PairR.mk (0 : Int) (0 : Int))).a (hs.getD (0 + (↑i : Int).toNat) (PairR.mk (0 : Int) (0 : Int))).b).came (rMove (RefS.mk R.modes R.came R.last) (hs.getD (0 + (↑i :
 Int).toNat) (PairR.mk (0 : Int) (0 : Int))).a (hs.getD (0 + (↑i : Int).toNat) (PairR.mk (0 : Int) (0 : Int))).b).last)).length = (List.map (toI (intRow IntKind.i64)) (rAll (RefS.mk (rMove (RefS.mk
 R.modes R.came R.last) (hs.getD (0 + (↑i : Int).toNat) (PairR.mk (0 : Int) (0 : Int))).a (hs.getD (0 + (↑i : Int).toNat) (PairR.mk (0 : Int) (0 : Int))).b).modes (rMove (RefS.mk R.modes R.came R.last)
 (hs.getD (0 + (↑i : Int).toNat) (PairR.mk (0 : Int) (0 : Int))).a (hs.getD (0 + (↑i : Int).toNat) (PairR.mk (0 : Int) (0 : Int))).b).came (rMove (RefS.mk R.modes R.came R.last) (hs.getD (0 + (↑i :
 Int).toNat) (PairR.mk (0 : Int) (0 : Int))).a (hs.getD (0 + (↑i : Int).toNat) (PairR.mk (0 : Int) (0 : Int))).b).last))).length) && decide ((List.map (toI (intRow IntKind.i64)) (rAll (RefS.mk (rMove
 (RefS.mk R.modes R.came R.last) (hs.getD (0 + (↑i : Int).toNat) (PairR.mk (0 : Int) (0 : Int))).a (hs.getD (0 + (↑i : Int).toNat) (PairR.mk (0 : Int) (0 : Int))).b).modes (rMove (RefS.mk R.modes
 R.came R.last) (hs.getD (0 + (↑i : Int).toNat) (PairR.mk (0 : Int) (0 : Int))).a (hs.getD (0 + (↑i : Int).toNat) (PairR.mk (0 : Int) (0 : Int))).b).came (rMove (RefS.mk R.modes R.came R.last) (hs.getD
 (0 + (↑i : Int).toNat) (PairR.mk (0 : Int) (0 : Int))).a (hs.getD (0 + (↑i : Int).toNat) (PairR.mk (0 : Int) (0 : Int))).b).last))).length ≤ 1000)))) (branch (!decide (List.map (toI (intRow
 IntKind.i64)) (allM (MemS.mk (moveR (MemS.mk S.modes S.lists) (hs.getD (0 + (↑i : Int).toNat) (PairR.mk (0 : Int) (0 : Int))).a (hs.getD (0 + (↑i : Int).toNat) (PairR.mk (0 : Int) (0 : Int))).b).modes
 (moveR (MemS.mk S.modes S.lists) (hs.getD (0 + (↑i : Int).toNat) (PairR.mk (0 : Int) (0 : Int))).a (hs.getD (0 + (↑i : Int).toNat) (PairR.mk (0 : Int) (0 : Int))).b).lists)) = List.map (toI (intRow
 IntKind.i64)) (rAll (RefS.mk (rMove (RefS.mk R.modes R.came R.last) (hs.getD (0 + (↑i : Int).toNat) (PairR.mk (0 : Int) (0 : Int))).a (hs.getD (0 + (↑i : Int).toNat) (PairR.mk (0 : Int) (0 :
 Int))).b).modes (rMove (RefS.mk R.modes R.came R.last) (hs.getD (0 + (↑i : Int).toNat) (PairR.mk (0 : Int) (0 : Int))).a (hs.getD (0 + (↑i : Int).toNat) (PairR.mk (0 : Int) (0 : Int))).b).came (rMove
 (RefS.mk R.modes R.came R.last) (hs.getD (0 + (↑i : Int).toNat) (PairR.mk (0 : Int) (0 : Int))).a (hs.getD (0 + (↑i : Int).toNat) (PairR.mk (0 : Int) (0 : Int))).b).last)))) (Q AExit.ret [(6,
 AVal.bool false)] (AHeap.mk 1 [(0, ABlk.row 37 (pairRow IntKind.i64) hs RowMd.ro)])) (obl (decide ((0 : Int) ≤ (↑i : Int) ∧ (↑i : Int) < (↑hs.length : Int))) (obl (decide (0 + (↑i : Int).toNat <
 hs.length)) (obl (decide ((0 : Int) ≤ (↑i : Int) ∧ (↑i : Int) < (↑hs.length : Int))) (obl (decide (0 + (↑i : Int).toNat < hs.length)) (∃ (hT_6 : intRow IntKind.i64 = intRow IntKind.i64), ∃ (hU_3 :
 MapT listV = MapT listV), ((moveR (MemS.mk S.modes S.lists) (hs.getD (0 + (↑i : Int).toNat) (PairR.mk (0 : Int) (0 : Int))).a (hs.getD (0 + (↑i : Int).toNat) (PairR.mk (0 : Int) (0 :
 Int))).b).modes.length = (moveR (MemS.mk S.modes S.lists) (hs.getD (0 + (↑i : Int).toNat) (PairR.mk (0 : Int) (0 : Int))).a (hs.getD (0 + (↑i : Int).toNat) (PairR.mk (0 : Int) (0 :
 Int))).b).modes.length ∧ isUnf (MapSt.mk (moveR (MemS.mk S.modes S.lists) (hs.getD (0 + (↑i : Int).toNat) (PairR.mk (0 : Int) (0 : Int))).a (hs.getD (0 + (↑i : Int).toNat) (PairR.mk (0 : Int) (0 :
 Int))).b).lists none) = true) ∧ WfM (MemS.mk (moveR (MemS.mk S.modes S.lists) (hs.getD (0 + (↑i : Int).toNat) (PairR.mk (0 : Int) (0 : Int))).a (hs.getD (0 + (↑i : Int).toNat) (PairR.mk (0 : Int) (0 :
 Int))).b).modes (moveR (MemS.mk S.modes S.lists) (hs.getD (0 + (↑i : Int).toNat) (PairR.mk (0 : Int) (0 : Int))).a (hs.getD (0 + (↑i : Int).toNat) (PairR.mk (0 : Int) (0 : Int))).b).lists) ∧ obl
 (decide (0 + (↑i : Int).toNat < hs.length) && sameV (AVal.int IntKind.i64 (hs.getD (0 + (↑i : Int).toNat) (PairR.mk (0 : Int) (0 : Int))).b) (AVal.int IntKind.i64 (hs.getD (0 + (↑i : Int).toNat)
 (PairR.mk (0 : Int) (0 : Int))).b)) (∃ (hT_7 : intRow IntKind.i64 = intRow IntKind.i64), ∃ (hT'_3 : intRow IntKind.i64 = intRow IntKind.i64), ((rMove (RefS.mk R.modes R.came R.last) (hs.getD (0 + (↑i
 : Int).toNat) (PairR.mk (0 : Int) (0 : Int))).a (hs.getD (0 + (↑i : Int).toNat) (PairR.mk (0 : Int) (0 : Int))).b).modes.length = (rMove (RefS.mk R.modes R.came R.last) (hs.getD (0 + (↑i : Int).toNat)
 (PairR.mk (0 : Int) (0 : Int))).a (hs.getD (0 + (↑i : Int).toNat) (PairR.mk (0 : Int) (0 : Int))).b).modes.length ∧ (rMove (RefS.mk R.modes R.came R.last) (hs.getD (0 + (↑i : Int).toNat) (PairR.mk (0
 : Int) (0 : Int))).a (hs.getD (0 + (↑i : Int).toNat) (PairR.mk (0 : Int) (0 : Int))).b).came.length = (rMove (RefS.mk R.modes R.came R.last) (hs.getD (0 + (↑i : Int).toNat) (PairR.mk (0 : Int) (0 :
 Int))).a (hs.getD (0 + (↑i : Int).toNat) (PairR.mk (0 : Int) (0 : Int))).b).came.length) ∧ WfR (RefS.mk (rMove (RefS.mk R.modes R.came R.last) (hs.getD (0 + (↑i : Int).toNat) (PairR.mk (0 : Int) (0 :
 Int))).a (hs.getD (0 + (↑i : Int).toNat) (PairR.mk (0 : Int) (0 : Int))).b).modes (rMove (RefS.mk R.modes R.came R.last) (hs.getD (0 + (↑i : Int).toNat) (PairR.mk (0 : Int) (0 : Int))).a (hs.getD (0 +
 (↑i : Int).toNat) (PairR.mk (0 : Int) (0 : Int))).b).came (rMove (RefS.mk R.modes R.came R.last) (hs.getD (0 + (↑i : Int).toNat) (PairR.mk (0 : Int) (0 : Int))).a (hs.getD (0 + (↑i : Int).toNat)
 (PairR.mk (0 : Int) (0 : Int))).b).last) ∧ branch (decide (rOf (RefS.mk (rMove (RefS.mk R.modes R.came R.last) (hs.getD (0 + (↑i : Int).toNat) (PairR.mk (0 : Int) (0 : Int))).a (hs.getD (0 + (↑i :
 Int).toNat) (PairR.mk (0 : Int) (0 : Int))).b).modes (rMove (RefS.mk R.modes R.came R.last) (hs.getD (0 + (↑i : Int).toNat) (PairR.mk (0 : Int) (0 : Int))).a (hs.getD (0 + (↑i : Int).toNat) (PairR.mk
 (0 : Int) (0 : Int))).b).came (rMove (RefS.mk R.modes R.came R.last) (hs.getD (0 + (↑i : Int).toNat) (PairR.mk (0 : Int) (0 : Int))).a (hs.getD (0 + (↑i : Int).toNat) (PairR.mk (0 : Int) (0 :
 Int))).b).last) (hs.getD (0 + (↑i : Int).toNat) (PairR.mk (0 : Int) (0 : Int))).b = [])) (obl (true && (ofM (MemS.mk (moveR (MemS.mk S.modes S.lists) (hs.getD (0 + (↑i : Int).toNat) (PairR.mk (0 :
 Int) (0 : Int))).a (hs.getD (0 + (↑i : Int).toNat) (PairR.mk (0 : Int) (0 : Int))).b).modes (moveR (MemS.mk S.modes S.lists) (hs.getD (0 + (↑i : Int).toNat) (PairR.mk (0 : Int) (0 : Int))).a (hs.getD
 (0 + (↑i : Int).toNat) (PairR.mk (0 : Int) (0 : Int))).b).lists) (hs.getD (0 + (↑i : Int).toNat) (PairR.mk (0 : Int) (0 : Int))).b).all (okI (intRow IntKind.i64)) && (decide ((ofM (MemS.mk (moveR
 (MemS.mk S.modes S.lists) (hs.getD (0 + (↑i : Int).toNat) (PairR.mk (0 : Int) (0 : Int))).a (hs.getD (0 + (↑i : Int).toNat) (PairR.mk (0 : Int) (0 : Int))).b).modes (moveR (MemS.mk S.modes S.lists)
 (hs.getD (0 + (↑i : Int).toNat) (PairR.mk (0 : Int) (0 : Int))).a (hs.getD (0 + (↑i : Int).toNat) (PairR.mk (0 : Int) (0 : Int))).b).lists) (hs.getD (0 + (↑i : Int).toNat) (PairR.mk (0 : Int) (0 :
 Int))).b).length = (List.map (toI (intRow IntKind.i64)) (ofM (MemS.mk (moveR (MemS.mk S.modes S.lists) (hs.getD (0 + (↑i : Int).toNat) (PairR.mk (0 : Int) (0 : Int))).a (hs.getD (0 + (↑i : Int).toNat)
 (PairR.mk (0 : Int) (0 : Int))).b).modes (moveR (MemS.mk S.modes S.lists) (hs.getD (0 + (↑i : Int).toNat) (PairR.mk (0 : Int) (0 : Int))).a (hs.getD (0 + (↑i : Int).toNat) (PairR.mk (0 : Int) (0 :
 Int))).b).lists) (hs.getD (0 + (↑i : Int).toNat) (PairR.mk (0 : Int) (0 : Int))).b)).length) && decide ((List.map (toI (intRow IntKind.i64)) (ofM (MemS.mk (moveR (MemS.mk S.modes S.lists) (hs.getD (0
 + (↑i : Int).toNat) (PairR.mk (0 : Int) (0 : Int))).a (hs.getD (0 + (↑i : Int).toNat) (PairR.mk (0 : Int) (0 : Int))).b).modes (moveR (MemS.mk S.modes S.lists) (hs.getD (0 + (↑i : Int).toNat)
 (PairR.mk (0 : Int) (0 : Int))).a (hs.getD (0 + (↑i : Int).toNat) (PairR.mk (0 : Int) (0 : Int))).b).lists) (hs.getD (0 + (↑i : Int).toNat) (PairR.mk (0 : Int) (0 : Int))).b)).length ≤ 1000)) && true)
 (branch (!decide (List.map (toI (intRow IntKind.i64)) (ofM (MemS.mk (moveR (MemS.mk S.modes S.lists) (hs.getD (0 + (↑i : Int).toNat) (PairR.mk (0 : Int) (0 : Int))).a (hs.getD (0 + (↑i : Int).toNat)
 (PairR.mk (0 : Int) (0 : Int))).b).modes (moveR (MemS.mk S.modes S.lists) (hs.getD (0 + (↑i : Int).toNat) (PairR.mk (0 : Int) (0 : Int))).a (hs.getD (0 + (↑i : Int).toNat) (PairR.mk (0 : Int) (0 :
 Int))).b).lists) (hs.getD (0 + (↑i : Int).toNat) (PairR.mk (0 : Int) (0 : Int))).b) = [])) (Q AExit.ret [(6, AVal.bool false)] (AHeap.mk 1 [(0, ABlk.row 37 (pairRow IntKind.i64) hs RowMd.ro)])) (Q
 AExit.normal [(2, AVal.sl 0 0 2 0 hs.length none), (7, AVal.ptr 1 0 0 0), (8, AVal.ptr 2 0 0 0), (9, AVal.int IntKind.i64 (↑i : Int))] (AHeap.mk 7 [(0, ABlk.row 37 (pairRow IntKind.i64) hs RowMd.ro),
 (1, ABlk.cells 45 [AVal.sl 3 0 1 0 (moveR (MemS.mk S.modes S.lists) (hs.getD (0 + (↑i : Int).toNat) (PairR.mk (0 : Int) (0 : Int))).a (hs.getD (0 + (↑i : Int).toNat) (PairR.mk (0 : Int) (0 :
 Int))).b).modes.length none, AVal.map 4]), (2, ABlk.cells 48 [AVal.sl 5 0 1 0 (rMove (RefS.mk R.modes R.came R.last) (hs.getD (0 + (↑i : Int).toNat) (PairR.mk (0 : Int) (0 : Int))).a (hs.getD (0 + (↑i
 : Int).toNat) (PairR.mk (0 : Int) (0 : Int))).b).modes.length none, AVal.sl 6 0 1 0 (rMove (RefS.mk R.modes R.came R.last) (hs.getD (0 + (↑i : Int).toNat) (PairR.mk (0 : Int) (0 : Int))).a (hs.getD (0
 + (↑i : Int).toNat) (PairR.mk (0 : Int) (0 : Int))).b).came.length none, AVal.int IntKind.i64 (rMove (RefS.mk R.modes R.came R.last) (hs.getD (0 + (↑i : Int).toNat) (PairR.mk (0 : Int) (0 : Int))).a
 (hs.getD (0 + (↑i : Int).toNat) (PairR.mk (0 : Int) (0 : Int))).b).last]), (3, ABlk.row 3 (intRow IntKind.i64) (moveR (MemS.mk S.modes S.lists) (hs.getD (0 + (↑i : Int).toNat) (PairR.mk (0 : Int) (0 :
 Int))).a (hs.getD (0 + (↑i : Int).toNat) (PairR.mk (0 : Int) (0 : Int))).b).modes RowMd.plain), (4, ABlk.obj (MapT listV) (MapSt.mk (moveR (MemS.mk S.modes S.lists) (hs.getD (0 + (↑i : Int).toNat)
 (PairR.mk (0 : Int) (0 : Int))).a (hs.getD (0 + (↑i : Int).toNat) (PairR.mk (0 : Int) (0 : Int))).b).lists none) []), (5, ABlk.row 3 (intRow IntKind.i64) (rMove (RefS.mk R.modes R.came R.last)
 (hs.getD (0 + (↑i : Int).toNat) (PairR.mk (0 : Int) (0 : Int))).a (hs.getD (0 + (↑i : Int).toNat) (PairR.mk (0 : Int) (0 : Int))).b).modes RowMd.plain), (6, ABlk.row 3 (intRow IntKind.i64) (rMove
 (RefS.mk R.modes R.came R.last) (hs.getD (0 + (↑i : Int).toNat) (PairR.mk (0 : Int) (0 : Int))).a (hs.getD (0 + (↑i : Int).toNat) (PairR.mk (0 : Int) (0 : Int))).b).came RowMd.plain)])))) (obl (true
 && (ofM (MemS.mk (moveR (MemS.mk S.modes S.lists) (hs.getD (0 + (↑i : Int).toNat) (PairR.mk (0 : Int) (0 : Int))).a (hs.getD (0 + (↑i : Int).toNat) (PairR.mk (0 : Int) (0 : Int))).b).modes (moveR
 (MemS.mk S.modes S.lists) (hs.getD (0 + (↑i : Int).toNat) (PairR.mk (0 : Int) (0 : Int))).a (hs.getD (0 + (↑i : Int).toNat) (PairR.mk (0 : Int) (0 : Int))).b).lists) (hs.getD (0 + (↑i : Int).toNat)
 (PairR.mk (0 : Int) (0 : Int))).b).all (okI (intRow IntKind.i64)) && (decide ((ofM (MemS.mk (moveR (MemS.mk S.modes S.lists) (hs.getD (0 + (↑i : Int).toNat) (PairR.mk (0 : Int) (0 : Int))).a (hs.getD
 (0 + (↑i : Int).toNat) (PairR.mk (0 : Int) (0 : Int))).b).modes (moveR (MemS.mk S.modes S.lists) (hs.getD (0 + (↑i : Int).toNat) (PairR.mk (0 : Int) (0 : Int))).a (hs.getD (0 + (↑i : Int).toNat)
 (PairR.mk (0 : Int) (0 : Int))).b).lists) (hs.getD (0 + (↑i : Int).toNat) (PairR.mk (0 : Int) (0 : Int))).b).length = (List.map (toI (intRow IntKind.i64)) (ofM (MemS.mk (moveR (MemS.mk S.modes
 S.lists) (hs.getD (0 + (↑i : Int).toNat) (PairR.mk (0 : Int) (0 : Int))).a (hs.getD (0 + (↑i : Int).toNat) (PairR.mk (0 : Int) (0 : Int))).b).modes (moveR (MemS.mk S.modes S.lists) (hs.getD (0 + (↑i :
 Int).toNat) (PairR.mk (0 : Int) (0 : Int))).a (hs.getD (0 + (↑i : Int).toNat) (PairR.mk (0 : Int) (0 : Int))).b).lists) (hs.getD (0 + (↑i : Int).toNat) (PairR.mk (0 : Int) (0 : Int))).b)).length) &&
 decide ((List.map (toI (intRow IntKind.i64)) (ofM (MemS.mk (moveR (MemS.mk S.modes S.lists) (hs.getD (0 + (↑i : Int).toNat) (PairR.mk (0 : Int) (0 : Int))).a (hs.getD (0 + (↑i : Int).toNat) (PairR.mk
 (0 : Int) (0 : Int))).b).modes (moveR (MemS.mk S.modes S.lists) (hs.getD (0 + (↑i : Int).toNat) (PairR.mk (0 : Int) (0 : Int))).a (hs.getD (0 + (↑i : Int).toNat) (PairR.mk (0 : Int) (0 :
 Int))).b).lists) (hs.getD (0 + (↑i : Int).toNat) (PairR.mk (0 : Int) (0 : Int))).b)).length ≤ 1000)) && (true && (rOf (RefS.mk (rMove (RefS.mk R.modes R.came R.last) (hs.getD (0 + (↑i : Int).toNat)
 (PairR.mk (0 : Int) (0 : Int))).a (hs.getD (0 + (↑i : Int).toNat) (PairR.mk (0 : Int) (0 : Int))).b).modes (rMove (RefS.mk R.modes R.came R.last) (hs.getD (0 + (↑i : Int).toNat) (PairR.mk (0 : Int) (0
 : Int))).a (hs.getD (0 + (↑i : Int).toNat) (PairR.mk (0 : Int) (0 : Int))).b).came (rMove (RefS.mk R.modes R.came R.last) (hs.getD (0 + (↑i : Int).toNat) (PairR.mk (0 : Int) (0 : Int))).a (hs.getD (0
 + (↑i : Int).toNat) (PairR.mk (0 : Int) (0 : Int))).b).last) (hs.getD (0 + (↑i : Int).toNat) (PairR.mk (0 : Int) (0 : Int))).b).all (okI (intRow IntKind.i64)) && (decide ((rOf (RefS.mk (rMove (RefS.mk
 R.modes R.came R.last) (hs.getD (0 + (↑i : Int).toNat) (PairR.mk (0 : Int) (0 : Int))).a (hs.getD (0 + (↑i : Int).toNat) (PairR.mk (0 : Int) (0 : Int))).b).modes (rMove (RefS.mk R.modes R.came R.last)
 (hs.getD (0 + (↑i : Int).toNat) (PairR.mk (0 : Int) (0 : Int))).a (hs.getD (0 + (↑i : Int).toNat) (PairR.mk (0 : Int) (0 : Int))).b).came (rMove (RefS.mk R.modes R.came R.last) (hs.getD (0 + (↑i :
 Int).toNat) (PairR.mk (0 : Int) (0 : Int))).a (hs.getD (0 + (↑i : Int).toNat) (PairR.mk (0 : Int) (0 : Int))).b).last) (hs.getD (0 + (↑i : Int).toNat) (PairR.mk (0 : Int) (0 : Int))).b).length =
 (List.map (toI (intRow IntKind.i64)) (rOf (RefS.mk (rMove (RefS.mk R.modes R.came R.last) (hs.getD (0 + (↑i : Int).toNat) (PairR.mk (0 : Int) (0 : Int))).a (hs.getD (0 + (↑i : Int).toNat) (PairR.mk (0
 : Int) (0 : Int))).b).modes (rMove (RefS.mk R.modes R.came R.last) (hs.getD (0 + (↑i : Int).toNat) (PairR.mk (0 : Int) (0 : Int))).a (hs.getD (0 + (↑i : Int).toNat) (PairR.mk (0 : Int) (0 :
 Int))).b).came (rMove (RefS.mk R.modes R.came R.last) (hs.getD (0 + (↑i : Int).toNat) (PairR.mk (0 : Int) (0 : Int))).a (hs.getD (0 + (↑i : Int).toNat) (PairR.mk (0 : Int) (0 : Int))).b).last)
 (hs.getD (0 + (↑i : Int).toNat) (PairR.mk (0 : Int) (0 : Int))).b)).length) && decide ((List.map (toI (intRow IntKind.i64)) (rOf (RefS.mk (rMove (RefS.mk R.modes R.came R.last) (hs.getD (0 + (↑i :
 Int).toNat) (PairR.mk (0 : Int) (0 : Int))).a (hs.getD (0 + (↑i : Int).toNat) (PairR.mk (0 : Int) (0 : Int))).b).modes (rMove (RefS.mk R.modes R.came R.last) (hs.getD (0 + (↑i : Int).toNat) (PairR.mk
 (0 : Int) (0 : Int))).a (hs.getD (0 + (↑i : Int).toNat) (PairR.mk (0 : Int) (0 : Int))).b).came (rMove (RefS.mk R.modes R.came R.last) (hs.getD (0 + (↑i : Int).toNat) (PairR.mk (0 : Int) (0 : Int))).a
 (hs.getD (0 + (↑i : Int).toNat) (PairR.mk (0 : Int) (0 : Int))).b).last) (hs.getD (0 + (↑i : Int).toNat) (PairR.mk (0 : Int) (0 : Int))).b)).length ≤ 1000)))) (branch (!decide (List.map (toI (intRow
 IntKind.i64)) (ofM (MemS.mk (moveR (MemS.mk S.modes S.lists) (hs.getD (0 + (↑i : Int).toNat) (PairR.mk (0 : Int) (0 : Int))).a (hs.getD (0 + (↑i : Int).toNat) (PairR.mk (0 : Int) (0 : Int))).b).modes
 (moveR (MemS.mk S.modes S.lists) (hs.getD (0 + (↑i : Int).toNat) (PairR.mk (0 : Int) (0 : Int))).a (hs.getD (0 + (↑i : Int).toNat) (PairR.mk (0 : Int) (0 : Int))).b).lists) (hs.getD (0 + (↑i :
 Int).toNat) (PairR.mk (0 : Int) (0 : Int))).b) = List.map (toI (intRow IntKind.i64)) (rOf (RefS.mk (rMove (RefS.mk R.modes R.came R.last) (hs.getD (0 + (↑i : Int).toNat) (PairR.mk (0 : Int) (0 :
 Int))).a (hs.getD (0 + (↑i : Int).toNat) (PairR.mk (0 : Int) (0 : Int))).b).modes (rMove (RefS.mk R.modes R.came R.last) (hs.getD (0 + (↑i : Int).toNat) (PairR.mk (0 : Int) (0 : Int))).a (hs.getD (0 +
 (↑i : Int).toNat) (PairR.mk (0 : Int) (0 : Int))).b).came (rMove (RefS.mk R.modes R.came R.last) (hs.getD (0 + (↑i : Int).toNat) (PairR.mk (0 : Int) (0 : Int))).a (hs.getD (0 + (↑i : Int).toNat)
 (PairR.mk (0 : Int) (0 : Int))).b).last) (hs.getD (0 + (↑i : Int).toNat) (PairR.mk (0 : Int) (0 : Int))).b))) (Q AExit.ret [(6, AVal.bool false)] (AHeap.mk 1 [(0, ABlk.row 37 (pairRow IntKind.i64) hs
 RowMd.ro)])) (Q AExit.normal [(2, AVal.sl 0 0 2 0 hs.length none), (7, AVal.ptr 1 0 0 0), (8, AVal.ptr 2 0 0 0), (9, AVal.int IntKind.i64 (↑i : Int))] (AHeap.mk 7 [(0, ABlk.row 37 (pairRow
 IntKind.i64) hs RowMd.ro), (1, ABlk.cells 45 [AVal.sl 3 0 1 0 (moveR (MemS.mk S.modes S.lists) (hs.getD (0 + (↑i : Int).toNat) (PairR.mk (0 : Int) (0 : Int))).a (hs.getD (0 + (↑i : Int).toNat)
 (PairR.mk (0 : Int) (0 : Int))).b).modes.length none, AVal.map 4]), (2, ABlk.cells 48 [AVal.sl 5 0 1 0 (rMove (RefS.mk R.modes R.came R.last) (hs.getD (0 + (↑i : Int).toNat) (PairR.mk (0 : Int) (0 :
 Int))).a (hs.getD (0 + (↑i : Int).toNat) (PairR.mk (0 : Int) (0 : Int))).b).modes.length none, AVal.sl 6 0 1 0 (rMove (RefS.mk R.modes R.came R.last) (hs.getD (0 + (↑i : Int).toNat) (PairR.mk (0 :
 Int) (0 : Int))).a (hs.getD (0 + (↑i : Int).toNat) (PairR.mk (0 : Int) (0 : Int))).b).came.length none, AVal.int IntKind.i64 (rMove (RefS.mk R.modes R.came R.last) (hs.getD (0 + (↑i : Int).toNat)
 (PairR.mk (0 : Int) (0 : Int))).a (hs.getD (0 + (↑i : Int).toNat) (PairR.mk (0 : Int) (0 : Int))).b).last]), (3, ABlk.row 3 (intRow IntKind.i64) (moveR (MemS.mk S.modes S.lists) (hs.getD (0 + (↑i :
 Int).toNat) (PairR.mk (0 : Int) (0 : Int))).a (hs.getD (0 + (↑i : Int).toNat) (PairR.mk (0 : Int) (0 : Int))).b).modes RowMd.plain), (4, ABlk.obj (MapT listV) (MapSt.mk (moveR (MemS.mk S.modes
 S.lists) (hs.getD (0 + (↑i : Int).toNat) (PairR.mk (0 : Int) (0 : Int))).a (hs.getD (0 + (↑i : Int).toNat) (PairR.mk (0 : Int) (0 : Int))).b).lists none) []), (5, ABlk.row 3 (intRow IntKind.i64)
 (rMove (RefS.mk R.modes R.came R.last) (hs.getD (0 + (↑i : Int).toNat) (PairR.mk (0 : Int) (0 : Int))).a (hs.getD (0 + (↑i : Int).toNat) (PairR.mk (0 : Int) (0 : Int))).b).modes RowMd.plain), (6,
 ABlk.row 3 (intRow IntKind.i64) (rMove (RefS.mk R.modes R.came R.last) (hs.getD (0 + (↑i : Int).toNat) (PairR.mk (0 : Int) (0 : Int))).a (hs.getD (0 + (↑i : Int).toNat) (PairR.mk (0 : Int) (0 :
 Int))).b).came RowMd.plain)])))))))))))))))))))))))))))))) := by kernel_rfl

set_option maxRecDepth 100000 in
theorem w_mp_9 (hs : List PairR) (i : Int) (S : MemS) (R : RefS) (Q : AExit → Env → AHeap → Prop) : (wpC (TR3.ctx Try.prog) 200 4 1 mp9 (mpE1 (mlV hs) i) (mpH hs S R) (canQ 1 (tsP (tsP1 ++ [10]) []) Q)
) =  (Q AExit.normal [(2, AVal.sl 0 0 2 0 hs.length none), (7, AVal.ptr 1 0 0 0), (8, AVal.ptr 2 0 0 0), (9, AVal.int IntKind.i64 i), (10, AVal.int IntKind.i64 (0 : Int))] (AHeap.mk 7 [(0, ABlk.row 37
 (pairRow IntKind.i64) hs RowMd.ro), (1, ABlk.cells 45 [AVal.sl 3 0 1 0 S.modes.length none, AVal.map 4]), (2, ABlk.cells 48 [AVal.sl 5 0 1 0 R.modes.length none, AVal.sl 6 0 1 0 R.came.length none,
 AVal.int IntKind.i64 R.last]), (3, ABlk.row 3 (intRow IntKind.i64) S.modes RowMd.plain), (4, ABlk.obj (MapT listV) (MapSt.mk S.lists none) []), (5, ABlk.row 3 (intRow IntKind.i64) R.modes
 RowMd.plain), (6, ABlk.row 3 (intRow IntKind.i64) R.came RowMd.plain)])) := by kernel_rfl

set_option maxRecDepth 100000 in
theorem w_mp_r2 (hs : List PairR) (i : Int) (n : Nat) (S : MemS) (R : RefS) (Q : AExit → Env → AHeap → Prop) : (wpC (TR3.ctx Try.prog) 200 4 1 mpR2 (mpE2 (mlV hs) i (n : Int)) (mpH hs S R) (canQ 1 (tsP (tsP1 ++ [10]) tsP1) Q)
) =  (branch (decide ((↑n : Int) < (8 : Int))) (∃ (hT : intRow IntKind.i64 = intRow IntKind.i64), ∃ (hU : MapT listV = MapT listV), (S.modes.length = S.modes.length ∧ isUnf (MapSt.mk S.lists none) = true)
 ∧ WfM (MemS.mk S.modes S.lists) ∧ ∃ (hT_1 : intRow IntKind.i64 = intRow IntKind.i64), ∃ (hT' : intRow IntKind.i64 = intRow IntKind.i64), (R.modes.length = R.modes.length ∧ R.came.length =
 R.came.length) ∧ WfR (RefS.mk R.modes R.came R.last) ∧ branch (!decide (modeM (MemS.mk S.modes S.lists) (↑n : Int) = modeM (modesOf (RefS.mk R.modes R.came R.last)) (↑n : Int))) (Q AExit.ret [(6,
 AVal.bool false)] (AHeap.mk 1 [(0, ABlk.row 37 (pairRow IntKind.i64) hs RowMd.ro)])) (∃ (hT_2 : intRow IntKind.i64 = intRow IntKind.i64), ∃ (hU_1 : MapT listV = MapT listV), (S.modes.length =
 S.modes.length ∧ isUnf (MapSt.mk S.lists none) = true) ∧ WfM (MemS.mk S.modes S.lists) ∧ ∃ (hT_3 : intRow IntKind.i64 = intRow IntKind.i64), ∃ (hU_2 : MapT listV = MapT listV), (S.modes.length =
 S.modes.length ∧ isUnf (MapSt.mk S.lists none) = true) ∧ WfM (MemS.mk S.modes S.lists) ∧ ∃ (hT_4 : intRow IntKind.i64 = intRow IntKind.i64), ∃ (hT'_1 : intRow IntKind.i64 = intRow IntKind.i64),
 (R.modes.length = R.modes.length ∧ R.came.length = R.came.length) ∧ WfR (RefS.mk R.modes R.came R.last) ∧ ∃ (hT_5 : intRow IntKind.i64 = intRow IntKind.i64), ∃ (hT'_2 : intRow IntKind.i64 = intRow
 IntKind.i64), (R.modes.length = R.modes.length ∧ R.came.length = R.came.length) ∧ WfR (RefS.mk R.modes R.came R.last) ∧ branch (decide (rOf (RefS.mk R.modes R.came R.last) (modeM (modesOf (RefS.mk
 R.modes R.came R.last)) (↑n : Int)) = [])) (obl (true && (ofM (MemS.mk S.modes S.lists) (modeM (MemS.mk S.modes S.lists) (↑n : Int))).all (okI (intRow IntKind.i64)) && (decide ((ofM (MemS.mk S.modes
 S.lists) (modeM (MemS.mk S.modes S.lists) (↑n : Int))).length = (List.map (toI (intRow IntKind.i64)) (ofM (MemS.mk S.modes S.lists) (modeM (MemS.mk S.modes S.lists) (↑n : Int)))).length) && decide
 ((List.map (toI (intRow IntKind.i64)) (ofM (MemS.mk S.modes S.lists) (modeM (MemS.mk S.modes S.lists) (↑n : Int)))).length ≤ 1000)) && true) (branch (!decide (List.map (toI (intRow IntKind.i64)) (ofM
 (MemS.mk S.modes S.lists) (modeM (MemS.mk S.modes S.lists) (↑n : Int))) = [])) (Q AExit.ret [(6, AVal.bool false)] (AHeap.mk 1 [(0, ABlk.row 37 (pairRow IntKind.i64) hs RowMd.ro)])) (obl (inI64 ((↑n :
 Int) + (1 : Int))) (Q AExit.normal [(2, AVal.sl 0 0 2 0 hs.length none), (7, AVal.ptr 1 0 0 0), (8, AVal.ptr 2 0 0 0), (9, AVal.int IntKind.i64 i), (10, AVal.int IntKind.i64 ((↑n : Int) + (1 : Int)))]
 (AHeap.mk 7 [(0, ABlk.row 37 (pairRow IntKind.i64) hs RowMd.ro), (1, ABlk.cells 45 [AVal.sl 3 0 1 0 S.modes.length none, AVal.map 4]), (2, ABlk.cells 48 [AVal.sl 5 0 1 0 R.modes.length none, AVal.sl 6
 0 1 0 R.came.length none, AVal.int IntKind.i64 R.last]), (3, ABlk.row 3 (intRow IntKind.i64) S.modes RowMd.plain), (4, ABlk.obj (MapT listV) (MapSt.mk S.lists none) []), (5, ABlk.row 3 (intRow
 IntKind.i64) R.modes RowMd.plain), (6, ABlk.row 3 (intRow IntKind.i64) R.came RowMd.plain)]))))) (obl (true && (ofM (MemS.mk S.modes S.lists) (modeM (MemS.mk S.modes S.lists) (↑n : Int))).all (okI
 (intRow IntKind.i64)) && (decide ((ofM (MemS.mk S.modes S.lists) (modeM (MemS.mk S.modes S.lists) (↑n : Int))).length = (List.map (toI (intRow IntKind.i64)) (ofM (MemS.mk S.modes S.lists) (modeM
 (MemS.mk S.modes S.lists) (↑n : Int)))).length) && decide ((List.map (toI (intRow IntKind.i64)) (ofM (MemS.mk S.modes S.lists) (modeM (MemS.mk S.modes S.lists) (↑n : Int)))).length ≤ 1000)) && (true
 && (rOf (RefS.mk R.modes R.came R.last) (modeM (modesOf (RefS.mk R.modes R.came R.last)) (↑n : Int))).all (okI (intRow IntKind.i64)) && (decide ((rOf (RefS.mk R.modes R.came R.last) (modeM (modesOf
 (RefS.mk R.modes R.came R.last)) (↑n : Int))).length = (List.map (toI (intRow IntKind.i64)) (rOf (RefS.mk R.modes R.came R.last) (modeM (modesOf (RefS.mk R.modes R.came R.last)) (↑n : Int)))).length)
 && decide ((List.map (toI (intRow IntKind.i64)) (rOf (RefS.mk R.modes R.came R.last) (modeM (modesOf (RefS.mk R.modes R.came R.last)) (↑n : Int)))).length ≤ 1000)))) (branch (!decide (List.map (toI
 (intRow IntKind.i64)) (ofM (MemS.mk S.modes S.lists) (modeM (MemS.mk S.modes S.lists) (↑n : Int))) = List.map (toI (intRow IntKind.i64)) (rOf (RefS.mk R.modes R.came R.last) (modeM (modesOf (RefS.mk
 R.modes R.came R.last)) (↑n : Int))))) (Q AExit.ret [(6, AVal.bool false)] (AHeap.mk 1 [(0, ABlk.row 37 (pairRow IntKind.i64) hs RowMd.ro)])) (obl (inI64 ((↑n : Int) + (1 : Int))) (Q AExit.normal [(2,
 AVal.sl 0 0 2 0 hs.length none), (7, AVal.ptr 1 0 0 0), (8, AVal.ptr 2 0 0 0), (9, AVal.int IntKind.i64 i), (10, AVal.int IntKind.i64 ((↑n : Int) + (1 : Int)))] (AHeap.mk 7 [(0, ABlk.row 37 (pairRow
 IntKind.i64) hs RowMd.ro), (1, ABlk.cells 45 [AVal.sl 3 0 1 0 S.modes.length none, AVal.map 4]), (2, ABlk.cells 48 [AVal.sl 5 0 1 0 R.modes.length none, AVal.sl 6 0 1 0 R.came.length none, AVal.int
 IntKind.i64 R.last]), (3, ABlk.row 3 (intRow IntKind.i64) S.modes RowMd.plain), (4, ABlk.obj (MapT listV) (MapSt.mk S.lists none) []), (5, ABlk.row 3 (intRow IntKind.i64) R.modes RowMd.plain), (6,
 ABlk.row 3 (intRow IntKind.i64) R.came RowMd.plain)]))))))) (Q (AExit.exit 2) [(2, AVal.sl 0 0 2 0 hs.length none), (7, AVal.ptr 1 0 0 0), (8, AVal.ptr 2 0 0 0), (9, AVal.int IntKind.i64 i)] (AHeap.mk
 7 [(0, ABlk.row 37 (pairRow IntKind.i64) hs RowMd.ro), (1, ABlk.cells 45 [AVal.sl 3 0 1 0 S.modes.length none, AVal.map 4]), (2, ABlk.cells 48 [AVal.sl 5 0 1 0 R.modes.length none, AVal.sl 6 0 1 0
 R.came.length none, AVal.int IntKind.i64 R.last]), (3, ABlk.row 3 (intRow IntKind.i64) S.modes RowMd.plain), (4, ABlk.obj (MapT listV) (MapSt.mk S.lists none) []), (5, ABlk.row 3 (intRow IntKind.i64)
 R.modes RowMd.plain), (6, ABlk.row 3 (intRow IntKind.i64) R.came RowMd.plain)]))) := by kernel_rfl

set_option maxRecDepth 100000 in
theorem w_mp_14 (hs : List PairR) (i : Int) (S : MemS) (R : RefS) (It : Env → AHeap → Prop) (K : AExit → Env → AHeap → Prop) : (wpN (TR3.ctx Try.prog) 1 200 4 1 mp14 (mpE1 (mlV hs) i) (mpH hs S R) (fun E H => canonK 1 (tsP1 ++ [11]) E H It) K
) =  (∃ (hT : intRow IntKind.i64 = intRow IntKind.i64), ∃ (hU : MapT listV = MapT listV), (S.modes.length = S.modes.length ∧ isUnf (MapSt.mk S.lists none) = true) ∧ WfM (MemS.mk S.modes S.lists) ∧ ∃ (hT :
 intRow IntKind.i64 = intRow IntKind.i64), ∃ (hU : MapT listV = MapT listV), (S.modes.length = S.modes.length ∧ isUnf (MapSt.mk S.lists none) = true) ∧ WfM (MemS.mk S.modes S.lists) ∧ It [(2, AVal.sl 0
 0 2 0 hs.length none), (7, AVal.ptr 1 0 0 0), (8, AVal.ptr 2 0 0 0), (9, AVal.int IntKind.i64 i), (11, AVal.sl 3 0 1 0 (ofM (MemS.mk S.modes S.lists) (modeM (MemS.mk S.modes S.lists) (0 :
 Int))).length none)] (AHeap.mk 8 [(0, ABlk.row 37 (pairRow IntKind.i64) hs RowMd.ro), (1, ABlk.cells 45 [AVal.sl 4 0 1 0 S.modes.length none, AVal.map 5]), (2, ABlk.cells 48 [AVal.sl 6 0 1 0
 R.modes.length none, AVal.sl 7 0 1 0 R.came.length none, AVal.int IntKind.i64 R.last]), (3, ABlk.row 3 (intRow IntKind.i64) (ofM (MemS.mk S.modes S.lists) (modeM (MemS.mk S.modes S.lists) (0 : Int)))
 RowMd.plain), (4, ABlk.row 3 (intRow IntKind.i64) S.modes RowMd.plain), (5, ABlk.obj (MapT listV) (MapSt.mk S.lists none) []), (6, ABlk.row 3 (intRow IntKind.i64) R.modes RowMd.plain), (7, ABlk.row 3
 (intRow IntKind.i64) R.came RowMd.plain)])) := by kernel_rfl

set_option maxRecDepth 100000 in
theorem w_mp_15 (hs : List PairR) (i : Int) (S : MemS) (R : RefS) (o : List Int) (Q : AExit → Env → AHeap → Prop) : (wpC (TR3.ctx Try.prog) 200 4 1 mp15 (mpE3 (mlV hs) i (slI 3 o)) (mpH1 hs S R o) (canQ 1 (tsP (tsP1 ++ [11, 12]) []) Q)
) =  (Q AExit.normal [(2, AVal.sl 0 0 2 0 hs.length none), (7, AVal.ptr 1 0 0 0), (8, AVal.ptr 2 0 0 0), (9, AVal.int IntKind.i64 i), (11, AVal.sl 3 0 1 0 o.length none), (12, AVal.int IntKind.i64 (0 :
 Int))] (AHeap.mk 8 [(0, ABlk.row 37 (pairRow IntKind.i64) hs RowMd.ro), (1, ABlk.cells 45 [AVal.sl 4 0 1 0 S.modes.length none, AVal.map 5]), (2, ABlk.cells 48 [AVal.sl 6 0 1 0 R.modes.length none,
 AVal.sl 7 0 1 0 R.came.length none, AVal.int IntKind.i64 R.last]), (3, ABlk.row 3 (intRow IntKind.i64) o RowMd.plain), (4, ABlk.row 3 (intRow IntKind.i64) S.modes RowMd.plain), (5, ABlk.obj (MapT
 listV) (MapSt.mk S.lists none) []), (6, ABlk.row 3 (intRow IntKind.i64) R.modes RowMd.plain), (7, ABlk.row 3 (intRow IntKind.i64) R.came RowMd.plain)])) := by kernel_rfl

set_option maxRecDepth 100000 in
theorem w_mp_r4 (hs : List PairR) (i : Int) (S : MemS) (R : RefS) (o : List Int) (k : Nat) (Q : AExit → Env → AHeap → Prop) : (wpC (TR3.ctx Try.prog) 200 4 1 mpR4 (mpE4 (mlV hs) i (slI 3 o) (k : Int)) (mpH1 hs S R o) (canQ 1 (tsP (tsP1 ++ [11, 12]) tsP1) Q)
) =  (branch (decide ((↑k : Int) < (↑o.length : Int))) (obl (decide ((0 : Int) ≤ (↑k : Int) ∧ (↑k : Int) < (↑o.length : Int))) (obl (decide (0 + (↑k : Int).toNat < o.length) && true) (obl (inI64 ((↑k :
 Int) + (1 : Int))) (Q AExit.normal [(2, AVal.sl 0 0 2 0 hs.length none), (7, AVal.ptr 1 0 0 0), (8, AVal.ptr 2 0 0 0), (9, AVal.int IntKind.i64 i), (11, AVal.sl 3 0 1 0 o.length none), (12, AVal.int
 IntKind.i64 ((↑k : Int) + (1 : Int)))] (AHeap.mk 8 [(0, ABlk.row 37 (pairRow IntKind.i64) hs RowMd.ro), (1, ABlk.cells 45 [AVal.sl 4 0 1 0 S.modes.length none, AVal.map 5]), (2, ABlk.cells 48 [AVal.sl
 6 0 1 0 R.modes.length none, AVal.sl 7 0 1 0 R.came.length none, AVal.int IntKind.i64 R.last]), (3, ABlk.row 3 (intRow IntKind.i64) (o.set (0 + (↑k : Int).toNat) (-1 : Int)) RowMd.plain), (4, ABlk.row
 3 (intRow IntKind.i64) S.modes RowMd.plain), (5, ABlk.obj (MapT listV) (MapSt.mk S.lists none) []), (6, ABlk.row 3 (intRow IntKind.i64) R.modes RowMd.plain), (7, ABlk.row 3 (intRow IntKind.i64) R.came
 RowMd.plain)]))))) (Q (AExit.exit 4) [(2, AVal.sl 0 0 2 0 hs.length none), (7, AVal.ptr 1 0 0 0), (8, AVal.ptr 2 0 0 0), (9, AVal.int IntKind.i64 i)] (AHeap.mk 7 [(0, ABlk.row 37 (pairRow IntKind.i64)
 hs RowMd.ro), (1, ABlk.cells 45 [AVal.sl 3 0 1 0 S.modes.length none, AVal.map 4]), (2, ABlk.cells 48 [AVal.sl 5 0 1 0 R.modes.length none, AVal.sl 6 0 1 0 R.came.length none, AVal.int IntKind.i64
 R.last]), (3, ABlk.row 3 (intRow IntKind.i64) S.modes RowMd.plain), (4, ABlk.obj (MapT listV) (MapSt.mk S.lists none) []), (5, ABlk.row 3 (intRow IntKind.i64) R.modes RowMd.plain), (6, ABlk.row 3
 (intRow IntKind.i64) R.came RowMd.plain)]))) := by kernel_rfl

set_option maxRecDepth 100000 in
theorem w_mp_6 (hs : List PairR) (i : Int) (S : MemS) (R : RefS) (Q : AExit → Env → AHeap → Prop) : (wpC (TR3.ctx Try.prog) 200 4 1 mp6 (mpE1 (mlV hs) i) (mpH hs S R) (canQ 1 (tsP tsP1 []) Q)
) =  (obl (inI64 (i + (1 : Int))) (Q AExit.normal [(2, AVal.sl 0 0 2 0 hs.length none), (7, AVal.ptr 1 0 0 0), (8, AVal.ptr 2 0 0 0), (9, AVal.int IntKind.i64 (i + (1 : Int)))] (AHeap.mk 7 [(0, ABlk.row 37
 (pairRow IntKind.i64) hs RowMd.ro), (1, ABlk.cells 45 [AVal.sl 3 0 1 0 S.modes.length none, AVal.map 4]), (2, ABlk.cells 48 [AVal.sl 5 0 1 0 R.modes.length none, AVal.sl 6 0 1 0 R.came.length none,
 AVal.int IntKind.i64 R.last]), (3, ABlk.row 3 (intRow IntKind.i64) S.modes RowMd.plain), (4, ABlk.obj (MapT listV) (MapSt.mk S.lists none) []), (5, ABlk.row 3 (intRow IntKind.i64) R.modes
 RowMd.plain), (6, ABlk.row 3 (intRow IntKind.i64) R.came RowMd.plain)]))) := by kernel_rfl

set_option maxRecDepth 100000 in
theorem w_mp_19 (hs : List PairR) (S : MemS) (R : RefS) (K : Out → Prop) : (wpC (TR3.ctx Try.prog) 200 4 1 mp19 mpE5 (mpH hs S R) (endA (TR3.ctx Try.prog).P Try.f4 (fun o _ => K o))
) =  (∃ (hT : intRow IntKind.i64 = intRow IntKind.i64), ∃ (hU : MapT listV = MapT listV), (S.modes.length = S.modes.length ∧ isUnf (MapSt.mk S.lists none) = true) ∧ WfM (MemS.mk S.modes S.lists) ∧ ∃ (hT_1
 : intRow IntKind.i64 = intRow IntKind.i64), ∃ (hT' : intRow IntKind.i64 = intRow IntKind.i64), (R.modes.length = R.modes.length ∧ R.came.length = R.came.length) ∧ WfR (RefS.mk R.modes R.came R.last) ∧
 branch (decide (rAll (RefS.mk R.modes R.came R.last) = [])) (obl (true && (allM (MemS.mk S.modes S.lists)).all (okI (intRow IntKind.i64)) && (decide ((allM (MemS.mk S.modes S.lists)).length =
 (List.map (toI (intRow IntKind.i64)) (allM (MemS.mk S.modes S.lists))).length) && decide ((List.map (toI (intRow IntKind.i64)) (allM (MemS.mk S.modes S.lists))).length ≤ 1000)) && true) (branch
 (decide (List.map (toI (intRow IntKind.i64)) (allM (MemS.mk S.modes S.lists)) = [])) (K (Out.ret (AVal.bool true))) (K (Out.ret (AVal.bool false))))) (obl (true && (allM (MemS.mk S.modes S.lists)).all
 (okI (intRow IntKind.i64)) && (decide ((allM (MemS.mk S.modes S.lists)).length = (List.map (toI (intRow IntKind.i64)) (allM (MemS.mk S.modes S.lists))).length) && decide ((List.map (toI (intRow
 IntKind.i64)) (allM (MemS.mk S.modes S.lists))).length ≤ 1000)) && (true && (rAll (RefS.mk R.modes R.came R.last)).all (okI (intRow IntKind.i64)) && (decide ((rAll (RefS.mk R.modes R.came
 R.last)).length = (List.map (toI (intRow IntKind.i64)) (rAll (RefS.mk R.modes R.came R.last))).length) && decide ((List.map (toI (intRow IntKind.i64)) (rAll (RefS.mk R.modes R.came R.last))).length ≤
 1000)))) (branch (decide (List.map (toI (intRow IntKind.i64)) (allM (MemS.mk S.modes S.lists)) = List.map (toI (intRow IntKind.i64)) (rAll (RefS.mk R.modes R.came R.last)))) (K (Out.ret (AVal.bool
 true))) (K (Out.ret (AVal.bool false)))))) := by kernel_rfl

set_option maxRecDepth 100000 in
theorem w_mp_19n (S : MemS) (R : RefS) (K : Out → Prop) : (wpC (TR3.ctx Try.prog) 200 4 1 mp19 mpE5 (mpHn S R) (endA (TR3.ctx Try.prog).P Try.f4 (fun o _ => K o))
) =  (∃ (hT : intRow IntKind.i64 = intRow IntKind.i64), ∃ (hU : MapT listV = MapT listV), (S.modes.length = S.modes.length ∧ isUnf (MapSt.mk S.lists none) = true) ∧ WfM (MemS.mk S.modes S.lists) ∧ ∃ (hT_1
 : intRow IntKind.i64 = intRow IntKind.i64), ∃ (hT' : intRow IntKind.i64 = intRow IntKind.i64), (R.modes.length = R.modes.length ∧ R.came.length = R.came.length) ∧ WfR (RefS.mk R.modes R.came R.last) ∧
 branch (decide (rAll (RefS.mk R.modes R.came R.last) = [])) (obl (true && (allM (MemS.mk S.modes S.lists)).all (okI (intRow IntKind.i64)) && (decide ((allM (MemS.mk S.modes S.lists)).length =
 (List.map (toI (intRow IntKind.i64)) (allM (MemS.mk S.modes S.lists))).length) && decide ((List.map (toI (intRow IntKind.i64)) (allM (MemS.mk S.modes S.lists))).length ≤ 1000)) && true) (branch
 (decide (List.map (toI (intRow IntKind.i64)) (allM (MemS.mk S.modes S.lists)) = [])) (K (Out.ret (AVal.bool true))) (K (Out.ret (AVal.bool false))))) (obl (true && (allM (MemS.mk S.modes S.lists)).all
 (okI (intRow IntKind.i64)) && (decide ((allM (MemS.mk S.modes S.lists)).length = (List.map (toI (intRow IntKind.i64)) (allM (MemS.mk S.modes S.lists))).length) && decide ((List.map (toI (intRow
 IntKind.i64)) (allM (MemS.mk S.modes S.lists))).length ≤ 1000)) && (true && (rAll (RefS.mk R.modes R.came R.last)).all (okI (intRow IntKind.i64)) && (decide ((rAll (RefS.mk R.modes R.came
 R.last)).length = (List.map (toI (intRow IntKind.i64)) (rAll (RefS.mk R.modes R.came R.last))).length) && decide ((List.map (toI (intRow IntKind.i64)) (rAll (RefS.mk R.modes R.came R.last))).length ≤
 1000)))) (branch (decide (List.map (toI (intRow IntKind.i64)) (allM (MemS.mk S.modes S.lists)) = List.map (toI (intRow IntKind.i64)) (rAll (RefS.mk R.modes R.came R.last)))) (K (Out.ret (AVal.bool
 true))) (K (Out.ret (AVal.bool false)))))) := by kernel_rfl

end Go.Proofs.Ytcgnoegejmhgmaa
