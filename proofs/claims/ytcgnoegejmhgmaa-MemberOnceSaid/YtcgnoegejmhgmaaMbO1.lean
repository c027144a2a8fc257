/-
  Walks, printed: what calls come to, as they are reckoned.
-/
import Derived.Test.YtcgnoegejmhgmaaMbO
namespace Go.Proofs.Ytcgnoegejmhgmaa
set_option linter.unusedVariables false
set_option linter.unusedSimpArgs false
open Go.RowKit Ev

set_option maxRecDepth 100000 in
theorem w_on_a (hs : List PairR) (c : Int) (It : Env → AHeap → Prop) (K : Out → Prop) : (wpN (TMO.ctx Try.prog) 4 200 5 1 onB (env0 [.int .u8 c, mlV hs] 0) ⟨1, [(0, mlRow hs)]⟩ (fun E H => canonK 1 tsO0 E H It) (endA (TMO.ctx Try.prog).P Try.f5 (fun o _ => K o))
) =  (obl (decide ((0 : Int) ≤ c ∧ (0 : Int) < (8 : Int))) (obl (inI64 (c % (8 : Int))) (obl (inI64 ((1 : Int) + c % (8 : Int))) (branch (newBad ((1 : Int) + c % (8 : Int)) (4 : Int)) (K (Out.ret
 (AVal.bool false))) (It [(1, AVal.sl 0 0 2 0 hs.length none), (5, AVal.int IntKind.i64 ((1 : Int) + c % (8 : Int))), (6, AVal.ptr 1 0 0 0)] (AHeap.mk 4 [(0, ABlk.row 23 (pairRow IntKind.u8) hs
 RowMd.ro), (1, ABlk.cells 45 [AVal.sl 2 0 1 0 (List.replicate ((1 : Int) + c % (8 : Int)).toNat (4 : Int)).length none, AVal.map 3]), (2, ABlk.row 3 (intRow IntKind.i64) (List.replicate ((1 : Int) + c
 % (8 : Int)).toNat (4 : Int)) RowMd.plain), (3, ABlk.obj (MapT listV) (MapSt.mk [((4 : Int), List.map (fun (i : Nat) => (↑i : Int)) (List.range ((1 : Int) + c % (8 : Int)).toNat))] none) [])])))))) :=
 by kernel_rfl

set_option maxRecDepth 100000 in
theorem w_on_an (c : Int) (It : Env → AHeap → Prop) (K : Out → Prop) : (wpN (TMO.ctx Try.prog) 4 200 5 1 onB (env0 [.int .u8 c, .nils] 0) ⟨1, []⟩ (fun E H => canonK 1 tsO0 E H It) (endA (TMO.ctx Try.prog).P Try.f5 (fun o _ => K o))
) =  (obl (decide ((0 : Int) ≤ c ∧ (0 : Int) < (8 : Int))) (obl (inI64 (c % (8 : Int))) (obl (inI64 ((1 : Int) + c % (8 : Int))) (branch (newBad ((1 : Int) + c % (8 : Int)) (4 : Int)) (K (Out.ret
 (AVal.bool false))) (It [(1, AVal.nils), (5, AVal.int IntKind.i64 ((1 : Int) + c % (8 : Int))), (6, AVal.ptr 1 0 0 0)] (AHeap.mk 4 [(1, ABlk.cells 45 [AVal.sl 2 0 1 0 (List.replicate ((1 : Int) + c %
 (8 : Int)).toNat (4 : Int)).length none, AVal.map 3]), (2, ABlk.row 3 (intRow IntKind.i64) (List.replicate ((1 : Int) + c % (8 : Int)).toNat (4 : Int)) RowMd.plain), (3, ABlk.obj (MapT listV)
 (MapSt.mk [((4 : Int), List.map (fun (i : Nat) => (↑i : Int)) (List.range ((1 : Int) + c % (8 : Int)).toNat))] none) [])])))))) := by kernel_rfl

set_option maxRecDepth 100000 in
theorem w_on_set (hs : List PairR) (n : Int) (S : MemS) (Q : AExit → Env → AHeap → Prop) : (wpC (TMO.ctx Try.prog) 200 5 1 (codeAt [true, true, true, true, false, false] onB) (onE0 (mlV hs) n) (onH1 hs S) (canQ 1 (tsO tsO1 []) Q)
) =  (Q AExit.normal [(1, AVal.sl 0 0 2 0 hs.length none), (5, AVal.int IntKind.i64 n), (6, AVal.ptr 1 0 0 0), (7, AVal.int IntKind.i64 (0 : Int))] (AHeap.mk 4 [(0, ABlk.row 23 (pairRow IntKind.u8) hs
 RowMd.ro), (1, ABlk.cells 45 [AVal.sl 2 0 1 0 S.modes.length none, AVal.map 3]), (2, ABlk.row 3 (intRow IntKind.i64) S.modes RowMd.plain), (3, ABlk.obj (MapT listV) (MapSt.mk S.lists none) [])])) :=
 by kernel_rfl

set_option maxRecDepth 100000 in
theorem w_on_setn (n : Int) (S : MemS) (Q : AExit → Env → AHeap → Prop) : (wpC (TMO.ctx Try.prog) 200 5 1 (codeAt [true, true, true, true, false, false] onB) (onE0 .nils n) (onHn S) (canQ 1 (tsO tsO1 []) Q)
) =  (Q AExit.normal [(1, AVal.nils), (5, AVal.int IntKind.i64 n), (6, AVal.ptr 1 0 0 0), (7, AVal.int IntKind.i64 (0 : Int))] (AHeap.mk 4 [(1, ABlk.cells 45 [AVal.sl 2 0 1 0 S.modes.length none, AVal.map
 3]), (2, ABlk.row 3 (intRow IntKind.i64) S.modes RowMd.plain), (3, ABlk.obj (MapT listV) (MapSt.mk S.lists none) [])])) := by kernel_rfl

set_option maxRecDepth 100000 in
theorem w_on_xn (n : Int) (S : MemS) (Q : AExit → Env → AHeap → Prop) : (wpC (TMO.ctx Try.prog) 200 5 1 onA (onE1 .nils n 0) (onHn S) (canQ 1 (tsO tsO1 []) Q)
) =  (Q (AExit.exit 0) [] (AHeap.mk 1 [])) := by kernel_rfl

set_option maxRecDepth 100000 in
theorem w_on_x (hs : List PairR) (n : Int) (i : Nat) (S : MemS) (Q : AExit → Env → AHeap → Prop) : (wpC (TMO.ctx Try.prog) 200 5 1 onA (onE1 (mlV hs) n (i : Int)) (onH1 hs S) (canQ 1 (tsO tsO1 []) Q)
) =  (branch (decide ((↑i : Int) < (↑hs.length : Int))) (branch (decide ((↑i : Int) < (80 : Int))) (Q AExit.normal [(1, AVal.sl 0 0 2 0 hs.length none), (5, AVal.int IntKind.i64 n), (6, AVal.ptr 1 0 0 0),
 (7, AVal.int IntKind.i64 (↑i : Int))] (AHeap.mk 4 [(0, ABlk.row 23 (pairRow IntKind.u8) hs RowMd.ro), (1, ABlk.cells 45 [AVal.sl 2 0 1 0 S.modes.length none, AVal.map 3]), (2, ABlk.row 3 (intRow
 IntKind.i64) S.modes RowMd.plain), (3, ABlk.obj (MapT listV) (MapSt.mk S.lists none) [])])) (Q (AExit.exit 0) [] (AHeap.mk 1 [(0, ABlk.row 23 (pairRow IntKind.u8) hs RowMd.ro)]))) (Q (AExit.exit 0) []
 (AHeap.mk 1 [(0, ABlk.row 23 (pairRow IntKind.u8) hs RowMd.ro)]))) := by kernel_rfl

set_option maxRecDepth 100000 in
theorem w_on_c (hs : List PairR) (n : Int) (i : Nat) (S : MemS) (It : Env → AHeap → Prop) (K : AExit → Env → AHeap → Prop) : (wpN (TMO.ctx Try.prog) 4 200 5 1 onC (onE1 (mlV hs) n (i : Int)) (onH1 hs S) (fun E H => canonK 1 tsO2 E H It) K
) =  (obl (decide ((0 : Int) ≤ (↑i : Int) ∧ (↑i : Int) < (↑hs.length : Int))) (obl (decide (0 + (↑i : Int).toNat < hs.length)) (obl (inI64 (hs.getD (0 + (↑i : Int).toNat) (PairR.mk (0 : Int) (0 : Int))).a)
 (obl (decide ((0 : Int) ≤ (hs.getD (0 + (↑i : Int).toNat) (PairR.mk (0 : Int) (0 : Int))).a ∧ (0 : Int) < n)) (obl (decide ((0 : Int) ≤ (↑i : Int) ∧ (↑i : Int) < (↑hs.length : Int))) (obl (decide (0 +
 (↑i : Int).toNat < hs.length)) (obl (decide ((0 : Int) ≤ (hs.getD (0 + (↑i : Int).toNat) (PairR.mk (0 : Int) (0 : Int))).b ∧ (0 : Int) < (28 : Int))) (obl (inI64 ((hs.getD (0 + (↑i : Int).toNat)
 (PairR.mk (0 : Int) (0 : Int))).b % (28 : Int))) (obl (inI64 ((1 : Int) + (hs.getD (0 + (↑i : Int).toNat) (PairR.mk (0 : Int) (0 : Int))).b % (28 : Int))) (∃ (hT : intRow IntKind.i64 = intRow
 IntKind.i64), ∃ (hU : MapT listV = MapT listV), (S.modes.length = S.modes.length ∧ isUnf (MapSt.mk S.lists none) = true) ∧ WfM (MemS.mk S.modes S.lists) ∧ ∃ (hT_1 : intRow IntKind.i64 = intRow
 IntKind.i64), ∃ (hU_1 : MapT listV = MapT listV), (S.modes.length = S.modes.length ∧ isUnf (MapSt.mk S.lists none) = true) ∧ WfM (MemS.mk S.modes S.lists) ∧ ∃ (hT_2 : intRow IntKind.i64 = intRow
 IntKind.i64), ∃ (hU_2 : MapT listV = MapT listV), (S.modes.length = S.modes.length ∧ isUnf (MapSt.mk S.lists none) = true) ∧ WfM (MemS.mk S.modes S.lists) ∧ ∃ (hT_3 : intRow IntKind.i64 = intRow
 IntKind.i64), ∃ (hU_3 : MapT listV = MapT listV), (S.modes.length = S.modes.length ∧ isUnf (MapSt.mk S.lists none) = true) ∧ WfM (MemS.mk S.modes S.lists) ∧ branch (!decide (moveE (MemS.mk S.modes
 S.lists) ((hs.getD (0 + (↑i : Int).toNat) (PairR.mk (0 : Int) (0 : Int))).a % n) ((1 : Int) + (hs.getD (0 + (↑i : Int).toNat) (PairR.mk (0 : Int) (0 : Int))).b % (28 : Int)) = (0 : Int))) (K AExit.ret
 [(4, AVal.bool false), (75, AVal.bool true), (74, AVal.tup []), (69, AVal.bool true), (73, AVal.tup []), (69, AVal.bool true), (72, AVal.tup []), (69, AVal.bool true), (71, AVal.tup []), (69,
 AVal.bool true), (70, AVal.tup []), (69, AVal.bool true), (69, AVal.bool !decide (moveE (MemS.mk S.modes S.lists) ((hs.getD (0 + (↑i : Int).toNat) (PairR.mk (0 : Int) (0 : Int))).a % n) ((1 : Int) +
 (hs.getD (0 + (↑i : Int).toNat) (PairR.mk (0 : Int) (0 : Int))).b % (28 : Int)) = (0 : Int))), (68, AVal.bool !decide (moveE (MemS.mk S.modes S.lists) ((hs.getD (0 + (↑i : Int).toNat) (PairR.mk (0 :
 Int) (0 : Int))).a % n) ((1 : Int) + (hs.getD (0 + (↑i : Int).toNat) (PairR.mk (0 : Int) (0 : Int))).b % (28 : Int)) = (0 : Int))), (67, AVal.int IntKind.i64 (moveE (MemS.mk S.modes S.lists) ((hs.getD
 (0 + (↑i : Int).toNat) (PairR.mk (0 : Int) (0 : Int))).a % n) ((1 : Int) + (hs.getD (0 + (↑i : Int).toNat) (PairR.mk (0 : Int) (0 : Int))).b % (28 : Int)))), (66, AVal.int IntKind.i64 ((1 : Int) +
 (hs.getD (0 + (↑i : Int).toNat) (PairR.mk (0 : Int) (0 : Int))).b % (28 : Int))), (65, AVal.int IntKind.i64 ((hs.getD (0 + (↑i : Int).toNat) (PairR.mk (0 : Int) (0 : Int))).a % n)), (64, AVal.ptr 1 0
 0 0), (12, AVal.sl 24 0 1 0 (ofM (MemS.mk S.modes S.lists) ((1 : Int) + (hs.getD (0 + (↑i : Int).toNat) (PairR.mk (0 : Int) (0 : Int))).b % (28 : Int))).length none), (11, AVal.sl 22 0 1 0 (ofM
 (MemS.mk S.modes S.lists) (modeM (MemS.mk S.modes S.lists) ((hs.getD (0 + (↑i : Int).toNat) (PairR.mk (0 : Int) (0 : Int))).a % n))).length none), (63, AVal.sl 24 0 1 0 (ofM (MemS.mk S.modes S.lists)
 ((1 : Int) + (hs.getD (0 + (↑i : Int).toNat) (PairR.mk (0 : Int) (0 : Int))).b % (28 : Int))).length none), (62, AVal.int IntKind.i64 ((1 : Int) + (hs.getD (0 + (↑i : Int).toNat) (PairR.mk (0 : Int)
 (0 : Int))).b % (28 : Int))), (61, AVal.ptr 1 0 0 0), (60, AVal.sl 22 0 1 0 (ofM (MemS.mk S.modes S.lists) (modeM (MemS.mk S.modes S.lists) ((hs.getD (0 + (↑i : Int).toNat) (PairR.mk (0 : Int) (0 :
 Int))).a % n))).length none), (59, AVal.int IntKind.i64 (modeM (MemS.mk S.modes S.lists) ((hs.getD (0 + (↑i : Int).toNat) (PairR.mk (0 : Int) (0 : Int))).a % n))), (58, AVal.ptr 1 0 0 0), (10,
 AVal.int IntKind.i64 (modeM (MemS.mk S.modes S.lists) ((hs.getD (0 + (↑i : Int).toNat) (PairR.mk (0 : Int) (0 : Int))).a % n))), (57, AVal.int IntKind.i64 (modeM (MemS.mk S.modes S.lists) ((hs.getD (0
 + (↑i : Int).toNat) (PairR.mk (0 : Int) (0 : Int))).a % n))), (56, AVal.int IntKind.i64 ((hs.getD (0 + (↑i : Int).toNat) (PairR.mk (0 : Int) (0 : Int))).a % n)), (55, AVal.ptr 1 0 0 0), (9, AVal.int
 IntKind.i64 ((1 : Int) + (hs.getD (0 + (↑i : Int).toNat) (PairR.mk (0 : Int) (0 : Int))).b % (28 : Int))), (8, AVal.int IntKind.i64 ((hs.getD (0 + (↑i : Int).toNat) (PairR.mk (0 : Int) (0 : Int))).a %
 n)), (54, AVal.int IntKind.i64 ((1 : Int) + (hs.getD (0 + (↑i : Int).toNat) (PairR.mk (0 : Int) (0 : Int))).b % (28 : Int))), (53, AVal.int IntKind.i64 ((hs.getD (0 + (↑i : Int).toNat) (PairR.mk (0 :
 Int) (0 : Int))).b % (28 : Int))), (52, AVal.int IntKind.u8 ((hs.getD (0 + (↑i : Int).toNat) (PairR.mk (0 : Int) (0 : Int))).b % (28 : Int))), (51, AVal.int IntKind.u8 (hs.getD (0 + (↑i : Int).toNat)
 (PairR.mk (0 : Int) (0 : Int))).b), (50, AVal.ptr 0 (0 + (↑i : Int).toNat) 2 1), (49, AVal.ptr 0 (0 + (↑i : Int).toNat) 2 0), (48, AVal.int IntKind.i64 (↑i : Int)), (47, AVal.sl 0 0 2 0 hs.length
 none), (46, AVal.int IntKind.i64 ((hs.getD (0 + (↑i : Int).toNat) (PairR.mk (0 : Int) (0 : Int))).a % n)), (45, AVal.int IntKind.i64 n), (44, AVal.int IntKind.i64 (hs.getD (0 + (↑i : Int).toNat)
 (PairR.mk (0 : Int) (0 : Int))).a), (43, AVal.int IntKind.u8 (hs.getD (0 + (↑i : Int).toNat) (PairR.mk (0 : Int) (0 : Int))).a), (42, AVal.ptr 0 (0 + (↑i : Int).toNat) 2 0), (41, AVal.ptr 0 (0 + (↑i :
 Int).toNat) 2 0), (40, AVal.int IntKind.i64 (↑i : Int)), (39, AVal.sl 0 0 2 0 hs.length none), (1, AVal.sl 0 0 2 0 hs.length none), (5, AVal.int IntKind.i64 n), (6, AVal.ptr 1 0 0 0), (7, AVal.int
 IntKind.i64 (↑i : Int))] (AHeap.mk 27 [(1, ABlk.cells 45 [AVal.sl 2 0 1 0 (moveR (MemS.mk S.modes S.lists) ((hs.getD (0 + (↑i : Int).toNat) (PairR.mk (0 : Int) (0 : Int))).a % n) ((1 : Int) + (hs.getD
 (0 + (↑i : Int).toNat) (PairR.mk (0 : Int) (0 : Int))).b % (28 : Int))).modes.length none, AVal.map 3]), (2, ABlk.row 3 (intRow IntKind.i64) (moveR (MemS.mk S.modes S.lists) ((hs.getD (0 + (↑i :
 Int).toNat) (PairR.mk (0 : Int) (0 : Int))).a % n) ((1 : Int) + (hs.getD (0 + (↑i : Int).toNat) (PairR.mk (0 : Int) (0 : Int))).b % (28 : Int))).modes RowMd.plain), (3, ABlk.obj (MapT listV) (MapSt.mk
 (moveR (MemS.mk S.modes S.lists) ((hs.getD (0 + (↑i : Int).toNat) (PairR.mk (0 : Int) (0 : Int))).a % n) ((1 : Int) + (hs.getD (0 + (↑i : Int).toNat) (PairR.mk (0 : Int) (0 : Int))).b % (28 :
 Int))).lists none) []), (26, ABlk.dead), (1, ABlk.cells 45 [AVal.sl 2 0 1 0 S.modes.length none, AVal.map 3]), (2, ABlk.row 3 (intRow IntKind.i64) S.modes RowMd.plain), (3, ABlk.obj (MapT listV)
 (MapSt.mk S.lists none) []), (24, ABlk.row 3 (intRow IntKind.i64) (ofM (MemS.mk S.modes S.lists) ((1 : Int) + (hs.getD (0 + (↑i : Int).toNat) (PairR.mk (0 : Int) (0 : Int))).b % (28 : Int)))
 RowMd.plain), (25, ABlk.dead), (1, ABlk.cells 45 [AVal.sl 2 0 1 0 S.modes.length none, AVal.map 3]), (2, ABlk.row 3 (intRow IntKind.i64) S.modes RowMd.plain), (3, ABlk.obj (MapT listV) (MapSt.mk
 S.lists none) []), (22, ABlk.row 3 (intRow IntKind.i64) (ofM (MemS.mk S.modes S.lists) (modeM (MemS.mk S.modes S.lists) ((hs.getD (0 + (↑i : Int).toNat) (PairR.mk (0 : Int) (0 : Int))).a % n)))
 RowMd.plain), (23, ABlk.dead), (1, ABlk.cells 45 [AVal.sl 2 0 1 0 S.modes.length none, AVal.map 3]), (2, ABlk.row 3 (intRow IntKind.i64) S.modes RowMd.plain), (3, ABlk.obj (MapT listV) (MapSt.mk
 S.lists none) []), (0, ABlk.row 23 (pairRow IntKind.u8) hs RowMd.ro), (1, ABlk.cells 45 [AVal.sl 2 0 1 0 S.modes.length none, AVal.map 3]), (2, ABlk.row 3 (intRow IntKind.i64) S.modes RowMd.plain),
 (3, ABlk.obj (MapT listV) (MapSt.mk S.lists none) [])])) (∃ (hT_4 : intRow IntKind.i64 = intRow IntKind.i64), ∃ (hU_4 : MapT listV = MapT listV), ((moveR (MemS.mk S.modes S.lists) ((hs.getD (0 + (↑i :
 Int).toNat) (PairR.mk (0 : Int) (0 : Int))).a % n) ((1 : Int) + (hs.getD (0 + (↑i : Int).toNat) (PairR.mk (0 : Int) (0 : Int))).b % (28 : Int))).modes.length = (moveR (MemS.mk S.modes S.lists)
 ((hs.getD (0 + (↑i : Int).toNat) (PairR.mk (0 : Int) (0 : Int))).a % n) ((1 : Int) + (hs.getD (0 + (↑i : Int).toNat) (PairR.mk (0 : Int) (0 : Int))).b % (28 : Int))).modes.length ∧ isUnf (MapSt.mk
 (moveR (MemS.mk S.modes S.lists) ((hs.getD (0 + (↑i : Int).toNat) (PairR.mk (0 : Int) (0 : Int))).a % n) ((1 : Int) + (hs.getD (0 + (↑i : Int).toNat) (PairR.mk (0 : Int) (0 : Int))).b % (28 :
 Int))).lists none) = true) ∧ WfM (MemS.mk (moveR (MemS.mk S.modes S.lists) ((hs.getD (0 + (↑i : Int).toNat) (PairR.mk (0 : Int) (0 : Int))).a % n) ((1 : Int) + (hs.getD (0 + (↑i : Int).toNat)
 (PairR.mk (0 : Int) (0 : Int))).b % (28 : Int))).modes (moveR (MemS.mk S.modes S.lists) ((hs.getD (0 + (↑i : Int).toNat) (PairR.mk (0 : Int) (0 : Int))).a % n) ((1 : Int) + (hs.getD (0 + (↑i :
 Int).toNat) (PairR.mk (0 : Int) (0 : Int))).b % (28 : Int))).lists) ∧ branch (!decide (modeM (MemS.mk (moveR (MemS.mk S.modes S.lists) ((hs.getD (0 + (↑i : Int).toNat) (PairR.mk (0 : Int) (0 :
 Int))).a % n) ((1 : Int) + (hs.getD (0 + (↑i : Int).toNat) (PairR.mk (0 : Int) (0 : Int))).b % (28 : Int))).modes (moveR (MemS.mk S.modes S.lists) ((hs.getD (0 + (↑i : Int).toNat) (PairR.mk (0 : Int)
 (0 : Int))).a % n) ((1 : Int) + (hs.getD (0 + (↑i : Int).toNat) (PairR.mk (0 : Int) (0 : Int))).b % (28 : Int))).lists) ((hs.getD (0 + (↑i : Int).toNat) (PairR.mk (0 : Int) (0 : Int))).a % n) = (1 :
 Int) + (hs.getD (0 + (↑i : Int).toNat) (PairR.mk (0 : Int) (0 : Int))).b % (28 : Int))) (K AExit.ret [(4, AVal.bool false), (75, AVal.bool !decide (modeM (MemS.mk (moveR (MemS.mk S.modes S.lists)
 ((hs.getD (0 + (↑i : Int).toNat) (PairR.mk (0 : Int) (0 : Int))).a % n) ((1 : Int) + (hs.getD (0 + (↑i : Int).toNat) (PairR.mk (0 : Int) (0 : Int))).b % (28 : Int))).modes (moveR (MemS.mk S.modes
 S.lists) ((hs.getD (0 + (↑i : Int).toNat) (PairR.mk (0 : Int) (0 : Int))).a % n) ((1 : Int) + (hs.getD (0 + (↑i : Int).toNat) (PairR.mk (0 : Int) (0 : Int))).b % (28 : Int))).lists) ((hs.getD (0 + (↑i
 : Int).toNat) (PairR.mk (0 : Int) (0 : Int))).a % n) = (1 : Int) + (hs.getD (0 + (↑i : Int).toNat) (PairR.mk (0 : Int) (0 : Int))).b % (28 : Int))), (74, AVal.bool !decide (modeM (MemS.mk (moveR
 (MemS.mk S.modes S.lists) ((hs.getD (0 + (↑i : Int).toNat) (PairR.mk (0 : Int) (0 : Int))).a % n) ((1 : Int) + (hs.getD (0 + (↑i : Int).toNat) (PairR.mk (0 : Int) (0 : Int))).b % (28 : Int))).modes
 (moveR (MemS.mk S.modes S.lists) ((hs.getD (0 + (↑i : Int).toNat) (PairR.mk (0 : Int) (0 : Int))).a % n) ((1 : Int) + (hs.getD (0 + (↑i : Int).toNat) (PairR.mk (0 : Int) (0 : Int))).b % (28 :
 Int))).lists) ((hs.getD (0 + (↑i : Int).toNat) (PairR.mk (0 : Int) (0 : Int))).a % n) = (1 : Int) + (hs.getD (0 + (↑i : Int).toNat) (PairR.mk (0 : Int) (0 : Int))).b % (28 : Int))), (69, AVal.bool
 false), (73, AVal.int IntKind.i64 ((1 : Int) + (hs.getD (0 + (↑i : Int).toNat) (PairR.mk (0 : Int) (0 : Int))).b % (28 : Int))), (69, AVal.bool false), (72, AVal.int IntKind.i64 (modeM (MemS.mk (moveR
 (MemS.mk S.modes S.lists) ((hs.getD (0 + (↑i : Int).toNat) (PairR.mk (0 : Int) (0 : Int))).a % n) ((1 : Int) + (hs.getD (0 + (↑i : Int).toNat) (PairR.mk (0 : Int) (0 : Int))).b % (28 : Int))).modes
 (moveR (MemS.mk S.modes S.lists) ((hs.getD (0 + (↑i : Int).toNat) (PairR.mk (0 : Int) (0 : Int))).a % n) ((1 : Int) + (hs.getD (0 + (↑i : Int).toNat) (PairR.mk (0 : Int) (0 : Int))).b % (28 :
 Int))).lists) ((hs.getD (0 + (↑i : Int).toNat) (PairR.mk (0 : Int) (0 : Int))).a % n))), (69, AVal.bool false), (71, AVal.int IntKind.i64 ((hs.getD (0 + (↑i : Int).toNat) (PairR.mk (0 : Int) (0 :
 Int))).a % n)), (69, AVal.bool false), (70, AVal.ptr 1 0 0 0), (69, AVal.bool false), (69, AVal.bool !decide (moveE (MemS.mk S.modes S.lists) ((hs.getD (0 + (↑i : Int).toNat) (PairR.mk (0 : Int) (0 :
 Int))).a % n) ((1 : Int) + (hs.getD (0 + (↑i : Int).toNat) (PairR.mk (0 : Int) (0 : Int))).b % (28 : Int)) = (0 : Int))), (68, AVal.bool !decide (moveE (MemS.mk S.modes S.lists) ((hs.getD (0 + (↑i :
 Int).toNat) (PairR.mk (0 : Int) (0 : Int))).a % n) ((1 : Int) + (hs.getD (0 + (↑i : Int).toNat) (PairR.mk (0 : Int) (0 : Int))).b % (28 : Int)) = (0 : Int))), (67, AVal.int IntKind.i64 (moveE (MemS.mk
 S.modes S.lists) ((hs.getD (0 + (↑i : Int).toNat) (PairR.mk (0 : Int) (0 : Int))).a % n) ((1 : Int) + (hs.getD (0 + (↑i : Int).toNat) (PairR.mk (0 : Int) (0 : Int))).b % (28 : Int)))), (66, AVal.int
 IntKind.i64 ((1 : Int) + (hs.getD (0 + (↑i : Int).toNat) (PairR.mk (0 : Int) (0 : Int))).b % (28 : Int))), (65, AVal.int IntKind.i64 ((hs.getD (0 + (↑i : Int).toNat) (PairR.mk (0 : Int) (0 : Int))).a
 % n)), (64, AVal.ptr 1 0 0 0), (12, AVal.sl 24 0 1 0 (ofM (MemS.mk S.modes S.lists) ((1 : Int) + (hs.getD (0 + (↑i : Int).toNat) (PairR.mk (0 : Int) (0 : Int))).b % (28 : Int))).length none), (11,
 AVal.sl 22 0 1 0 (ofM (MemS.mk S.modes S.lists) (modeM (MemS.mk S.modes S.lists) ((hs.getD (0 + (↑i : Int).toNat) (PairR.mk (0 : Int) (0 : Int))).a % n))).length none), (63, AVal.sl 24 0 1 0 (ofM
 (MemS.mk S.modes S.lists) ((1 : Int) + (hs.getD (0 + (↑i : Int).toNat) (PairR.mk (0 : Int) (0 : Int))).b % (28 : Int))).length none), (62, AVal.int IntKind.i64 ((1 : Int) + (hs.getD (0 + (↑i :
 Int).toNat) (PairR.mk (0 : Int) (0 : Int))).b % (28 : Int))), (61, AVal.ptr 1 0 0 0), (60, AVal.sl 22 0 1 0 (ofM (MemS.mk S.modes S.lists) (modeM (MemS.mk S.modes S.lists) ((hs.getD (0 + (↑i :
 Int).toNat) (PairR.mk (0 : Int) (0 : Int))).a % n))).length none), (59, AVal.int IntKind.i64 (modeM (MemS.mk S.modes S.lists) ((hs.getD (0 + (↑i : Int).toNat) (PairR.mk (0 : Int) (0 : Int))).a % n))),
 (58, AVal.ptr 1 0 0 0), (10, AVal.int IntKind.i64 (modeM (MemS.mk S.modes S.lists) ((hs.getD (0 + (↑i : Int).toNat) (PairR.mk (0 : Int) (0 : Int))).a % n))), (57, AVal.int IntKind.i64 (modeM (MemS.mk
 S.modes S.lists) ((hs.getD (0 + (↑i : Int).toNat) (PairR.mk (0 : Int) (0 : Int))).a % n))), (56, AVal.int IntKind.i64 ((hs.getD (0 + (↑i : Int).toNat) (PairR.mk (0 : Int) (0 : Int))).a % n)), (55,
 AVal.ptr 1 0 0 0), (9, AVal.int IntKind.i64 ((1 : Int) + (hs.getD (0 + (↑i : Int).toNat) (PairR.mk (0 : Int) (0 : Int))).b % (28 : Int))), (8, AVal.int IntKind.i64 ((hs.getD (0 + (↑i : Int).toNat)
 (PairR.mk (0 : Int) (0 : Int))).a % n)), (54, AVal.int IntKind.i64 ((1 : Int) + (hs.getD (0 + (↑i : Int).toNat) (PairR.mk (0 : Int) (0 : Int))).b % (28 : Int))), (53, AVal.int IntKind.i64 ((hs.getD (0
 + (↑i : Int).toNat) (PairR.mk (0 : Int) (0 : Int))).b % (28 : Int))), (52, AVal.int IntKind.u8 ((hs.getD (0 + (↑i : Int).toNat) (PairR.mk (0 : Int) (0 : Int))).b % (28 : Int))), (51, AVal.int
 IntKind.u8 (hs.getD (0 + (↑i : Int).toNat) (PairR.mk (0 : Int) (0 : Int))).b), (50, AVal.ptr 0 (0 + (↑i : Int).toNat) 2 1), (49, AVal.ptr 0 (0 + (↑i : Int).toNat) 2 0), (48, AVal.int IntKind.i64 (↑i :
 Int)), (47, AVal.sl 0 0 2 0 hs.length none), (46, AVal.int IntKind.i64 ((hs.getD (0 + (↑i : Int).toNat) (PairR.mk (0 : Int) (0 : Int))).a % n)), (45, AVal.int IntKind.i64 n), (44, AVal.int IntKind.i64
 (hs.getD (0 + (↑i : Int).toNat) (PairR.mk (0 : Int) (0 : Int))).a), (43, AVal.int IntKind.u8 (hs.getD (0 + (↑i : Int).toNat) (PairR.mk (0 : Int) (0 : Int))).a), (42, AVal.ptr 0 (0 + (↑i : Int).toNat)
 2 0), (41, AVal.ptr 0 (0 + (↑i : Int).toNat) 2 0), (40, AVal.int IntKind.i64 (↑i : Int)), (39, AVal.sl 0 0 2 0 hs.length none), (1, AVal.sl 0 0 2 0 hs.length none), (5, AVal.int IntKind.i64 n), (6,
 AVal.ptr 1 0 0 0), (7, AVal.int IntKind.i64 (↑i : Int))] (AHeap.mk 27 [(1, ABlk.cells 45 [AVal.sl 2 0 1 0 (moveR (MemS.mk S.modes S.lists) ((hs.getD (0 + (↑i : Int).toNat) (PairR.mk (0 : Int) (0 :
 Int))).a % n) ((1 : Int) + (hs.getD (0 + (↑i : Int).toNat) (PairR.mk (0 : Int) (0 : Int))).b % (28 : Int))).modes.length none, AVal.map 3]), (2, ABlk.row 3 (intRow IntKind.i64) (moveR (MemS.mk S.modes
 S.lists) ((hs.getD (0 + (↑i : Int).toNat) (PairR.mk (0 : Int) (0 : Int))).a % n) ((1 : Int) + (hs.getD (0 + (↑i : Int).toNat) (PairR.mk (0 : Int) (0 : Int))).b % (28 : Int))).modes RowMd.plain), (3,
 ABlk.obj (MapT listV) (MapSt.mk (moveR (MemS.mk S.modes S.lists) ((hs.getD (0 + (↑i : Int).toNat) (PairR.mk (0 : Int) (0 : Int))).a % n) ((1 : Int) + (hs.getD (0 + (↑i : Int).toNat) (PairR.mk (0 :
 Int) (0 : Int))).b % (28 : Int))).lists none) []), (1, ABlk.cells 45 [AVal.sl 2 0 1 0 (moveR (MemS.mk S.modes S.lists) ((hs.getD (0 + (↑i : Int).toNat) (PairR.mk (0 : Int) (0 : Int))).a % n) ((1 :
 Int) + (hs.getD (0 + (↑i : Int).toNat) (PairR.mk (0 : Int) (0 : Int))).b % (28 : Int))).modes.length none, AVal.map 3]), (2, ABlk.row 3 (intRow IntKind.i64) (moveR (MemS.mk S.modes S.lists) ((hs.getD
 (0 + (↑i : Int).toNat) (PairR.mk (0 : Int) (0 : Int))).a % n) ((1 : Int) + (hs.getD (0 + (↑i : Int).toNat) (PairR.mk (0 : Int) (0 : Int))).b % (28 : Int))).modes RowMd.plain), (3, ABlk.obj (MapT
 listV) (MapSt.mk (moveR (MemS.mk S.modes S.lists) ((hs.getD (0 + (↑i : Int).toNat) (PairR.mk (0 : Int) (0 : Int))).a % n) ((1 : Int) + (hs.getD (0 + (↑i : Int).toNat) (PairR.mk (0 : Int) (0 : Int))).b
 % (28 : Int))).lists none) []), (26, ABlk.dead), (1, ABlk.cells 45 [AVal.sl 2 0 1 0 S.modes.length none, AVal.map 3]), (2, ABlk.row 3 (intRow IntKind.i64) S.modes RowMd.plain), (3, ABlk.obj (MapT
 listV) (MapSt.mk S.lists none) []), (24, ABlk.row 3 (intRow IntKind.i64) (ofM (MemS.mk S.modes S.lists) ((1 : Int) + (hs.getD (0 + (↑i : Int).toNat) (PairR.mk (0 : Int) (0 : Int))).b % (28 : Int)))
 RowMd.plain), (25, ABlk.dead), (1, ABlk.cells 45 [AVal.sl 2 0 1 0 S.modes.length none, AVal.map 3]), (2, ABlk.row 3 (intRow IntKind.i64) S.modes RowMd.plain), (3, ABlk.obj (MapT listV) (MapSt.mk
 S.lists none) []), (22, ABlk.row 3 (intRow IntKind.i64) (ofM (MemS.mk S.modes S.lists) (modeM (MemS.mk S.modes S.lists) ((hs.getD (0 + (↑i : Int).toNat) (PairR.mk (0 : Int) (0 : Int))).a % n)))
 RowMd.plain), (23, ABlk.dead), (1, ABlk.cells 45 [AVal.sl 2 0 1 0 S.modes.length none, AVal.map 3]), (2, ABlk.row 3 (intRow IntKind.i64) S.modes RowMd.plain), (3, ABlk.obj (MapT listV) (MapSt.mk
 S.lists none) []), (0, ABlk.row 23 (pairRow IntKind.u8) hs RowMd.ro), (1, ABlk.cells 45 [AVal.sl 2 0 1 0 S.modes.length none, AVal.map 3]), (2, ABlk.row 3 (intRow IntKind.i64) S.modes RowMd.plain),
 (3, ABlk.obj (MapT listV) (MapSt.mk S.lists none) [])])) (It [(1, AVal.sl 0 0 2 0 hs.length none), (5, AVal.int IntKind.i64 n), (6, AVal.ptr 1 0 0 0), (7, AVal.int IntKind.i64 (↑i : Int)), (8,
 AVal.int IntKind.i64 ((hs.getD (0 + (↑i : Int).toNat) (PairR.mk (0 : Int) (0 : Int))).a % n)), (9, AVal.int IntKind.i64 ((1 : Int) + (hs.getD (0 + (↑i : Int).toNat) (PairR.mk (0 : Int) (0 : Int))).b %
 (28 : Int))), (10, AVal.int IntKind.i64 (modeM (MemS.mk S.modes S.lists) ((hs.getD (0 + (↑i : Int).toNat) (PairR.mk (0 : Int) (0 : Int))).a % n))), (11, AVal.sl 2 0 1 0 (ofM (MemS.mk S.modes S.lists)
 (modeM (MemS.mk S.modes S.lists) ((hs.getD (0 + (↑i : Int).toNat) (PairR.mk (0 : Int) (0 : Int))).a % n))).length none), (12, AVal.sl 3 0 1 0 (ofM (MemS.mk S.modes S.lists) ((1 : Int) + (hs.getD (0 +
 (↑i : Int).toNat) (PairR.mk (0 : Int) (0 : Int))).b % (28 : Int))).length none)] (AHeap.mk 6 [(0, ABlk.row 23 (pairRow IntKind.u8) hs RowMd.ro), (1, ABlk.cells 45 [AVal.sl 4 0 1 0 (moveR (MemS.mk
 S.modes S.lists) ((hs.getD (0 + (↑i : Int).toNat) (PairR.mk (0 : Int) (0 : Int))).a % n) ((1 : Int) + (hs.getD (0 + (↑i : Int).toNat) (PairR.mk (0 : Int) (0 : Int))).b % (28 : Int))).modes.length
 none, AVal.map 5]), (2, ABlk.row 3 (intRow IntKind.i64) (ofM (MemS.mk S.modes S.lists) (modeM (MemS.mk S.modes S.lists) ((hs.getD (0 + (↑i : Int).toNat) (PairR.mk (0 : Int) (0 : Int))).a % n)))
 RowMd.plain), (3, ABlk.row 3 (intRow IntKind.i64) (ofM (MemS.mk S.modes S.lists) ((1 : Int) + (hs.getD (0 + (↑i : Int).toNat) (PairR.mk (0 : Int) (0 : Int))).b % (28 : Int))) RowMd.plain), (4,
 ABlk.row 3 (intRow IntKind.i64) (moveR (MemS.mk S.modes S.lists) ((hs.getD (0 + (↑i : Int).toNat) (PairR.mk (0 : Int) (0 : Int))).a % n) ((1 : Int) + (hs.getD (0 + (↑i : Int).toNat) (PairR.mk (0 :
 Int) (0 : Int))).b % (28 : Int))).modes RowMd.plain), (5, ABlk.obj (MapT listV) (MapSt.mk (moveR (MemS.mk S.modes S.lists) ((hs.getD (0 + (↑i : Int).toNat) (PairR.mk (0 : Int) (0 : Int))).a % n) ((1 :
 Int) + (hs.getD (0 + (↑i : Int).toNat) (PairR.mk (0 : Int) (0 : Int))).b % (28 : Int))).lists none) [])]))))))))))))) := by kernel_rfl

set_option maxRecDepth 100000 in
theorem w_on_13 (hs : List PairR) (n i t m f : Int) (S : MemS) (o th : List Int) (Q : AExit → Env → AHeap → Prop) : (wpC (TMO.ctx Try.prog) 200 5 1 on13 (onE2 (mlV hs) n i t m f (slI 2 o) (slI 3 th)) (onHb hs S (rowI o) (rowI th)) (canQ 1 (tsO (tsO2 ++ [78]) []) Q)
) =  (Q AExit.normal [(1, AVal.sl 0 0 2 0 hs.length none), (5, AVal.int IntKind.i64 n), (6, AVal.ptr 1 0 0 0), (7, AVal.int IntKind.i64 i), (8, AVal.int IntKind.i64 t), (9, AVal.int IntKind.i64 m), (10,
 AVal.int IntKind.i64 f), (11, AVal.sl 2 0 1 0 o.length none), (12, AVal.sl 3 0 1 0 th.length none), (78, AVal.bool !decide (f = m))] (AHeap.mk 6 [(0, ABlk.row 23 (pairRow IntKind.u8) hs RowMd.ro), (1,
 ABlk.cells 45 [AVal.sl 4 0 1 0 S.modes.length none, AVal.map 5]), (2, ABlk.row 3 (intRow IntKind.i64) o RowMd.plain), (3, ABlk.row 3 (intRow IntKind.i64) th RowMd.plain), (4, ABlk.row 3 (intRow
 IntKind.i64) S.modes RowMd.plain), (5, ABlk.obj (MapT listV) (MapSt.mk S.lists none) [])])) := by kernel_rfl

set_option maxRecDepth 100000 in
theorem w_on_14 (hs : List PairR) (n i t m f : Int) (S : MemS) (o th : List Int) (b : Bool) (Q : AExit → Env → AHeap → Prop) : (wpC (TMO.ctx Try.prog) 200 5 1 on14 (onE2b (mlV hs) n i t m f (slI 2 o) (slI 3 th) b) (onHb hs S (rowI o) (rowI th)) (canQ 1 (tsO (tsO2 ++ [13]) []) Q)
) =  (Q AExit.normal [(1, AVal.sl 0 0 2 0 hs.length none), (5, AVal.int IntKind.i64 n), (6, AVal.ptr 1 0 0 0), (7, AVal.int IntKind.i64 i), (8, AVal.int IntKind.i64 t), (9, AVal.int IntKind.i64 m), (10,
 AVal.int IntKind.i64 f), (11, AVal.sl 2 0 1 0 o.length none), (12, AVal.sl 3 0 1 0 th.length none), (13, AVal.nils)] (AHeap.mk 6 [(0, ABlk.row 23 (pairRow IntKind.u8) hs RowMd.ro), (1, ABlk.cells 45
 [AVal.sl 4 0 1 0 S.modes.length none, AVal.map 5]), (2, ABlk.row 3 (intRow IntKind.i64) o RowMd.plain), (3, ABlk.row 3 (intRow IntKind.i64) th RowMd.plain), (4, ABlk.row 3 (intRow IntKind.i64) S.modes
 RowMd.plain), (5, ABlk.obj (MapT listV) (MapSt.mk S.lists none) [])])) := by kernel_rfl

set_option maxRecDepth 100000 in
theorem w_on_15 (hs : List PairR) (n i t m f : Int) (S : MemS) (o th : List Int) (Q : AExit → Env → AHeap → Prop) : (wpC (TMO.ctx Try.prog) 200 5 1 on15 (onE2n (mlV hs) n i t m f (slI 2 o) (slI 3 th) .nils) (onHb hs S (rowI o) (rowI th)) (canQ 1 (tsO (tsO2 ++ [13, 14]) []) Q)
) =  (Q AExit.normal [(1, AVal.sl 0 0 2 0 hs.length none), (5, AVal.int IntKind.i64 n), (6, AVal.ptr 1 0 0 0), (7, AVal.int IntKind.i64 i), (8, AVal.int IntKind.i64 t), (9, AVal.int IntKind.i64 m), (10,
 AVal.int IntKind.i64 f), (11, AVal.sl 2 0 1 0 o.length none), (12, AVal.sl 3 0 1 0 th.length none), (13, AVal.nils), (14, AVal.int IntKind.i64 (0 : Int))] (AHeap.mk 6 [(0, ABlk.row 23 (pairRow
 IntKind.u8) hs RowMd.ro), (1, ABlk.cells 45 [AVal.sl 4 0 1 0 S.modes.length none, AVal.map 5]), (2, ABlk.row 3 (intRow IntKind.i64) o RowMd.plain), (3, ABlk.row 3 (intRow IntKind.i64) th RowMd.plain),
 (4, ABlk.row 3 (intRow IntKind.i64) S.modes RowMd.plain), (5, ABlk.obj (MapT listV) (MapSt.mk S.lists none) [])])) := by kernel_rfl

set_option maxRecDepth 100000 in
theorem w_on_r2n (hs : List PairR) (n i t m f : Int) (S : MemS) (o th : List Int) (k : Nat) (Q : AExit → Env → AHeap → Prop) : (wpC (TMO.ctx Try.prog) 200 5 1 onR2 (onE3 (mlV hs) n i t m f (slI 2 o) (slI 3 th) .nils (k : Int)) (onHb hs S (rowI o) (rowI th)) (canQ 1 (tsO (tsO2 ++ [13, 14]) [1, 5, 6, 7, 8, 9, 10, 12, 13]) Q)
) =  (branch (decide ((↑k : Int) < (↑o.length : Int))) (obl (decide ((0 : Int) ≤ (↑k : Int) ∧ (↑k : Int) < (↑o.length : Int))) (obl (decide (0 + (↑k : Int).toNat < o.length)) (branch (!decide (o.getD (0 +
 (↑k : Int).toNat) (0 : Int) = t)) (obl (decide ((0 : Int) ≤ (↑k : Int) ∧ (↑k : Int) < (↑o.length : Int))) (obl (decide (0 + (↑k : Int).toNat < o.length)) (obl (inI64 ((↑k : Int) + (1 : Int))) (Q
 AExit.normal [(1, AVal.sl 0 0 2 0 hs.length none), (5, AVal.int IntKind.i64 n), (6, AVal.ptr 1 0 0 0), (7, AVal.int IntKind.i64 i), (8, AVal.int IntKind.i64 t), (9, AVal.int IntKind.i64 m), (10,
 AVal.int IntKind.i64 f), (11, AVal.sl 2 0 1 0 o.length none), (12, AVal.sl 3 0 1 0 th.length none), (13, AVal.sl 4 0 1 0 1 none), (14, AVal.int IntKind.i64 ((↑k : Int) + (1 : Int)))] (AHeap.mk 7 [(0,
 ABlk.row 23 (pairRow IntKind.u8) hs RowMd.ro), (1, ABlk.cells 45 [AVal.sl 5 0 1 0 S.modes.length none, AVal.map 6]), (2, ABlk.row 3 (intRow IntKind.i64) o RowMd.plain), (3, ABlk.row 3 (intRow
 IntKind.i64) th RowMd.plain), (4, ABlk.row 3 (intRow IntKind.i64) [o.getD (0 + (↑k : Int).toNat) (0 : Int)] RowMd.plain), (5, ABlk.row 3 (intRow IntKind.i64) S.modes RowMd.plain), (6, ABlk.obj (MapT
 listV) (MapSt.mk S.lists none) [])]))))) (obl (inI64 ((↑k : Int) + (1 : Int))) (Q AExit.normal [(1, AVal.sl 0 0 2 0 hs.length none), (5, AVal.int IntKind.i64 n), (6, AVal.ptr 1 0 0 0), (7, AVal.int
 IntKind.i64 i), (8, AVal.int IntKind.i64 t), (9, AVal.int IntKind.i64 m), (10, AVal.int IntKind.i64 f), (11, AVal.sl 2 0 1 0 o.length none), (12, AVal.sl 3 0 1 0 th.length none), (13, AVal.nils), (14,
 AVal.int IntKind.i64 ((↑k : Int) + (1 : Int)))] (AHeap.mk 6 [(0, ABlk.row 23 (pairRow IntKind.u8) hs RowMd.ro), (1, ABlk.cells 45 [AVal.sl 4 0 1 0 S.modes.length none, AVal.map 5]), (2, ABlk.row 3
 (intRow IntKind.i64) o RowMd.plain), (3, ABlk.row 3 (intRow IntKind.i64) th RowMd.plain), (4, ABlk.row 3 (intRow IntKind.i64) S.modes RowMd.plain), (5, ABlk.obj (MapT listV) (MapSt.mk S.lists none)
 [])])))))) (Q (AExit.exit 2) [(1, AVal.sl 0 0 2 0 hs.length none), (5, AVal.int IntKind.i64 n), (6, AVal.ptr 1 0 0 0), (7, AVal.int IntKind.i64 i), (8, AVal.int IntKind.i64 t), (9, AVal.int
 IntKind.i64 m), (10, AVal.int IntKind.i64 f), (12, AVal.sl 2 0 1 0 th.length none), (13, AVal.nils)] (AHeap.mk 5 [(0, ABlk.row 23 (pairRow IntKind.u8) hs RowMd.ro), (1, ABlk.cells 45 [AVal.sl 3 0 1 0
 S.modes.length none, AVal.map 4]), (2, ABlk.row 3 (intRow IntKind.i64) th RowMd.plain), (3, ABlk.row 3 (intRow IntKind.i64) S.modes RowMd.plain), (4, ABlk.obj (MapT listV) (MapSt.mk S.lists none)
 [])]))) := by kernel_rfl

set_option maxRecDepth 100000 in
theorem w_on_r2 (hs : List PairR) (n i t m f : Int) (S : MemS) (o th r : List Int) (k : Nat) (Q : AExit → Env → AHeap → Prop) : (wpC (TMO.ctx Try.prog) 200 5 1 onR2 (onE3 (mlV hs) n i t m f (slI 2 o) (slI 3 th) (slI 4 r) (k : Int)) (onHc hs S (rowI o) (rowI th) (rowI r)) (canQ 1 (tsO (tsO2 ++ [13, 14]) [1, 5, 6, 7, 8, 9, 10, 12, 13]) Q)
) =  (branch (decide ((↑k : Int) < (↑o.length : Int))) (obl (decide ((0 : Int) ≤ (↑k : Int) ∧ (↑k : Int) < (↑o.length : Int))) (obl (decide (0 + (↑k : Int).toNat < o.length)) (branch (!decide (o.getD (0 +
 (↑k : Int).toNat) (0 : Int) = t)) (obl (decide ((0 : Int) ≤ (↑k : Int) ∧ (↑k : Int) < (↑o.length : Int))) (obl (decide (0 + (↑k : Int).toNat < o.length)) (obl (true && decide (r.length = r.length ∧ 1
 = 1 ∧ 1 = 1 ∧ 0 < 1 ∧ (r ++ [o.getD (0 + (↑k : Int).toNat) (0 : Int)]).length ≤ 9223372036854775807 ∧ (r ++ [o.getD (0 + (↑k : Int).toNat) (0 : Int)]).length * 8 ≤ 140737488355328)) (obl (inI64 ((↑k :
 Int) + (1 : Int))) (Q AExit.normal [(1, AVal.sl 0 0 2 0 hs.length none), (5, AVal.int IntKind.i64 n), (6, AVal.ptr 1 0 0 0), (7, AVal.int IntKind.i64 i), (8, AVal.int IntKind.i64 t), (9, AVal.int
 IntKind.i64 m), (10, AVal.int IntKind.i64 f), (11, AVal.sl 2 0 1 0 o.length none), (12, AVal.sl 3 0 1 0 th.length none), (13, AVal.sl 4 0 1 0 (r ++ [o.getD (0 + (↑k : Int).toNat) (0 : Int)]).length
 none), (14, AVal.int IntKind.i64 ((↑k : Int) + (1 : Int)))] (AHeap.mk 7 [(0, ABlk.row 23 (pairRow IntKind.u8) hs RowMd.ro), (1, ABlk.cells 45 [AVal.sl 5 0 1 0 S.modes.length none, AVal.map 6]), (2,
 ABlk.row 3 (intRow IntKind.i64) o RowMd.plain), (3, ABlk.row 3 (intRow IntKind.i64) th RowMd.plain), (4, ABlk.row 3 (intRow IntKind.i64) (r ++ [o.getD (0 + (↑k : Int).toNat) (0 : Int)]) RowMd.plain),
 (5, ABlk.row 3 (intRow IntKind.i64) S.modes RowMd.plain), (6, ABlk.obj (MapT listV) (MapSt.mk S.lists none) [])])))))) (obl (inI64 ((↑k : Int) + (1 : Int))) (Q AExit.normal [(1, AVal.sl 0 0 2 0
 hs.length none), (5, AVal.int IntKind.i64 n), (6, AVal.ptr 1 0 0 0), (7, AVal.int IntKind.i64 i), (8, AVal.int IntKind.i64 t), (9, AVal.int IntKind.i64 m), (10, AVal.int IntKind.i64 f), (11, AVal.sl 2
 0 1 0 o.length none), (12, AVal.sl 3 0 1 0 th.length none), (13, AVal.sl 4 0 1 0 r.length none), (14, AVal.int IntKind.i64 ((↑k : Int) + (1 : Int)))] (AHeap.mk 7 [(0, ABlk.row 23 (pairRow IntKind.u8)
 hs RowMd.ro), (1, ABlk.cells 45 [AVal.sl 5 0 1 0 S.modes.length none, AVal.map 6]), (2, ABlk.row 3 (intRow IntKind.i64) o RowMd.plain), (3, ABlk.row 3 (intRow IntKind.i64) th RowMd.plain), (4,
 ABlk.row 3 (intRow IntKind.i64) r RowMd.plain), (5, ABlk.row 3 (intRow IntKind.i64) S.modes RowMd.plain), (6, ABlk.obj (MapT listV) (MapSt.mk S.lists none) [])])))))) (Q (AExit.exit 2) [(1, AVal.sl 0
 0 2 0 hs.length none), (5, AVal.int IntKind.i64 n), (6, AVal.ptr 1 0 0 0), (7, AVal.int IntKind.i64 i), (8, AVal.int IntKind.i64 t), (9, AVal.int IntKind.i64 m), (10, AVal.int IntKind.i64 f), (12,
 AVal.sl 2 0 1 0 th.length none), (13, AVal.sl 3 0 1 0 r.length none)] (AHeap.mk 6 [(0, ABlk.row 23 (pairRow IntKind.u8) hs RowMd.ro), (1, ABlk.cells 45 [AVal.sl 4 0 1 0 S.modes.length none, AVal.map
 5]), (2, ABlk.row 3 (intRow IntKind.i64) th RowMd.plain), (3, ABlk.row 3 (intRow IntKind.i64) r RowMd.plain), (4, ABlk.row 3 (intRow IntKind.i64) S.modes RowMd.plain), (5, ABlk.obj (MapT listV)
 (MapSt.mk S.lists none) [])]))) := by kernel_rfl

set_option maxRecDepth 100000 in
theorem w_on_wn (hs : List PairR) (n i t m f : Int) (S : MemS) (th : List Int) (Q : AExit → Env → AHeap → Prop) : (wpC (TMO.ctx Try.prog) 200 5 1 onW (onE3e (mlV hs) n i t m f (slI 2 th) .nils) (onHa hs S (rowI th)) (canQ 1 (tsO tsO1 []) Q)
) =  (∃ (hT : intRow IntKind.i64 = intRow IntKind.i64), ∃ (hU : MapT listV = MapT listV), (S.modes.length = S.modes.length ∧ isUnf (MapSt.mk S.lists none) = true) ∧ WfM (MemS.mk S.modes S.lists) ∧ obl
 (true && (ofM (MemS.mk S.modes S.lists) f).all (okI (intRow IntKind.i64)) && (decide ((ofM (MemS.mk S.modes S.lists) f).length = (List.map (toI (intRow IntKind.i64)) (ofM (MemS.mk S.modes S.lists)
 f)).length) && decide ((List.map (toI (intRow IntKind.i64)) (ofM (MemS.mk S.modes S.lists) f)).length ≤ 1000)) && true) (branch (!decide (List.map (toI (intRow IntKind.i64)) (ofM (MemS.mk S.modes
 S.lists) f) = [])) (Q AExit.ret [(4, AVal.bool false)] (AHeap.mk 1 [(0, ABlk.row 23 (pairRow IntKind.u8) hs RowMd.ro)])) (∃ (hT_1 : intRow IntKind.i64 = intRow IntKind.i64), ∃ (hU_1 : MapT listV =
 MapT listV), (S.modes.length = S.modes.length ∧ isUnf (MapSt.mk S.lists none) = true) ∧ WfM (MemS.mk S.modes S.lists) ∧ obl (true && decide (th.length = th.length ∧ 1 = 1 ∧ 1 = 1 ∧ 0 < 1 ∧ (th ++
 [t]).length ≤ 9223372036854775807 ∧ (th ++ [t]).length * 8 ≤ 140737488355328)) (obl (true && (ofM (MemS.mk S.modes S.lists) m).all (okI (intRow IntKind.i64)) && (decide ((ofM (MemS.mk S.modes S.lists)
 m).length = (List.map (toI (intRow IntKind.i64)) (ofM (MemS.mk S.modes S.lists) m)).length) && decide ((List.map (toI (intRow IntKind.i64)) (ofM (MemS.mk S.modes S.lists) m)).length ≤ 1000)) && (true
 && (th ++ [t]).all (okI (intRow IntKind.i64)) && (decide ((th ++ [t]).length = (List.map (toI (intRow IntKind.i64)) (th ++ [t])).length) && decide ((List.map (toI (intRow IntKind.i64)) (th ++
 [t])).length ≤ 1000)))) (branch (!decide (List.map (toI (intRow IntKind.i64)) (ofM (MemS.mk S.modes S.lists) m) = List.map (toI (intRow IntKind.i64)) (th ++ [t]))) (Q AExit.ret [(4, AVal.bool false)]
 (AHeap.mk 1 [(0, ABlk.row 23 (pairRow IntKind.u8) hs RowMd.ro)])) (Q AExit.normal [(1, AVal.sl 0 0 2 0 hs.length none), (5, AVal.int IntKind.i64 n), (6, AVal.ptr 1 0 0 0), (7, AVal.int IntKind.i64 i)]
 (AHeap.mk 4 [(0, ABlk.row 23 (pairRow IntKind.u8) hs RowMd.ro), (1, ABlk.cells 45 [AVal.sl 2 0 1 0 S.modes.length none, AVal.map 3]), (2, ABlk.row 3 (intRow IntKind.i64) S.modes RowMd.plain), (3,
 ABlk.obj (MapT listV) (MapSt.mk S.lists none) [])]))))))) := by kernel_rfl

set_option maxRecDepth 100000 in
theorem w_on_w (hs : List PairR) (n i t m f : Int) (S : MemS) (th r : List Int) (Q : AExit → Env → AHeap → Prop) : (wpC (TMO.ctx Try.prog) 200 5 1 onW (onE3e (mlV hs) n i t m f (slI 2 th) (slI 3 r)) (onHb hs S (rowI th) (rowI r)) (canQ 1 (tsO tsO1 []) Q)
) =  (∃ (hT : intRow IntKind.i64 = intRow IntKind.i64), ∃ (hU : MapT listV = MapT listV), (S.modes.length = S.modes.length ∧ isUnf (MapSt.mk S.lists none) = true) ∧ WfM (MemS.mk S.modes S.lists) ∧ obl
 (true && (ofM (MemS.mk S.modes S.lists) f).all (okI (intRow IntKind.i64)) && (decide ((ofM (MemS.mk S.modes S.lists) f).length = (List.map (toI (intRow IntKind.i64)) (ofM (MemS.mk S.modes S.lists)
 f)).length) && decide ((List.map (toI (intRow IntKind.i64)) (ofM (MemS.mk S.modes S.lists) f)).length ≤ 1000)) && (true && r.all (okI (intRow IntKind.i64)) && (decide (r.length = (List.map (toI
 (intRow IntKind.i64)) r).length) && decide ((List.map (toI (intRow IntKind.i64)) r).length ≤ 1000)))) (branch (!decide (List.map (toI (intRow IntKind.i64)) (ofM (MemS.mk S.modes S.lists) f) = List.map
 (toI (intRow IntKind.i64)) r)) (Q AExit.ret [(4, AVal.bool false)] (AHeap.mk 1 [(0, ABlk.row 23 (pairRow IntKind.u8) hs RowMd.ro)])) (∃ (hT_1 : intRow IntKind.i64 = intRow IntKind.i64), ∃ (hU_1 : MapT
 listV = MapT listV), (S.modes.length = S.modes.length ∧ isUnf (MapSt.mk S.lists none) = true) ∧ WfM (MemS.mk S.modes S.lists) ∧ obl (true && decide (th.length = th.length ∧ 1 = 1 ∧ 1 = 1 ∧ 0 < 1 ∧ (th
 ++ [t]).length ≤ 9223372036854775807 ∧ (th ++ [t]).length * 8 ≤ 140737488355328)) (obl (true && (ofM (MemS.mk S.modes S.lists) m).all (okI (intRow IntKind.i64)) && (decide ((ofM (MemS.mk S.modes
 S.lists) m).length = (List.map (toI (intRow IntKind.i64)) (ofM (MemS.mk S.modes S.lists) m)).length) && decide ((List.map (toI (intRow IntKind.i64)) (ofM (MemS.mk S.modes S.lists) m)).length ≤ 1000))
 && (true && (th ++ [t]).all (okI (intRow IntKind.i64)) && (decide ((th ++ [t]).length = (List.map (toI (intRow IntKind.i64)) (th ++ [t])).length) && decide ((List.map (toI (intRow IntKind.i64)) (th ++
 [t])).length ≤ 1000)))) (branch (!decide (List.map (toI (intRow IntKind.i64)) (ofM (MemS.mk S.modes S.lists) m) = List.map (toI (intRow IntKind.i64)) (th ++ [t]))) (Q AExit.ret [(4, AVal.bool false)]
 (AHeap.mk 1 [(0, ABlk.row 23 (pairRow IntKind.u8) hs RowMd.ro)])) (Q AExit.normal [(1, AVal.sl 0 0 2 0 hs.length none), (5, AVal.int IntKind.i64 n), (6, AVal.ptr 1 0 0 0), (7, AVal.int IntKind.i64 i)]
 (AHeap.mk 4 [(0, ABlk.row 23 (pairRow IntKind.u8) hs RowMd.ro), (1, ABlk.cells 45 [AVal.sl 2 0 1 0 S.modes.length none, AVal.map 3]), (2, ABlk.row 3 (intRow IntKind.i64) S.modes RowMd.plain), (3,
 ABlk.obj (MapT listV) (MapSt.mk S.lists none) [])]))))))) := by kernel_rfl

set_option maxRecDepth 100000 in
theorem w_on_f (hs : List PairR) (n i t m f : Int) (S : MemS) (o th : List Int) (b : Bool) (Q : AExit → Env → AHeap → Prop) : (wpC (TMO.ctx Try.prog) 200 5 1 onF (onE2b (mlV hs) n i t m f (slI 2 o) (slI 3 th) b) (onHb hs S (rowI o) (rowI th)) (canQ 1 (tsO tsO1 []) Q)
) =  (∃ (hT : intRow IntKind.i64 = intRow IntKind.i64), ∃ (hU : MapT listV = MapT listV), (S.modes.length = S.modes.length ∧ isUnf (MapSt.mk S.lists none) = true) ∧ WfM (MemS.mk S.modes S.lists) ∧ obl
 (true && (ofM (MemS.mk S.modes S.lists) m).all (okI (intRow IntKind.i64)) && (decide ((ofM (MemS.mk S.modes S.lists) m).length = (List.map (toI (intRow IntKind.i64)) (ofM (MemS.mk S.modes S.lists)
 m)).length) && decide ((List.map (toI (intRow IntKind.i64)) (ofM (MemS.mk S.modes S.lists) m)).length ≤ 1000)) && (true && th.all (okI (intRow IntKind.i64)) && (decide (th.length = (List.map (toI
 (intRow IntKind.i64)) th).length) && decide ((List.map (toI (intRow IntKind.i64)) th).length ≤ 1000)))) (branch (!decide (List.map (toI (intRow IntKind.i64)) (ofM (MemS.mk S.modes S.lists) m) =
 List.map (toI (intRow IntKind.i64)) th)) (Q AExit.ret [(4, AVal.bool false)] (AHeap.mk 1 [(0, ABlk.row 23 (pairRow IntKind.u8) hs RowMd.ro)])) (Q AExit.normal [(1, AVal.sl 0 0 2 0 hs.length none), (5,
 AVal.int IntKind.i64 n), (6, AVal.ptr 1 0 0 0), (7, AVal.int IntKind.i64 i)] (AHeap.mk 4 [(0, ABlk.row 23 (pairRow IntKind.u8) hs RowMd.ro), (1, ABlk.cells 45 [AVal.sl 2 0 1 0 S.modes.length none,
 AVal.map 3]), (2, ABlk.row 3 (intRow IntKind.i64) S.modes RowMd.plain), (3, ABlk.obj (MapT listV) (MapSt.mk S.lists none) [])])))) := by kernel_rfl

set_option maxRecDepth 100000 in
theorem w_on_d (hs : List PairR) (n i : Int) (S : MemS) (It : Env → AHeap → Prop) (K : AExit → Env → AHeap → Prop) : (wpN (TMO.ctx Try.prog) 2 200 5 1 onD (onE1 (mlV hs) n i) (onH1 hs S) (fun E H => canonK 1 tsO4 E H It) K
) =  (∃ (hT : intRow IntKind.i64 = intRow IntKind.i64), ∃ (hU : MapT listV = MapT listV), (S.modes.length = S.modes.length ∧ isUnf (MapSt.mk S.lists none) = true) ∧ WfM (MemS.mk S.modes S.lists) ∧ It [(1,
 AVal.sl 0 0 2 0 hs.length none), (5, AVal.int IntKind.i64 n), (6, AVal.ptr 1 0 0 0), (7, AVal.int IntKind.i64 i), (15, AVal.ptr 2 0 0 0), (16, AVal.sl 3 0 1 0 (allM (MemS.mk S.modes S.lists)).length
 none)] (AHeap.mk 6 [(0, ABlk.row 23 (pairRow IntKind.u8) hs RowMd.ro), (1, ABlk.cells 45 [AVal.sl 4 0 1 0 S.modes.length none, AVal.map 5]), (2, ABlk.cells 40 [AVal.int IntKind.i64 (0 : Int), AVal.int
 IntKind.i64 (0 : Int), AVal.int IntKind.i64 (0 : Int), AVal.int IntKind.i64 (0 : Int), AVal.int IntKind.i64 (0 : Int), AVal.int IntKind.i64 (0 : Int), AVal.int IntKind.i64 (0 : Int), AVal.int
 IntKind.i64 (0 : Int)]), (3, ABlk.row 3 (intRow IntKind.i64) (allM (MemS.mk S.modes S.lists)) RowMd.plain), (4, ABlk.row 3 (intRow IntKind.i64) S.modes RowMd.plain), (5, ABlk.obj (MapT listV)
 (MapSt.mk S.lists none) [])])) := by kernel_rfl

set_option maxRecDepth 100000 in
theorem w_on_26 (hs : List PairR) (n i : Int) (S : MemS) (c : Nat → Int) (ks : List Int) (Q : AExit → Env → AHeap → Prop) : (wpC (TMO.ctx Try.prog) 200 5 1 on26 (onE4 (mlV hs) n i (slI 3 ks)) (onHb hs S (cntB c) (rowI ks)) (canQ 1 (tsO (tsO4 ++ [17]) []) Q)
) =  (Q AExit.normal [(1, AVal.sl 0 0 2 0 hs.length none), (5, AVal.int IntKind.i64 n), (6, AVal.ptr 1 0 0 0), (7, AVal.int IntKind.i64 i), (15, AVal.ptr 2 0 0 0), (16, AVal.sl 3 0 1 0 ks.length none),
 (17, AVal.int IntKind.i64 (0 : Int))] (AHeap.mk 6 [(0, ABlk.row 23 (pairRow IntKind.u8) hs RowMd.ro), (1, ABlk.cells 45 [AVal.sl 4 0 1 0 S.modes.length none, AVal.map 5]), (2, ABlk.cells 40 [AVal.int
 IntKind.i64 (c 0), AVal.int IntKind.i64 (c 1), AVal.int IntKind.i64 (c 2), AVal.int IntKind.i64 (c 3), AVal.int IntKind.i64 (c 4), AVal.int IntKind.i64 (c 5), AVal.int IntKind.i64 (c 6), AVal.int
 IntKind.i64 (c 7)]), (3, ABlk.row 3 (intRow IntKind.i64) ks RowMd.plain), (4, ABlk.row 3 (intRow IntKind.i64) S.modes RowMd.plain), (5, ABlk.obj (MapT listV) (MapSt.mk S.lists none) [])])) := by
 kernel_rfl

set_option maxRecDepth 100000 in
theorem w_on_27 (hs : List PairR) (n i : Int) (S : MemS) (c : Nat → Int) (ks : List Int) (k : Nat) (Q : AExit → Env → AHeap → Prop) : (wpC (TMO.ctx Try.prog) 200 5 1 on27 (onE5 (mlV hs) n i (slI 3 ks) (k : Int)) (onHb hs S (cntB c) (rowI ks)) (canQ 1 (tsO (tsO4 ++ [17]) [1, 5, 6, 7, 15]) Q)
) =  (branch (decide ((↑k : Int) < (↑ks.length : Int))) (Q AExit.normal [(1, AVal.sl 0 0 2 0 hs.length none), (5, AVal.int IntKind.i64 n), (6, AVal.ptr 1 0 0 0), (7, AVal.int IntKind.i64 i), (15, AVal.ptr
 2 0 0 0), (16, AVal.sl 3 0 1 0 ks.length none), (17, AVal.int IntKind.i64 (↑k : Int))] (AHeap.mk 6 [(0, ABlk.row 23 (pairRow IntKind.u8) hs RowMd.ro), (1, ABlk.cells 45 [AVal.sl 4 0 1 0 S.modes.length
 none, AVal.map 5]), (2, ABlk.cells 40 [AVal.int IntKind.i64 (c 0), AVal.int IntKind.i64 (c 1), AVal.int IntKind.i64 (c 2), AVal.int IntKind.i64 (c 3), AVal.int IntKind.i64 (c 4), AVal.int IntKind.i64
 (c 5), AVal.int IntKind.i64 (c 6), AVal.int IntKind.i64 (c 7)]), (3, ABlk.row 3 (intRow IntKind.i64) ks RowMd.plain), (4, ABlk.row 3 (intRow IntKind.i64) S.modes RowMd.plain), (5, ABlk.obj (MapT
 listV) (MapSt.mk S.lists none) [])])) (Q (AExit.exit 4) [(1, AVal.sl 0 0 2 0 hs.length none), (5, AVal.int IntKind.i64 n), (6, AVal.ptr 1 0 0 0), (7, AVal.int IntKind.i64 i), (15, AVal.ptr 2 0 0 0)]
 (AHeap.mk 5 [(0, ABlk.row 23 (pairRow IntKind.u8) hs RowMd.ro), (1, ABlk.cells 45 [AVal.sl 3 0 1 0 S.modes.length none, AVal.map 4]), (2, ABlk.cells 40 [AVal.int IntKind.i64 (c 0), AVal.int
 IntKind.i64 (c 1), AVal.int IntKind.i64 (c 2), AVal.int IntKind.i64 (c 3), AVal.int IntKind.i64 (c 4), AVal.int IntKind.i64 (c 5), AVal.int IntKind.i64 (c 6), AVal.int IntKind.i64 (c 7)]), (3,
 ABlk.row 3 (intRow IntKind.i64) S.modes RowMd.plain), (4, ABlk.obj (MapT listV) (MapSt.mk S.lists none) [])]))) := by kernel_rfl

set_option maxRecDepth 100000 in
theorem w_on_g (hs : List PairR) (n i : Int) (S : MemS) (c : Nat → Int) (ks : List Int) (k : Nat) (It : Env → AHeap → Prop) (K : AExit → Env → AHeap → Prop) : (wpN (TMO.ctx Try.prog) 2 200 5 1 onG (onE5 (mlV hs) n i (slI 3 ks) (k : Int)) (onHb hs S (cntB c) (rowI ks)) (fun E H => canonK 1 tsO5 E H It) K
) =  (obl (decide ((0 : Int) ≤ (↑k : Int) ∧ (↑k : Int) < (↑ks.length : Int))) (obl (decide (0 + (↑k : Int).toNat < ks.length)) (∃ (hT : intRow IntKind.i64 = intRow IntKind.i64), ∃ (hU : MapT listV = MapT
 listV), (S.modes.length = S.modes.length ∧ isUnf (MapSt.mk S.lists none) = true) ∧ WfM (MemS.mk S.modes S.lists) ∧ branch (decide ((↑(ofM (MemS.mk S.modes S.lists) (ks.getD (0 + (↑k : Int).toNat) (0 :
 Int))).length : Int) = (0 : Int))) (K AExit.ret [(4, AVal.bool false), (154, AVal.bool true), (153, AVal.tup []), (152, AVal.tup []), (151, AVal.tup []), (150, AVal.tup []), (149, AVal.tup []), (148,
 AVal.tup []), (147, AVal.tup []), (146, AVal.tup []), (145, AVal.tup []), (144, AVal.tup []), (143, AVal.tup []), (142, AVal.tup []), (141, AVal.tup []), (140, AVal.tup []), (139, AVal.bool true),
 (138, AVal.bool (decide ((↑(ofM (MemS.mk S.modes S.lists) (ks.getD (0 + (↑k : Int).toNat) (0 : Int))).length : Int) = (0 : Int)))), (137, AVal.int IntKind.i64 (↑(ofM (MemS.mk S.modes S.lists) (ks.getD
 (0 + (↑k : Int).toNat) (0 : Int))).length : Int)), (136, AVal.sl 6 0 1 0 (ofM (MemS.mk S.modes S.lists) (ks.getD (0 + (↑k : Int).toNat) (0 : Int))).length none), (18, AVal.sl 6 0 1 0 (ofM (MemS.mk
 S.modes S.lists) (ks.getD (0 + (↑k : Int).toNat) (0 : Int))).length none), (135, AVal.sl 6 0 1 0 (ofM (MemS.mk S.modes S.lists) (ks.getD (0 + (↑k : Int).toNat) (0 : Int))).length none), (134, AVal.int
 IntKind.i64 (ks.getD (0 + (↑k : Int).toNat) (0 : Int))), (133, AVal.ptr 3 (0 + (↑k : Int).toNat) 1 0), (132, AVal.int IntKind.i64 (↑k : Int)), (131, AVal.sl 3 0 1 0 ks.length none), (130, AVal.ptr 1 0
 0 0), (1, AVal.sl 0 0 2 0 hs.length none), (5, AVal.int IntKind.i64 n), (6, AVal.ptr 1 0 0 0), (7, AVal.int IntKind.i64 i), (15, AVal.ptr 2 0 0 0), (16, AVal.sl 3 0 1 0 ks.length none), (17, AVal.int
 IntKind.i64 (↑k : Int))] (AHeap.mk 27 [(1, ABlk.cells 45 [AVal.sl 4 0 1 0 S.modes.length none, AVal.map 5]), (4, ABlk.row 3 (intRow IntKind.i64) S.modes RowMd.plain), (5, ABlk.obj (MapT listV)
 (MapSt.mk S.lists none) []), (6, ABlk.row 3 (intRow IntKind.i64) (ofM (MemS.mk S.modes S.lists) (ks.getD (0 + (↑k : Int).toNat) (0 : Int))) RowMd.plain), (7, ABlk.dead), (0, ABlk.row 23 (pairRow
 IntKind.u8) hs RowMd.ro), (1, ABlk.cells 45 [AVal.sl 4 0 1 0 S.modes.length none, AVal.map 5]), (2, ABlk.cells 40 [AVal.int IntKind.i64 (c 0), AVal.int IntKind.i64 (c 1), AVal.int IntKind.i64 (c 2),
 AVal.int IntKind.i64 (c 3), AVal.int IntKind.i64 (c 4), AVal.int IntKind.i64 (c 5), AVal.int IntKind.i64 (c 6), AVal.int IntKind.i64 (c 7)]), (3, ABlk.row 3 (intRow IntKind.i64) ks RowMd.plain), (4,
 ABlk.row 3 (intRow IntKind.i64) S.modes RowMd.plain), (5, ABlk.obj (MapT listV) (MapSt.mk S.lists none) [])])) (branch (decide ((0 : Int) < (↑k : Int))) (obl (inI64 ((↑k : Int) - (1 : Int))) (obl
 (decide ((0 : Int) ≤ (↑k : Int) - (1 : Int) ∧ (↑k : Int) - (1 : Int) < (↑ks.length : Int))) (obl (decide (0 + ((↑k : Int) - (1 : Int)).toNat < ks.length)) (obl (decide ((0 : Int) ≤ (↑k : Int) ∧ (↑k :
 Int) < (↑ks.length : Int))) (obl (decide (0 + (↑k : Int).toNat < ks.length)) (branch (decide (ks.getD (0 + (↑k : Int).toNat) (0 : Int) ≤ ks.getD (0 + ((↑k : Int) - (1 : Int)).toNat) (0 : Int))) (K
 AExit.ret [(4, AVal.bool false), (154, AVal.bool (decide (ks.getD (0 + (↑k : Int).toNat) (0 : Int) ≤ ks.getD (0 + ((↑k : Int) - (1 : Int)).toNat) (0 : Int)))), (153, AVal.bool (decide (ks.getD (0 +
 (↑k : Int).toNat) (0 : Int) ≤ ks.getD (0 + ((↑k : Int) - (1 : Int)).toNat) (0 : Int)))), (152, AVal.bool (decide (ks.getD (0 + (↑k : Int).toNat) (0 : Int) ≤ ks.getD (0 + ((↑k : Int) - (1 :
 Int)).toNat) (0 : Int)))), (151, AVal.int IntKind.i64 (ks.getD (0 + (↑k : Int).toNat) (0 : Int))), (150, AVal.ptr 3 (0 + (↑k : Int).toNat) 1 0), (149, AVal.int IntKind.i64 (↑k : Int)), (148, AVal.sl 3
 0 1 0 ks.length none), (147, AVal.int IntKind.i64 (ks.getD (0 + ((↑k : Int) - (1 : Int)).toNat) (0 : Int))), (146, AVal.ptr 3 (0 + ((↑k : Int) - (1 : Int)).toNat) 1 0), (145, AVal.int IntKind.i64 ((↑k
 : Int) - (1 : Int))), (144, AVal.int IntKind.i64 (↑k : Int)), (143, AVal.sl 3 0 1 0 ks.length none), (142, AVal.bool true), (141, AVal.bool (decide ((0 : Int) < (↑k : Int)))), (140, AVal.int
 IntKind.i64 (↑k : Int)), (139, AVal.bool false), (138, AVal.bool (decide ((↑(ofM (MemS.mk S.modes S.lists) (ks.getD (0 + (↑k : Int).toNat) (0 : Int))).length : Int) = (0 : Int)))), (137, AVal.int
 IntKind.i64 (↑(ofM (MemS.mk S.modes S.lists) (ks.getD (0 + (↑k : Int).toNat) (0 : Int))).length : Int)), (136, AVal.sl 6 0 1 0 (ofM (MemS.mk S.modes S.lists) (ks.getD (0 + (↑k : Int).toNat) (0 :
 Int))).length none), (18, AVal.sl 6 0 1 0 (ofM (MemS.mk S.modes S.lists) (ks.getD (0 + (↑k : Int).toNat) (0 : Int))).length none), (135, AVal.sl 6 0 1 0 (ofM (MemS.mk S.modes S.lists) (ks.getD (0 +
 (↑k : Int).toNat) (0 : Int))).length none), (134, AVal.int IntKind.i64 (ks.getD (0 + (↑k : Int).toNat) (0 : Int))), (133, AVal.ptr 3 (0 + (↑k : Int).toNat) 1 0), (132, AVal.int IntKind.i64 (↑k :
 Int)), (131, AVal.sl 3 0 1 0 ks.length none), (130, AVal.ptr 1 0 0 0), (1, AVal.sl 0 0 2 0 hs.length none), (5, AVal.int IntKind.i64 n), (6, AVal.ptr 1 0 0 0), (7, AVal.int IntKind.i64 i), (15,
 AVal.ptr 2 0 0 0), (16, AVal.sl 3 0 1 0 ks.length none), (17, AVal.int IntKind.i64 (↑k : Int))] (AHeap.mk 27 [(1, ABlk.cells 45 [AVal.sl 4 0 1 0 S.modes.length none, AVal.map 5]), (4, ABlk.row 3
 (intRow IntKind.i64) S.modes RowMd.plain), (5, ABlk.obj (MapT listV) (MapSt.mk S.lists none) []), (6, ABlk.row 3 (intRow IntKind.i64) (ofM (MemS.mk S.modes S.lists) (ks.getD (0 + (↑k : Int).toNat) (0
 : Int))) RowMd.plain), (7, ABlk.dead), (0, ABlk.row 23 (pairRow IntKind.u8) hs RowMd.ro), (1, ABlk.cells 45 [AVal.sl 4 0 1 0 S.modes.length none, AVal.map 5]), (2, ABlk.cells 40 [AVal.int IntKind.i64
 (c 0), AVal.int IntKind.i64 (c 1), AVal.int IntKind.i64 (c 2), AVal.int IntKind.i64 (c 3), AVal.int IntKind.i64 (c 4), AVal.int IntKind.i64 (c 5), AVal.int IntKind.i64 (c 6), AVal.int IntKind.i64 (c
 7)]), (3, ABlk.row 3 (intRow IntKind.i64) ks RowMd.plain), (4, ABlk.row 3 (intRow IntKind.i64) S.modes RowMd.plain), (5, ABlk.obj (MapT listV) (MapSt.mk S.lists none) [])])) (It [(1, AVal.sl 0 0 2 0
 hs.length none), (5, AVal.int IntKind.i64 n), (6, AVal.ptr 1 0 0 0), (7, AVal.int IntKind.i64 i), (15, AVal.ptr 2 0 0 0), (16, AVal.sl 3 0 1 0 ks.length none), (17, AVal.int IntKind.i64 (↑k : Int)),
 (18, AVal.sl 4 0 1 0 (ofM (MemS.mk S.modes S.lists) (ks.getD (0 + (↑k : Int).toNat) (0 : Int))).length none)] (AHeap.mk 7 [(0, ABlk.row 23 (pairRow IntKind.u8) hs RowMd.ro), (1, ABlk.cells 45 [AVal.sl
 5 0 1 0 S.modes.length none, AVal.map 6]), (2, ABlk.cells 40 [AVal.int IntKind.i64 (c 0), AVal.int IntKind.i64 (c 1), AVal.int IntKind.i64 (c 2), AVal.int IntKind.i64 (c 3), AVal.int IntKind.i64 (c
 4), AVal.int IntKind.i64 (c 5), AVal.int IntKind.i64 (c 6), AVal.int IntKind.i64 (c 7)]), (3, ABlk.row 3 (intRow IntKind.i64) ks RowMd.plain), (4, ABlk.row 3 (intRow IntKind.i64) (ofM (MemS.mk S.modes
 S.lists) (ks.getD (0 + (↑k : Int).toNat) (0 : Int))) RowMd.plain), (5, ABlk.row 3 (intRow IntKind.i64) S.modes RowMd.plain), (6, ABlk.obj (MapT listV) (MapSt.mk S.lists none) [])])))))))) (It [(1,
 AVal.sl 0 0 2 0 hs.length none), (5, AVal.int IntKind.i64 n), (6, AVal.ptr 1 0 0 0), (7, AVal.int IntKind.i64 i), (15, AVal.ptr 2 0 0 0), (16, AVal.sl 3 0 1 0 ks.length none), (17, AVal.int
 IntKind.i64 (↑k : Int)), (18, AVal.sl 4 0 1 0 (ofM (MemS.mk S.modes S.lists) (ks.getD (0 + (↑k : Int).toNat) (0 : Int))).length none)] (AHeap.mk 7 [(0, ABlk.row 23 (pairRow IntKind.u8) hs RowMd.ro),
 (1, ABlk.cells 45 [AVal.sl 5 0 1 0 S.modes.length none, AVal.map 6]), (2, ABlk.cells 40 [AVal.int IntKind.i64 (c 0), AVal.int IntKind.i64 (c 1), AVal.int IntKind.i64 (c 2), AVal.int IntKind.i64 (c 3),
 AVal.int IntKind.i64 (c 4), AVal.int IntKind.i64 (c 5), AVal.int IntKind.i64 (c 6), AVal.int IntKind.i64 (c 7)]), (3, ABlk.row 3 (intRow IntKind.i64) ks RowMd.plain), (4, ABlk.row 3 (intRow
 IntKind.i64) (ofM (MemS.mk S.modes S.lists) (ks.getD (0 + (↑k : Int).toNat) (0 : Int))) RowMd.plain), (5, ABlk.row 3 (intRow IntKind.i64) S.modes RowMd.plain), (6, ABlk.obj (MapT listV) (MapSt.mk
 S.lists none) [])])))))) := by kernel_rfl

set_option maxRecDepth 100000 in
theorem w_on_32 (hs : List PairR) (n i : Int) (S : MemS) (c : Nat → Int) (ks l : List Int) (k : Int) (Q : AExit → Env → AHeap → Prop) : (wpC (TMO.ctx Try.prog) 200 5 1 on32 (onE5l (mlV hs) n i (slI 3 ks) k (slI 4 l)) (onHc hs S (cntB c) (rowI ks) (rowI l)) (canQ 1 (tsO (tsO5 ++ [19]) []) Q)
) =  (Q AExit.normal [(1, AVal.sl 0 0 2 0 hs.length none), (5, AVal.int IntKind.i64 n), (6, AVal.ptr 1 0 0 0), (7, AVal.int IntKind.i64 i), (15, AVal.ptr 2 0 0 0), (16, AVal.sl 3 0 1 0 ks.length none),
 (17, AVal.int IntKind.i64 k), (18, AVal.sl 4 0 1 0 l.length none), (19, AVal.int IntKind.i64 (0 : Int))] (AHeap.mk 7 [(0, ABlk.row 23 (pairRow IntKind.u8) hs RowMd.ro), (1, ABlk.cells 45 [AVal.sl 5 0
 1 0 S.modes.length none, AVal.map 6]), (2, ABlk.cells 40 [AVal.int IntKind.i64 (c 0), AVal.int IntKind.i64 (c 1), AVal.int IntKind.i64 (c 2), AVal.int IntKind.i64 (c 3), AVal.int IntKind.i64 (c 4),
 AVal.int IntKind.i64 (c 5), AVal.int IntKind.i64 (c 6), AVal.int IntKind.i64 (c 7)]), (3, ABlk.row 3 (intRow IntKind.i64) ks RowMd.plain), (4, ABlk.row 3 (intRow IntKind.i64) l RowMd.plain), (5,
 ABlk.row 3 (intRow IntKind.i64) S.modes RowMd.plain), (6, ABlk.obj (MapT listV) (MapSt.mk S.lists none) [])])) := by kernel_rfl

set_option maxRecDepth 100000 in
theorem w_on_r6 (hs : List PairR) (n i : Int) (S : MemS) (c : Nat → Int) (ks l : List Int) (k j : Nat) (Q : AExit → Env → AHeap → Prop) : (wpC (TMO.ctx Try.prog) 200 5 1 onR6 (onE6 (mlV hs) n i (slI 3 ks) (k : Int) (slI 4 l) (j : Int)) (onHc hs S (cntB c) (rowI ks) (rowI l)) (canQ 1 (tsO (tsO5 ++ [19]) (tsO4 ++ [17])) Q)
) =  (branch (decide ((↑j : Int) < (↑l.length : Int))) (obl (decide ((0 : Int) ≤ (↑j : Int) ∧ (↑j : Int) < (↑l.length : Int))) (obl (decide (0 + (↑j : Int).toNat < l.length)) (branch (decide (l.getD (0 +
 (↑j : Int).toNat) (0 : Int) < (0 : Int))) (Q AExit.ret [(4, AVal.bool false)] (AHeap.mk 1 [(0, ABlk.row 23 (pairRow IntKind.u8) hs RowMd.ro)])) (obl (decide ((0 : Int) ≤ (↑j : Int) ∧ (↑j : Int) <
 (↑l.length : Int))) (obl (decide (0 + (↑j : Int).toNat < l.length)) (branch (decide (n ≤ l.getD (0 + (↑j : Int).toNat) (0 : Int))) (Q AExit.ret [(4, AVal.bool false)] (AHeap.mk 1 [(0, ABlk.row 23
 (pairRow IntKind.u8) hs RowMd.ro)])) (obl (decide ((0 : Int) ≤ (↑j : Int) ∧ (↑j : Int) < (↑l.length : Int))) (obl (decide (0 + (↑j : Int).toNat < l.length)) (obl (decide ((0 : Int) ≤ (↑k : Int) ∧ (↑k
 : Int) < (↑ks.length : Int))) (obl (decide (0 + (↑k : Int).toNat < ks.length)) (∃ (hT : intRow IntKind.i64 = intRow IntKind.i64), ∃ (hU : MapT listV = MapT listV), (S.modes.length = S.modes.length ∧
 isUnf (MapSt.mk S.lists none) = true) ∧ WfM (MemS.mk S.modes S.lists) ∧ obl (decide (0 + (↑k : Int).toNat < ks.length) && sameV (AVal.int IntKind.i64 (ks.getD (0 + (↑k : Int).toNat) (0 : Int)))
 (AVal.int IntKind.i64 (ks.getD (0 + (↑k : Int).toNat) (0 : Int)))) (branch (!decide (modeM (MemS.mk S.modes S.lists) (l.getD (0 + (↑j : Int).toNat) (0 : Int)) = ks.getD (0 + (↑k : Int).toNat) (0 :
 Int))) (Q AExit.ret [(4, AVal.bool false)] (AHeap.mk 1 [(0, ABlk.row 23 (pairRow IntKind.u8) hs RowMd.ro)])) (obl (decide ((0 : Int) ≤ (↑j : Int) ∧ (↑j : Int) < (↑l.length : Int))) (obl (decide (0 +
 (↑j : Int).toNat < l.length)) (obl (decide ((0 : Int) ≤ l.getD (0 + (↑j : Int).toNat) (0 : Int) ∧ l.getD (0 + (↑j : Int).toNat) (0 : Int) < (8 : Int))) (obl (decide (Int.toNat (l.getD (0 + (↑j :
 Int).toNat) (0 : Int)) < ([AVal.int IntKind.i64 (c 0), AVal.int IntKind.i64 (c 1), AVal.int IntKind.i64 (c 2), AVal.int IntKind.i64 (c 3), AVal.int IntKind.i64 (c 4), AVal.int IntKind.i64 (c 5),
 AVal.int IntKind.i64 (c 6), AVal.int IntKind.i64 (c 7)].length - 0) / 1)) (obl (inI64 ([c 0, c 1, c 2, c 3, c 4, c 5, c 6, c 7].getD (Int.toNat (l.getD (0 + (↑j : Int).toNat) (0 : Int))) (0 : Int) +
 (1 : Int))) (obl (decide ((0 : Int) ≤ l.getD (0 + (↑j : Int).toNat) (0 : Int) ∧ l.getD (0 + (↑j : Int).toNat) (0 : Int) < (8 : Int))) (obl (decide (Int.toNat (l.getD (0 + (↑j : Int).toNat) (0 : Int))
 < [AVal.int IntKind.i64 (c 0), AVal.int IntKind.i64 (c 1), AVal.int IntKind.i64 (c 2), AVal.int IntKind.i64 (c 3), AVal.int IntKind.i64 (c 4), AVal.int IntKind.i64 (c 5), AVal.int IntKind.i64 (c 6),
 AVal.int IntKind.i64 (c 7)].length)) (obl (inI64 ((↑j : Int) + (1 : Int))) (Q AExit.normal [(1, AVal.sl 0 0 2 0 hs.length none), (5, AVal.int IntKind.i64 n), (6, AVal.ptr 1 0 0 0), (7, AVal.int
 IntKind.i64 i), (15, AVal.ptr 2 0 0 0), (16, AVal.sl 3 0 1 0 ks.length none), (17, AVal.int IntKind.i64 (↑k : Int)), (18, AVal.sl 4 0 1 0 l.length none), (19, AVal.int IntKind.i64 ((↑j : Int) + (1 :
 Int)))] (AHeap.mk 7 [(0, ABlk.row 23 (pairRow IntKind.u8) hs RowMd.ro), (1, ABlk.cells 45 [AVal.sl 5 0 1 0 S.modes.length none, AVal.map 6]), (2, ABlk.cells 40 [AVal.int IntKind.i64 (if decide
 (Int.toNat (l.getD (0 + (↑j : Int).toNat) (0 : Int)) = 0) = true then [c 0, c 1, c 2, c 3, c 4, c 5, c 6, c 7].getD (Int.toNat (l.getD (0 + (↑j : Int).toNat) (0 : Int))) (0 : Int) + (1 : Int) else c
 0), AVal.int IntKind.i64 (if decide (Int.toNat (l.getD (0 + (↑j : Int).toNat) (0 : Int)) = 1) = true then [c 0, c 1, c 2, c 3, c 4, c 5, c 6, c 7].getD (Int.toNat (l.getD (0 + (↑j : Int).toNat) (0 :
 Int))) (0 : Int) + (1 : Int) else c 1), AVal.int IntKind.i64 (if decide (Int.toNat (l.getD (0 + (↑j : Int).toNat) (0 : Int)) = 2) = true then [c 0, c 1, c 2, c 3, c 4, c 5, c 6, c 7].getD (Int.toNat
 (l.getD (0 + (↑j : Int).toNat) (0 : Int))) (0 : Int) + (1 : Int) else c 2), AVal.int IntKind.i64 (if decide (Int.toNat (l.getD (0 + (↑j : Int).toNat) (0 : Int)) = 3) = true then [c 0, c 1, c 2, c 3, c
 4, c 5, c 6, c 7].getD (Int.toNat (l.getD (0 + (↑j : Int).toNat) (0 : Int))) (0 : Int) + (1 : Int) else c 3), AVal.int IntKind.i64 (if decide (Int.toNat (l.getD (0 + (↑j : Int).toNat) (0 : Int)) = 4)
 = true then [c 0, c 1, c 2, c 3, c 4, c 5, c 6, c 7].getD (Int.toNat (l.getD (0 + (↑j : Int).toNat) (0 : Int))) (0 : Int) + (1 : Int) else c 4), AVal.int IntKind.i64 (if decide (Int.toNat (l.getD (0 +
 (↑j : Int).toNat) (0 : Int)) = 5) = true then [c 0, c 1, c 2, c 3, c 4, c 5, c 6, c 7].getD (Int.toNat (l.getD (0 + (↑j : Int).toNat) (0 : Int))) (0 : Int) + (1 : Int) else c 5), AVal.int IntKind.i64
 (if decide (Int.toNat (l.getD (0 + (↑j : Int).toNat) (0 : Int)) = 6) = true then [c 0, c 1, c 2, c 3, c 4, c 5, c 6, c 7].getD (Int.toNat (l.getD (0 + (↑j : Int).toNat) (0 : Int))) (0 : Int) + (1 :
 Int) else c 6), AVal.int IntKind.i64 (if decide (Int.toNat (l.getD (0 + (↑j : Int).toNat) (0 : Int)) = 7) = true then [c 0, c 1, c 2, c 3, c 4, c 5, c 6, c 7].getD (Int.toNat (l.getD (0 + (↑j :
 Int).toNat) (0 : Int))) (0 : Int) + (1 : Int) else c 7)]), (3, ABlk.row 3 (intRow IntKind.i64) ks RowMd.plain), (4, ABlk.row 3 (intRow IntKind.i64) l RowMd.plain), (5, ABlk.row 3 (intRow IntKind.i64)
 S.modes RowMd.plain), (6, ABlk.obj (MapT listV) (MapSt.mk S.lists none) [])])))))))))))))))))))))) (Q (AExit.exit 6) [(1, AVal.sl 0 0 2 0 hs.length none), (5, AVal.int IntKind.i64 n), (6, AVal.ptr 1 0
 0 0), (7, AVal.int IntKind.i64 i), (15, AVal.ptr 2 0 0 0), (16, AVal.sl 3 0 1 0 ks.length none), (17, AVal.int IntKind.i64 (↑k : Int))] (AHeap.mk 6 [(0, ABlk.row 23 (pairRow IntKind.u8) hs RowMd.ro),
 (1, ABlk.cells 45 [AVal.sl 4 0 1 0 S.modes.length none, AVal.map 5]), (2, ABlk.cells 40 [AVal.int IntKind.i64 (c 0), AVal.int IntKind.i64 (c 1), AVal.int IntKind.i64 (c 2), AVal.int IntKind.i64 (c 3),
 AVal.int IntKind.i64 (c 4), AVal.int IntKind.i64 (c 5), AVal.int IntKind.i64 (c 6), AVal.int IntKind.i64 (c 7)]), (3, ABlk.row 3 (intRow IntKind.i64) ks RowMd.plain), (4, ABlk.row 3 (intRow
 IntKind.i64) S.modes RowMd.plain), (5, ABlk.obj (MapT listV) (MapSt.mk S.lists none) [])]))) := by kernel_rfl

set_option maxRecDepth 100000 in
theorem w_on_28 (hs : List PairR) (n i : Int) (S : MemS) (c : Nat → Int) (ks : List Int) (k : Int) (Q : AExit → Env → AHeap → Prop) : (wpC (TMO.ctx Try.prog) 200 5 1 on28 (onE5 (mlV hs) n i (slI 3 ks) k) (onHb hs S (cntB c) (rowI ks)) (canQ 1 (tsO (tsO4 ++ [17]) []) Q)
) =  (obl (inI64 (k + (1 : Int))) (Q AExit.normal [(1, AVal.sl 0 0 2 0 hs.length none), (5, AVal.int IntKind.i64 n), (6, AVal.ptr 1 0 0 0), (7, AVal.int IntKind.i64 i), (15, AVal.ptr 2 0 0 0), (16, AVal.sl
 3 0 1 0 ks.length none), (17, AVal.int IntKind.i64 (k + (1 : Int)))] (AHeap.mk 6 [(0, ABlk.row 23 (pairRow IntKind.u8) hs RowMd.ro), (1, ABlk.cells 45 [AVal.sl 4 0 1 0 S.modes.length none, AVal.map
 5]), (2, ABlk.cells 40 [AVal.int IntKind.i64 (c 0), AVal.int IntKind.i64 (c 1), AVal.int IntKind.i64 (c 2), AVal.int IntKind.i64 (c 3), AVal.int IntKind.i64 (c 4), AVal.int IntKind.i64 (c 5), AVal.int
 IntKind.i64 (c 6), AVal.int IntKind.i64 (c 7)]), (3, ABlk.row 3 (intRow IntKind.i64) ks RowMd.plain), (4, ABlk.row 3 (intRow IntKind.i64) S.modes RowMd.plain), (5, ABlk.obj (MapT listV) (MapSt.mk
 S.lists none) [])]))) := by kernel_rfl

set_option maxRecDepth 100000 in
theorem w_on_38 (hs : List PairR) (n i : Int) (S : MemS) (c : Nat → Int) (Q : AExit → Env → AHeap → Prop) : (wpC (TMO.ctx Try.prog) 200 5 1 on38 (onE7 (mlV hs) n i) (onHa hs S (cntB c)) (canQ 1 (tsO [1, 5, 6, 7, 15, 20] []) Q)
) =  (Q AExit.normal [(1, AVal.sl 0 0 2 0 hs.length none), (5, AVal.int IntKind.i64 n), (6, AVal.ptr 1 0 0 0), (7, AVal.int IntKind.i64 i), (15, AVal.ptr 2 0 0 0), (20, AVal.int IntKind.i64 (0 : Int))]
 (AHeap.mk 5 [(0, ABlk.row 23 (pairRow IntKind.u8) hs RowMd.ro), (1, ABlk.cells 45 [AVal.sl 3 0 1 0 S.modes.length none, AVal.map 4]), (2, ABlk.cells 40 [AVal.int IntKind.i64 (c 0), AVal.int
 IntKind.i64 (c 1), AVal.int IntKind.i64 (c 2), AVal.int IntKind.i64 (c 3), AVal.int IntKind.i64 (c 4), AVal.int IntKind.i64 (c 5), AVal.int IntKind.i64 (c 6), AVal.int IntKind.i64 (c 7)]), (3,
 ABlk.row 3 (intRow IntKind.i64) S.modes RowMd.plain), (4, ABlk.obj (MapT listV) (MapSt.mk S.lists none) [])])) := by kernel_rfl

set_option maxRecDepth 100000 in
theorem w_on_r8 (hs : List PairR) (n i : Int) (S : MemS) (c : Nat → Int) (k : Nat) (Q : AExit → Env → AHeap → Prop) : (wpC (TMO.ctx Try.prog) 200 5 1 onR8 (onE8 (mlV hs) n i (k : Int)) (onHa hs S (cntB c)) (canQ 1 (tsO [1, 5, 6, 7, 15, 20] [1, 5, 6, 7]) Q)
) =  (branch (decide ((↑k : Int) < (8 : Int))) (branch (decide ((↑k : Int) < n)) (obl (decide ((0 : Int) ≤ (↑k : Int) ∧ (↑k : Int) < (8 : Int))) (obl (decide ((↑k : Int).toNat < ([AVal.int IntKind.i64 (c
 0), AVal.int IntKind.i64 (c 1), AVal.int IntKind.i64 (c 2), AVal.int IntKind.i64 (c 3), AVal.int IntKind.i64 (c 4), AVal.int IntKind.i64 (c 5), AVal.int IntKind.i64 (c 6), AVal.int IntKind.i64 (c
 7)].length - 0) / 1)) (branch (!decide ([c 0, c 1, c 2, c 3, c 4, c 5, c 6, c 7].getD (↑k : Int).toNat (0 : Int) = (1 : Int))) (Q AExit.ret [(4, AVal.bool false)] (AHeap.mk 1 [(0, ABlk.row 23 (pairRow
 IntKind.u8) hs RowMd.ro)])) (branch (decide (n ≤ (↑k : Int))) (obl (decide ((0 : Int) ≤ (↑k : Int) ∧ (↑k : Int) < (8 : Int))) (obl (decide ((↑k : Int).toNat < ([AVal.int IntKind.i64 (c 0), AVal.int
 IntKind.i64 (c 1), AVal.int IntKind.i64 (c 2), AVal.int IntKind.i64 (c 3), AVal.int IntKind.i64 (c 4), AVal.int IntKind.i64 (c 5), AVal.int IntKind.i64 (c 6), AVal.int IntKind.i64 (c 7)].length - 0) /
 1)) (branch (!decide ([c 0, c 1, c 2, c 3, c 4, c 5, c 6, c 7].getD (↑k : Int).toNat (0 : Int) = (0 : Int))) (Q AExit.ret [(4, AVal.bool false)] (AHeap.mk 1 [(0, ABlk.row 23 (pairRow IntKind.u8) hs
 RowMd.ro)])) (obl (inI64 ((↑k : Int) + (1 : Int))) (Q AExit.normal [(1, AVal.sl 0 0 2 0 hs.length none), (5, AVal.int IntKind.i64 n), (6, AVal.ptr 1 0 0 0), (7, AVal.int IntKind.i64 i), (15, AVal.ptr
 2 0 0 0), (20, AVal.int IntKind.i64 ((↑k : Int) + (1 : Int)))] (AHeap.mk 5 [(0, ABlk.row 23 (pairRow IntKind.u8) hs RowMd.ro), (1, ABlk.cells 45 [AVal.sl 3 0 1 0 S.modes.length none, AVal.map 4]), (2,
 ABlk.cells 40 [AVal.int IntKind.i64 (c 0), AVal.int IntKind.i64 (c 1), AVal.int IntKind.i64 (c 2), AVal.int IntKind.i64 (c 3), AVal.int IntKind.i64 (c 4), AVal.int IntKind.i64 (c 5), AVal.int
 IntKind.i64 (c 6), AVal.int IntKind.i64 (c 7)]), (3, ABlk.row 3 (intRow IntKind.i64) S.modes RowMd.plain), (4, ABlk.obj (MapT listV) (MapSt.mk S.lists none) [])])))))) (obl (inI64 ((↑k : Int) + (1 :
 Int))) (Q AExit.normal [(1, AVal.sl 0 0 2 0 hs.length none), (5, AVal.int IntKind.i64 n), (6, AVal.ptr 1 0 0 0), (7, AVal.int IntKind.i64 i), (15, AVal.ptr 2 0 0 0), (20, AVal.int IntKind.i64 ((↑k :
 Int) + (1 : Int)))] (AHeap.mk 5 [(0, ABlk.row 23 (pairRow IntKind.u8) hs RowMd.ro), (1, ABlk.cells 45 [AVal.sl 3 0 1 0 S.modes.length none, AVal.map 4]), (2, ABlk.cells 40 [AVal.int IntKind.i64 (c 0),
 AVal.int IntKind.i64 (c 1), AVal.int IntKind.i64 (c 2), AVal.int IntKind.i64 (c 3), AVal.int IntKind.i64 (c 4), AVal.int IntKind.i64 (c 5), AVal.int IntKind.i64 (c 6), AVal.int IntKind.i64 (c 7)]),
 (3, ABlk.row 3 (intRow IntKind.i64) S.modes RowMd.plain), (4, ABlk.obj (MapT listV) (MapSt.mk S.lists none) [])]))))))) (branch (decide (n ≤ (↑k : Int))) (obl (decide ((0 : Int) ≤ (↑k : Int) ∧ (↑k :
 Int) < (8 : Int))) (obl (decide ((↑k : Int).toNat < ([AVal.int IntKind.i64 (c 0), AVal.int IntKind.i64 (c 1), AVal.int IntKind.i64 (c 2), AVal.int IntKind.i64 (c 3), AVal.int IntKind.i64 (c 4),
 AVal.int IntKind.i64 (c 5), AVal.int IntKind.i64 (c 6), AVal.int IntKind.i64 (c 7)].length - 0) / 1)) (branch (!decide ([c 0, c 1, c 2, c 3, c 4, c 5, c 6, c 7].getD (↑k : Int).toNat (0 : Int) = (0 :
 Int))) (Q AExit.ret [(4, AVal.bool false)] (AHeap.mk 1 [(0, ABlk.row 23 (pairRow IntKind.u8) hs RowMd.ro)])) (obl (inI64 ((↑k : Int) + (1 : Int))) (Q AExit.normal [(1, AVal.sl 0 0 2 0 hs.length none),
 (5, AVal.int IntKind.i64 n), (6, AVal.ptr 1 0 0 0), (7, AVal.int IntKind.i64 i), (15, AVal.ptr 2 0 0 0), (20, AVal.int IntKind.i64 ((↑k : Int) + (1 : Int)))] (AHeap.mk 5 [(0, ABlk.row 23 (pairRow
 IntKind.u8) hs RowMd.ro), (1, ABlk.cells 45 [AVal.sl 3 0 1 0 S.modes.length none, AVal.map 4]), (2, ABlk.cells 40 [AVal.int IntKind.i64 (c 0), AVal.int IntKind.i64 (c 1), AVal.int IntKind.i64 (c 2),
 AVal.int IntKind.i64 (c 3), AVal.int IntKind.i64 (c 4), AVal.int IntKind.i64 (c 5), AVal.int IntKind.i64 (c 6), AVal.int IntKind.i64 (c 7)]), (3, ABlk.row 3 (intRow IntKind.i64) S.modes RowMd.plain),
 (4, ABlk.obj (MapT listV) (MapSt.mk S.lists none) [])])))))) (obl (inI64 ((↑k : Int) + (1 : Int))) (Q AExit.normal [(1, AVal.sl 0 0 2 0 hs.length none), (5, AVal.int IntKind.i64 n), (6, AVal.ptr 1 0 0
 0), (7, AVal.int IntKind.i64 i), (15, AVal.ptr 2 0 0 0), (20, AVal.int IntKind.i64 ((↑k : Int) + (1 : Int)))] (AHeap.mk 5 [(0, ABlk.row 23 (pairRow IntKind.u8) hs RowMd.ro), (1, ABlk.cells 45 [AVal.sl
 3 0 1 0 S.modes.length none, AVal.map 4]), (2, ABlk.cells 40 [AVal.int IntKind.i64 (c 0), AVal.int IntKind.i64 (c 1), AVal.int IntKind.i64 (c 2), AVal.int IntKind.i64 (c 3), AVal.int IntKind.i64 (c
 4), AVal.int IntKind.i64 (c 5), AVal.int IntKind.i64 (c 6), AVal.int IntKind.i64 (c 7)]), (3, ABlk.row 3 (intRow IntKind.i64) S.modes RowMd.plain), (4, ABlk.obj (MapT listV) (MapSt.mk S.lists none)
 [])]))))) (Q (AExit.exit 8) [(1, AVal.sl 0 0 2 0 hs.length none), (5, AVal.int IntKind.i64 n), (6, AVal.ptr 1 0 0 0), (7, AVal.int IntKind.i64 i)] (AHeap.mk 4 [(0, ABlk.row 23 (pairRow IntKind.u8) hs
 RowMd.ro), (1, ABlk.cells 45 [AVal.sl 2 0 1 0 S.modes.length none, AVal.map 3]), (2, ABlk.row 3 (intRow IntKind.i64) S.modes RowMd.plain), (3, ABlk.obj (MapT listV) (MapSt.mk S.lists none) [])]))) :=
 by kernel_rfl

set_option maxRecDepth 100000 in
theorem w_on_z (hs : List PairR) (n i : Int) (S : MemS) (Q : AExit → Env → AHeap → Prop) : (wpC (TMO.ctx Try.prog) 200 5 1 onZ (onE1 (mlV hs) n i) (onH1 hs S) (canQ 1 (tsO tsO1 []) Q)
) =  (obl (inI64 (i + (1 : Int))) (Q AExit.normal [(1, AVal.sl 0 0 2 0 hs.length none), (5, AVal.int IntKind.i64 n), (6, AVal.ptr 1 0 0 0), (7, AVal.int IntKind.i64 (i + (1 : Int)))] (AHeap.mk 4 [(0,
 ABlk.row 23 (pairRow IntKind.u8) hs RowMd.ro), (1, ABlk.cells 45 [AVal.sl 2 0 1 0 S.modes.length none, AVal.map 3]), (2, ABlk.row 3 (intRow IntKind.i64) S.modes RowMd.plain), (3, ABlk.obj (MapT listV)
 (MapSt.mk S.lists none) [])]))) := by kernel_rfl

set_option maxRecDepth 100000 in
theorem w_on_43 (K : Out → Prop) : (wpC (TMO.ctx Try.prog) 200 5 1 on43 [] ⟨1, []⟩ (endA (TMO.ctx Try.prog).P Try.f5 (fun o _ => K o))
) =  (K (Out.ret (AVal.bool true))) := by kernel_rfl

set_option maxRecDepth 100000 in
theorem w_on_43r (hs : List PairR) (K : Out → Prop) : (wpC (TMO.ctx Try.prog) 200 5 1 on43 [] ⟨1, [(0, mlRow hs)]⟩ (endA (TMO.ctx Try.prog).P Try.f5 (fun o _ => K o))
) =  (K (Out.ret (AVal.bool true))) := by kernel_rfl

end Go.Proofs.Ytcgnoegejmhgmaa
