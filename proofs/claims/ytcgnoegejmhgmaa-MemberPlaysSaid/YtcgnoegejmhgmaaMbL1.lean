/-
  Walks, printed: what calls come to, as they are reckoned.
-/
import Derived.Test.YtcgnoegejmhgmaaMbL
namespace Go.Proofs.Ytcgnoegejmhgmaa
set_option linter.unusedVariables false
set_option linter.unusedSimpArgs false
open Go.RowKit Ev

set_option maxRecDepth 100000 in
theorem w_ml_a (hs : List PairR) (c x y : Int) (It : Env → AHeap → Prop) (K : Out → Prop) : (wpN (TM8.ctx Try.prog) 4 200 3 1 mlB (env0 [.int .u8 c, mlV hs, .agg [.int .u8 x, .int .u8 y]] 0) ⟨1, [(0, mlRow hs)]⟩ (fun E H => canonK 1 tsL0 E H It) (endA (TM8.ctx Try.prog).P Try.f3 (fun o _ => K o))
) =  (obl (decide ((0 : Int) ≤ c ∧ (0 : Int) < (8 : Int))) (obl (inI64 (c % (8 : Int))) (obl (inI64 ((1 : Int) + c % (8 : Int))) (branch (newBad ((1 : Int) + c % (8 : Int)) (7 : Int)) (K (Out.ret
 (AVal.bool false))) (It [(1, AVal.sl 0 0 2 0 hs.length none), (5, AVal.ptr 1 0 0 0), (7, AVal.int IntKind.i64 ((1 : Int) + c % (8 : Int))), (8, AVal.ptr 2 0 0 0)] (AHeap.mk 5 [(0, ABlk.row 23 (pairRow
 IntKind.u8) hs RowMd.ro), (1, ABlk.cells 23 [AVal.int IntKind.u8 x, AVal.int IntKind.u8 y]), (2, ABlk.cells 45 [AVal.sl 3 0 1 0 (List.replicate ((1 : Int) + c % (8 : Int)).toNat (7 : Int)).length
 none, AVal.map 4]), (3, ABlk.row 3 (intRow IntKind.i64) (List.replicate ((1 : Int) + c % (8 : Int)).toNat (7 : Int)) RowMd.plain), (4, ABlk.obj (MapT listV) (MapSt.mk [((7 : Int), List.map (fun (i :
 Nat) => (↑i : Int)) (List.range ((1 : Int) + c % (8 : Int)).toNat))] none) [])])))))) := by kernel_rfl

set_option maxRecDepth 100000 in
theorem w_ml_an (c x y : Int) (It : Env → AHeap → Prop) (K : Out → Prop) : (wpN (TM8.ctx Try.prog) 4 200 3 1 mlB (env0 [.int .u8 c, .nils, .agg [.int .u8 x, .int .u8 y]] 0) ⟨1, []⟩ (fun E H => canonK 1 tsL0 E H It) (endA (TM8.ctx Try.prog).P Try.f3 (fun o _ => K o))
) =  (obl (decide ((0 : Int) ≤ c ∧ (0 : Int) < (8 : Int))) (obl (inI64 (c % (8 : Int))) (obl (inI64 ((1 : Int) + c % (8 : Int))) (branch (newBad ((1 : Int) + c % (8 : Int)) (7 : Int)) (K (Out.ret
 (AVal.bool false))) (It [(1, AVal.nils), (5, AVal.ptr 1 0 0 0), (7, AVal.int IntKind.i64 ((1 : Int) + c % (8 : Int))), (8, AVal.ptr 2 0 0 0)] (AHeap.mk 5 [(1, ABlk.cells 23 [AVal.int IntKind.u8 x,
 AVal.int IntKind.u8 y]), (2, ABlk.cells 45 [AVal.sl 3 0 1 0 (List.replicate ((1 : Int) + c % (8 : Int)).toNat (7 : Int)).length none, AVal.map 4]), (3, ABlk.row 3 (intRow IntKind.i64) (List.replicate
 ((1 : Int) + c % (8 : Int)).toNat (7 : Int)) RowMd.plain), (4, ABlk.obj (MapT listV) (MapSt.mk [((7 : Int), List.map (fun (i : Nat) => (↑i : Int)) (List.range ((1 : Int) + c % (8 : Int)).toNat))]
 none) [])])))))) := by kernel_rfl

set_option maxRecDepth 100000 in
theorem w_ml_set (hs : List PairR) (n x y : Int) (S : MemS) (Q : AExit → Env → AHeap → Prop) : (wpC (TM8.ctx Try.prog) 200 3 1 (seqL (seqL (tailN 4 mlB))) (mlE0 (mlV hs) n) ⟨5, (0, mlRow hs) :: mlHs x y S⟩ (canQ 1 tsL Q)
) =  (Q AExit.normal [(1, AVal.sl 0 0 2 0 hs.length none), (5, AVal.ptr 1 0 0 0), (7, AVal.int IntKind.i64 n), (8, AVal.ptr 2 0 0 0), (9, AVal.int IntKind.i64 (0 : Int))] (AHeap.mk 5 [(0, ABlk.row 23
 (pairRow IntKind.u8) hs RowMd.ro), (1, ABlk.cells 23 [AVal.int IntKind.u8 x, AVal.int IntKind.u8 y]), (2, ABlk.cells 45 [AVal.sl 3 0 1 0 S.modes.length none, AVal.map 4]), (3, ABlk.row 3 (intRow
 IntKind.i64) S.modes RowMd.plain), (4, ABlk.obj (MapT listV) (MapSt.mk S.lists none) [])])) := by kernel_rfl

set_option maxRecDepth 100000 in
theorem w_ml_setn (n x y : Int) (S : MemS) (Q : AExit → Env → AHeap → Prop) : (wpC (TM8.ctx Try.prog) 200 3 1 (seqL (seqL (tailN 4 mlB))) (mlE0 .nils n) ⟨5, mlHs x y S⟩ (canQ 1 tsL Q)
) =  (Q AExit.normal [(1, AVal.nils), (5, AVal.ptr 1 0 0 0), (7, AVal.int IntKind.i64 n), (8, AVal.ptr 2 0 0 0), (9, AVal.int IntKind.i64 (0 : Int))] (AHeap.mk 5 [(1, ABlk.cells 23 [AVal.int IntKind.u8 x,
 AVal.int IntKind.u8 y]), (2, ABlk.cells 45 [AVal.sl 3 0 1 0 S.modes.length none, AVal.map 4]), (3, ABlk.row 3 (intRow IntKind.i64) S.modes RowMd.plain), (4, ABlk.obj (MapT listV) (MapSt.mk S.lists
 none) [])])) := by kernel_rfl

set_option maxRecDepth 100000 in
theorem w_ml_rn (n x y : Int) (S : MemS) (Q : AExit → Env → AHeap → Prop) : (wpC (TM8.ctx Try.prog) 200 3 1 mlR (mlE1 .nils n 0) ⟨5, mlHs x y S⟩ (canQ 1 tsL Q)
) =  (Q (AExit.exit 0) [(5, AVal.ptr 1 0 0 0), (7, AVal.int IntKind.i64 n), (8, AVal.ptr 2 0 0 0)] (AHeap.mk 5 [(1, ABlk.cells 23 [AVal.int IntKind.u8 x, AVal.int IntKind.u8 y]), (2, ABlk.cells 45 [AVal.sl
 3 0 1 0 S.modes.length none, AVal.map 4]), (3, ABlk.row 3 (intRow IntKind.i64) S.modes RowMd.plain), (4, ABlk.obj (MapT listV) (MapSt.mk S.lists none) [])])) := by kernel_rfl

set_option maxRecDepth 100000 in
theorem w_ml_r (hs : List PairR) (n x y : Int) (i : Nat) (S : MemS) (Q : AExit → Env → AHeap → Prop) : (wpC (TM8.ctx Try.prog) 200 3 1 mlR (mlE1 (mlV hs) n (i : Int)) ⟨5, (0, mlRow hs) :: mlHs x y S⟩ (canQ 1 tsL Q)
) =  (branch (decide ((↑i : Int) < (↑hs.length : Int))) (branch (decide ((↑i : Int) < (60 : Int))) (obl (decide ((0 : Int) ≤ (↑i : Int) ∧ (↑i : Int) < (↑hs.length : Int))) (obl (decide (0 + (↑i :
 Int).toNat < hs.length)) (obl (inI64 (hs.getD (0 + (↑i : Int).toNat) (PairR.mk (0 : Int) (0 : Int))).a) (obl (decide ((0 : Int) ≤ (hs.getD (0 + (↑i : Int).toNat) (PairR.mk (0 : Int) (0 : Int))).a ∧ (0
 : Int) < n)) (obl (decide ((0 : Int) ≤ (↑i : Int) ∧ (↑i : Int) < (↑hs.length : Int))) (obl (decide (0 + (↑i : Int).toNat < hs.length)) (obl (decide ((0 : Int) ≤ (hs.getD (0 + (↑i : Int).toNat)
 (PairR.mk (0 : Int) (0 : Int))).b ∧ (0 : Int) < (28 : Int))) (obl (inI64 ((hs.getD (0 + (↑i : Int).toNat) (PairR.mk (0 : Int) (0 : Int))).b % (28 : Int))) (obl (inI64 ((1 : Int) + (hs.getD (0 + (↑i :
 Int).toNat) (PairR.mk (0 : Int) (0 : Int))).b % (28 : Int))) (∃ (hT : intRow IntKind.i64 = intRow IntKind.i64), ∃ (hU : MapT listV = MapT listV), (S.modes.length = S.modes.length ∧ isUnf (MapSt.mk
 S.lists none) = true) ∧ WfM (MemS.mk S.modes S.lists) ∧ ∃ (hT_1 : intRow IntKind.i64 = intRow IntKind.i64), ∃ (hU_1 : MapT listV = MapT listV), (S.modes.length = S.modes.length ∧ isUnf (MapSt.mk
 S.lists none) = true) ∧ WfM (MemS.mk S.modes S.lists) ∧ branch (!decide (moveE (MemS.mk S.modes S.lists) ((hs.getD (0 + (↑i : Int).toNat) (PairR.mk (0 : Int) (0 : Int))).a % n) ((1 : Int) + (hs.getD
 (0 + (↑i : Int).toNat) (PairR.mk (0 : Int) (0 : Int))).b % (28 : Int)) = (0 : Int))) (Q AExit.ret [(6, AVal.bool false)] (AHeap.mk 1 [(0, ABlk.row 23 (pairRow IntKind.u8) hs RowMd.ro)])) (∃ (hT_2 :
 intRow IntKind.i64 = intRow IntKind.i64), ∃ (hU_2 : MapT listV = MapT listV), ((moveR (MemS.mk S.modes S.lists) ((hs.getD (0 + (↑i : Int).toNat) (PairR.mk (0 : Int) (0 : Int))).a % n) ((1 : Int) +
 (hs.getD (0 + (↑i : Int).toNat) (PairR.mk (0 : Int) (0 : Int))).b % (28 : Int))).modes.length = (moveR (MemS.mk S.modes S.lists) ((hs.getD (0 + (↑i : Int).toNat) (PairR.mk (0 : Int) (0 : Int))).a % n)
 ((1 : Int) + (hs.getD (0 + (↑i : Int).toNat) (PairR.mk (0 : Int) (0 : Int))).b % (28 : Int))).modes.length ∧ isUnf (MapSt.mk (moveR (MemS.mk S.modes S.lists) ((hs.getD (0 + (↑i : Int).toNat) (PairR.mk
 (0 : Int) (0 : Int))).a % n) ((1 : Int) + (hs.getD (0 + (↑i : Int).toNat) (PairR.mk (0 : Int) (0 : Int))).b % (28 : Int))).lists none) = true) ∧ WfM (MemS.mk (moveR (MemS.mk S.modes S.lists) ((hs.getD
 (0 + (↑i : Int).toNat) (PairR.mk (0 : Int) (0 : Int))).a % n) ((1 : Int) + (hs.getD (0 + (↑i : Int).toNat) (PairR.mk (0 : Int) (0 : Int))).b % (28 : Int))).modes (moveR (MemS.mk S.modes S.lists)
 ((hs.getD (0 + (↑i : Int).toNat) (PairR.mk (0 : Int) (0 : Int))).a % n) ((1 : Int) + (hs.getD (0 + (↑i : Int).toNat) (PairR.mk (0 : Int) (0 : Int))).b % (28 : Int))).lists) ∧ branch (!decide (modeM
 (MemS.mk S.modes S.lists) ((hs.getD (0 + (↑i : Int).toNat) (PairR.mk (0 : Int) (0 : Int))).a % n) = (1 : Int) + (hs.getD (0 + (↑i : Int).toNat) (PairR.mk (0 : Int) (0 : Int))).b % (28 : Int))) (branch
 (decide ((↑(ofM (MemS.mk (moveR (MemS.mk S.modes S.lists) ((hs.getD (0 + (↑i : Int).toNat) (PairR.mk (0 : Int) (0 : Int))).a % n) ((1 : Int) + (hs.getD (0 + (↑i : Int).toNat) (PairR.mk (0 : Int) (0 :
 Int))).b % (28 : Int))).modes (moveR (MemS.mk S.modes S.lists) ((hs.getD (0 + (↑i : Int).toNat) (PairR.mk (0 : Int) (0 : Int))).a % n) ((1 : Int) + (hs.getD (0 + (↑i : Int).toNat) (PairR.mk (0 : Int)
 (0 : Int))).b % (28 : Int))).lists) ((1 : Int) + (hs.getD (0 + (↑i : Int).toNat) (PairR.mk (0 : Int) (0 : Int))).b % (28 : Int))).length : Int) = (0 : Int))) (Q AExit.ret [(6, AVal.bool false)]
 (AHeap.mk 1 [(0, ABlk.row 23 (pairRow IntKind.u8) hs RowMd.ro)])) (obl (inI64 ((↑(ofM (MemS.mk (moveR (MemS.mk S.modes S.lists) ((hs.getD (0 + (↑i : Int).toNat) (PairR.mk (0 : Int) (0 : Int))).a % n)
 ((1 : Int) + (hs.getD (0 + (↑i : Int).toNat) (PairR.mk (0 : Int) (0 : Int))).b % (28 : Int))).modes (moveR (MemS.mk S.modes S.lists) ((hs.getD (0 + (↑i : Int).toNat) (PairR.mk (0 : Int) (0 : Int))).a
 % n) ((1 : Int) + (hs.getD (0 + (↑i : Int).toNat) (PairR.mk (0 : Int) (0 : Int))).b % (28 : Int))).lists) ((1 : Int) + (hs.getD (0 + (↑i : Int).toNat) (PairR.mk (0 : Int) (0 : Int))).b % (28 :
 Int))).length : Int) - (1 : Int))) (obl (decide ((0 : Int) ≤ (↑(ofM (MemS.mk (moveR (MemS.mk S.modes S.lists) ((hs.getD (0 + (↑i : Int).toNat) (PairR.mk (0 : Int) (0 : Int))).a % n) ((1 : Int) +
 (hs.getD (0 + (↑i : Int).toNat) (PairR.mk (0 : Int) (0 : Int))).b % (28 : Int))).modes (moveR (MemS.mk S.modes S.lists) ((hs.getD (0 + (↑i : Int).toNat) (PairR.mk (0 : Int) (0 : Int))).a % n) ((1 :
 Int) + (hs.getD (0 + (↑i : Int).toNat) (PairR.mk (0 : Int) (0 : Int))).b % (28 : Int))).lists) ((1 : Int) + (hs.getD (0 + (↑i : Int).toNat) (PairR.mk (0 : Int) (0 : Int))).b % (28 : Int))).length :
 Int) - (1 : Int) ∧ (↑(ofM (MemS.mk (moveR (MemS.mk S.modes S.lists) ((hs.getD (0 + (↑i : Int).toNat) (PairR.mk (0 : Int) (0 : Int))).a % n) ((1 : Int) + (hs.getD (0 + (↑i : Int).toNat) (PairR.mk (0 :
 Int) (0 : Int))).b % (28 : Int))).modes (moveR (MemS.mk S.modes S.lists) ((hs.getD (0 + (↑i : Int).toNat) (PairR.mk (0 : Int) (0 : Int))).a % n) ((1 : Int) + (hs.getD (0 + (↑i : Int).toNat) (PairR.mk
 (0 : Int) (0 : Int))).b % (28 : Int))).lists) ((1 : Int) + (hs.getD (0 + (↑i : Int).toNat) (PairR.mk (0 : Int) (0 : Int))).b % (28 : Int))).length : Int) - (1 : Int) < (↑(ofM (MemS.mk (moveR (MemS.mk
 S.modes S.lists) ((hs.getD (0 + (↑i : Int).toNat) (PairR.mk (0 : Int) (0 : Int))).a % n) ((1 : Int) + (hs.getD (0 + (↑i : Int).toNat) (PairR.mk (0 : Int) (0 : Int))).b % (28 : Int))).modes (moveR
 (MemS.mk S.modes S.lists) ((hs.getD (0 + (↑i : Int).toNat) (PairR.mk (0 : Int) (0 : Int))).a % n) ((1 : Int) + (hs.getD (0 + (↑i : Int).toNat) (PairR.mk (0 : Int) (0 : Int))).b % (28 : Int))).lists)
 ((1 : Int) + (hs.getD (0 + (↑i : Int).toNat) (PairR.mk (0 : Int) (0 : Int))).b % (28 : Int))).length : Int))) (obl (decide (0 + ((↑(ofM (MemS.mk (moveR (MemS.mk S.modes S.lists) ((hs.getD (0 + (↑i :
 Int).toNat) (PairR.mk (0 : Int) (0 : Int))).a % n) ((1 : Int) + (hs.getD (0 + (↑i : Int).toNat) (PairR.mk (0 : Int) (0 : Int))).b % (28 : Int))).modes (moveR (MemS.mk S.modes S.lists) ((hs.getD (0 +
 (↑i : Int).toNat) (PairR.mk (0 : Int) (0 : Int))).a % n) ((1 : Int) + (hs.getD (0 + (↑i : Int).toNat) (PairR.mk (0 : Int) (0 : Int))).b % (28 : Int))).lists) ((1 : Int) + (hs.getD (0 + (↑i :
 Int).toNat) (PairR.mk (0 : Int) (0 : Int))).b % (28 : Int))).length : Int) - (1 : Int)).toNat < (ofM (MemS.mk (moveR (MemS.mk S.modes S.lists) ((hs.getD (0 + (↑i : Int).toNat) (PairR.mk (0 : Int) (0 :
 Int))).a % n) ((1 : Int) + (hs.getD (0 + (↑i : Int).toNat) (PairR.mk (0 : Int) (0 : Int))).b % (28 : Int))).modes (moveR (MemS.mk S.modes S.lists) ((hs.getD (0 + (↑i : Int).toNat) (PairR.mk (0 : Int)
 (0 : Int))).a % n) ((1 : Int) + (hs.getD (0 + (↑i : Int).toNat) (PairR.mk (0 : Int) (0 : Int))).b % (28 : Int))).lists) ((1 : Int) + (hs.getD (0 + (↑i : Int).toNat) (PairR.mk (0 : Int) (0 : Int))).b %
 (28 : Int))).length)) (branch (!decide ((ofM (MemS.mk (moveR (MemS.mk S.modes S.lists) ((hs.getD (0 + (↑i : Int).toNat) (PairR.mk (0 : Int) (0 : Int))).a % n) ((1 : Int) + (hs.getD (0 + (↑i :
 Int).toNat) (PairR.mk (0 : Int) (0 : Int))).b % (28 : Int))).modes (moveR (MemS.mk S.modes S.lists) ((hs.getD (0 + (↑i : Int).toNat) (PairR.mk (0 : Int) (0 : Int))).a % n) ((1 : Int) + (hs.getD (0 +
 (↑i : Int).toNat) (PairR.mk (0 : Int) (0 : Int))).b % (28 : Int))).lists) ((1 : Int) + (hs.getD (0 + (↑i : Int).toNat) (PairR.mk (0 : Int) (0 : Int))).b % (28 : Int))).getD (0 + ((↑(ofM (MemS.mk
 (moveR (MemS.mk S.modes S.lists) ((hs.getD (0 + (↑i : Int).toNat) (PairR.mk (0 : Int) (0 : Int))).a % n) ((1 : Int) + (hs.getD (0 + (↑i : Int).toNat) (PairR.mk (0 : Int) (0 : Int))).b % (28 :
 Int))).modes (moveR (MemS.mk S.modes S.lists) ((hs.getD (0 + (↑i : Int).toNat) (PairR.mk (0 : Int) (0 : Int))).a % n) ((1 : Int) + (hs.getD (0 + (↑i : Int).toNat) (PairR.mk (0 : Int) (0 : Int))).b %
 (28 : Int))).lists) ((1 : Int) + (hs.getD (0 + (↑i : Int).toNat) (PairR.mk (0 : Int) (0 : Int))).b % (28 : Int))).length : Int) - (1 : Int)).toNat) (0 : Int) = (hs.getD (0 + (↑i : Int).toNat)
 (PairR.mk (0 : Int) (0 : Int))).a % n)) (Q AExit.ret [(6, AVal.bool false)] (AHeap.mk 1 [(0, ABlk.row 23 (pairRow IntKind.u8) hs RowMd.ro)])) (obl (inI64 ((↑i : Int) + (1 : Int))) (Q AExit.normal [(1,
 AVal.sl 0 0 2 0 hs.length none), (5, AVal.ptr 1 0 0 0), (7, AVal.int IntKind.i64 n), (8, AVal.ptr 2 0 0 0), (9, AVal.int IntKind.i64 ((↑i : Int) + (1 : Int)))] (AHeap.mk 5 [(0, ABlk.row 23 (pairRow
 IntKind.u8) hs RowMd.ro), (1, ABlk.cells 23 [AVal.int IntKind.u8 x, AVal.int IntKind.u8 y]), (2, ABlk.cells 45 [AVal.sl 3 0 1 0 (moveR (MemS.mk S.modes S.lists) ((hs.getD (0 + (↑i : Int).toNat)
 (PairR.mk (0 : Int) (0 : Int))).a % n) ((1 : Int) + (hs.getD (0 + (↑i : Int).toNat) (PairR.mk (0 : Int) (0 : Int))).b % (28 : Int))).modes.length none, AVal.map 4]), (3, ABlk.row 3 (intRow
 IntKind.i64) (moveR (MemS.mk S.modes S.lists) ((hs.getD (0 + (↑i : Int).toNat) (PairR.mk (0 : Int) (0 : Int))).a % n) ((1 : Int) + (hs.getD (0 + (↑i : Int).toNat) (PairR.mk (0 : Int) (0 : Int))).b %
 (28 : Int))).modes RowMd.plain), (4, ABlk.obj (MapT listV) (MapSt.mk (moveR (MemS.mk S.modes S.lists) ((hs.getD (0 + (↑i : Int).toNat) (PairR.mk (0 : Int) (0 : Int))).a % n) ((1 : Int) + (hs.getD (0 +
 (↑i : Int).toNat) (PairR.mk (0 : Int) (0 : Int))).b % (28 : Int))).lists none) [])])))))))) (obl (inI64 ((↑i : Int) + (1 : Int))) (Q AExit.normal [(1, AVal.sl 0 0 2 0 hs.length none), (5, AVal.ptr 1 0
 0 0), (7, AVal.int IntKind.i64 n), (8, AVal.ptr 2 0 0 0), (9, AVal.int IntKind.i64 ((↑i : Int) + (1 : Int)))] (AHeap.mk 5 [(0, ABlk.row 23 (pairRow IntKind.u8) hs RowMd.ro), (1, ABlk.cells 23
 [AVal.int IntKind.u8 x, AVal.int IntKind.u8 y]), (2, ABlk.cells 45 [AVal.sl 3 0 1 0 (moveR (MemS.mk S.modes S.lists) ((hs.getD (0 + (↑i : Int).toNat) (PairR.mk (0 : Int) (0 : Int))).a % n) ((1 : Int)
 + (hs.getD (0 + (↑i : Int).toNat) (PairR.mk (0 : Int) (0 : Int))).b % (28 : Int))).modes.length none, AVal.map 4]), (3, ABlk.row 3 (intRow IntKind.i64) (moveR (MemS.mk S.modes S.lists) ((hs.getD (0 +
 (↑i : Int).toNat) (PairR.mk (0 : Int) (0 : Int))).a % n) ((1 : Int) + (hs.getD (0 + (↑i : Int).toNat) (PairR.mk (0 : Int) (0 : Int))).b % (28 : Int))).modes RowMd.plain), (4, ABlk.obj (MapT listV)
 (MapSt.mk (moveR (MemS.mk S.modes S.lists) ((hs.getD (0 + (↑i : Int).toNat) (PairR.mk (0 : Int) (0 : Int))).a % n) ((1 : Int) + (hs.getD (0 + (↑i : Int).toNat) (PairR.mk (0 : Int) (0 : Int))).b % (28
 : Int))).lists none) [])])))))))))))))) (Q (AExit.exit 0) [(5, AVal.ptr 1 0 0 0), (7, AVal.int IntKind.i64 n), (8, AVal.ptr 2 0 0 0)] (AHeap.mk 5 [(0, ABlk.row 23 (pairRow IntKind.u8) hs RowMd.ro),
 (1, ABlk.cells 23 [AVal.int IntKind.u8 x, AVal.int IntKind.u8 y]), (2, ABlk.cells 45 [AVal.sl 3 0 1 0 S.modes.length none, AVal.map 4]), (3, ABlk.row 3 (intRow IntKind.i64) S.modes RowMd.plain), (4,
 ABlk.obj (MapT listV) (MapSt.mk S.lists none) [])]))) (Q (AExit.exit 0) [(5, AVal.ptr 1 0 0 0), (7, AVal.int IntKind.i64 n), (8, AVal.ptr 2 0 0 0)] (AHeap.mk 5 [(0, ABlk.row 23 (pairRow IntKind.u8) hs
 RowMd.ro), (1, ABlk.cells 23 [AVal.int IntKind.u8 x, AVal.int IntKind.u8 y]), (2, ABlk.cells 45 [AVal.sl 3 0 1 0 S.modes.length none, AVal.map 4]), (3, ABlk.row 3 (intRow IntKind.i64) S.modes
 RowMd.plain), (4, ABlk.obj (MapT listV) (MapSt.mk S.lists none) [])]))) := by kernel_rfl

set_option maxRecDepth 100000 in
theorem w_ml_b (n x y : Int) (S : MemS) (It : Env → AHeap → Prop) (K : Out → Prop) : (wpN (TM8.ctx Try.prog) 5 200 3 1 (seqR (tailN 4 mlB)) (mlE n) ⟨5, mlHs x y S⟩ (fun E H => canonK 1 tsL2 E H It) (endA (TM8.ctx Try.prog).P Try.f3 (fun o _ => K o))
) =  (obl (inI64 x) (obl (decide ((0 : Int) ≤ x ∧ (0 : Int) < n)) (obl (decide ((0 : Int) ≤ y ∧ (0 : Int) < (28 : Int))) (obl (inI64 (y % (28 : Int))) (obl (inI64 ((1 : Int) + y % (28 : Int))) (∃ (hT :
 intRow IntKind.i64 = intRow IntKind.i64), ∃ (hU : MapT listV = MapT listV), (S.modes.length = S.modes.length ∧ isUnf (MapSt.mk S.lists none) = true) ∧ WfM (MemS.mk S.modes S.lists) ∧ branch (decide
 ((1 : Int) + y % (28 : Int) = modeM (MemS.mk S.modes S.lists) (x % n))) (K (Out.ret (AVal.bool true))) (∃ (hT : intRow IntKind.i64 = intRow IntKind.i64), ∃ (hU : MapT listV = MapT listV),
 (S.modes.length = S.modes.length ∧ isUnf (MapSt.mk S.lists none) = true) ∧ WfM (MemS.mk S.modes S.lists) ∧ It [(8, AVal.ptr 1 0 0 0), (14, AVal.int IntKind.i64 (x % n)), (15, AVal.int IntKind.i64 ((1
 : Int) + y % (28 : Int))), (16, AVal.int IntKind.i64 (modeM (MemS.mk S.modes S.lists) (x % n))), (17, AVal.nils), (18, AVal.sl 2 0 1 0 (ofM (MemS.mk S.modes S.lists) (modeM (MemS.mk S.modes S.lists)
 (x % n))).length none)] (AHeap.mk 5 [(1, ABlk.cells 45 [AVal.sl 3 0 1 0 S.modes.length none, AVal.map 4]), (2, ABlk.row 3 (intRow IntKind.i64) (ofM (MemS.mk S.modes S.lists) (modeM (MemS.mk S.modes
 S.lists) (x % n))) RowMd.plain), (3, ABlk.row 3 (intRow IntKind.i64) S.modes RowMd.plain), (4, ABlk.obj (MapT listV) (MapSt.mk S.lists none) [])])))))))) := by kernel_rfl

set_option maxRecDepth 100000 in
theorem w_ml_set2 (t a h : Int) (S : MemS) (o : List Int) (Q : AExit → Env → AHeap → Prop) : (wpC (TM8.ctx Try.prog) 200 3 1 (seqL (seqL (tailN 10 mlB))) (mlE2 t a h .nils (slI 2 o)) (mlH2 S o) (canQ 1 tsL3 Q)
) =  (Q AExit.normal [(8, AVal.ptr 1 0 0 0), (14, AVal.int IntKind.i64 t), (15, AVal.int IntKind.i64 a), (16, AVal.int IntKind.i64 h), (17, AVal.nils), (18, AVal.sl 2 0 1 0 o.length none), (19, AVal.int
 IntKind.i64 (0 : Int))] (AHeap.mk 5 [(1, ABlk.cells 45 [AVal.sl 3 0 1 0 S.modes.length none, AVal.map 4]), (2, ABlk.row 3 (intRow IntKind.i64) o RowMd.plain), (3, ABlk.row 3 (intRow IntKind.i64)
 S.modes RowMd.plain), (4, ABlk.obj (MapT listV) (MapSt.mk S.lists none) [])])) := by kernel_rfl

set_option maxRecDepth 100000 in
theorem w_ml_r0 (t a h : Int) (S : MemS) (o : List Int) (i : Nat) (Q : AExit → Env → AHeap → Prop) : (wpC (TM8.ctx Try.prog) 200 3 1 mlR2 (mlE3 t a h .nils (slI 2 o) (i : Int)) (mlH2 S o) (canQ 1 tsL3 Q)
) =  (branch (decide ((↑i : Int) < (↑o.length : Int))) (obl (decide ((0 : Int) ≤ (↑i : Int) ∧ (↑i : Int) < (↑o.length : Int))) (obl (decide (0 + (↑i : Int).toNat < o.length)) (branch (!decide (o.getD (0 +
 (↑i : Int).toNat) (0 : Int) = t)) (obl (decide ((0 : Int) ≤ (↑i : Int) ∧ (↑i : Int) < (↑o.length : Int))) (obl (decide (0 + (↑i : Int).toNat < o.length)) (obl (inI64 ((↑i : Int) + (1 : Int))) (Q
 AExit.normal [(8, AVal.ptr 1 0 0 0), (14, AVal.int IntKind.i64 t), (15, AVal.int IntKind.i64 a), (16, AVal.int IntKind.i64 h), (17, AVal.sl 2 0 1 0 1 none), (18, AVal.sl 3 0 1 0 o.length none), (19,
 AVal.int IntKind.i64 ((↑i : Int) + (1 : Int)))] (AHeap.mk 6 [(1, ABlk.cells 45 [AVal.sl 4 0 1 0 S.modes.length none, AVal.map 5]), (2, ABlk.row 3 (intRow IntKind.i64) [o.getD (0 + (↑i : Int).toNat) (0
 : Int)] RowMd.plain), (3, ABlk.row 3 (intRow IntKind.i64) o RowMd.plain), (4, ABlk.row 3 (intRow IntKind.i64) S.modes RowMd.plain), (5, ABlk.obj (MapT listV) (MapSt.mk S.lists none) [])]))))) (obl
 (inI64 ((↑i : Int) + (1 : Int))) (Q AExit.normal [(8, AVal.ptr 1 0 0 0), (14, AVal.int IntKind.i64 t), (15, AVal.int IntKind.i64 a), (16, AVal.int IntKind.i64 h), (17, AVal.nils), (18, AVal.sl 2 0 1 0
 o.length none), (19, AVal.int IntKind.i64 ((↑i : Int) + (1 : Int)))] (AHeap.mk 5 [(1, ABlk.cells 45 [AVal.sl 3 0 1 0 S.modes.length none, AVal.map 4]), (2, ABlk.row 3 (intRow IntKind.i64) o
 RowMd.plain), (3, ABlk.row 3 (intRow IntKind.i64) S.modes RowMd.plain), (4, ABlk.obj (MapT listV) (MapSt.mk S.lists none) [])])))))) (Q (AExit.exit 2) [(8, AVal.ptr 1 0 0 0), (14, AVal.int IntKind.i64
 t), (15, AVal.int IntKind.i64 a), (16, AVal.int IntKind.i64 h), (17, AVal.nils), (18, AVal.sl 2 0 1 0 o.length none)] (AHeap.mk 5 [(1, ABlk.cells 45 [AVal.sl 3 0 1 0 S.modes.length none, AVal.map 4]),
 (2, ABlk.row 3 (intRow IntKind.i64) o RowMd.plain), (3, ABlk.row 3 (intRow IntKind.i64) S.modes RowMd.plain), (4, ABlk.obj (MapT listV) (MapSt.mk S.lists none) [])]))) := by kernel_rfl

set_option maxRecDepth 100000 in
theorem w_ml_r1 (t a h : Int) (S : MemS) (r o : List Int) (i : Nat) (Q : AExit → Env → AHeap → Prop) : (wpC (TM8.ctx Try.prog) 200 3 1 mlR2 (mlE3 t a h (slI 2 r) (slI 3 o) (i : Int)) (mlH3 S r o) (canQ 1 tsL3 Q)
) =  (branch (decide ((↑i : Int) < (↑o.length : Int))) (obl (decide ((0 : Int) ≤ (↑i : Int) ∧ (↑i : Int) < (↑o.length : Int))) (obl (decide (0 + (↑i : Int).toNat < o.length)) (branch (!decide (o.getD (0 +
 (↑i : Int).toNat) (0 : Int) = t)) (obl (decide ((0 : Int) ≤ (↑i : Int) ∧ (↑i : Int) < (↑o.length : Int))) (obl (decide (0 + (↑i : Int).toNat < o.length)) (obl (true && decide (r.length = r.length ∧ 1
 = 1 ∧ 1 = 1 ∧ 0 < 1 ∧ (r ++ [o.getD (0 + (↑i : Int).toNat) (0 : Int)]).length ≤ 9223372036854775807 ∧ (r ++ [o.getD (0 + (↑i : Int).toNat) (0 : Int)]).length * 8 ≤ 140737488355328)) (obl (inI64 ((↑i :
 Int) + (1 : Int))) (Q AExit.normal [(8, AVal.ptr 1 0 0 0), (14, AVal.int IntKind.i64 t), (15, AVal.int IntKind.i64 a), (16, AVal.int IntKind.i64 h), (17, AVal.sl 2 0 1 0 (r ++ [o.getD (0 + (↑i :
 Int).toNat) (0 : Int)]).length none), (18, AVal.sl 3 0 1 0 o.length none), (19, AVal.int IntKind.i64 ((↑i : Int) + (1 : Int)))] (AHeap.mk 6 [(1, ABlk.cells 45 [AVal.sl 4 0 1 0 S.modes.length none,
 AVal.map 5]), (2, ABlk.row 3 (intRow IntKind.i64) (r ++ [o.getD (0 + (↑i : Int).toNat) (0 : Int)]) RowMd.plain), (3, ABlk.row 3 (intRow IntKind.i64) o RowMd.plain), (4, ABlk.row 3 (intRow IntKind.i64)
 S.modes RowMd.plain), (5, ABlk.obj (MapT listV) (MapSt.mk S.lists none) [])])))))) (obl (inI64 ((↑i : Int) + (1 : Int))) (Q AExit.normal [(8, AVal.ptr 1 0 0 0), (14, AVal.int IntKind.i64 t), (15,
 AVal.int IntKind.i64 a), (16, AVal.int IntKind.i64 h), (17, AVal.sl 2 0 1 0 r.length none), (18, AVal.sl 3 0 1 0 o.length none), (19, AVal.int IntKind.i64 ((↑i : Int) + (1 : Int)))] (AHeap.mk 6 [(1,
 ABlk.cells 45 [AVal.sl 4 0 1 0 S.modes.length none, AVal.map 5]), (2, ABlk.row 3 (intRow IntKind.i64) r RowMd.plain), (3, ABlk.row 3 (intRow IntKind.i64) o RowMd.plain), (4, ABlk.row 3 (intRow
 IntKind.i64) S.modes RowMd.plain), (5, ABlk.obj (MapT listV) (MapSt.mk S.lists none) [])])))))) (Q (AExit.exit 2) [(8, AVal.ptr 1 0 0 0), (14, AVal.int IntKind.i64 t), (15, AVal.int IntKind.i64 a),
 (16, AVal.int IntKind.i64 h), (17, AVal.sl 2 0 1 0 r.length none), (18, AVal.sl 3 0 1 0 o.length none)] (AHeap.mk 6 [(1, ABlk.cells 45 [AVal.sl 4 0 1 0 S.modes.length none, AVal.map 5]), (2, ABlk.row
 3 (intRow IntKind.i64) r RowMd.plain), (3, ABlk.row 3 (intRow IntKind.i64) o RowMd.plain), (4, ABlk.row 3 (intRow IntKind.i64) S.modes RowMd.plain), (5, ABlk.obj (MapT listV) (MapSt.mk S.lists none)
 [])]))) := by kernel_rfl

set_option maxRecDepth 100000 in
theorem w_ml_e0 (t a h : Int) (S : MemS) (o : List Int) (K : Out → Prop) : (wpC (TM8.ctx Try.prog) 200 3 1 (seqR (tailN 10 mlB)) (mlE2 t a h .nils (slI 2 o)) (mlH2 S o) (endA (TM8.ctx Try.prog).P Try.f3 (fun o _ => K o))
) =  (∃ (hT : intRow IntKind.i64 = intRow IntKind.i64), ∃ (hU : MapT listV = MapT listV), (S.modes.length = S.modes.length ∧ isUnf (MapSt.mk S.lists none) = true) ∧ WfM (MemS.mk S.modes S.lists) ∧ branch
 (decide (moveE (MemS.mk S.modes S.lists) t a = (0 : Int))) (∃ (hT_1 : intRow IntKind.i64 = intRow IntKind.i64), ∃ (hU_1 : MapT listV = MapT listV), ((moveR (MemS.mk S.modes S.lists) t a).modes.length
 = (moveR (MemS.mk S.modes S.lists) t a).modes.length ∧ isUnf (MapSt.mk (moveR (MemS.mk S.modes S.lists) t a).lists none) = true) ∧ WfM (MemS.mk (moveR (MemS.mk S.modes S.lists) t a).modes (moveR
 (MemS.mk S.modes S.lists) t a).lists) ∧ branch (decide (moveE (MemS.mk (moveR (MemS.mk S.modes S.lists) t a).modes (moveR (MemS.mk S.modes S.lists) t a).lists) t h = (0 : Int))) (∃ (hT_2 : intRow
 IntKind.i64 = intRow IntKind.i64), ∃ (hU_2 : MapT listV = MapT listV), ((moveR (MemS.mk (moveR (MemS.mk S.modes S.lists) t a).modes (moveR (MemS.mk S.modes S.lists) t a).lists) t h).modes.length =
 (moveR (MemS.mk (moveR (MemS.mk S.modes S.lists) t a).modes (moveR (MemS.mk S.modes S.lists) t a).lists) t h).modes.length ∧ isUnf (MapSt.mk (moveR (MemS.mk (moveR (MemS.mk S.modes S.lists) t a).modes
 (moveR (MemS.mk S.modes S.lists) t a).lists) t h).lists none) = true) ∧ WfM (MemS.mk (moveR (MemS.mk (moveR (MemS.mk S.modes S.lists) t a).modes (moveR (MemS.mk S.modes S.lists) t a).lists) t h).modes
 (moveR (MemS.mk (moveR (MemS.mk S.modes S.lists) t a).modes (moveR (MemS.mk S.modes S.lists) t a).lists) t h).lists) ∧ obl (true && (ofM (MemS.mk (moveR (MemS.mk (moveR (MemS.mk S.modes S.lists) t
 a).modes (moveR (MemS.mk S.modes S.lists) t a).lists) t h).modes (moveR (MemS.mk (moveR (MemS.mk S.modes S.lists) t a).modes (moveR (MemS.mk S.modes S.lists) t a).lists) t h).lists) h).all (okI
 (intRow IntKind.i64)) && (decide ((ofM (MemS.mk (moveR (MemS.mk (moveR (MemS.mk S.modes S.lists) t a).modes (moveR (MemS.mk S.modes S.lists) t a).lists) t h).modes (moveR (MemS.mk (moveR (MemS.mk
 S.modes S.lists) t a).modes (moveR (MemS.mk S.modes S.lists) t a).lists) t h).lists) h).length = (List.map (toI (intRow IntKind.i64)) (ofM (MemS.mk (moveR (MemS.mk (moveR (MemS.mk S.modes S.lists) t
 a).modes (moveR (MemS.mk S.modes S.lists) t a).lists) t h).modes (moveR (MemS.mk (moveR (MemS.mk S.modes S.lists) t a).modes (moveR (MemS.mk S.modes S.lists) t a).lists) t h).lists) h)).length) &&
 decide ((List.map (toI (intRow IntKind.i64)) (ofM (MemS.mk (moveR (MemS.mk (moveR (MemS.mk S.modes S.lists) t a).modes (moveR (MemS.mk S.modes S.lists) t a).lists) t h).modes (moveR (MemS.mk (moveR
 (MemS.mk S.modes S.lists) t a).modes (moveR (MemS.mk S.modes S.lists) t a).lists) t h).lists) h)).length ≤ 1000)) && (true && [t].all (okI (intRow IntKind.i64)) && (decide ([t].length = (List.map (toI
 (intRow IntKind.i64)) [t]).length) && decide ((List.map (toI (intRow IntKind.i64)) [t]).length ≤ 1000)))) (branch (decide (List.map (toI (intRow IntKind.i64)) (ofM (MemS.mk (moveR (MemS.mk (moveR
 (MemS.mk S.modes S.lists) t a).modes (moveR (MemS.mk S.modes S.lists) t a).lists) t h).modes (moveR (MemS.mk (moveR (MemS.mk S.modes S.lists) t a).modes (moveR (MemS.mk S.modes S.lists) t a).lists) t
 h).lists) h) = List.map (toI (intRow IntKind.i64)) [t])) (K (Out.ret (AVal.bool true))) (K (Out.ret (AVal.bool false))))) (K (Out.ret (AVal.bool false)))) (K (Out.ret (AVal.bool false)))) := by
 kernel_rfl

set_option maxRecDepth 100000 in
theorem w_ml_e1 (t a h : Int) (S : MemS) (r o : List Int) (K : Out → Prop) : (wpC (TM8.ctx Try.prog) 200 3 1 (seqR (tailN 10 mlB)) (mlE2 t a h (slI 2 r) (slI 3 o)) (mlH3 S r o) (endA (TM8.ctx Try.prog).P Try.f3 (fun o _ => K o))
) =  (∃ (hT : intRow IntKind.i64 = intRow IntKind.i64), ∃ (hU : MapT listV = MapT listV), (S.modes.length = S.modes.length ∧ isUnf (MapSt.mk S.lists none) = true) ∧ WfM (MemS.mk S.modes S.lists) ∧ branch
 (decide (moveE (MemS.mk S.modes S.lists) t a = (0 : Int))) (∃ (hT_1 : intRow IntKind.i64 = intRow IntKind.i64), ∃ (hU_1 : MapT listV = MapT listV), ((moveR (MemS.mk S.modes S.lists) t a).modes.length
 = (moveR (MemS.mk S.modes S.lists) t a).modes.length ∧ isUnf (MapSt.mk (moveR (MemS.mk S.modes S.lists) t a).lists none) = true) ∧ WfM (MemS.mk (moveR (MemS.mk S.modes S.lists) t a).modes (moveR
 (MemS.mk S.modes S.lists) t a).lists) ∧ branch (decide (moveE (MemS.mk (moveR (MemS.mk S.modes S.lists) t a).modes (moveR (MemS.mk S.modes S.lists) t a).lists) t h = (0 : Int))) (∃ (hT_2 : intRow
 IntKind.i64 = intRow IntKind.i64), ∃ (hU_2 : MapT listV = MapT listV), ((moveR (MemS.mk (moveR (MemS.mk S.modes S.lists) t a).modes (moveR (MemS.mk S.modes S.lists) t a).lists) t h).modes.length =
 (moveR (MemS.mk (moveR (MemS.mk S.modes S.lists) t a).modes (moveR (MemS.mk S.modes S.lists) t a).lists) t h).modes.length ∧ isUnf (MapSt.mk (moveR (MemS.mk (moveR (MemS.mk S.modes S.lists) t a).modes
 (moveR (MemS.mk S.modes S.lists) t a).lists) t h).lists none) = true) ∧ WfM (MemS.mk (moveR (MemS.mk (moveR (MemS.mk S.modes S.lists) t a).modes (moveR (MemS.mk S.modes S.lists) t a).lists) t h).modes
 (moveR (MemS.mk (moveR (MemS.mk S.modes S.lists) t a).modes (moveR (MemS.mk S.modes S.lists) t a).lists) t h).lists) ∧ obl (true && decide (r.length = r.length ∧ 1 = 1 ∧ 1 = 1 ∧ 0 < 1 ∧ (r ++
 [t]).length ≤ 9223372036854775807 ∧ (r ++ [t]).length * 8 ≤ 140737488355328)) (obl (true && (ofM (MemS.mk (moveR (MemS.mk (moveR (MemS.mk S.modes S.lists) t a).modes (moveR (MemS.mk S.modes S.lists) t
 a).lists) t h).modes (moveR (MemS.mk (moveR (MemS.mk S.modes S.lists) t a).modes (moveR (MemS.mk S.modes S.lists) t a).lists) t h).lists) h).all (okI (intRow IntKind.i64)) && (decide ((ofM (MemS.mk
 (moveR (MemS.mk (moveR (MemS.mk S.modes S.lists) t a).modes (moveR (MemS.mk S.modes S.lists) t a).lists) t h).modes (moveR (MemS.mk (moveR (MemS.mk S.modes S.lists) t a).modes (moveR (MemS.mk S.modes
 S.lists) t a).lists) t h).lists) h).length = (List.map (toI (intRow IntKind.i64)) (ofM (MemS.mk (moveR (MemS.mk (moveR (MemS.mk S.modes S.lists) t a).modes (moveR (MemS.mk S.modes S.lists) t a).lists)
 t h).modes (moveR (MemS.mk (moveR (MemS.mk S.modes S.lists) t a).modes (moveR (MemS.mk S.modes S.lists) t a).lists) t h).lists) h)).length) && decide ((List.map (toI (intRow IntKind.i64)) (ofM
 (MemS.mk (moveR (MemS.mk (moveR (MemS.mk S.modes S.lists) t a).modes (moveR (MemS.mk S.modes S.lists) t a).lists) t h).modes (moveR (MemS.mk (moveR (MemS.mk S.modes S.lists) t a).modes (moveR (MemS.mk
 S.modes S.lists) t a).lists) t h).lists) h)).length ≤ 1000)) && (true && (r ++ [t]).all (okI (intRow IntKind.i64)) && (decide ((r ++ [t]).length = (List.map (toI (intRow IntKind.i64)) (r ++
 [t])).length) && decide ((List.map (toI (intRow IntKind.i64)) (r ++ [t])).length ≤ 1000)))) (branch (decide (List.map (toI (intRow IntKind.i64)) (ofM (MemS.mk (moveR (MemS.mk (moveR (MemS.mk S.modes
 S.lists) t a).modes (moveR (MemS.mk S.modes S.lists) t a).lists) t h).modes (moveR (MemS.mk (moveR (MemS.mk S.modes S.lists) t a).modes (moveR (MemS.mk S.modes S.lists) t a).lists) t h).lists) h) =
 List.map (toI (intRow IntKind.i64)) (r ++ [t]))) (K (Out.ret (AVal.bool true))) (K (Out.ret (AVal.bool false)))))) (K (Out.ret (AVal.bool false)))) (K (Out.ret (AVal.bool false)))) := by kernel_rfl

end Go.Proofs.Ytcgnoegejmhgmaa
