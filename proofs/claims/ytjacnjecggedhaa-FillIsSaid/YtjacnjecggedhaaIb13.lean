/-
  Texts for RowFillIs: of the reckoner, walks, contracts and plain laws that its row stands on.
-/
import Derived.Test.YtjacnjecggedhaaIb12
namespace Go.Proofs.Ytjacnjecggedhaa
set_option linter.unusedVariables false
set_option linter.unusedSimpArgs false
open Go.RowKit Ev
set_option maxRecDepth 100000 in
theorem w_fl_00 (n : Nat) (sp : Int) (cs : List CutR) (ds : List BoolR) (fv : Int) (F : FSt) (i : Nat) (Q : AExit → Env → AHeap → Prop) : (wpC (TX2.ctx Try.prog) 400 9 3 fillL (g00 n sp cs ds fv F (f13 i)).1 (g00 n sp cs ds fv F (f13 i)).2 (canQ 3 ts13 Q)
) =  (obl (inI64 (sp - (0 : Int))) (twice (branch (decide ((↑n : Int) % (18446744073709551616 : Int) < (↑i : Int) + (1 : Int))) (Q (.exit 0) (fE .nils (f13 i)) (AHeap.mk 7 (fHx n cs ds fv [(6, .cells 70
 [.nils, .int .i64 sp, .bool F.beg, .int .i64 (↑F.k : Int), .int .i64 F.lk, .str F.lb])]))) (obl (decide ((0 : Int) ≤ idJ i ∧ idJ i < (↑n : Int))) (obl (decide (0 + (idJ i).toNat < ds.length)) (branch
 (ds.getD (idI i) (BoolR.mk false)).b (Q (.exit 0) (fE .nils (f13 i)) (AHeap.mk 7 (fHx n cs ds fv [(6, .cells 70 [.nils, .int .i64 sp, .bool F.beg, .int .i64 (↑F.k : Int), .int .i64 F.lk, .str
 F.lb])]))) (obl (decide ((0 : Int) ≤ idJ i ∧ idJ i < (↑n : Int))) (obl (decide (0 + (idJ i).toNat < cs.length)) (branch (decide ((cutI cs i).pos = (0 : Int))) (branch (!decide (F.lb = [])) (branch
 (decide (F.lk = (cutI cs i).k) && (decide (F.lb = (cutI cs i).lb) && true)) (∀ (R : NextR), nextR (cutI cs i).typ (cutI cs i).k (cutI cs i).lb (cutI cs i).data (cutI cs i).pos (cutI cs i).id (3 : Int)
 [] (sp - (0 : Int)) F.beg = R → branch (!decide (R.err = (0 : Int))) (branch (!decide (R.err = (0 : Int))) (Q (.exit 0) (fE .nils (f13 i)) (AHeap.mk 7 (fHx n cs ds fv [(6, .cells 70 [.nils, .int .i64
 sp, .bool F.beg, .int .i64 (↑F.k : Int), .int .i64 F.lk, .str F.lb])]))) (branch (decide (sp - (0 : Int) < (3 : Int))) (Q (.exit 0) (fE .nils (f13 i)) (AHeap.mk 7 (fHx n cs ds fv [(6, .cells 70
 [.nils, .int .i64 sp, .bool F.beg, .int .i64 (↑F.k : Int), .int .i64 F.lk, .str F.lb])]))) (branch (decide ((70000 : Int) ≤ (↑F.k : Int))) (Q (.exit 0) (fE .nils (f13 i)) (AHeap.mk 7 (fHx n cs ds fv
 [(6, .cells 70 [.nils, .int .i64 sp, .bool F.beg, .int .i64 (↑F.k : Int), .int .i64 F.lk, .str F.lb])]))) (obl (inI64 ((↑F.k : Int) + (1 : Int))) (branch F.beg (Q .normal (fE .nils (f13 i)) (AHeap.mk
 8 (fHx n cs ds fv [(6, .cells 70 [.sl 7 0 1 0 3 none, .int .i64 sp, .bool true, .int .i64 ((↑F.k : Int) + (1 : Int)), .int .i64 F.lk, .str F.lb]), (7, .row 5 byteRow [(48 : UInt8), (1 : UInt8), (0 :
 UInt8)] .plain)]))) (Q .normal (fE .nils (f13 i)) (AHeap.mk 8 (fHx n cs ds fv [(6, .cells 70 [.sl 7 0 1 0 3 none, .int .i64 sp, .bool false, .int .i64 ((↑F.k : Int) + (1 : Int)), .int .i64 F.lk, .str
 F.lb]), (7, .row 5 byteRow [(48 : UInt8), (1 : UInt8), (0 : UInt8)] .plain)])))))))) (obl (decide ((0 : Int) ≤ idJ i ∧ idJ i < (↑n : Int))) (obl (decide (0 + (idJ i).toNat < cs.length) && true) (obl
 (decide ((0 : Int) ≤ idJ i ∧ idJ i < (↑n : Int))) (obl (decide (0 + (idJ i).toNat < ds.length) && true) (obl (decide (R.lb.length + R.data.length + R.sum.length ≤ 9223372036854775000)) (branch
 (!decide (gErr R.st R.en R.id R.total R.typ R.k R.lb R.data R.sum = (0 : Int))) (Q (.exit 0) (fE .nils (f13 i)) (AHeap.mk 7 (fHx n (cs.set (idI i) (CutR.mk (cutI cs i).typ R.k2 R.b2 (cutI cs i).data
 R.at2 (cutI cs i).id)) (ds.set (idI i) (BoolR.mk R.en)) fv [(6, .cells 70 [.nils, .int .i64 sp, .bool F.beg, .int .i64 (↑F.k : Int), .int .i64 F.lk, .str F.lb])]))) (branch (decide (sp - (0 : Int) <
 (↑(gEnc R.st R.en R.id R.total R.typ R.k R.lb R.data R.sum).length : Int))) (Q (.exit 0) (fE .nils (f13 i)) (AHeap.mk 7 (fHx n (cs.set (idI i) (CutR.mk (cutI cs i).typ R.k2 R.b2 (cutI cs i).data R.at2
 (cutI cs i).id)) (ds.set (idI i) (BoolR.mk R.en)) fv [(6, .cells 70 [.nils, .int .i64 sp, .bool F.beg, .int .i64 (↑F.k : Int), .int .i64 F.lk, .str F.lb])]))) (branch (decide ((70000 : Int) ≤ (↑F.k :
 Int))) (Q (.exit 0) (fE .nils (f13 i)) (AHeap.mk 7 (fHx n (cs.set (idI i) (CutR.mk (cutI cs i).typ R.k2 R.b2 (cutI cs i).data R.at2 (cutI cs i).id)) (ds.set (idI i) (BoolR.mk R.en)) fv [(6, .cells 70
 [.nils, .int .i64 sp, .bool F.beg, .int .i64 (↑F.k : Int), .int .i64 F.lk, .str F.lb])]))) (obl (inI64 ((↑F.k : Int) + (1 : Int))) (obl (true && decide (0 < (gEnc R.st R.en R.id R.total R.typ R.k R.lb
 R.data R.sum).length ∧ 1 = 1 ∧ 1 = 1 ∧ 0 < 1 ∧ (gEnc R.st R.en R.id R.total R.typ R.k R.lb R.data R.sum).length ≤ 9223372036854775807 ∧ (gEnc R.st R.en R.id R.total R.typ R.k R.lb R.data R.sum).length
 * 1 ≤ 140737488355328)) (branch F.beg (branch R.en (Q (.exit 2) (fE (.sl 7 0 1 0 1 none) (f13 i)) (AHeap.mk 9 (fHx n (cs.set (idI i) (CutR.mk (cutI cs i).typ R.k2 R.b2 (cutI cs i).data R.at2 (cutI cs
 i).id)) (ds.set (idI i) (BoolR.mk R.en)) fv [(6, .cells 70 [.sl 8 0 1 0 (gEnc R.st R.en R.id R.total R.typ R.k R.lb R.data R.sum).length none, .int .i64 sp, .bool true, .int .i64 ((↑F.k : Int) + (1 :
 Int)), .int .i64 F.lk, .str F.lb]), (7, .row 33 (intRow .u64) [(↑i : Int) + (1 : Int)] .plain), (8, .row 5 byteRow (gEnc R.st R.en R.id R.total R.typ R.k R.lb R.data R.sum) .plain)]))) (Q .normal (fE
 .nils (f13 i)) (AHeap.mk 8 (fHx n (cs.set (idI i) (CutR.mk (cutI cs i).typ R.k2 R.b2 (cutI cs i).data R.at2 (cutI cs i).id)) (ds.set (idI i) (BoolR.mk R.en)) fv [(6, .cells 70 [.sl 7 0 1 0 (gEnc R.st
 R.en R.id R.total R.typ R.k R.lb R.data R.sum).length none, .int .i64 sp, .bool true, .int .i64 ((↑F.k : Int) + (1 : Int)), .int .i64 F.lk, .str F.lb]), (7, .row 5 byteRow (gEnc R.st R.en R.id R.total
 R.typ R.k R.lb R.data R.sum) .plain)])))) (branch R.st (branch R.en (Q (.exit 2) (fE (.sl 7 0 1 0 1 none) (f13 i)) (AHeap.mk 9 (fHx n (cs.set (idI i) (CutR.mk (cutI cs i).typ R.k2 R.b2 (cutI cs
 i).data R.at2 (cutI cs i).id)) (ds.set (idI i) (BoolR.mk R.en)) fv [(6, .cells 70 [.sl 8 0 1 0 (gEnc R.st R.en R.id R.total R.typ R.k R.lb R.data R.sum).length none, .int .i64 sp, .bool !R.en, .int
 .i64 ((↑F.k : Int) + (1 : Int)), .int .i64 F.lk, .str F.lb]), (7, .row 33 (intRow .u64) [(↑i : Int) + (1 : Int)] .plain), (8, .row 5 byteRow (gEnc R.st R.en R.id R.total R.typ R.k R.lb R.data R.sum)
 .plain)]))) (Q .normal (fE .nils (f13 i)) (AHeap.mk 8 (fHx n (cs.set (idI i) (CutR.mk (cutI cs i).typ R.k2 R.b2 (cutI cs i).data R.at2 (cutI cs i).id)) (ds.set (idI i) (BoolR.mk R.en)) fv [(6, .cells
 70 [.sl 7 0 1 0 (gEnc R.st R.en R.id R.total R.typ R.k R.lb R.data R.sum).length none, .int .i64 sp, .bool !R.en, .int .i64 ((↑F.k : Int) + (1 : Int)), .int .i64 F.lk, .str F.lb]), (7, .row 5 byteRow
 (gEnc R.st R.en R.id R.total R.typ R.k R.lb R.data R.sum) .plain)])))) (branch R.en (Q (.exit 2) (fE (.sl 7 0 1 0 1 none) (f13 i)) (AHeap.mk 9 (fHx n (cs.set (idI i) (CutR.mk (cutI cs i).typ R.k2 R.b2
 (cutI cs i).data R.at2 (cutI cs i).id)) (ds.set (idI i) (BoolR.mk R.en)) fv [(6, .cells 70 [.sl 8 0 1 0 (gEnc R.st R.en R.id R.total R.typ R.k R.lb R.data R.sum).length none, .int .i64 sp, .bool
 false, .int .i64 ((↑F.k : Int) + (1 : Int)), .int .i64 F.lk, .str F.lb]), (7, .row 33 (intRow .u64) [(↑i : Int) + (1 : Int)] .plain), (8, .row 5 byteRow (gEnc R.st R.en R.id R.total R.typ R.k R.lb
 R.data R.sum) .plain)]))) (Q .normal (fE .nils (f13 i)) (AHeap.mk 8 (fHx n (cs.set (idI i) (CutR.mk (cutI cs i).typ R.k2 R.b2 (cutI cs i).data R.at2 (cutI cs i).id)) (ds.set (idI i) (BoolR.mk R.en))
 fv [(6, .cells 70 [.sl 7 0 1 0 (gEnc R.st R.en R.id R.total R.typ R.k R.lb R.data R.sum).length none, .int .i64 sp, .bool false, .int .i64 ((↑F.k : Int) + (1 : Int)), .int .i64 F.lk, .str F.lb]), (7,
 .row 5 byteRow (gEnc R.st R.en R.id R.total R.typ R.k R.lb R.data R.sum) .plain)]))))))))))))))))) (branch (decide ((0 : Int) < lSize (cutI cs i).k)) (branch (decide ((if lOk (cutI cs i).k (cutI cs
 i).lb = true then (0 : Int) else (2 : Int)) = (0 : Int))) (∀ (R : NextR), nextR (cutI cs i).typ (cutI cs i).k (cutI cs i).lb (cutI cs i).data (cutI cs i).pos (cutI cs i).id (cutI cs i).k (cutI cs
 i).lb (sp - (0 : Int)) F.beg = R → branch (!decide (R.err = (0 : Int))) (branch (!decide (R.err = (0 : Int))) (Q (.exit 0) (fE .nils (f13 i)) (AHeap.mk 7 (fHx n cs ds fv [(6, .cells 70 [.nils, .int
 .i64 sp, .bool F.beg, .int .i64 (↑F.k : Int), .int .i64 (cutI cs i).k, .str (cutI cs i).lb])]))) (branch (decide (sp - (0 : Int) < (3 : Int))) (Q (.exit 0) (fE .nils (f13 i)) (AHeap.mk 7 (fHx n cs ds
 fv [(6, .cells 70 [.nils, .int .i64 sp, .bool F.beg, .int .i64 (↑F.k : Int), .int .i64 (cutI cs i).k, .str (cutI cs i).lb])]))) (branch (decide ((70000 : Int) ≤ (↑F.k : Int))) (Q (.exit 0) (fE .nils
 (f13 i)) (AHeap.mk 7 (fHx n cs ds fv [(6, .cells 70 [.nils, .int .i64 sp, .bool F.beg, .int .i64 (↑F.k : Int), .int .i64 (cutI cs i).k, .str (cutI cs i).lb])]))) (obl (inI64 ((↑F.k : Int) + (1 :
 Int))) (branch F.beg (Q .normal (fE .nils (f13 i)) (AHeap.mk 8 (fHx n cs ds fv [(6, .cells 70 [.sl 7 0 1 0 3 none, .int .i64 sp, .bool true, .int .i64 ((↑F.k : Int) + (1 : Int)), .int .i64 (cutI cs
 i).k, .str (cutI cs i).lb]), (7, .row 5 byteRow [(48 : UInt8), (1 : UInt8), (0 : UInt8)] .plain)]))) (Q .normal (fE .nils (f13 i)) (AHeap.mk 8 (fHx n cs ds fv [(6, .cells 70 [.sl 7 0 1 0 3 none, .int
 .i64 sp, .bool false, .int .i64 ((↑F.k : Int) + (1 : Int)), .int .i64 (cutI cs i).k, .str (cutI cs i).lb]), (7, .row 5 byteRow [(48 : UInt8), (1 : UInt8), (0 : UInt8)] .plain)])))))))) (obl (decide
 ((0 : Int) ≤ idJ i ∧ idJ i < (↑n : Int))) (obl (decide (0 + (idJ i).toNat < cs.length) && true) (obl (decide ((0 : Int) ≤ idJ i ∧ idJ i < (↑n : Int))) (obl (decide (0 + (idJ i).toNat < ds.length) &&
 true) (obl (decide (R.lb.length + R.data.length + R.sum.length ≤ 9223372036854775000)) (branch (!decide (gErr R.st R.en R.id R.total R.typ R.k R.lb R.data R.sum = (0 : Int))) (Q (.exit 0) (fE .nils
 (f13 i)) (AHeap.mk 7 (fHx n (cs.set (idI i) (CutR.mk (cutI cs i).typ R.k2 R.b2 (cutI cs i).data R.at2 (cutI cs i).id)) (ds.set (idI i) (BoolR.mk R.en)) fv [(6, .cells 70 [.nils, .int .i64 sp, .bool
 F.beg, .int .i64 (↑F.k : Int), .int .i64 (cutI cs i).k, .str (cutI cs i).lb])]))) (branch (decide (sp - (0 : Int) < (↑(gEnc R.st R.en R.id R.total R.typ R.k R.lb R.data R.sum).length : Int))) (Q
 (.exit 0) (fE .nils (f13 i)) (AHeap.mk 7 (fHx n (cs.set (idI i) (CutR.mk (cutI cs i).typ R.k2 R.b2 (cutI cs i).data R.at2 (cutI cs i).id)) (ds.set (idI i) (BoolR.mk R.en)) fv [(6, .cells 70 [.nils,
 .int .i64 sp, .bool F.beg, .int .i64 (↑F.k : Int), .int .i64 (cutI cs i).k, .str (cutI cs i).lb])]))) (branch (decide ((70000 : Int) ≤ (↑F.k : Int))) (Q (.exit 0) (fE .nils (f13 i)) (AHeap.mk 7 (fHx n
 (cs.set (idI i) (CutR.mk (cutI cs i).typ R.k2 R.b2 (cutI cs i).data R.at2 (cutI cs i).id)) (ds.set (idI i) (BoolR.mk R.en)) fv [(6, .cells 70 [.nils, .int .i64 sp, .bool F.beg, .int .i64 (↑F.k : Int),
 .int .i64 (cutI cs i).k, .str (cutI cs i).lb])]))) (obl (inI64 ((↑F.k : Int) + (1 : Int))) (obl (true && decide (0 < (gEnc R.st R.en R.id R.total R.typ R.k R.lb R.data R.sum).length ∧ 1 = 1 ∧ 1 = 1 ∧
 0 < 1 ∧ (gEnc R.st R.en R.id R.total R.typ R.k R.lb R.data R.sum).length ≤ 9223372036854775807 ∧ (gEnc R.st R.en R.id R.total R.typ R.k R.lb R.data R.sum).length * 1 ≤ 140737488355328)) (branch F.beg
 (branch R.en (Q (.exit 2) (fE (.sl 7 0 1 0 1 none) (f13 i)) (AHeap.mk 9 (fHx n (cs.set (idI i) (CutR.mk (cutI cs i).typ R.k2 R.b2 (cutI cs i).data R.at2 (cutI cs i).id)) (ds.set (idI i) (BoolR.mk
 R.en)) fv [(6, .cells 70 [.sl 8 0 1 0 (gEnc R.st R.en R.id R.total R.typ R.k R.lb R.data R.sum).length none, .int .i64 sp, .bool true, .int .i64 ((↑F.k : Int) + (1 : Int)), .int .i64 (cutI cs i).k,
 .str (cutI cs i).lb]), (7, .row 33 (intRow .u64) [(↑i : Int) + (1 : Int)] .plain), (8, .row 5 byteRow (gEnc R.st R.en R.id R.total R.typ R.k R.lb R.data R.sum) .plain)]))) (Q .normal (fE .nils (f13
 i)) (AHeap.mk 8 (fHx n (cs.set (idI i) (CutR.mk (cutI cs i).typ R.k2 R.b2 (cutI cs i).data R.at2 (cutI cs i).id)) (ds.set (idI i) (BoolR.mk R.en)) fv [(6, .cells 70 [.sl 7 0 1 0 (gEnc R.st R.en R.id
 R.total R.typ R.k R.lb R.data R.sum).length none, .int .i64 sp, .bool true, .int .i64 ((↑F.k : Int) + (1 : Int)), .int .i64 (cutI cs i).k, .str (cutI cs i).lb]), (7, .row 5 byteRow (gEnc R.st R.en
 R.id R.total R.typ R.k R.lb R.data R.sum) .plain)])))) (branch R.st (branch R.en (Q (.exit 2) (fE (.sl 7 0 1 0 1 none) (f13 i)) (AHeap.mk 9 (fHx n (cs.set (idI i) (CutR.mk (cutI cs i).typ R.k2 R.b2
 (cutI cs i).data R.at2 (cutI cs i).id)) (ds.set (idI i) (BoolR.mk R.en)) fv [(6, .cells 70 [.sl 8 0 1 0 (gEnc R.st R.en R.id R.total R.typ R.k R.lb R.data R.sum).length none, .int .i64 sp, .bool
 !R.en, .int .i64 ((↑F.k : Int) + (1 : Int)), .int .i64 (cutI cs i).k, .str (cutI cs i).lb]), (7, .row 33 (intRow .u64) [(↑i : Int) + (1 : Int)] .plain), (8, .row 5 byteRow (gEnc R.st R.en R.id R.total
 R.typ R.k R.lb R.data R.sum) .plain)]))) (Q .normal (fE .nils (f13 i)) (AHeap.mk 8 (fHx n (cs.set (idI i) (CutR.mk (cutI cs i).typ R.k2 R.b2 (cutI cs i).data R.at2 (cutI cs i).id)) (ds.set (idI i)
 (BoolR.mk R.en)) fv [(6, .cells 70 [.sl 7 0 1 0 (gEnc R.st R.en R.id R.total R.typ R.k R.lb R.data R.sum).length none, .int .i64 sp, .bool !R.en, .int .i64 ((↑F.k : Int) + (1 : Int)), .int .i64 (cutI
 cs i).k, .str (cutI cs i).lb]), (7, .row 5 byteRow (gEnc R.st R.en R.id R.total R.typ R.k R.lb R.data R.sum) .plain)])))) (branch R.en (Q (.exit 2) (fE (.sl 7 0 1 0 1 none) (f13 i)) (AHeap.mk 9 (fHx n
 (cs.set (idI i) (CutR.mk (cutI cs i).typ R.k2 R.b2 (cutI cs i).data R.at2 (cutI cs i).id)) (ds.set (idI i) (BoolR.mk R.en)) fv [(6, .cells 70 [.sl 8 0 1 0 (gEnc R.st R.en R.id R.total R.typ R.k R.lb
 R.data R.sum).length none, .int .i64 sp, .bool false, .int .i64 ((↑F.k : Int) + (1 : Int)), .int .i64 (cutI cs i).k, .str (cutI cs i).lb]), (7, .row 33 (intRow .u64) [(↑i : Int) + (1 : Int)] .plain),
 (8, .row 5 byteRow (gEnc R.st R.en R.id R.total R.typ R.k R.lb R.data R.sum) .plain)]))) (Q .normal (fE .nils (f13 i)) (AHeap.mk 8 (fHx n (cs.set (idI i) (CutR.mk (cutI cs i).typ R.k2 R.b2 (cutI cs
 i).data R.at2 (cutI cs i).id)) (ds.set (idI i) (BoolR.mk R.en)) fv [(6, .cells 70 [.sl 7 0 1 0 (gEnc R.st R.en R.id R.total R.typ R.k R.lb R.data R.sum).length none, .int .i64 sp, .bool false, .int
 .i64 ((↑F.k : Int) + (1 : Int)), .int .i64 (cutI cs i).k, .str (cutI cs i).lb]), (7, .row 5 byteRow (gEnc R.st R.en R.id R.total R.typ R.k R.lb R.data R.sum) .plain)]))))))))))))))))) (∀ (R : NextR),
 nextR (cutI cs i).typ (cutI cs i).k (cutI cs i).lb (cutI cs i).data (cutI cs i).pos (cutI cs i).id (cutI cs i).k (cutI cs i).lb (sp - (0 : Int)) F.beg = R → branch (!decide (R.err = (0 : Int)))
 (branch (!decide (R.err = (0 : Int))) (Q (.exit 0) (fE .nils (f13 i)) (AHeap.mk 7 (fHx n cs ds fv [(6, .cells 70 [.nils, .int .i64 sp, .bool F.beg, .int .i64 (↑F.k : Int), .int .i64 F.lk, .str
 F.lb])]))) (branch (decide (sp - (0 : Int) < (3 : Int))) (Q (.exit 0) (fE .nils (f13 i)) (AHeap.mk 7 (fHx n cs ds fv [(6, .cells 70 [.nils, .int .i64 sp, .bool F.beg, .int .i64 (↑F.k : Int), .int .i64
 F.lk, .str F.lb])]))) (branch (decide ((70000 : Int) ≤ (↑F.k : Int))) (Q (.exit 0) (fE .nils (f13 i)) (AHeap.mk 7 (fHx n cs ds fv [(6, .cells 70 [.nils, .int .i64 sp, .bool F.beg, .int .i64 (↑F.k :
 Int), .int .i64 F.lk, .str F.lb])]))) (obl (inI64 ((↑F.k : Int) + (1 : Int))) (branch F.beg (Q .normal (fE .nils (f13 i)) (AHeap.mk 8 (fHx n cs ds fv [(6, .cells 70 [.sl 7 0 1 0 3 none, .int .i64 sp,
 .bool true, .int .i64 ((↑F.k : Int) + (1 : Int)), .int .i64 F.lk, .str F.lb]), (7, .row 5 byteRow [(48 : UInt8), (1 : UInt8), (0 : UInt8)] .plain)]))) (Q .normal (fE .nils (f13 i)) (AHeap.mk 8 (fHx n
 cs ds fv [(6, .cells 70 [.sl 7 0 1 0 3 none, .int .i64 sp, .bool false, .int .i64 ((↑F.k : Int) + (1 : Int)), .int .i64 F.lk, .str F.lb]), (7, .row 5 byteRow [(48 : UInt8), (1 : UInt8), (0 : UInt8)]
 .plain)])))))))) (obl (decide ((0 : Int) ≤ idJ i ∧ idJ i < (↑n : Int))) (obl (decide (0 + (idJ i).toNat < cs.length) && true) (obl (decide ((0 : Int) ≤ idJ i ∧ idJ i < (↑n : Int))) (obl (decide (0 +
 (idJ i).toNat < ds.length) && true) (obl (decide (R.lb.length + R.data.length + R.sum.length ≤ 9223372036854775000)) (branch (!decide (gErr R.st R.en R.id R.total R.typ R.k R.lb R.data R.sum = (0 :
 Int))) (Q (.exit 0) (fE .nils (f13 i)) (AHeap.mk 7 (fHx n (cs.set (idI i) (CutR.mk (cutI cs i).typ R.k2 R.b2 (cutI cs i).data R.at2 (cutI cs i).id)) (ds.set (idI i) (BoolR.mk R.en)) fv [(6, .cells 70
 [.nils, .int .i64 sp, .bool F.beg, .int .i64 (↑F.k : Int), .int .i64 F.lk, .str F.lb])]))) (branch (decide (sp - (0 : Int) < (↑(gEnc R.st R.en R.id R.total R.typ R.k R.lb R.data R.sum).length : Int)))
 (Q (.exit 0) (fE .nils (f13 i)) (AHeap.mk 7 (fHx n (cs.set (idI i) (CutR.mk (cutI cs i).typ R.k2 R.b2 (cutI cs i).data R.at2 (cutI cs i).id)) (ds.set (idI i) (BoolR.mk R.en)) fv [(6, .cells 70 [.nils,
 .int .i64 sp, .bool F.beg, .int .i64 (↑F.k : Int), .int .i64 F.lk, .str F.lb])]))) (branch (decide ((70000 : Int) ≤ (↑F.k : Int))) (Q (.exit 0) (fE .nils (f13 i)) (AHeap.mk 7 (fHx n (cs.set (idI i)
 (CutR.mk (cutI cs i).typ R.k2 R.b2 (cutI cs i).data R.at2 (cutI cs i).id)) (ds.set (idI i) (BoolR.mk R.en)) fv [(6, .cells 70 [.nils, .int .i64 sp, .bool F.beg, .int .i64 (↑F.k : Int), .int .i64 F.lk,
 .str F.lb])]))) (obl (inI64 ((↑F.k : Int) + (1 : Int))) (obl (true && decide (0 < (gEnc R.st R.en R.id R.total R.typ R.k R.lb R.data R.sum).length ∧ 1 = 1 ∧ 1 = 1 ∧ 0 < 1 ∧ (gEnc R.st R.en R.id
 R.total R.typ R.k R.lb R.data R.sum).length ≤ 9223372036854775807 ∧ (gEnc R.st R.en R.id R.total R.typ R.k R.lb R.data R.sum).length * 1 ≤ 140737488355328)) (branch F.beg (branch R.en (Q (.exit 2) (fE
 (.sl 7 0 1 0 1 none) (f13 i)) (AHeap.mk 9 (fHx n (cs.set (idI i) (CutR.mk (cutI cs i).typ R.k2 R.b2 (cutI cs i).data R.at2 (cutI cs i).id)) (ds.set (idI i) (BoolR.mk R.en)) fv [(6, .cells 70 [.sl 8 0
 1 0 (gEnc R.st R.en R.id R.total R.typ R.k R.lb R.data R.sum).length none, .int .i64 sp, .bool true, .int .i64 ((↑F.k : Int) + (1 : Int)), .int .i64 F.lk, .str F.lb]), (7, .row 33 (intRow .u64) [(↑i :
 Int) + (1 : Int)] .plain), (8, .row 5 byteRow (gEnc R.st R.en R.id R.total R.typ R.k R.lb R.data R.sum) .plain)]))) (Q .normal (fE .nils (f13 i)) (AHeap.mk 8 (fHx n (cs.set (idI i) (CutR.mk (cutI cs
 i).typ R.k2 R.b2 (cutI cs i).data R.at2 (cutI cs i).id)) (ds.set (idI i) (BoolR.mk R.en)) fv [(6, .cells 70 [.sl 7 0 1 0 (gEnc R.st R.en R.id R.total R.typ R.k R.lb R.data R.sum).length none, .int
 .i64 sp, .bool true, .int .i64 ((↑F.k : Int) + (1 : Int)), .int .i64 F.lk, .str F.lb]), (7, .row 5 byteRow (gEnc R.st R.en R.id R.total R.typ R.k R.lb R.data R.sum) .plain)])))) (branch R.st (branch
 R.en (Q (.exit 2) (fE (.sl 7 0 1 0 1 none) (f13 i)) (AHeap.mk 9 (fHx n (cs.set (idI i) (CutR.mk (cutI cs i).typ R.k2 R.b2 (cutI cs i).data R.at2 (cutI cs i).id)) (ds.set (idI i) (BoolR.mk R.en)) fv
 [(6, .cells 70 [.sl 8 0 1 0 (gEnc R.st R.en R.id R.total R.typ R.k R.lb R.data R.sum).length none, .int .i64 sp, .bool !R.en, .int .i64 ((↑F.k : Int) + (1 : Int)), .int .i64 F.lk, .str F.lb]), (7,
 .row 33 (intRow .u64) [(↑i : Int) + (1 : Int)] .plain), (8, .row 5 byteRow (gEnc R.st R.en R.id R.total R.typ R.k R.lb R.data R.sum) .plain)]))) (Q .normal (fE .nils (f13 i)) (AHeap.mk 8 (fHx n
 (cs.set (idI i) (CutR.mk (cutI cs i).typ R.k2 R.b2 (cutI cs i).data R.at2 (cutI cs i).id)) (ds.set (idI i) (BoolR.mk R.en)) fv [(6, .cells 70 [.sl 7 0 1 0 (gEnc R.st R.en R.id R.total R.typ R.k R.lb
 R.data R.sum).length none, .int .i64 sp, .bool !R.en, .int .i64 ((↑F.k : Int) + (1 : Int)), .int .i64 F.lk, .str F.lb]), (7, .row 5 byteRow (gEnc R.st R.en R.id R.total R.typ R.k R.lb R.data R.sum)
 .plain)])))) (branch R.en (Q (.exit 2) (fE (.sl 7 0 1 0 1 none) (f13 i)) (AHeap.mk 9 (fHx n (cs.set (idI i) (CutR.mk (cutI cs i).typ R.k2 R.b2 (cutI cs i).data R.at2 (cutI cs i).id)) (ds.set (idI i)
 (BoolR.mk R.en)) fv [(6, .cells 70 [.sl 8 0 1 0 (gEnc R.st R.en R.id R.total R.typ R.k R.lb R.data R.sum).length none, .int .i64 sp, .bool false, .int .i64 ((↑F.k : Int) + (1 : Int)), .int .i64 F.lk,
 .str F.lb]), (7, .row 33 (intRow .u64) [(↑i : Int) + (1 : Int)] .plain), (8, .row 5 byteRow (gEnc R.st R.en R.id R.total R.typ R.k R.lb R.data R.sum) .plain)]))) (Q .normal (fE .nils (f13 i))
 (AHeap.mk 8 (fHx n (cs.set (idI i) (CutR.mk (cutI cs i).typ R.k2 R.b2 (cutI cs i).data R.at2 (cutI cs i).id)) (ds.set (idI i) (BoolR.mk R.en)) fv [(6, .cells 70 [.sl 7 0 1 0 (gEnc R.st R.en R.id
 R.total R.typ R.k R.lb R.data R.sum).length none, .int .i64 sp, .bool false, .int .i64 ((↑F.k : Int) + (1 : Int)), .int .i64 F.lk, .str F.lb]), (7, .row 5 byteRow (gEnc R.st R.en R.id R.total R.typ
 R.k R.lb R.data R.sum) .plain)])))))))))))))))))) (∀ (R : NextR), nextR (cutI cs i).typ (cutI cs i).k (cutI cs i).lb (cutI cs i).data (cutI cs i).pos (cutI cs i).id (cutI cs i).k (cutI cs i).lb (sp -
 (0 : Int)) F.beg = R → branch (!decide (R.err = (0 : Int))) (branch (!decide (R.err = (0 : Int))) (Q (.exit 0) (fE .nils (f13 i)) (AHeap.mk 7 (fHx n cs ds fv [(6, .cells 70 [.nils, .int .i64 sp, .bool
 F.beg, .int .i64 (↑F.k : Int), .int .i64 F.lk, .str F.lb])]))) (branch (decide (sp - (0 : Int) < (3 : Int))) (Q (.exit 0) (fE .nils (f13 i)) (AHeap.mk 7 (fHx n cs ds fv [(6, .cells 70 [.nils, .int
 .i64 sp, .bool F.beg, .int .i64 (↑F.k : Int), .int .i64 F.lk, .str F.lb])]))) (branch (decide ((70000 : Int) ≤ (↑F.k : Int))) (Q (.exit 0) (fE .nils (f13 i)) (AHeap.mk 7 (fHx n cs ds fv [(6, .cells 70
 [.nils, .int .i64 sp, .bool F.beg, .int .i64 (↑F.k : Int), .int .i64 F.lk, .str F.lb])]))) (obl (inI64 ((↑F.k : Int) + (1 : Int))) (branch F.beg (Q .normal (fE .nils (f13 i)) (AHeap.mk 8 (fHx n cs ds
 fv [(6, .cells 70 [.sl 7 0 1 0 3 none, .int .i64 sp, .bool true, .int .i64 ((↑F.k : Int) + (1 : Int)), .int .i64 F.lk, .str F.lb]), (7, .row 5 byteRow [(48 : UInt8), (1 : UInt8), (0 : UInt8)]
 .plain)]))) (Q .normal (fE .nils (f13 i)) (AHeap.mk 8 (fHx n cs ds fv [(6, .cells 70 [.sl 7 0 1 0 3 none, .int .i64 sp, .bool false, .int .i64 ((↑F.k : Int) + (1 : Int)), .int .i64 F.lk, .str F.lb]),
 (7, .row 5 byteRow [(48 : UInt8), (1 : UInt8), (0 : UInt8)] .plain)])))))))) (obl (decide ((0 : Int) ≤ idJ i ∧ idJ i < (↑n : Int))) (obl (decide (0 + (idJ i).toNat < cs.length) && true) (obl (decide
 ((0 : Int) ≤ idJ i ∧ idJ i < (↑n : Int))) (obl (decide (0 + (idJ i).toNat < ds.length) && true) (obl (decide (R.lb.length + R.data.length + R.sum.length ≤ 9223372036854775000)) (branch (!decide (gErr
 R.st R.en R.id R.total R.typ R.k R.lb R.data R.sum = (0 : Int))) (Q (.exit 0) (fE .nils (f13 i)) (AHeap.mk 7 (fHx n (cs.set (idI i) (CutR.mk (cutI cs i).typ R.k2 R.b2 (cutI cs i).data R.at2 (cutI cs
 i).id)) (ds.set (idI i) (BoolR.mk R.en)) fv [(6, .cells 70 [.nils, .int .i64 sp, .bool F.beg, .int .i64 (↑F.k : Int), .int .i64 F.lk, .str F.lb])]))) (branch (decide (sp - (0 : Int) < (↑(gEnc R.st
 R.en R.id R.total R.typ R.k R.lb R.data R.sum).length : Int))) (Q (.exit 0) (fE .nils (f13 i)) (AHeap.mk 7 (fHx n (cs.set (idI i) (CutR.mk (cutI cs i).typ R.k2 R.b2 (cutI cs i).data R.at2 (cutI cs
 i).id)) (ds.set (idI i) (BoolR.mk R.en)) fv [(6, .cells 70 [.nils, .int .i64 sp, .bool F.beg, .int .i64 (↑F.k : Int), .int .i64 F.lk, .str F.lb])]))) (branch (decide ((70000 : Int) ≤ (↑F.k : Int))) (Q
 (.exit 0) (fE .nils (f13 i)) (AHeap.mk 7 (fHx n (cs.set (idI i) (CutR.mk (cutI cs i).typ R.k2 R.b2 (cutI cs i).data R.at2 (cutI cs i).id)) (ds.set (idI i) (BoolR.mk R.en)) fv [(6, .cells 70 [.nils,
 .int .i64 sp, .bool F.beg, .int .i64 (↑F.k : Int), .int .i64 F.lk, .str F.lb])]))) (obl (inI64 ((↑F.k : Int) + (1 : Int))) (obl (true && decide (0 < (gEnc R.st R.en R.id R.total R.typ R.k R.lb R.data
 R.sum).length ∧ 1 = 1 ∧ 1 = 1 ∧ 0 < 1 ∧ (gEnc R.st R.en R.id R.total R.typ R.k R.lb R.data R.sum).length ≤ 9223372036854775807 ∧ (gEnc R.st R.en R.id R.total R.typ R.k R.lb R.data R.sum).length * 1 ≤
 140737488355328)) (branch F.beg (branch R.en (Q (.exit 2) (fE (.sl 7 0 1 0 1 none) (f13 i)) (AHeap.mk 9 (fHx n (cs.set (idI i) (CutR.mk (cutI cs i).typ R.k2 R.b2 (cutI cs i).data R.at2 (cutI cs
 i).id)) (ds.set (idI i) (BoolR.mk R.en)) fv [(6, .cells 70 [.sl 8 0 1 0 (gEnc R.st R.en R.id R.total R.typ R.k R.lb R.data R.sum).length none, .int .i64 sp, .bool true, .int .i64 ((↑F.k : Int) + (1 :
 Int)), .int .i64 F.lk, .str F.lb]), (7, .row 33 (intRow .u64) [(↑i : Int) + (1 : Int)] .plain), (8, .row 5 byteRow (gEnc R.st R.en R.id R.total R.typ R.k R.lb R.data R.sum) .plain)]))) (Q .normal (fE
 .nils (f13 i)) (AHeap.mk 8 (fHx n (cs.set (idI i) (CutR.mk (cutI cs i).typ R.k2 R.b2 (cutI cs i).data R.at2 (cutI cs i).id)) (ds.set (idI i) (BoolR.mk R.en)) fv [(6, .cells 70 [.sl 7 0 1 0 (gEnc R.st
 R.en R.id R.total R.typ R.k R.lb R.data R.sum).length none, .int .i64 sp, .bool true, .int .i64 ((↑F.k : Int) + (1 : Int)), .int .i64 F.lk, .str F.lb]), (7, .row 5 byteRow (gEnc R.st R.en R.id R.total
 R.typ R.k R.lb R.data R.sum) .plain)])))) (branch R.st (branch R.en (Q (.exit 2) (fE (.sl 7 0 1 0 1 none) (f13 i)) (AHeap.mk 9 (fHx n (cs.set (idI i) (CutR.mk (cutI cs i).typ R.k2 R.b2 (cutI cs
 i).data R.at2 (cutI cs i).id)) (ds.set (idI i) (BoolR.mk R.en)) fv [(6, .cells 70 [.sl 8 0 1 0 (gEnc R.st R.en R.id R.total R.typ R.k R.lb R.data R.sum).length none, .int .i64 sp, .bool !R.en, .int
 .i64 ((↑F.k : Int) + (1 : Int)), .int .i64 F.lk, .str F.lb]), (7, .row 33 (intRow .u64) [(↑i : Int) + (1 : Int)] .plain), (8, .row 5 byteRow (gEnc R.st R.en R.id R.total R.typ R.k R.lb R.data R.sum)
 .plain)]))) (Q .normal (fE .nils (f13 i)) (AHeap.mk 8 (fHx n (cs.set (idI i) (CutR.mk (cutI cs i).typ R.k2 R.b2 (cutI cs i).data R.at2 (cutI cs i).id)) (ds.set (idI i) (BoolR.mk R.en)) fv [(6, .cells
 70 [.sl 7 0 1 0 (gEnc R.st R.en R.id R.total R.typ R.k R.lb R.data R.sum).length none, .int .i64 sp, .bool !R.en, .int .i64 ((↑F.k : Int) + (1 : Int)), .int .i64 F.lk, .str F.lb]), (7, .row 5 byteRow
 (gEnc R.st R.en R.id R.total R.typ R.k R.lb R.data R.sum) .plain)])))) (branch R.en (Q (.exit 2) (fE (.sl 7 0 1 0 1 none) (f13 i)) (AHeap.mk 9 (fHx n (cs.set (idI i) (CutR.mk (cutI cs i).typ R.k2 R.b2
 (cutI cs i).data R.at2 (cutI cs i).id)) (ds.set (idI i) (BoolR.mk R.en)) fv [(6, .cells 70 [.sl 8 0 1 0 (gEnc R.st R.en R.id R.total R.typ R.k R.lb R.data R.sum).length none, .int .i64 sp, .bool
 false, .int .i64 ((↑F.k : Int) + (1 : Int)), .int .i64 F.lk, .str F.lb]), (7, .row 33 (intRow .u64) [(↑i : Int) + (1 : Int)] .plain), (8, .row 5 byteRow (gEnc R.st R.en R.id R.total R.typ R.k R.lb
 R.data R.sum) .plain)]))) (Q .normal (fE .nils (f13 i)) (AHeap.mk 8 (fHx n (cs.set (idI i) (CutR.mk (cutI cs i).typ R.k2 R.b2 (cutI cs i).data R.at2 (cutI cs i).id)) (ds.set (idI i) (BoolR.mk R.en))
 fv [(6, .cells 70 [.sl 7 0 1 0 (gEnc R.st R.en R.id R.total R.typ R.k R.lb R.data R.sum).length none, .int .i64 sp, .bool false, .int .i64 ((↑F.k : Int) + (1 : Int)), .int .i64 F.lk, .str F.lb]), (7,
 .row 5 byteRow (gEnc R.st R.en R.id R.total R.typ R.k R.lb R.data R.sum) .plain)]))))))))))))))))))) (branch (decide ((0 : Int) < lSize (cutI cs i).k)) (branch (decide ((if lOk (cutI cs i).k (cutI cs
 i).lb = true then (0 : Int) else (2 : Int)) = (0 : Int))) (∀ (R : NextR), nextR (cutI cs i).typ (cutI cs i).k (cutI cs i).lb (cutI cs i).data (cutI cs i).pos (cutI cs i).id (cutI cs i).k (cutI cs
 i).lb (sp - (0 : Int)) F.beg = R → branch (!decide (R.err = (0 : Int))) (branch (!decide (R.err = (0 : Int))) (Q (.exit 0) (fE .nils (f13 i)) (AHeap.mk 7 (fHx n cs ds fv [(6, .cells 70 [.nils, .int
 .i64 sp, .bool F.beg, .int .i64 (↑F.k : Int), .int .i64 (cutI cs i).k, .str (cutI cs i).lb])]))) (branch (decide (sp - (0 : Int) < (3 : Int))) (Q (.exit 0) (fE .nils (f13 i)) (AHeap.mk 7 (fHx n cs ds
 fv [(6, .cells 70 [.nils, .int .i64 sp, .bool F.beg, .int .i64 (↑F.k : Int), .int .i64 (cutI cs i).k, .str (cutI cs i).lb])]))) (branch (decide ((70000 : Int) ≤ (↑F.k : Int))) (Q (.exit 0) (fE .nils
 (f13 i)) (AHeap.mk 7 (fHx n cs ds fv [(6, .cells 70 [.nils, .int .i64 sp, .bool F.beg, .int .i64 (↑F.k : Int), .int .i64 (cutI cs i).k, .str (cutI cs i).lb])]))) (obl (inI64 ((↑F.k : Int) + (1 :
 Int))) (branch F.beg (Q .normal (fE .nils (f13 i)) (AHeap.mk 8 (fHx n cs ds fv [(6, .cells 70 [.sl 7 0 1 0 3 none, .int .i64 sp, .bool true, .int .i64 ((↑F.k : Int) + (1 : Int)), .int .i64 (cutI cs
 i).k, .str (cutI cs i).lb]), (7, .row 5 byteRow [(48 : UInt8), (1 : UInt8), (0 : UInt8)] .plain)]))) (Q .normal (fE .nils (f13 i)) (AHeap.mk 8 (fHx n cs ds fv [(6, .cells 70 [.sl 7 0 1 0 3 none, .int
 .i64 sp, .bool false, .int .i64 ((↑F.k : Int) + (1 : Int)), .int .i64 (cutI cs i).k, .str (cutI cs i).lb]), (7, .row 5 byteRow [(48 : UInt8), (1 : UInt8), (0 : UInt8)] .plain)])))))))) (obl (decide
 ((0 : Int) ≤ idJ i ∧ idJ i < (↑n : Int))) (obl (decide (0 + (idJ i).toNat < cs.length) && true) (obl (decide ((0 : Int) ≤ idJ i ∧ idJ i < (↑n : Int))) (obl (decide (0 + (idJ i).toNat < ds.length) &&
 true) (obl (decide (R.lb.length + R.data.length + R.sum.length ≤ 9223372036854775000)) (branch (!decide (gErr R.st R.en R.id R.total R.typ R.k R.lb R.data R.sum = (0 : Int))) (Q (.exit 0) (fE .nils
 (f13 i)) (AHeap.mk 7 (fHx n (cs.set (idI i) (CutR.mk (cutI cs i).typ R.k2 R.b2 (cutI cs i).data R.at2 (cutI cs i).id)) (ds.set (idI i) (BoolR.mk R.en)) fv [(6, .cells 70 [.nils, .int .i64 sp, .bool
 F.beg, .int .i64 (↑F.k : Int), .int .i64 (cutI cs i).k, .str (cutI cs i).lb])]))) (branch (decide (sp - (0 : Int) < (↑(gEnc R.st R.en R.id R.total R.typ R.k R.lb R.data R.sum).length : Int))) (Q
 (.exit 0) (fE .nils (f13 i)) (AHeap.mk 7 (fHx n (cs.set (idI i) (CutR.mk (cutI cs i).typ R.k2 R.b2 (cutI cs i).data R.at2 (cutI cs i).id)) (ds.set (idI i) (BoolR.mk R.en)) fv [(6, .cells 70 [.nils,
 .int .i64 sp, .bool F.beg, .int .i64 (↑F.k : Int), .int .i64 (cutI cs i).k, .str (cutI cs i).lb])]))) (branch (decide ((70000 : Int) ≤ (↑F.k : Int))) (Q (.exit 0) (fE .nils (f13 i)) (AHeap.mk 7 (fHx n
 (cs.set (idI i) (CutR.mk (cutI cs i).typ R.k2 R.b2 (cutI cs i).data R.at2 (cutI cs i).id)) (ds.set (idI i) (BoolR.mk R.en)) fv [(6, .cells 70 [.nils, .int .i64 sp, .bool F.beg, .int .i64 (↑F.k : Int),
 .int .i64 (cutI cs i).k, .str (cutI cs i).lb])]))) (obl (inI64 ((↑F.k : Int) + (1 : Int))) (obl (true && decide (0 < (gEnc R.st R.en R.id R.total R.typ R.k R.lb R.data R.sum).length ∧ 1 = 1 ∧ 1 = 1 ∧
 0 < 1 ∧ (gEnc R.st R.en R.id R.total R.typ R.k R.lb R.data R.sum).length ≤ 9223372036854775807 ∧ (gEnc R.st R.en R.id R.total R.typ R.k R.lb R.data R.sum).length * 1 ≤ 140737488355328)) (branch F.beg
 (branch R.en (Q (.exit 2) (fE (.sl 7 0 1 0 1 none) (f13 i)) (AHeap.mk 9 (fHx n (cs.set (idI i) (CutR.mk (cutI cs i).typ R.k2 R.b2 (cutI cs i).data R.at2 (cutI cs i).id)) (ds.set (idI i) (BoolR.mk
 R.en)) fv [(6, .cells 70 [.sl 8 0 1 0 (gEnc R.st R.en R.id R.total R.typ R.k R.lb R.data R.sum).length none, .int .i64 sp, .bool true, .int .i64 ((↑F.k : Int) + (1 : Int)), .int .i64 (cutI cs i).k,
 .str (cutI cs i).lb]), (7, .row 33 (intRow .u64) [(↑i : Int) + (1 : Int)] .plain), (8, .row 5 byteRow (gEnc R.st R.en R.id R.total R.typ R.k R.lb R.data R.sum) .plain)]))) (Q .normal (fE .nils (f13
 i)) (AHeap.mk 8 (fHx n (cs.set (idI i) (CutR.mk (cutI cs i).typ R.k2 R.b2 (cutI cs i).data R.at2 (cutI cs i).id)) (ds.set (idI i) (BoolR.mk R.en)) fv [(6, .cells 70 [.sl 7 0 1 0 (gEnc R.st R.en R.id
 R.total R.typ R.k R.lb R.data R.sum).length none, .int .i64 sp, .bool true, .int .i64 ((↑F.k : Int) + (1 : Int)), .int .i64 (cutI cs i).k, .str (cutI cs i).lb]), (7, .row 5 byteRow (gEnc R.st R.en
 R.id R.total R.typ R.k R.lb R.data R.sum) .plain)])))) (branch R.st (branch R.en (Q (.exit 2) (fE (.sl 7 0 1 0 1 none) (f13 i)) (AHeap.mk 9 (fHx n (cs.set (idI i) (CutR.mk (cutI cs i).typ R.k2 R.b2
 (cutI cs i).data R.at2 (cutI cs i).id)) (ds.set (idI i) (BoolR.mk R.en)) fv [(6, .cells 70 [.sl 8 0 1 0 (gEnc R.st R.en R.id R.total R.typ R.k R.lb R.data R.sum).length none, .int .i64 sp, .bool
 !R.en, .int .i64 ((↑F.k : Int) + (1 : Int)), .int .i64 (cutI cs i).k, .str (cutI cs i).lb]), (7, .row 33 (intRow .u64) [(↑i : Int) + (1 : Int)] .plain), (8, .row 5 byteRow (gEnc R.st R.en R.id R.total
 R.typ R.k R.lb R.data R.sum) .plain)]))) (Q .normal (fE .nils (f13 i)) (AHeap.mk 8 (fHx n (cs.set (idI i) (CutR.mk (cutI cs i).typ R.k2 R.b2 (cutI cs i).data R.at2 (cutI cs i).id)) (ds.set (idI i)
 (BoolR.mk R.en)) fv [(6, .cells 70 [.sl 7 0 1 0 (gEnc R.st R.en R.id R.total R.typ R.k R.lb R.data R.sum).length none, .int .i64 sp, .bool !R.en, .int .i64 ((↑F.k : Int) + (1 : Int)), .int .i64 (cutI
 cs i).k, .str (cutI cs i).lb]), (7, .row 5 byteRow (gEnc R.st R.en R.id R.total R.typ R.k R.lb R.data R.sum) .plain)])))) (branch R.en (Q (.exit 2) (fE (.sl 7 0 1 0 1 none) (f13 i)) (AHeap.mk 9 (fHx n
 (cs.set (idI i) (CutR.mk (cutI cs i).typ R.k2 R.b2 (cutI cs i).data R.at2 (cutI cs i).id)) (ds.set (idI i) (BoolR.mk R.en)) fv [(6, .cells 70 [.sl 8 0 1 0 (gEnc R.st R.en R.id R.total R.typ R.k R.lb
 R.data R.sum).length none, .int .i64 sp, .bool false, .int .i64 ((↑F.k : Int) + (1 : Int)), .int .i64 (cutI cs i).k, .str (cutI cs i).lb]), (7, .row 33 (intRow .u64) [(↑i : Int) + (1 : Int)] .plain),
 (8, .row 5 byteRow (gEnc R.st R.en R.id R.total R.typ R.k R.lb R.data R.sum) .plain)]))) (Q .normal (fE .nils (f13 i)) (AHeap.mk 8 (fHx n (cs.set (idI i) (CutR.mk (cutI cs i).typ R.k2 R.b2 (cutI cs
 i).data R.at2 (cutI cs i).id)) (ds.set (idI i) (BoolR.mk R.en)) fv [(6, .cells 70 [.sl 7 0 1 0 (gEnc R.st R.en R.id R.total R.typ R.k R.lb R.data R.sum).length none, .int .i64 sp, .bool false, .int
 .i64 ((↑F.k : Int) + (1 : Int)), .int .i64 (cutI cs i).k, .str (cutI cs i).lb]), (7, .row 5 byteRow (gEnc R.st R.en R.id R.total R.typ R.k R.lb R.data R.sum) .plain)]))))))))))))))))) (∀ (R : NextR),
 nextR (cutI cs i).typ (cutI cs i).k (cutI cs i).lb (cutI cs i).data (cutI cs i).pos (cutI cs i).id (cutI cs i).k (cutI cs i).lb (sp - (0 : Int)) F.beg = R → branch (!decide (R.err = (0 : Int)))
 (branch (!decide (R.err = (0 : Int))) (Q (.exit 0) (fE .nils (f13 i)) (AHeap.mk 7 (fHx n cs ds fv [(6, .cells 70 [.nils, .int .i64 sp, .bool F.beg, .int .i64 (↑F.k : Int), .int .i64 F.lk, .str
 F.lb])]))) (branch (decide (sp - (0 : Int) < (3 : Int))) (Q (.exit 0) (fE .nils (f13 i)) (AHeap.mk 7 (fHx n cs ds fv [(6, .cells 70 [.nils, .int .i64 sp, .bool F.beg, .int .i64 (↑F.k : Int), .int .i64
 F.lk, .str F.lb])]))) (branch (decide ((70000 : Int) ≤ (↑F.k : Int))) (Q (.exit 0) (fE .nils (f13 i)) (AHeap.mk 7 (fHx n cs ds fv [(6, .cells 70 [.nils, .int .i64 sp, .bool F.beg, .int .i64 (↑F.k :
 Int), .int .i64 F.lk, .str F.lb])]))) (obl (inI64 ((↑F.k : Int) + (1 : Int))) (branch F.beg (Q .normal (fE .nils (f13 i)) (AHeap.mk 8 (fHx n cs ds fv [(6, .cells 70 [.sl 7 0 1 0 3 none, .int .i64 sp,
 .bool true, .int .i64 ((↑F.k : Int) + (1 : Int)), .int .i64 F.lk, .str F.lb]), (7, .row 5 byteRow [(48 : UInt8), (1 : UInt8), (0 : UInt8)] .plain)]))) (Q .normal (fE .nils (f13 i)) (AHeap.mk 8 (fHx n
 cs ds fv [(6, .cells 70 [.sl 7 0 1 0 3 none, .int .i64 sp, .bool false, .int .i64 ((↑F.k : Int) + (1 : Int)), .int .i64 F.lk, .str F.lb]), (7, .row 5 byteRow [(48 : UInt8), (1 : UInt8), (0 : UInt8)]
 .plain)])))))))) (obl (decide ((0 : Int) ≤ idJ i ∧ idJ i < (↑n : Int))) (obl (decide (0 + (idJ i).toNat < cs.length) && true) (obl (decide ((0 : Int) ≤ idJ i ∧ idJ i < (↑n : Int))) (obl (decide (0 +
 (idJ i).toNat < ds.length) && true) (obl (decide (R.lb.length + R.data.length + R.sum.length ≤ 9223372036854775000)) (branch (!decide (gErr R.st R.en R.id R.total R.typ R.k R.lb R.data R.sum = (0 :
 Int))) (Q (.exit 0) (fE .nils (f13 i)) (AHeap.mk 7 (fHx n (cs.set (idI i) (CutR.mk (cutI cs i).typ R.k2 R.b2 (cutI cs i).data R.at2 (cutI cs i).id)) (ds.set (idI i) (BoolR.mk R.en)) fv [(6, .cells 70
 [.nils, .int .i64 sp, .bool F.beg, .int .i64 (↑F.k : Int), .int .i64 F.lk, .str F.lb])]))) (branch (decide (sp - (0 : Int) < (↑(gEnc R.st R.en R.id R.total R.typ R.k R.lb R.data R.sum).length : Int)))
 (Q (.exit 0) (fE .nils (f13 i)) (AHeap.mk 7 (fHx n (cs.set (idI i) (CutR.mk (cutI cs i).typ R.k2 R.b2 (cutI cs i).data R.at2 (cutI cs i).id)) (ds.set (idI i) (BoolR.mk R.en)) fv [(6, .cells 70 [.nils,
 .int .i64 sp, .bool F.beg, .int .i64 (↑F.k : Int), .int .i64 F.lk, .str F.lb])]))) (branch (decide ((70000 : Int) ≤ (↑F.k : Int))) (Q (.exit 0) (fE .nils (f13 i)) (AHeap.mk 7 (fHx n (cs.set (idI i)
 (CutR.mk (cutI cs i).typ R.k2 R.b2 (cutI cs i).data R.at2 (cutI cs i).id)) (ds.set (idI i) (BoolR.mk R.en)) fv [(6, .cells 70 [.nils, .int .i64 sp, .bool F.beg, .int .i64 (↑F.k : Int), .int .i64 F.lk,
 .str F.lb])]))) (obl (inI64 ((↑F.k : Int) + (1 : Int))) (obl (true && decide (0 < (gEnc R.st R.en R.id R.total R.typ R.k R.lb R.data R.sum).length ∧ 1 = 1 ∧ 1 = 1 ∧ 0 < 1 ∧ (gEnc R.st R.en R.id
 R.total R.typ R.k R.lb R.data R.sum).length ≤ 9223372036854775807 ∧ (gEnc R.st R.en R.id R.total R.typ R.k R.lb R.data R.sum).length * 1 ≤ 140737488355328)) (branch F.beg (branch R.en (Q (.exit 2) (fE
 (.sl 7 0 1 0 1 none) (f13 i)) (AHeap.mk 9 (fHx n (cs.set (idI i) (CutR.mk (cutI cs i).typ R.k2 R.b2 (cutI cs i).data R.at2 (cutI cs i).id)) (ds.set (idI i) (BoolR.mk R.en)) fv [(6, .cells 70 [.sl 8 0
 1 0 (gEnc R.st R.en R.id R.total R.typ R.k R.lb R.data R.sum).length none, .int .i64 sp, .bool true, .int .i64 ((↑F.k : Int) + (1 : Int)), .int .i64 F.lk, .str F.lb]), (7, .row 33 (intRow .u64) [(↑i :
 Int) + (1 : Int)] .plain), (8, .row 5 byteRow (gEnc R.st R.en R.id R.total R.typ R.k R.lb R.data R.sum) .plain)]))) (Q .normal (fE .nils (f13 i)) (AHeap.mk 8 (fHx n (cs.set (idI i) (CutR.mk (cutI cs
 i).typ R.k2 R.b2 (cutI cs i).data R.at2 (cutI cs i).id)) (ds.set (idI i) (BoolR.mk R.en)) fv [(6, .cells 70 [.sl 7 0 1 0 (gEnc R.st R.en R.id R.total R.typ R.k R.lb R.data R.sum).length none, .int
 .i64 sp, .bool true, .int .i64 ((↑F.k : Int) + (1 : Int)), .int .i64 F.lk, .str F.lb]), (7, .row 5 byteRow (gEnc R.st R.en R.id R.total R.typ R.k R.lb R.data R.sum) .plain)])))) (branch R.st (branch
 R.en (Q (.exit 2) (fE (.sl 7 0 1 0 1 none) (f13 i)) (AHeap.mk 9 (fHx n (cs.set (idI i) (CutR.mk (cutI cs i).typ R.k2 R.b2 (cutI cs i).data R.at2 (cutI cs i).id)) (ds.set (idI i) (BoolR.mk R.en)) fv
 [(6, .cells 70 [.sl 8 0 1 0 (gEnc R.st R.en R.id R.total R.typ R.k R.lb R.data R.sum).length none, .int .i64 sp, .bool !R.en, .int .i64 ((↑F.k : Int) + (1 : Int)), .int .i64 F.lk, .str F.lb]), (7,
 .row 33 (intRow .u64) [(↑i : Int) + (1 : Int)] .plain), (8, .row 5 byteRow (gEnc R.st R.en R.id R.total R.typ R.k R.lb R.data R.sum) .plain)]))) (Q .normal (fE .nils (f13 i)) (AHeap.mk 8 (fHx n
 (cs.set (idI i) (CutR.mk (cutI cs i).typ R.k2 R.b2 (cutI cs i).data R.at2 (cutI cs i).id)) (ds.set (idI i) (BoolR.mk R.en)) fv [(6, .cells 70 [.sl 7 0 1 0 (gEnc R.st R.en R.id R.total R.typ R.k R.lb
 R.data R.sum).length none, .int .i64 sp, .bool !R.en, .int .i64 ((↑F.k : Int) + (1 : Int)), .int .i64 F.lk, .str F.lb]), (7, .row 5 byteRow (gEnc R.st R.en R.id R.total R.typ R.k R.lb R.data R.sum)
 .plain)])))) (branch R.en (Q (.exit 2) (fE (.sl 7 0 1 0 1 none) (f13 i)) (AHeap.mk 9 (fHx n (cs.set (idI i) (CutR.mk (cutI cs i).typ R.k2 R.b2 (cutI cs i).data R.at2 (cutI cs i).id)) (ds.set (idI i)
 (BoolR.mk R.en)) fv [(6, .cells 70 [.sl 8 0 1 0 (gEnc R.st R.en R.id R.total R.typ R.k R.lb R.data R.sum).length none, .int .i64 sp, .bool false, .int .i64 ((↑F.k : Int) + (1 : Int)), .int .i64 F.lk,
 .str F.lb]), (7, .row 33 (intRow .u64) [(↑i : Int) + (1 : Int)] .plain), (8, .row 5 byteRow (gEnc R.st R.en R.id R.total R.typ R.k R.lb R.data R.sum) .plain)]))) (Q .normal (fE .nils (f13 i))
 (AHeap.mk 8 (fHx n (cs.set (idI i) (CutR.mk (cutI cs i).typ R.k2 R.b2 (cutI cs i).data R.at2 (cutI cs i).id)) (ds.set (idI i) (BoolR.mk R.en)) fv [(6, .cells 70 [.sl 7 0 1 0 (gEnc R.st R.en R.id
 R.total R.typ R.k R.lb R.data R.sum).length none, .int .i64 sp, .bool false, .int .i64 ((↑F.k : Int) + (1 : Int)), .int .i64 F.lk, .str F.lb]), (7, .row 5 byteRow (gEnc R.st R.en R.id R.total R.typ
 R.k R.lb R.data R.sum) .plain)])))))))))))))))))) (∀ (R : NextR), nextR (cutI cs i).typ (cutI cs i).k (cutI cs i).lb (cutI cs i).data (cutI cs i).pos (cutI cs i).id (cutI cs i).k (cutI cs i).lb (sp -
 (0 : Int)) F.beg = R → branch (!decide (R.err = (0 : Int))) (branch (!decide (R.err = (0 : Int))) (Q (.exit 0) (fE .nils (f13 i)) (AHeap.mk 7 (fHx n cs ds fv [(6, .cells 70 [.nils, .int .i64 sp, .bool
 F.beg, .int .i64 (↑F.k : Int), .int .i64 F.lk, .str F.lb])]))) (branch (decide (sp - (0 : Int) < (3 : Int))) (Q (.exit 0) (fE .nils (f13 i)) (AHeap.mk 7 (fHx n cs ds fv [(6, .cells 70 [.nils, .int
 .i64 sp, .bool F.beg, .int .i64 (↑F.k : Int), .int .i64 F.lk, .str F.lb])]))) (branch (decide ((70000 : Int) ≤ (↑F.k : Int))) (Q (.exit 0) (fE .nils (f13 i)) (AHeap.mk 7 (fHx n cs ds fv [(6, .cells 70
 [.nils, .int .i64 sp, .bool F.beg, .int .i64 (↑F.k : Int), .int .i64 F.lk, .str F.lb])]))) (obl (inI64 ((↑F.k : Int) + (1 : Int))) (branch F.beg (Q .normal (fE .nils (f13 i)) (AHeap.mk 8 (fHx n cs ds
 fv [(6, .cells 70 [.sl 7 0 1 0 3 none, .int .i64 sp, .bool true, .int .i64 ((↑F.k : Int) + (1 : Int)), .int .i64 F.lk, .str F.lb]), (7, .row 5 byteRow [(48 : UInt8), (1 : UInt8), (0 : UInt8)]
 .plain)]))) (Q .normal (fE .nils (f13 i)) (AHeap.mk 8 (fHx n cs ds fv [(6, .cells 70 [.sl 7 0 1 0 3 none, .int .i64 sp, .bool false, .int .i64 ((↑F.k : Int) + (1 : Int)), .int .i64 F.lk, .str F.lb]),
 (7, .row 5 byteRow [(48 : UInt8), (1 : UInt8), (0 : UInt8)] .plain)])))))))) (obl (decide ((0 : Int) ≤ idJ i ∧ idJ i < (↑n : Int))) (obl (decide (0 + (idJ i).toNat < cs.length) && true) (obl (decide
 ((0 : Int) ≤ idJ i ∧ idJ i < (↑n : Int))) (obl (decide (0 + (idJ i).toNat < ds.length) && true) (obl (decide (R.lb.length + R.data.length + R.sum.length ≤ 9223372036854775000)) (branch (!decide (gErr
 R.st R.en R.id R.total R.typ R.k R.lb R.data R.sum = (0 : Int))) (Q (.exit 0) (fE .nils (f13 i)) (AHeap.mk 7 (fHx n (cs.set (idI i) (CutR.mk (cutI cs i).typ R.k2 R.b2 (cutI cs i).data R.at2 (cutI cs
 i).id)) (ds.set (idI i) (BoolR.mk R.en)) fv [(6, .cells 70 [.nils, .int .i64 sp, .bool F.beg, .int .i64 (↑F.k : Int), .int .i64 F.lk, .str F.lb])]))) (branch (decide (sp - (0 : Int) < (↑(gEnc R.st
 R.en R.id R.total R.typ R.k R.lb R.data R.sum).length : Int))) (Q (.exit 0) (fE .nils (f13 i)) (AHeap.mk 7 (fHx n (cs.set (idI i) (CutR.mk (cutI cs i).typ R.k2 R.b2 (cutI cs i).data R.at2 (cutI cs
 i).id)) (ds.set (idI i) (BoolR.mk R.en)) fv [(6, .cells 70 [.nils, .int .i64 sp, .bool F.beg, .int .i64 (↑F.k : Int), .int .i64 F.lk, .str F.lb])]))) (branch (decide ((70000 : Int) ≤ (↑F.k : Int))) (Q
 (.exit 0) (fE .nils (f13 i)) (AHeap.mk 7 (fHx n (cs.set (idI i) (CutR.mk (cutI cs i).typ R.k2 R.b2 (cutI cs i).data R.at2 (cutI cs i).id)) (ds.set (idI i) (BoolR.mk R.en)) fv [(6, .cells 70 [.nils,
 .int .i64 sp, .bool F.beg, .int .i64 (↑F.k : Int), .int .i64 F.lk, .str F.lb])]))) (obl (inI64 ((↑F.k : Int) + (1 : Int))) (obl (true && decide (0 < (gEnc R.st R.en R.id R.total R.typ R.k R.lb R.data
 R.sum).length ∧ 1 = 1 ∧ 1 = 1 ∧ 0 < 1 ∧ (gEnc R.st R.en R.id R.total R.typ R.k R.lb R.data R.sum).length ≤ 9223372036854775807 ∧ (gEnc R.st R.en R.id R.total R.typ R.k R.lb R.data R.sum).length * 1 ≤
 140737488355328)) (branch F.beg (branch R.en (Q (.exit 2) (fE (.sl 7 0 1 0 1 none) (f13 i)) (AHeap.mk 9 (fHx n (cs.set (idI i) (CutR.mk (cutI cs i).typ R.k2 R.b2 (cutI cs i).data R.at2 (cutI cs
 i).id)) (ds.set (idI i) (BoolR.mk R.en)) fv [(6, .cells 70 [.sl 8 0 1 0 (gEnc R.st R.en R.id R.total R.typ R.k R.lb R.data R.sum).length none, .int .i64 sp, .bool true, .int .i64 ((↑F.k : Int) + (1 :
 Int)), .int .i64 F.lk, .str F.lb]), (7, .row 33 (intRow .u64) [(↑i : Int) + (1 : Int)] .plain), (8, .row 5 byteRow (gEnc R.st R.en R.id R.total R.typ R.k R.lb R.data R.sum) .plain)]))) (Q .normal (fE
 .nils (f13 i)) (AHeap.mk 8 (fHx n (cs.set (idI i) (CutR.mk (cutI cs i).typ R.k2 R.b2 (cutI cs i).data R.at2 (cutI cs i).id)) (ds.set (idI i) (BoolR.mk R.en)) fv [(6, .cells 70 [.sl 7 0 1 0 (gEnc R.st
 R.en R.id R.total R.typ R.k R.lb R.data R.sum).length none, .int .i64 sp, .bool true, .int .i64 ((↑F.k : Int) + (1 : Int)), .int .i64 F.lk, .str F.lb]), (7, .row 5 byteRow (gEnc R.st R.en R.id R.total
 R.typ R.k R.lb R.data R.sum) .plain)])))) (branch R.st (branch R.en (Q (.exit 2) (fE (.sl 7 0 1 0 1 none) (f13 i)) (AHeap.mk 9 (fHx n (cs.set (idI i) (CutR.mk (cutI cs i).typ R.k2 R.b2 (cutI cs
 i).data R.at2 (cutI cs i).id)) (ds.set (idI i) (BoolR.mk R.en)) fv [(6, .cells 70 [.sl 8 0 1 0 (gEnc R.st R.en R.id R.total R.typ R.k R.lb R.data R.sum).length none, .int .i64 sp, .bool !R.en, .int
 .i64 ((↑F.k : Int) + (1 : Int)), .int .i64 F.lk, .str F.lb]), (7, .row 33 (intRow .u64) [(↑i : Int) + (1 : Int)] .plain), (8, .row 5 byteRow (gEnc R.st R.en R.id R.total R.typ R.k R.lb R.data R.sum)
 .plain)]))) (Q .normal (fE .nils (f13 i)) (AHeap.mk 8 (fHx n (cs.set (idI i) (CutR.mk (cutI cs i).typ R.k2 R.b2 (cutI cs i).data R.at2 (cutI cs i).id)) (ds.set (idI i) (BoolR.mk R.en)) fv [(6, .cells
 70 [.sl 7 0 1 0 (gEnc R.st R.en R.id R.total R.typ R.k R.lb R.data R.sum).length none, .int .i64 sp, .bool !R.en, .int .i64 ((↑F.k : Int) + (1 : Int)), .int .i64 F.lk, .str F.lb]), (7, .row 5 byteRow
 (gEnc R.st R.en R.id R.total R.typ R.k R.lb R.data R.sum) .plain)])))) (branch R.en (Q (.exit 2) (fE (.sl 7 0 1 0 1 none) (f13 i)) (AHeap.mk 9 (fHx n (cs.set (idI i) (CutR.mk (cutI cs i).typ R.k2 R.b2
 (cutI cs i).data R.at2 (cutI cs i).id)) (ds.set (idI i) (BoolR.mk R.en)) fv [(6, .cells 70 [.sl 8 0 1 0 (gEnc R.st R.en R.id R.total R.typ R.k R.lb R.data R.sum).length none, .int .i64 sp, .bool
 false, .int .i64 ((↑F.k : Int) + (1 : Int)), .int .i64 F.lk, .str F.lb]), (7, .row 33 (intRow .u64) [(↑i : Int) + (1 : Int)] .plain), (8, .row 5 byteRow (gEnc R.st R.en R.id R.total R.typ R.k R.lb
 R.data R.sum) .plain)]))) (Q .normal (fE .nils (f13 i)) (AHeap.mk 8 (fHx n (cs.set (idI i) (CutR.mk (cutI cs i).typ R.k2 R.b2 (cutI cs i).data R.at2 (cutI cs i).id)) (ds.set (idI i) (BoolR.mk R.en))
 fv [(6, .cells 70 [.sl 7 0 1 0 (gEnc R.st R.en R.id R.total R.typ R.k R.lb R.data R.sum).length none, .int .i64 sp, .bool false, .int .i64 ((↑F.k : Int) + (1 : Int)), .int .i64 F.lk, .str F.lb]), (7,
 .row 5 byteRow (gEnc R.st R.en R.id R.total R.typ R.k R.lb R.data R.sum) .plain)]))))))))))))))))))) (∀ (R : NextR), nextR (cutI cs i).typ (cutI cs i).k (cutI cs i).lb (cutI cs i).data (cutI cs i).pos
 (cutI cs i).id (cutI cs i).k (cutI cs i).lb (sp - (0 : Int)) F.beg = R → branch (!decide (R.err = (0 : Int))) (branch (!decide (R.err = (0 : Int))) (Q (.exit 0) (fE .nils (f13 i)) (AHeap.mk 7 (fHx n
 cs ds fv [(6, .cells 70 [.nils, .int .i64 sp, .bool F.beg, .int .i64 (↑F.k : Int), .int .i64 F.lk, .str F.lb])]))) (branch (decide (sp - (0 : Int) < (3 : Int))) (Q (.exit 0) (fE .nils (f13 i))
 (AHeap.mk 7 (fHx n cs ds fv [(6, .cells 70 [.nils, .int .i64 sp, .bool F.beg, .int .i64 (↑F.k : Int), .int .i64 F.lk, .str F.lb])]))) (branch (decide ((70000 : Int) ≤ (↑F.k : Int))) (Q (.exit 0) (fE
 .nils (f13 i)) (AHeap.mk 7 (fHx n cs ds fv [(6, .cells 70 [.nils, .int .i64 sp, .bool F.beg, .int .i64 (↑F.k : Int), .int .i64 F.lk, .str F.lb])]))) (obl (inI64 ((↑F.k : Int) + (1 : Int))) (branch
 F.beg (Q .normal (fE .nils (f13 i)) (AHeap.mk 8 (fHx n cs ds fv [(6, .cells 70 [.sl 7 0 1 0 3 none, .int .i64 sp, .bool true, .int .i64 ((↑F.k : Int) + (1 : Int)), .int .i64 F.lk, .str F.lb]), (7,
 .row 5 byteRow [(48 : UInt8), (1 : UInt8), (0 : UInt8)] .plain)]))) (Q .normal (fE .nils (f13 i)) (AHeap.mk 8 (fHx n cs ds fv [(6, .cells 70 [.sl 7 0 1 0 3 none, .int .i64 sp, .bool false, .int .i64
 ((↑F.k : Int) + (1 : Int)), .int .i64 F.lk, .str F.lb]), (7, .row 5 byteRow [(48 : UInt8), (1 : UInt8), (0 : UInt8)] .plain)])))))))) (obl (decide ((0 : Int) ≤ idJ i ∧ idJ i < (↑n : Int))) (obl
 (decide (0 + (idJ i).toNat < cs.length) && true) (obl (decide ((0 : Int) ≤ idJ i ∧ idJ i < (↑n : Int))) (obl (decide (0 + (idJ i).toNat < ds.length) && true) (obl (decide (R.lb.length + R.data.length
 + R.sum.length ≤ 9223372036854775000)) (branch (!decide (gErr R.st R.en R.id R.total R.typ R.k R.lb R.data R.sum = (0 : Int))) (Q (.exit 0) (fE .nils (f13 i)) (AHeap.mk 7 (fHx n (cs.set (idI i)
 (CutR.mk (cutI cs i).typ R.k2 R.b2 (cutI cs i).data R.at2 (cutI cs i).id)) (ds.set (idI i) (BoolR.mk R.en)) fv [(6, .cells 70 [.nils, .int .i64 sp, .bool F.beg, .int .i64 (↑F.k : Int), .int .i64 F.lk,
 .str F.lb])]))) (branch (decide (sp - (0 : Int) < (↑(gEnc R.st R.en R.id R.total R.typ R.k R.lb R.data R.sum).length : Int))) (Q (.exit 0) (fE .nils (f13 i)) (AHeap.mk 7 (fHx n (cs.set (idI i)
 (CutR.mk (cutI cs i).typ R.k2 R.b2 (cutI cs i).data R.at2 (cutI cs i).id)) (ds.set (idI i) (BoolR.mk R.en)) fv [(6, .cells 70 [.nils, .int .i64 sp, .bool F.beg, .int .i64 (↑F.k : Int), .int .i64 F.lk,
 .str F.lb])]))) (branch (decide ((70000 : Int) ≤ (↑F.k : Int))) (Q (.exit 0) (fE .nils (f13 i)) (AHeap.mk 7 (fHx n (cs.set (idI i) (CutR.mk (cutI cs i).typ R.k2 R.b2 (cutI cs i).data R.at2 (cutI cs
 i).id)) (ds.set (idI i) (BoolR.mk R.en)) fv [(6, .cells 70 [.nils, .int .i64 sp, .bool F.beg, .int .i64 (↑F.k : Int), .int .i64 F.lk, .str F.lb])]))) (obl (inI64 ((↑F.k : Int) + (1 : Int))) (obl (true
 && decide (0 < (gEnc R.st R.en R.id R.total R.typ R.k R.lb R.data R.sum).length ∧ 1 = 1 ∧ 1 = 1 ∧ 0 < 1 ∧ (gEnc R.st R.en R.id R.total R.typ R.k R.lb R.data R.sum).length ≤ 9223372036854775807 ∧ (gEnc
 R.st R.en R.id R.total R.typ R.k R.lb R.data R.sum).length * 1 ≤ 140737488355328)) (branch F.beg (branch R.en (Q (.exit 2) (fE (.sl 7 0 1 0 1 none) (f13 i)) (AHeap.mk 9 (fHx n (cs.set (idI i) (CutR.mk
 (cutI cs i).typ R.k2 R.b2 (cutI cs i).data R.at2 (cutI cs i).id)) (ds.set (idI i) (BoolR.mk R.en)) fv [(6, .cells 70 [.sl 8 0 1 0 (gEnc R.st R.en R.id R.total R.typ R.k R.lb R.data R.sum).length none,
 .int .i64 sp, .bool true, .int .i64 ((↑F.k : Int) + (1 : Int)), .int .i64 F.lk, .str F.lb]), (7, .row 33 (intRow .u64) [(↑i : Int) + (1 : Int)] .plain), (8, .row 5 byteRow (gEnc R.st R.en R.id R.total
 R.typ R.k R.lb R.data R.sum) .plain)]))) (Q .normal (fE .nils (f13 i)) (AHeap.mk 8 (fHx n (cs.set (idI i) (CutR.mk (cutI cs i).typ R.k2 R.b2 (cutI cs i).data R.at2 (cutI cs i).id)) (ds.set (idI i)
 (BoolR.mk R.en)) fv [(6, .cells 70 [.sl 7 0 1 0 (gEnc R.st R.en R.id R.total R.typ R.k R.lb R.data R.sum).length none, .int .i64 sp, .bool true, .int .i64 ((↑F.k : Int) + (1 : Int)), .int .i64 F.lk,
 .str F.lb]), (7, .row 5 byteRow (gEnc R.st R.en R.id R.total R.typ R.k R.lb R.data R.sum) .plain)])))) (branch R.st (branch R.en (Q (.exit 2) (fE (.sl 7 0 1 0 1 none) (f13 i)) (AHeap.mk 9 (fHx n
 (cs.set (idI i) (CutR.mk (cutI cs i).typ R.k2 R.b2 (cutI cs i).data R.at2 (cutI cs i).id)) (ds.set (idI i) (BoolR.mk R.en)) fv [(6, .cells 70 [.sl 8 0 1 0 (gEnc R.st R.en R.id R.total R.typ R.k R.lb
 R.data R.sum).length none, .int .i64 sp, .bool !R.en, .int .i64 ((↑F.k : Int) + (1 : Int)), .int .i64 F.lk, .str F.lb]), (7, .row 33 (intRow .u64) [(↑i : Int) + (1 : Int)] .plain), (8, .row 5 byteRow
 (gEnc R.st R.en R.id R.total R.typ R.k R.lb R.data R.sum) .plain)]))) (Q .normal (fE .nils (f13 i)) (AHeap.mk 8 (fHx n (cs.set (idI i) (CutR.mk (cutI cs i).typ R.k2 R.b2 (cutI cs i).data R.at2 (cutI
 cs i).id)) (ds.set (idI i) (BoolR.mk R.en)) fv [(6, .cells 70 [.sl 7 0 1 0 (gEnc R.st R.en R.id R.total R.typ R.k R.lb R.data R.sum).length none, .int .i64 sp, .bool !R.en, .int .i64 ((↑F.k : Int) +
 (1 : Int)), .int .i64 F.lk, .str F.lb]), (7, .row 5 byteRow (gEnc R.st R.en R.id R.total R.typ R.k R.lb R.data R.sum) .plain)])))) (branch R.en (Q (.exit 2) (fE (.sl 7 0 1 0 1 none) (f13 i)) (AHeap.mk
 9 (fHx n (cs.set (idI i) (CutR.mk (cutI cs i).typ R.k2 R.b2 (cutI cs i).data R.at2 (cutI cs i).id)) (ds.set (idI i) (BoolR.mk R.en)) fv [(6, .cells 70 [.sl 8 0 1 0 (gEnc R.st R.en R.id R.total R.typ
 R.k R.lb R.data R.sum).length none, .int .i64 sp, .bool false, .int .i64 ((↑F.k : Int) + (1 : Int)), .int .i64 F.lk, .str F.lb]), (7, .row 33 (intRow .u64) [(↑i : Int) + (1 : Int)] .plain), (8, .row 5
 byteRow (gEnc R.st R.en R.id R.total R.typ R.k R.lb R.data R.sum) .plain)]))) (Q .normal (fE .nils (f13 i)) (AHeap.mk 8 (fHx n (cs.set (idI i) (CutR.mk (cutI cs i).typ R.k2 R.b2 (cutI cs i).data R.at2
 (cutI cs i).id)) (ds.set (idI i) (BoolR.mk R.en)) fv [(6, .cells 70 [.sl 7 0 1 0 (gEnc R.st R.en R.id R.total R.typ R.k R.lb R.data R.sum).length none, .int .i64 sp, .bool false, .int .i64 ((↑F.k :
 Int) + (1 : Int)), .int .i64 F.lk, .str F.lb]), (7, .row 5 byteRow (gEnc R.st R.en R.id R.total R.typ R.k R.lb R.data R.sum) .plain)])))))))))))))))))))))))))) := by kernel_rfl
end Go.Proofs.Ytjacnjecggedhaa
namespace Go.Proofs.Ytjacnjecggedhaa
set_option linter.unusedVariables false
set_option linter.unusedSimpArgs false
open Go.RowKit Ev
set_option maxRecDepth 100000 in
theorem g_00 (H0 : AHeap) (hH0 : H0.next ≤ 3) (n : Nat) (sp : Int) (cs : List CutR) (ds : List BoolR) (fv : Int) (F : FSt) (i : Nat) (Q : AExit → Env → AHeap → Prop)
    (hn : i < n) (hcs : cs.length = n) (hds : ds.length = n) (hn30 : n ≤ 30) (hd : (ds.getD i ⟨false⟩).b = false) (hsp : sp ≤ 7300) (hL : (F.L.length : Int) ≤ sp) (hk : 2 * F.k ≤ F.L.length) (hc : CSm (cs.getD i noCut)) (hF : F.L = [])
    (hfail : ∀ (cs' : List CutR) (ds' : List BoolR) (F' : FSt), F'.L = F.L → ¬ OkR sp F (stepR sp F (cs.getD i noCut)) → Q (.exit 0) (g00 n sp cs' ds' fv F' (f13 i)).1 (g00 n sp cs' ds' fv F' (f13 i)).2)
    (hlast : ∀ (R : NextR) (F' : FSt), stepR sp F (cs.getD i noCut) = R → OkR sp F R → R.en = true → F' = stepF F (cs.getD i noCut) R → Q (.exit 2) (g11 n sp (cs.set i (stepC (cs.getD i noCut) R)) (ds.set i ⟨R.en⟩) fv F' [(i : Int) + 1] (f13 i)).1 (g11 n sp (cs.set i (stepC (cs.getD i noCut) R)) (ds.set i ⟨R.en⟩) fv F' [(i : Int) + 1] (f13 i)).2)
    (hnorm : ∀ (R : NextR) (F' : FSt), stepR sp F (cs.getD i noCut) = R → OkR sp F R → R.en = false → F' = stepF F (cs.getD i noCut) R → Q .normal (g10 n sp (cs.set i (stepC (cs.getD i noCut) R)) (ds.set i ⟨R.en⟩) fv F' (f13 i)).1 (g10 n sp (cs.set i (stepC (cs.getD i noCut) R)) (ds.set i ⟨R.en⟩) fv F' (f13 i)).2) :
    Gd (TX2.ctx Try.prog) 9 H0 fillL Q (g00 n sp cs ds fv F (f13 i)).1 (g00 n sp cs ds fv F (f13 i)).2 := by
  refine Gd.walkC TX2ok.ctx 3 ts13 hH0 (inFn_at TX2ok.ctx (fn := Try.f9) (by kernel_rfl) (by kernel_rfl) [true, false, true, true, true, true, true, false, true, false, false, true, false, false, false, false]) (Eq.mpr (w_fl_00 n sp cs ds fv F i _) ?_)
  have idx : 0 + (i : Int).toNat = i := by omega
  have hi6 : i < 1000000 := by omega
  rw [idJ_eq hi6, idx, cutI_eq hi6, idI_eq hi6]
  have e0 : sp - (F.L.length : Int) = sp - 0 := by rw [hF]; rfl
  refine obl_int (by omega) ((twice_iff _).2 ?_)
  refine br_dec (fun h => absurd h (by omega)) (fun _ => ?_)
  refine obl_dec (by omega) (obl_dec (by omega) ?_)
  refine br_mk (fun h => by rw [hd] at h; cases h) (fun _ => ?_)
  refine obl_dec (by omega) (obl_dec (by omega) ?_)
  generalize hce : cs.getD i noCut = c
  have hce' : cs.getD i noCut = c := hce
  rw [hce'] at hc
  simp only [hce'] at hlast hnorm hfail
  refine br_dec (fun hp => ?_) (fun hp => ?_)
  · refine br_mk (fun hb0 => ?_) (fun hb0 => ?_)
    · have hb0 : F.lb ≠ [] := by simpa using hb0
      refine br_mk (fun hq => ?_) (fun hq => ?_)
      · have hq : F.lk = c.k ∧ F.lb = c.lb := by simpa using hq
        intro R hR
        have q : labOf F c = (3, []) := by unfold labOf memL; rw [if_pos hp, if_pos ⟨hb0, hq.1, hq.2⟩]
        have hM : memOf F c = (F.lk, F.lb) := by unfold memOf memK; rw [if_pos hp, if_pos ⟨hb0, hq.1, hq.2⟩]
        have hR' : stepR sp F c = R := by unfold stepR; rw [q, e0]; exact hR
        have hsm := stepR_small hR' hc
        refine br_mk (fun he => br_mk (fun _ => hfail cs ds ⟨F.L, F.beg, F.k, F.lk, F.lb⟩ rfl (fun hk => by rw [hR'] at hk; rw [hk.err] at he; cases he)) (fun h2 => by rw [he] at h2; cases h2)) (fun he => ?_)
        have he : R.err = 0 := by simpa using he
        refine obl_dec (by omega) (obl_and (by omega) rfl (obl_dec (by omega) (obl_and (by omega) rfl (obl_dec hsm.1 ?_))))
        refine br_mk (fun hg => hfail (cs.set i (stepC c R)) (ds.set i ⟨R.en⟩) ⟨F.L, F.beg, F.k, F.lk, F.lb⟩ rfl (fun hk => by rw [hR'] at hk; have h0 : (!decide (errR R = 0)) = true := hg; rw [hk.enc] at h0; cases h0)) (fun hg => ?_)
        have hg : errR R = 0 := by simpa [errR] using hg
        refine br_dec (fun hs => hfail (cs.set i (stepC c R)) (ds.set i ⟨R.en⟩) ⟨F.L, F.beg, F.k, F.lk, F.lb⟩ rfl (fun hk => by rw [hR'] at hk; have h0 : sp - 0 < ((encR R).length : Int) := hs; have h1 := hk.len; rw [e0] at h1; omega)) (fun hs => ?_)
        have hs : ¬ (sp - (F.L.length : Int) < ((encR R).length : Int)) := by rw [e0]; exact hs
        have hok : OkR sp F R := ⟨he, hg, by omega⟩
        have t2 := encR_len hg
        refine br_dec (fun h => absurd h (by omega)) (fun _ => ?_)
        have q0 : 0 < (encR R).length := by omega
        have q1 : (encR R).length ≤ 9223372036854775807 := by omega
        have q2 : (encR R).length * 1 ≤ 140737488355328 := by omega
        refine obl_int (by omega) (obl_tt (decide_eq_true ⟨q0, rfl, rfl, Nat.one_pos, q1, q2⟩) ?_)
        refine br_mk (fun hb => br_mk (fun h => hlast R ⟨encR R, true, F.k + 1, F.lk, F.lb⟩ hR' hok h (by unfold stepF; rw [hM, hb, hF]; rfl)) (fun h => hnorm R ⟨encR R, true, F.k + 1, F.lk, F.lb⟩ hR' hok h (by unfold stepF; rw [hM, hb, hF]; rfl))) (fun hb => br_mk (fun hst => br_mk (fun h => hlast R ⟨encR R, !R.en, F.k + 1, F.lk, F.lb⟩ hR' hok h (by unfold stepF; rw [hM, hb, hst, hF]; rfl)) (fun h => hnorm R ⟨encR R, !R.en, F.k + 1, F.lk, F.lb⟩ hR' hok h (by unfold stepF; rw [hM, hb, hst, hF]; rfl))) (fun hst => br_mk (fun h => hlast R ⟨encR R, false, F.k + 1, F.lk, F.lb⟩ hR' hok h (by unfold stepF; rw [hM, hb, hst, hF]; rfl)) (fun h => hnorm R ⟨encR R, false, F.k + 1, F.lk, F.lb⟩ hR' hok h (by unfold stepF; rw [hM, hb, hst, hF]; rfl))))
      · have hne : ¬ (F.lb ≠ [] ∧ F.lk = c.k ∧ F.lb = c.lb) := by rintro ⟨_, h1, h2⟩; rw [decide_eq_true h1, decide_eq_true h2] at hq; cases hq
        refine br_dec (fun hs0 => br_dec (fun ho => ?_) (fun ho => ?_)) (fun hs0 => ?_)
        · have ho : lOk c.k c.lb = true := by by_cases h : lOk c.k c.lb = true; exact h; rw [if_neg h] at ho; exact absurd ho (by decide)
          intro R hR
          have q : labOf F c = (c.k, c.lb) := by unfold labOf memL; rw [if_pos hp, if_neg hne]
          have hM : memOf F c = (c.k, c.lb) := by unfold memOf memK; rw [if_pos hp, if_neg hne, if_pos ⟨hs0, ho⟩]
          have hR' : stepR sp F c = R := by unfold stepR; rw [q, e0]; exact hR
          have hsm := stepR_small hR' hc
          refine br_mk (fun he => br_mk (fun _ => hfail cs ds ⟨F.L, F.beg, F.k, c.k, c.lb⟩ rfl (fun hk => by rw [hR'] at hk; rw [hk.err] at he; cases he)) (fun h2 => by rw [he] at h2; cases h2)) (fun he => ?_)
          have he : R.err = 0 := by simpa using he
          refine obl_dec (by omega) (obl_and (by omega) rfl (obl_dec (by omega) (obl_and (by omega) rfl (obl_dec hsm.1 ?_))))
          refine br_mk (fun hg => hfail (cs.set i (stepC c R)) (ds.set i ⟨R.en⟩) ⟨F.L, F.beg, F.k, c.k, c.lb⟩ rfl (fun hk => by rw [hR'] at hk; have h0 : (!decide (errR R = 0)) = true := hg; rw [hk.enc] at h0; cases h0)) (fun hg => ?_)
          have hg : errR R = 0 := by simpa [errR] using hg
          refine br_dec (fun hs => hfail (cs.set i (stepC c R)) (ds.set i ⟨R.en⟩) ⟨F.L, F.beg, F.k, c.k, c.lb⟩ rfl (fun hk => by rw [hR'] at hk; have h0 : sp - 0 < ((encR R).length : Int) := hs; have h1 := hk.len; rw [e0] at h1; omega)) (fun hs => ?_)
          have hs : ¬ (sp - (F.L.length : Int) < ((encR R).length : Int)) := by rw [e0]; exact hs
          have hok : OkR sp F R := ⟨he, hg, by omega⟩
          have t2 := encR_len hg
          refine br_dec (fun h => absurd h (by omega)) (fun _ => ?_)
          have q0 : 0 < (encR R).length := by omega
          have q1 : (encR R).length ≤ 9223372036854775807 := by omega
          have q2 : (encR R).length * 1 ≤ 140737488355328 := by omega
          refine obl_int (by omega) (obl_tt (decide_eq_true ⟨q0, rfl, rfl, Nat.one_pos, q1, q2⟩) ?_)
          refine br_mk (fun hb => br_mk (fun h => hlast R ⟨encR R, true, F.k + 1, c.k, c.lb⟩ hR' hok h (by unfold stepF; rw [hM, hb, hF]; rfl)) (fun h => hnorm R ⟨encR R, true, F.k + 1, c.k, c.lb⟩ hR' hok h (by unfold stepF; rw [hM, hb, hF]; rfl))) (fun hb => br_mk (fun hst => br_mk (fun h => hlast R ⟨encR R, !R.en, F.k + 1, c.k, c.lb⟩ hR' hok h (by unfold stepF; rw [hM, hb, hst, hF]; rfl)) (fun h => hnorm R ⟨encR R, !R.en, F.k + 1, c.k, c.lb⟩ hR' hok h (by unfold stepF; rw [hM, hb, hst, hF]; rfl))) (fun hst => br_mk (fun h => hlast R ⟨encR R, false, F.k + 1, c.k, c.lb⟩ hR' hok h (by unfold stepF; rw [hM, hb, hst, hF]; rfl)) (fun h => hnorm R ⟨encR R, false, F.k + 1, c.k, c.lb⟩ hR' hok h (by unfold stepF; rw [hM, hb, hst, hF]; rfl))))
        · have ho : ¬ lOk c.k c.lb = true := fun h => by rw [if_pos h] at ho; exact ho rfl
          intro R hR
          have q : labOf F c = (c.k, c.lb) := by unfold labOf memL; rw [if_pos hp, if_neg hne]
          have hM : memOf F c = (F.lk, F.lb) := by unfold memOf memK; rw [if_pos hp, if_neg hne, if_neg (fun h => ho h.2)]
          have hR' : stepR sp F c = R := by unfold stepR; rw [q, e0]; exact hR
          have hsm := stepR_small hR' hc
          refine br_mk (fun he => br_mk (fun _ => hfail cs ds ⟨F.L, F.beg, F.k, F.lk, F.lb⟩ rfl (fun hk => by rw [hR'] at hk; rw [hk.err] at he; cases he)) (fun h2 => by rw [he] at h2; cases h2)) (fun he => ?_)
          have he : R.err = 0 := by simpa using he
          refine obl_dec (by omega) (obl_and (by omega) rfl (obl_dec (by omega) (obl_and (by omega) rfl (obl_dec hsm.1 ?_))))
          refine br_mk (fun hg => hfail (cs.set i (stepC c R)) (ds.set i ⟨R.en⟩) ⟨F.L, F.beg, F.k, F.lk, F.lb⟩ rfl (fun hk => by rw [hR'] at hk; have h0 : (!decide (errR R = 0)) = true := hg; rw [hk.enc] at h0; cases h0)) (fun hg => ?_)
          have hg : errR R = 0 := by simpa [errR] using hg
          refine br_dec (fun hs => hfail (cs.set i (stepC c R)) (ds.set i ⟨R.en⟩) ⟨F.L, F.beg, F.k, F.lk, F.lb⟩ rfl (fun hk => by rw [hR'] at hk; have h0 : sp - 0 < ((encR R).length : Int) := hs; have h1 := hk.len; rw [e0] at h1; omega)) (fun hs => ?_)
          have hs : ¬ (sp - (F.L.length : Int) < ((encR R).length : Int)) := by rw [e0]; exact hs
          have hok : OkR sp F R := ⟨he, hg, by omega⟩
          have t2 := encR_len hg
          refine br_dec (fun h => absurd h (by omega)) (fun _ => ?_)
          have q0 : 0 < (encR R).length := by omega
          have q1 : (encR R).length ≤ 9223372036854775807 := by omega
          have q2 : (encR R).length * 1 ≤ 140737488355328 := by omega
          refine obl_int (by omega) (obl_tt (decide_eq_true ⟨q0, rfl, rfl, Nat.one_pos, q1, q2⟩) ?_)
          refine br_mk (fun hb => br_mk (fun h => hlast R ⟨encR R, true, F.k + 1, F.lk, F.lb⟩ hR' hok h (by unfold stepF; rw [hM, hb, hF]; rfl)) (fun h => hnorm R ⟨encR R, true, F.k + 1, F.lk, F.lb⟩ hR' hok h (by unfold stepF; rw [hM, hb, hF]; rfl))) (fun hb => br_mk (fun hst => br_mk (fun h => hlast R ⟨encR R, !R.en, F.k + 1, F.lk, F.lb⟩ hR' hok h (by unfold stepF; rw [hM, hb, hst, hF]; rfl)) (fun h => hnorm R ⟨encR R, !R.en, F.k + 1, F.lk, F.lb⟩ hR' hok h (by unfold stepF; rw [hM, hb, hst, hF]; rfl))) (fun hst => br_mk (fun h => hlast R ⟨encR R, false, F.k + 1, F.lk, F.lb⟩ hR' hok h (by unfold stepF; rw [hM, hb, hst, hF]; rfl)) (fun h => hnorm R ⟨encR R, false, F.k + 1, F.lk, F.lb⟩ hR' hok h (by unfold stepF; rw [hM, hb, hst, hF]; rfl))))
        · skip
          intro R hR
          have q : labOf F c = (c.k, c.lb) := by unfold labOf memL; rw [if_pos hp, if_neg hne]
          have hM : memOf F c = (F.lk, F.lb) := by unfold memOf memK; rw [if_pos hp, if_neg hne, if_neg (fun h => hs0 h.1)]
          have hR' : stepR sp F c = R := by unfold stepR; rw [q, e0]; exact hR
          have hsm := stepR_small hR' hc
          refine br_mk (fun he => br_mk (fun _ => hfail cs ds ⟨F.L, F.beg, F.k, F.lk, F.lb⟩ rfl (fun hk => by rw [hR'] at hk; rw [hk.err] at he; cases he)) (fun h2 => by rw [he] at h2; cases h2)) (fun he => ?_)
          have he : R.err = 0 := by simpa using he
          refine obl_dec (by omega) (obl_and (by omega) rfl (obl_dec (by omega) (obl_and (by omega) rfl (obl_dec hsm.1 ?_))))
          refine br_mk (fun hg => hfail (cs.set i (stepC c R)) (ds.set i ⟨R.en⟩) ⟨F.L, F.beg, F.k, F.lk, F.lb⟩ rfl (fun hk => by rw [hR'] at hk; have h0 : (!decide (errR R = 0)) = true := hg; rw [hk.enc] at h0; cases h0)) (fun hg => ?_)
          have hg : errR R = 0 := by simpa [errR] using hg
          refine br_dec (fun hs => hfail (cs.set i (stepC c R)) (ds.set i ⟨R.en⟩) ⟨F.L, F.beg, F.k, F.lk, F.lb⟩ rfl (fun hk => by rw [hR'] at hk; have h0 : sp - 0 < ((encR R).length : Int) := hs; have h1 := hk.len; rw [e0] at h1; omega)) (fun hs => ?_)
          have hs : ¬ (sp - (F.L.length : Int) < ((encR R).length : Int)) := by rw [e0]; exact hs
          have hok : OkR sp F R := ⟨he, hg, by omega⟩
          have t2 := encR_len hg
          refine br_dec (fun h => absurd h (by omega)) (fun _ => ?_)
          have q0 : 0 < (encR R).length := by omega
          have q1 : (encR R).length ≤ 9223372036854775807 := by omega
          have q2 : (encR R).length * 1 ≤ 140737488355328 := by omega
          refine obl_int (by omega) (obl_tt (decide_eq_true ⟨q0, rfl, rfl, Nat.one_pos, q1, q2⟩) ?_)
          refine br_mk (fun hb => br_mk (fun h => hlast R ⟨encR R, true, F.k + 1, F.lk, F.lb⟩ hR' hok h (by unfold stepF; rw [hM, hb, hF]; rfl)) (fun h => hnorm R ⟨encR R, true, F.k + 1, F.lk, F.lb⟩ hR' hok h (by unfold stepF; rw [hM, hb, hF]; rfl))) (fun hb => br_mk (fun hst => br_mk (fun h => hlast R ⟨encR R, !R.en, F.k + 1, F.lk, F.lb⟩ hR' hok h (by unfold stepF; rw [hM, hb, hst, hF]; rfl)) (fun h => hnorm R ⟨encR R, !R.en, F.k + 1, F.lk, F.lb⟩ hR' hok h (by unfold stepF; rw [hM, hb, hst, hF]; rfl))) (fun hst => br_mk (fun h => hlast R ⟨encR R, false, F.k + 1, F.lk, F.lb⟩ hR' hok h (by unfold stepF; rw [hM, hb, hst, hF]; rfl)) (fun h => hnorm R ⟨encR R, false, F.k + 1, F.lk, F.lb⟩ hR' hok h (by unfold stepF; rw [hM, hb, hst, hF]; rfl))))
    · have hb0 : F.lb = [] := by simpa using hb0
      have hne : ¬ (F.lb ≠ [] ∧ F.lk = c.k ∧ F.lb = c.lb) := fun h => h.1 hb0
      refine br_dec (fun hs0 => br_dec (fun ho => ?_) (fun ho => ?_)) (fun hs0 => ?_)
      · have ho : lOk c.k c.lb = true := by by_cases h : lOk c.k c.lb = true; exact h; rw [if_neg h] at ho; exact absurd ho (by decide)
        intro R hR
        have q : labOf F c = (c.k, c.lb) := by unfold labOf memL; rw [if_pos hp, if_neg hne]
        have hM : memOf F c = (c.k, c.lb) := by unfold memOf memK; rw [if_pos hp, if_neg hne, if_pos ⟨hs0, ho⟩]
        have hR' : stepR sp F c = R := by unfold stepR; rw [q, e0]; exact hR
        have hsm := stepR_small hR' hc
        refine br_mk (fun he => br_mk (fun _ => hfail cs ds ⟨F.L, F.beg, F.k, c.k, c.lb⟩ rfl (fun hk => by rw [hR'] at hk; rw [hk.err] at he; cases he)) (fun h2 => by rw [he] at h2; cases h2)) (fun he => ?_)
        have he : R.err = 0 := by simpa using he
        refine obl_dec (by omega) (obl_and (by omega) rfl (obl_dec (by omega) (obl_and (by omega) rfl (obl_dec hsm.1 ?_))))
        refine br_mk (fun hg => hfail (cs.set i (stepC c R)) (ds.set i ⟨R.en⟩) ⟨F.L, F.beg, F.k, c.k, c.lb⟩ rfl (fun hk => by rw [hR'] at hk; have h0 : (!decide (errR R = 0)) = true := hg; rw [hk.enc] at h0; cases h0)) (fun hg => ?_)
        have hg : errR R = 0 := by simpa [errR] using hg
        refine br_dec (fun hs => hfail (cs.set i (stepC c R)) (ds.set i ⟨R.en⟩) ⟨F.L, F.beg, F.k, c.k, c.lb⟩ rfl (fun hk => by rw [hR'] at hk; have h0 : sp - 0 < ((encR R).length : Int) := hs; have h1 := hk.len; rw [e0] at h1; omega)) (fun hs => ?_)
        have hs : ¬ (sp - (F.L.length : Int) < ((encR R).length : Int)) := by rw [e0]; exact hs
        have hok : OkR sp F R := ⟨he, hg, by omega⟩
        have t2 := encR_len hg
        refine br_dec (fun h => absurd h (by omega)) (fun _ => ?_)
        have q0 : 0 < (encR R).length := by omega
        have q1 : (encR R).length ≤ 9223372036854775807 := by omega
        have q2 : (encR R).length * 1 ≤ 140737488355328 := by omega
        refine obl_int (by omega) (obl_tt (decide_eq_true ⟨q0, rfl, rfl, Nat.one_pos, q1, q2⟩) ?_)
        refine br_mk (fun hb => br_mk (fun h => hlast R ⟨encR R, true, F.k + 1, c.k, c.lb⟩ hR' hok h (by unfold stepF; rw [hM, hb, hF]; rfl)) (fun h => hnorm R ⟨encR R, true, F.k + 1, c.k, c.lb⟩ hR' hok h (by unfold stepF; rw [hM, hb, hF]; rfl))) (fun hb => br_mk (fun hst => br_mk (fun h => hlast R ⟨encR R, !R.en, F.k + 1, c.k, c.lb⟩ hR' hok h (by unfold stepF; rw [hM, hb, hst, hF]; rfl)) (fun h => hnorm R ⟨encR R, !R.en, F.k + 1, c.k, c.lb⟩ hR' hok h (by unfold stepF; rw [hM, hb, hst, hF]; rfl))) (fun hst => br_mk (fun h => hlast R ⟨encR R, false, F.k + 1, c.k, c.lb⟩ hR' hok h (by unfold stepF; rw [hM, hb, hst, hF]; rfl)) (fun h => hnorm R ⟨encR R, false, F.k + 1, c.k, c.lb⟩ hR' hok h (by unfold stepF; rw [hM, hb, hst, hF]; rfl))))
      · have ho : ¬ lOk c.k c.lb = true := fun h => by rw [if_pos h] at ho; exact ho rfl
        intro R hR
        have q : labOf F c = (c.k, c.lb) := by unfold labOf memL; rw [if_pos hp, if_neg hne]
        have hM : memOf F c = (F.lk, F.lb) := by unfold memOf memK; rw [if_pos hp, if_neg hne, if_neg (fun h => ho h.2)]
        have hR' : stepR sp F c = R := by unfold stepR; rw [q, e0]; exact hR
        have hsm := stepR_small hR' hc
        refine br_mk (fun he => br_mk (fun _ => hfail cs ds ⟨F.L, F.beg, F.k, F.lk, F.lb⟩ rfl (fun hk => by rw [hR'] at hk; rw [hk.err] at he; cases he)) (fun h2 => by rw [he] at h2; cases h2)) (fun he => ?_)
        have he : R.err = 0 := by simpa using he
        refine obl_dec (by omega) (obl_and (by omega) rfl (obl_dec (by omega) (obl_and (by omega) rfl (obl_dec hsm.1 ?_))))
        refine br_mk (fun hg => hfail (cs.set i (stepC c R)) (ds.set i ⟨R.en⟩) ⟨F.L, F.beg, F.k, F.lk, F.lb⟩ rfl (fun hk => by rw [hR'] at hk; have h0 : (!decide (errR R = 0)) = true := hg; rw [hk.enc] at h0; cases h0)) (fun hg => ?_)
        have hg : errR R = 0 := by simpa [errR] using hg
        refine br_dec (fun hs => hfail (cs.set i (stepC c R)) (ds.set i ⟨R.en⟩) ⟨F.L, F.beg, F.k, F.lk, F.lb⟩ rfl (fun hk => by rw [hR'] at hk; have h0 : sp - 0 < ((encR R).length : Int) := hs; have h1 := hk.len; rw [e0] at h1; omega)) (fun hs => ?_)
        have hs : ¬ (sp - (F.L.length : Int) < ((encR R).length : Int)) := by rw [e0]; exact hs
        have hok : OkR sp F R := ⟨he, hg, by omega⟩
        have t2 := encR_len hg
        refine br_dec (fun h => absurd h (by omega)) (fun _ => ?_)
        have q0 : 0 < (encR R).length := by omega
        have q1 : (encR R).length ≤ 9223372036854775807 := by omega
        have q2 : (encR R).length * 1 ≤ 140737488355328 := by omega
        refine obl_int (by omega) (obl_tt (decide_eq_true ⟨q0, rfl, rfl, Nat.one_pos, q1, q2⟩) ?_)
        refine br_mk (fun hb => br_mk (fun h => hlast R ⟨encR R, true, F.k + 1, F.lk, F.lb⟩ hR' hok h (by unfold stepF; rw [hM, hb, hF]; rfl)) (fun h => hnorm R ⟨encR R, true, F.k + 1, F.lk, F.lb⟩ hR' hok h (by unfold stepF; rw [hM, hb, hF]; rfl))) (fun hb => br_mk (fun hst => br_mk (fun h => hlast R ⟨encR R, !R.en, F.k + 1, F.lk, F.lb⟩ hR' hok h (by unfold stepF; rw [hM, hb, hst, hF]; rfl)) (fun h => hnorm R ⟨encR R, !R.en, F.k + 1, F.lk, F.lb⟩ hR' hok h (by unfold stepF; rw [hM, hb, hst, hF]; rfl))) (fun hst => br_mk (fun h => hlast R ⟨encR R, false, F.k + 1, F.lk, F.lb⟩ hR' hok h (by unfold stepF; rw [hM, hb, hst, hF]; rfl)) (fun h => hnorm R ⟨encR R, false, F.k + 1, F.lk, F.lb⟩ hR' hok h (by unfold stepF; rw [hM, hb, hst, hF]; rfl))))
      · skip
        intro R hR
        have q : labOf F c = (c.k, c.lb) := by unfold labOf memL; rw [if_pos hp, if_neg hne]
        have hM : memOf F c = (F.lk, F.lb) := by unfold memOf memK; rw [if_pos hp, if_neg hne, if_neg (fun h => hs0 h.1)]
        have hR' : stepR sp F c = R := by unfold stepR; rw [q, e0]; exact hR
        have hsm := stepR_small hR' hc
        refine br_mk (fun he => br_mk (fun _ => hfail cs ds ⟨F.L, F.beg, F.k, F.lk, F.lb⟩ rfl (fun hk => by rw [hR'] at hk; rw [hk.err] at he; cases he)) (fun h2 => by rw [he] at h2; cases h2)) (fun he => ?_)
        have he : R.err = 0 := by simpa using he
        refine obl_dec (by omega) (obl_and (by omega) rfl (obl_dec (by omega) (obl_and (by omega) rfl (obl_dec hsm.1 ?_))))
        refine br_mk (fun hg => hfail (cs.set i (stepC c R)) (ds.set i ⟨R.en⟩) ⟨F.L, F.beg, F.k, F.lk, F.lb⟩ rfl (fun hk => by rw [hR'] at hk; have h0 : (!decide (errR R = 0)) = true := hg; rw [hk.enc] at h0; cases h0)) (fun hg => ?_)
        have hg : errR R = 0 := by simpa [errR] using hg
        refine br_dec (fun hs => hfail (cs.set i (stepC c R)) (ds.set i ⟨R.en⟩) ⟨F.L, F.beg, F.k, F.lk, F.lb⟩ rfl (fun hk => by rw [hR'] at hk; have h0 : sp - 0 < ((encR R).length : Int) := hs; have h1 := hk.len; rw [e0] at h1; omega)) (fun hs => ?_)
        have hs : ¬ (sp - (F.L.length : Int) < ((encR R).length : Int)) := by rw [e0]; exact hs
        have hok : OkR sp F R := ⟨he, hg, by omega⟩
        have t2 := encR_len hg
        refine br_dec (fun h => absurd h (by omega)) (fun _ => ?_)
        have q0 : 0 < (encR R).length := by omega
        have q1 : (encR R).length ≤ 9223372036854775807 := by omega
        have q2 : (encR R).length * 1 ≤ 140737488355328 := by omega
        refine obl_int (by omega) (obl_tt (decide_eq_true ⟨q0, rfl, rfl, Nat.one_pos, q1, q2⟩) ?_)
        refine br_mk (fun hb => br_mk (fun h => hlast R ⟨encR R, true, F.k + 1, F.lk, F.lb⟩ hR' hok h (by unfold stepF; rw [hM, hb, hF]; rfl)) (fun h => hnorm R ⟨encR R, true, F.k + 1, F.lk, F.lb⟩ hR' hok h (by unfold stepF; rw [hM, hb, hF]; rfl))) (fun hb => br_mk (fun hst => br_mk (fun h => hlast R ⟨encR R, !R.en, F.k + 1, F.lk, F.lb⟩ hR' hok h (by unfold stepF; rw [hM, hb, hst, hF]; rfl)) (fun h => hnorm R ⟨encR R, !R.en, F.k + 1, F.lk, F.lb⟩ hR' hok h (by unfold stepF; rw [hM, hb, hst, hF]; rfl))) (fun hst => br_mk (fun h => hlast R ⟨encR R, false, F.k + 1, F.lk, F.lb⟩ hR' hok h (by unfold stepF; rw [hM, hb, hst, hF]; rfl)) (fun h => hnorm R ⟨encR R, false, F.k + 1, F.lk, F.lb⟩ hR' hok h (by unfold stepF; rw [hM, hb, hst, hF]; rfl))))
  · skip
    intro R hR
    have q : labOf F c = (c.k, c.lb) := by unfold labOf; rw [if_neg hp]
    have hM : memOf F c = (F.lk, F.lb) := by unfold memOf; rw [if_neg hp]
    have hR' : stepR sp F c = R := by unfold stepR; rw [q, e0]; exact hR
    have hsm := stepR_small hR' hc
    refine br_mk (fun he => br_mk (fun _ => hfail cs ds ⟨F.L, F.beg, F.k, F.lk, F.lb⟩ rfl (fun hk => by rw [hR'] at hk; rw [hk.err] at he; cases he)) (fun h2 => by rw [he] at h2; cases h2)) (fun he => ?_)
    have he : R.err = 0 := by simpa using he
    refine obl_dec (by omega) (obl_and (by omega) rfl (obl_dec (by omega) (obl_and (by omega) rfl (obl_dec hsm.1 ?_))))
    refine br_mk (fun hg => hfail (cs.set i (stepC c R)) (ds.set i ⟨R.en⟩) ⟨F.L, F.beg, F.k, F.lk, F.lb⟩ rfl (fun hk => by rw [hR'] at hk; have h0 : (!decide (errR R = 0)) = true := hg; rw [hk.enc] at h0; cases h0)) (fun hg => ?_)
    have hg : errR R = 0 := by simpa [errR] using hg
    refine br_dec (fun hs => hfail (cs.set i (stepC c R)) (ds.set i ⟨R.en⟩) ⟨F.L, F.beg, F.k, F.lk, F.lb⟩ rfl (fun hk => by rw [hR'] at hk; have h0 : sp - 0 < ((encR R).length : Int) := hs; have h1 := hk.len; rw [e0] at h1; omega)) (fun hs => ?_)
    have hs : ¬ (sp - (F.L.length : Int) < ((encR R).length : Int)) := by rw [e0]; exact hs
    have hok : OkR sp F R := ⟨he, hg, by omega⟩
    have t2 := encR_len hg
    refine br_dec (fun h => absurd h (by omega)) (fun _ => ?_)
    have q0 : 0 < (encR R).length := by omega
    have q1 : (encR R).length ≤ 9223372036854775807 := by omega
    have q2 : (encR R).length * 1 ≤ 140737488355328 := by omega
    refine obl_int (by omega) (obl_tt (decide_eq_true ⟨q0, rfl, rfl, Nat.one_pos, q1, q2⟩) ?_)
    refine br_mk (fun hb => br_mk (fun h => hlast R ⟨encR R, true, F.k + 1, F.lk, F.lb⟩ hR' hok h (by unfold stepF; rw [hM, hb, hF]; rfl)) (fun h => hnorm R ⟨encR R, true, F.k + 1, F.lk, F.lb⟩ hR' hok h (by unfold stepF; rw [hM, hb, hF]; rfl))) (fun hb => br_mk (fun hst => br_mk (fun h => hlast R ⟨encR R, !R.en, F.k + 1, F.lk, F.lb⟩ hR' hok h (by unfold stepF; rw [hM, hb, hst, hF]; rfl)) (fun h => hnorm R ⟨encR R, !R.en, F.k + 1, F.lk, F.lb⟩ hR' hok h (by unfold stepF; rw [hM, hb, hst, hF]; rfl))) (fun hst => br_mk (fun h => hlast R ⟨encR R, false, F.k + 1, F.lk, F.lb⟩ hR' hok h (by unfold stepF; rw [hM, hb, hst, hF]; rfl)) (fun h => hnorm R ⟨encR R, false, F.k + 1, F.lk, F.lb⟩ hR' hok h (by unfold stepF; rw [hM, hb, hst, hF]; rfl))))
end Go.Proofs.Ytjacnjecggedhaa
namespace Go.Proofs.Ytjacnjecggedhaa
set_option linter.unusedVariables false
set_option linter.unusedSimpArgs false
open Go.RowKit Ev
set_option maxRecDepth 100000 in
theorem w_fl_10 (n : Nat) (sp : Int) (cs : List CutR) (ds : List BoolR) (fv : Int) (F : FSt) (i : Nat) (Q : AExit → Env → AHeap → Prop) : (wpC (TX2.ctx Try.prog) 400 9 3 fillL (g10 n sp cs ds fv F (f13 i)).1 (g10 n sp cs ds fv F (f13 i)).2 (canQ 3 ts13 Q)
) =  (obl (inI64 (sp - (↑F.L.length : Int))) (twice (branch (decide ((↑n : Int) % (18446744073709551616 : Int) < (↑i : Int) + (1 : Int))) (Q (.exit 0) (fE .nils (f13 i)) (AHeap.mk 8 (fHx n cs ds fv [(6,
 .cells 70 [.sl 7 0 1 0 F.L.length none, .int .i64 sp, .bool F.beg, .int .i64 (↑F.k : Int), .int .i64 F.lk, .str F.lb]), (7, .row 5 byteRow F.L .plain)]))) (obl (decide ((0 : Int) ≤ idJ i ∧ idJ i < (↑n
 : Int))) (obl (decide (0 + (idJ i).toNat < ds.length)) (branch (ds.getD (idI i) (BoolR.mk false)).b (Q (.exit 0) (fE .nils (f13 i)) (AHeap.mk 8 (fHx n cs ds fv [(6, .cells 70 [.sl 7 0 1 0 F.L.length
 none, .int .i64 sp, .bool F.beg, .int .i64 (↑F.k : Int), .int .i64 F.lk, .str F.lb]), (7, .row 5 byteRow F.L .plain)]))) (obl (decide ((0 : Int) ≤ idJ i ∧ idJ i < (↑n : Int))) (obl (decide (0 + (idJ
 i).toNat < cs.length)) (branch (decide ((cutI cs i).pos = (0 : Int))) (branch (!decide (F.lb = [])) (branch (decide (F.lk = (cutI cs i).k) && (decide (F.lb = (cutI cs i).lb) && true)) (∀ (R : NextR),
 nextR (cutI cs i).typ (cutI cs i).k (cutI cs i).lb (cutI cs i).data (cutI cs i).pos (cutI cs i).id (3 : Int) [] (sp - (↑F.L.length : Int)) F.beg = R → branch (!decide (R.err = (0 : Int))) (branch
 (!decide (R.err = (0 : Int))) (Q (.exit 0) (fE .nils (f13 i)) (AHeap.mk 8 (fHx n cs ds fv [(6, .cells 70 [.sl 7 0 1 0 F.L.length none, .int .i64 sp, .bool F.beg, .int .i64 (↑F.k : Int), .int .i64
 F.lk, .str F.lb]), (7, .row 5 byteRow F.L .plain)]))) (branch (decide (sp - (↑F.L.length : Int) < (3 : Int))) (Q (.exit 0) (fE .nils (f13 i)) (AHeap.mk 8 (fHx n cs ds fv [(6, .cells 70 [.sl 7 0 1 0
 F.L.length none, .int .i64 sp, .bool F.beg, .int .i64 (↑F.k : Int), .int .i64 F.lk, .str F.lb]), (7, .row 5 byteRow F.L .plain)]))) (branch (decide ((70000 : Int) ≤ (↑F.k : Int))) (Q (.exit 0) (fE
 .nils (f13 i)) (AHeap.mk 8 (fHx n cs ds fv [(6, .cells 70 [.sl 7 0 1 0 F.L.length none, .int .i64 sp, .bool F.beg, .int .i64 (↑F.k : Int), .int .i64 F.lk, .str F.lb]), (7, .row 5 byteRow F.L
 .plain)]))) (obl (inI64 ((↑F.k : Int) + (1 : Int))) (obl (true && decide (F.L.length = F.L.length ∧ 1 = 1 ∧ 1 = 1 ∧ 0 < 1 ∧ (F.L ++ [(48 : UInt8), (1 : UInt8), (0 : UInt8)]).length ≤
 9223372036854775807 ∧ (F.L ++ [(48 : UInt8), (1 : UInt8), (0 : UInt8)]).length * 1 ≤ 140737488355328)) (branch F.beg (Q .normal (fE .nils (f13 i)) (AHeap.mk 8 (fHx n cs ds fv [(6, .cells 70 [.sl 7 0 1
 0 (F.L ++ [(48 : UInt8), (1 : UInt8), (0 : UInt8)]).length none, .int .i64 sp, .bool true, .int .i64 ((↑F.k : Int) + (1 : Int)), .int .i64 F.lk, .str F.lb]), (7, .row 5 byteRow (F.L ++ [(48 : UInt8),
 (1 : UInt8), (0 : UInt8)]) .plain)]))) (Q .normal (fE .nils (f13 i)) (AHeap.mk 8 (fHx n cs ds fv [(6, .cells 70 [.sl 7 0 1 0 (F.L ++ [(48 : UInt8), (1 : UInt8), (0 : UInt8)]).length none, .int .i64
 sp, .bool false, .int .i64 ((↑F.k : Int) + (1 : Int)), .int .i64 F.lk, .str F.lb]), (7, .row 5 byteRow (F.L ++ [(48 : UInt8), (1 : UInt8), (0 : UInt8)]) .plain)]))))))))) (obl (decide ((0 : Int) ≤ idJ
 i ∧ idJ i < (↑n : Int))) (obl (decide (0 + (idJ i).toNat < cs.length) && true) (obl (decide ((0 : Int) ≤ idJ i ∧ idJ i < (↑n : Int))) (obl (decide (0 + (idJ i).toNat < ds.length) && true) (obl (decide
 (R.lb.length + R.data.length + R.sum.length ≤ 9223372036854775000)) (branch (!decide (gErr R.st R.en R.id R.total R.typ R.k R.lb R.data R.sum = (0 : Int))) (Q (.exit 0) (fE .nils (f13 i)) (AHeap.mk 8
 (fHx n (cs.set (idI i) (CutR.mk (cutI cs i).typ R.k2 R.b2 (cutI cs i).data R.at2 (cutI cs i).id)) (ds.set (idI i) (BoolR.mk R.en)) fv [(6, .cells 70 [.sl 7 0 1 0 F.L.length none, .int .i64 sp, .bool
 F.beg, .int .i64 (↑F.k : Int), .int .i64 F.lk, .str F.lb]), (7, .row 5 byteRow F.L .plain)]))) (branch (decide (sp - (↑F.L.length : Int) < (↑(gEnc R.st R.en R.id R.total R.typ R.k R.lb R.data
 R.sum).length : Int))) (Q (.exit 0) (fE .nils (f13 i)) (AHeap.mk 8 (fHx n (cs.set (idI i) (CutR.mk (cutI cs i).typ R.k2 R.b2 (cutI cs i).data R.at2 (cutI cs i).id)) (ds.set (idI i) (BoolR.mk R.en)) fv
 [(6, .cells 70 [.sl 7 0 1 0 F.L.length none, .int .i64 sp, .bool F.beg, .int .i64 (↑F.k : Int), .int .i64 F.lk, .str F.lb]), (7, .row 5 byteRow F.L .plain)]))) (branch (decide ((70000 : Int) ≤ (↑F.k :
 Int))) (Q (.exit 0) (fE .nils (f13 i)) (AHeap.mk 8 (fHx n (cs.set (idI i) (CutR.mk (cutI cs i).typ R.k2 R.b2 (cutI cs i).data R.at2 (cutI cs i).id)) (ds.set (idI i) (BoolR.mk R.en)) fv [(6, .cells 70
 [.sl 7 0 1 0 F.L.length none, .int .i64 sp, .bool F.beg, .int .i64 (↑F.k : Int), .int .i64 F.lk, .str F.lb]), (7, .row 5 byteRow F.L .plain)]))) (obl (inI64 ((↑F.k : Int) + (1 : Int))) (obl (true &&
 decide (F.L.length = F.L.length ∧ 1 = 1 ∧ 1 = 1 ∧ 0 < 1 ∧ (F.L ++ gEnc R.st R.en R.id R.total R.typ R.k R.lb R.data R.sum).length ≤ 9223372036854775807 ∧ (F.L ++ gEnc R.st R.en R.id R.total R.typ R.k
 R.lb R.data R.sum).length * 1 ≤ 140737488355328)) (branch F.beg (branch R.en (Q (.exit 2) (fE (.sl 7 0 1 0 1 none) (f13 i)) (AHeap.mk 9 (fHx n (cs.set (idI i) (CutR.mk (cutI cs i).typ R.k2 R.b2 (cutI
 cs i).data R.at2 (cutI cs i).id)) (ds.set (idI i) (BoolR.mk R.en)) fv [(6, .cells 70 [.sl 8 0 1 0 (F.L ++ gEnc R.st R.en R.id R.total R.typ R.k R.lb R.data R.sum).length none, .int .i64 sp, .bool
 true, .int .i64 ((↑F.k : Int) + (1 : Int)), .int .i64 F.lk, .str F.lb]), (7, .row 33 (intRow .u64) [(↑i : Int) + (1 : Int)] .plain), (8, .row 5 byteRow (F.L ++ gEnc R.st R.en R.id R.total R.typ R.k
 R.lb R.data R.sum) .plain)]))) (Q .normal (fE .nils (f13 i)) (AHeap.mk 8 (fHx n (cs.set (idI i) (CutR.mk (cutI cs i).typ R.k2 R.b2 (cutI cs i).data R.at2 (cutI cs i).id)) (ds.set (idI i) (BoolR.mk
 R.en)) fv [(6, .cells 70 [.sl 7 0 1 0 (F.L ++ gEnc R.st R.en R.id R.total R.typ R.k R.lb R.data R.sum).length none, .int .i64 sp, .bool true, .int .i64 ((↑F.k : Int) + (1 : Int)), .int .i64 F.lk, .str
 F.lb]), (7, .row 5 byteRow (F.L ++ gEnc R.st R.en R.id R.total R.typ R.k R.lb R.data R.sum) .plain)])))) (branch R.st (branch R.en (Q (.exit 2) (fE (.sl 7 0 1 0 1 none) (f13 i)) (AHeap.mk 9 (fHx n
 (cs.set (idI i) (CutR.mk (cutI cs i).typ R.k2 R.b2 (cutI cs i).data R.at2 (cutI cs i).id)) (ds.set (idI i) (BoolR.mk R.en)) fv [(6, .cells 70 [.sl 8 0 1 0 (F.L ++ gEnc R.st R.en R.id R.total R.typ R.k
 R.lb R.data R.sum).length none, .int .i64 sp, .bool !R.en, .int .i64 ((↑F.k : Int) + (1 : Int)), .int .i64 F.lk, .str F.lb]), (7, .row 33 (intRow .u64) [(↑i : Int) + (1 : Int)] .plain), (8, .row 5
 byteRow (F.L ++ gEnc R.st R.en R.id R.total R.typ R.k R.lb R.data R.sum) .plain)]))) (Q .normal (fE .nils (f13 i)) (AHeap.mk 8 (fHx n (cs.set (idI i) (CutR.mk (cutI cs i).typ R.k2 R.b2 (cutI cs
 i).data R.at2 (cutI cs i).id)) (ds.set (idI i) (BoolR.mk R.en)) fv [(6, .cells 70 [.sl 7 0 1 0 (F.L ++ gEnc R.st R.en R.id R.total R.typ R.k R.lb R.data R.sum).length none, .int .i64 sp, .bool !R.en,
 .int .i64 ((↑F.k : Int) + (1 : Int)), .int .i64 F.lk, .str F.lb]), (7, .row 5 byteRow (F.L ++ gEnc R.st R.en R.id R.total R.typ R.k R.lb R.data R.sum) .plain)])))) (branch R.en (Q (.exit 2) (fE (.sl 7
 0 1 0 1 none) (f13 i)) (AHeap.mk 9 (fHx n (cs.set (idI i) (CutR.mk (cutI cs i).typ R.k2 R.b2 (cutI cs i).data R.at2 (cutI cs i).id)) (ds.set (idI i) (BoolR.mk R.en)) fv [(6, .cells 70 [.sl 8 0 1 0
 (F.L ++ gEnc R.st R.en R.id R.total R.typ R.k R.lb R.data R.sum).length none, .int .i64 sp, .bool false, .int .i64 ((↑F.k : Int) + (1 : Int)), .int .i64 F.lk, .str F.lb]), (7, .row 33 (intRow .u64)
 [(↑i : Int) + (1 : Int)] .plain), (8, .row 5 byteRow (F.L ++ gEnc R.st R.en R.id R.total R.typ R.k R.lb R.data R.sum) .plain)]))) (Q .normal (fE .nils (f13 i)) (AHeap.mk 8 (fHx n (cs.set (idI i)
 (CutR.mk (cutI cs i).typ R.k2 R.b2 (cutI cs i).data R.at2 (cutI cs i).id)) (ds.set (idI i) (BoolR.mk R.en)) fv [(6, .cells 70 [.sl 7 0 1 0 (F.L ++ gEnc R.st R.en R.id R.total R.typ R.k R.lb R.data
 R.sum).length none, .int .i64 sp, .bool false, .int .i64 ((↑F.k : Int) + (1 : Int)), .int .i64 F.lk, .str F.lb]), (7, .row 5 byteRow (F.L ++ gEnc R.st R.en R.id R.total R.typ R.k R.lb R.data R.sum)
 .plain)]))))))))))))))))) (branch (decide ((0 : Int) < lSize (cutI cs i).k)) (branch (decide ((if lOk (cutI cs i).k (cutI cs i).lb = true then (0 : Int) else (2 : Int)) = (0 : Int))) (∀ (R : NextR),
 nextR (cutI cs i).typ (cutI cs i).k (cutI cs i).lb (cutI cs i).data (cutI cs i).pos (cutI cs i).id (cutI cs i).k (cutI cs i).lb (sp - (↑F.L.length : Int)) F.beg = R → branch (!decide (R.err = (0 :
 Int))) (branch (!decide (R.err = (0 : Int))) (Q (.exit 0) (fE .nils (f13 i)) (AHeap.mk 8 (fHx n cs ds fv [(6, .cells 70 [.sl 7 0 1 0 F.L.length none, .int .i64 sp, .bool F.beg, .int .i64 (↑F.k : Int),
 .int .i64 (cutI cs i).k, .str (cutI cs i).lb]), (7, .row 5 byteRow F.L .plain)]))) (branch (decide (sp - (↑F.L.length : Int) < (3 : Int))) (Q (.exit 0) (fE .nils (f13 i)) (AHeap.mk 8 (fHx n cs ds fv
 [(6, .cells 70 [.sl 7 0 1 0 F.L.length none, .int .i64 sp, .bool F.beg, .int .i64 (↑F.k : Int), .int .i64 (cutI cs i).k, .str (cutI cs i).lb]), (7, .row 5 byteRow F.L .plain)]))) (branch (decide
 ((70000 : Int) ≤ (↑F.k : Int))) (Q (.exit 0) (fE .nils (f13 i)) (AHeap.mk 8 (fHx n cs ds fv [(6, .cells 70 [.sl 7 0 1 0 F.L.length none, .int .i64 sp, .bool F.beg, .int .i64 (↑F.k : Int), .int .i64
 (cutI cs i).k, .str (cutI cs i).lb]), (7, .row 5 byteRow F.L .plain)]))) (obl (inI64 ((↑F.k : Int) + (1 : Int))) (obl (true && decide (F.L.length = F.L.length ∧ 1 = 1 ∧ 1 = 1 ∧ 0 < 1 ∧ (F.L ++ [(48 :
 UInt8), (1 : UInt8), (0 : UInt8)]).length ≤ 9223372036854775807 ∧ (F.L ++ [(48 : UInt8), (1 : UInt8), (0 : UInt8)]).length * 1 ≤ 140737488355328)) (branch F.beg (Q .normal (fE .nils (f13 i)) (AHeap.mk
 8 (fHx n cs ds fv [(6, .cells 70 [.sl 7 0 1 0 (F.L ++ [(48 : UInt8), (1 : UInt8), (0 : UInt8)]).length none, .int .i64 sp, .bool true, .int .i64 ((↑F.k : Int) + (1 : Int)), .int .i64 (cutI cs i).k,
 .str (cutI cs i).lb]), (7, .row 5 byteRow (F.L ++ [(48 : UInt8), (1 : UInt8), (0 : UInt8)]) .plain)]))) (Q .normal (fE .nils (f13 i)) (AHeap.mk 8 (fHx n cs ds fv [(6, .cells 70 [.sl 7 0 1 0 (F.L ++
 [(48 : UInt8), (1 : UInt8), (0 : UInt8)]).length none, .int .i64 sp, .bool false, .int .i64 ((↑F.k : Int) + (1 : Int)), .int .i64 (cutI cs i).k, .str (cutI cs i).lb]), (7, .row 5 byteRow (F.L ++ [(48
 : UInt8), (1 : UInt8), (0 : UInt8)]) .plain)]))))))))) (obl (decide ((0 : Int) ≤ idJ i ∧ idJ i < (↑n : Int))) (obl (decide (0 + (idJ i).toNat < cs.length) && true) (obl (decide ((0 : Int) ≤ idJ i ∧
 idJ i < (↑n : Int))) (obl (decide (0 + (idJ i).toNat < ds.length) && true) (obl (decide (R.lb.length + R.data.length + R.sum.length ≤ 9223372036854775000)) (branch (!decide (gErr R.st R.en R.id
 R.total R.typ R.k R.lb R.data R.sum = (0 : Int))) (Q (.exit 0) (fE .nils (f13 i)) (AHeap.mk 8 (fHx n (cs.set (idI i) (CutR.mk (cutI cs i).typ R.k2 R.b2 (cutI cs i).data R.at2 (cutI cs i).id)) (ds.set
 (idI i) (BoolR.mk R.en)) fv [(6, .cells 70 [.sl 7 0 1 0 F.L.length none, .int .i64 sp, .bool F.beg, .int .i64 (↑F.k : Int), .int .i64 (cutI cs i).k, .str (cutI cs i).lb]), (7, .row 5 byteRow F.L
 .plain)]))) (branch (decide (sp - (↑F.L.length : Int) < (↑(gEnc R.st R.en R.id R.total R.typ R.k R.lb R.data R.sum).length : Int))) (Q (.exit 0) (fE .nils (f13 i)) (AHeap.mk 8 (fHx n (cs.set (idI i)
 (CutR.mk (cutI cs i).typ R.k2 R.b2 (cutI cs i).data R.at2 (cutI cs i).id)) (ds.set (idI i) (BoolR.mk R.en)) fv [(6, .cells 70 [.sl 7 0 1 0 F.L.length none, .int .i64 sp, .bool F.beg, .int .i64 (↑F.k :
 Int), .int .i64 (cutI cs i).k, .str (cutI cs i).lb]), (7, .row 5 byteRow F.L .plain)]))) (branch (decide ((70000 : Int) ≤ (↑F.k : Int))) (Q (.exit 0) (fE .nils (f13 i)) (AHeap.mk 8 (fHx n (cs.set (idI
 i) (CutR.mk (cutI cs i).typ R.k2 R.b2 (cutI cs i).data R.at2 (cutI cs i).id)) (ds.set (idI i) (BoolR.mk R.en)) fv [(6, .cells 70 [.sl 7 0 1 0 F.L.length none, .int .i64 sp, .bool F.beg, .int .i64
 (↑F.k : Int), .int .i64 (cutI cs i).k, .str (cutI cs i).lb]), (7, .row 5 byteRow F.L .plain)]))) (obl (inI64 ((↑F.k : Int) + (1 : Int))) (obl (true && decide (F.L.length = F.L.length ∧ 1 = 1 ∧ 1 = 1 ∧
 0 < 1 ∧ (F.L ++ gEnc R.st R.en R.id R.total R.typ R.k R.lb R.data R.sum).length ≤ 9223372036854775807 ∧ (F.L ++ gEnc R.st R.en R.id R.total R.typ R.k R.lb R.data R.sum).length * 1 ≤ 140737488355328))
 (branch F.beg (branch R.en (Q (.exit 2) (fE (.sl 7 0 1 0 1 none) (f13 i)) (AHeap.mk 9 (fHx n (cs.set (idI i) (CutR.mk (cutI cs i).typ R.k2 R.b2 (cutI cs i).data R.at2 (cutI cs i).id)) (ds.set (idI i)
 (BoolR.mk R.en)) fv [(6, .cells 70 [.sl 8 0 1 0 (F.L ++ gEnc R.st R.en R.id R.total R.typ R.k R.lb R.data R.sum).length none, .int .i64 sp, .bool true, .int .i64 ((↑F.k : Int) + (1 : Int)), .int .i64
 (cutI cs i).k, .str (cutI cs i).lb]), (7, .row 33 (intRow .u64) [(↑i : Int) + (1 : Int)] .plain), (8, .row 5 byteRow (F.L ++ gEnc R.st R.en R.id R.total R.typ R.k R.lb R.data R.sum) .plain)]))) (Q
 .normal (fE .nils (f13 i)) (AHeap.mk 8 (fHx n (cs.set (idI i) (CutR.mk (cutI cs i).typ R.k2 R.b2 (cutI cs i).data R.at2 (cutI cs i).id)) (ds.set (idI i) (BoolR.mk R.en)) fv [(6, .cells 70 [.sl 7 0 1 0
 (F.L ++ gEnc R.st R.en R.id R.total R.typ R.k R.lb R.data R.sum).length none, .int .i64 sp, .bool true, .int .i64 ((↑F.k : Int) + (1 : Int)), .int .i64 (cutI cs i).k, .str (cutI cs i).lb]), (7, .row 5
 byteRow (F.L ++ gEnc R.st R.en R.id R.total R.typ R.k R.lb R.data R.sum) .plain)])))) (branch R.st (branch R.en (Q (.exit 2) (fE (.sl 7 0 1 0 1 none) (f13 i)) (AHeap.mk 9 (fHx n (cs.set (idI i)
 (CutR.mk (cutI cs i).typ R.k2 R.b2 (cutI cs i).data R.at2 (cutI cs i).id)) (ds.set (idI i) (BoolR.mk R.en)) fv [(6, .cells 70 [.sl 8 0 1 0 (F.L ++ gEnc R.st R.en R.id R.total R.typ R.k R.lb R.data
 R.sum).length none, .int .i64 sp, .bool !R.en, .int .i64 ((↑F.k : Int) + (1 : Int)), .int .i64 (cutI cs i).k, .str (cutI cs i).lb]), (7, .row 33 (intRow .u64) [(↑i : Int) + (1 : Int)] .plain), (8,
 .row 5 byteRow (F.L ++ gEnc R.st R.en R.id R.total R.typ R.k R.lb R.data R.sum) .plain)]))) (Q .normal (fE .nils (f13 i)) (AHeap.mk 8 (fHx n (cs.set (idI i) (CutR.mk (cutI cs i).typ R.k2 R.b2 (cutI cs
 i).data R.at2 (cutI cs i).id)) (ds.set (idI i) (BoolR.mk R.en)) fv [(6, .cells 70 [.sl 7 0 1 0 (F.L ++ gEnc R.st R.en R.id R.total R.typ R.k R.lb R.data R.sum).length none, .int .i64 sp, .bool !R.en,
 .int .i64 ((↑F.k : Int) + (1 : Int)), .int .i64 (cutI cs i).k, .str (cutI cs i).lb]), (7, .row 5 byteRow (F.L ++ gEnc R.st R.en R.id R.total R.typ R.k R.lb R.data R.sum) .plain)])))) (branch R.en (Q
 (.exit 2) (fE (.sl 7 0 1 0 1 none) (f13 i)) (AHeap.mk 9 (fHx n (cs.set (idI i) (CutR.mk (cutI cs i).typ R.k2 R.b2 (cutI cs i).data R.at2 (cutI cs i).id)) (ds.set (idI i) (BoolR.mk R.en)) fv [(6,
 .cells 70 [.sl 8 0 1 0 (F.L ++ gEnc R.st R.en R.id R.total R.typ R.k R.lb R.data R.sum).length none, .int .i64 sp, .bool false, .int .i64 ((↑F.k : Int) + (1 : Int)), .int .i64 (cutI cs i).k, .str
 (cutI cs i).lb]), (7, .row 33 (intRow .u64) [(↑i : Int) + (1 : Int)] .plain), (8, .row 5 byteRow (F.L ++ gEnc R.st R.en R.id R.total R.typ R.k R.lb R.data R.sum) .plain)]))) (Q .normal (fE .nils (f13
 i)) (AHeap.mk 8 (fHx n (cs.set (idI i) (CutR.mk (cutI cs i).typ R.k2 R.b2 (cutI cs i).data R.at2 (cutI cs i).id)) (ds.set (idI i) (BoolR.mk R.en)) fv [(6, .cells 70 [.sl 7 0 1 0 (F.L ++ gEnc R.st R.en
 R.id R.total R.typ R.k R.lb R.data R.sum).length none, .int .i64 sp, .bool false, .int .i64 ((↑F.k : Int) + (1 : Int)), .int .i64 (cutI cs i).k, .str (cutI cs i).lb]), (7, .row 5 byteRow (F.L ++ gEnc
 R.st R.en R.id R.total R.typ R.k R.lb R.data R.sum) .plain)]))))))))))))))))) (∀ (R : NextR), nextR (cutI cs i).typ (cutI cs i).k (cutI cs i).lb (cutI cs i).data (cutI cs i).pos (cutI cs i).id (cutI
 cs i).k (cutI cs i).lb (sp - (↑F.L.length : Int)) F.beg = R → branch (!decide (R.err = (0 : Int))) (branch (!decide (R.err = (0 : Int))) (Q (.exit 0) (fE .nils (f13 i)) (AHeap.mk 8 (fHx n cs ds fv
 [(6, .cells 70 [.sl 7 0 1 0 F.L.length none, .int .i64 sp, .bool F.beg, .int .i64 (↑F.k : Int), .int .i64 F.lk, .str F.lb]), (7, .row 5 byteRow F.L .plain)]))) (branch (decide (sp - (↑F.L.length :
 Int) < (3 : Int))) (Q (.exit 0) (fE .nils (f13 i)) (AHeap.mk 8 (fHx n cs ds fv [(6, .cells 70 [.sl 7 0 1 0 F.L.length none, .int .i64 sp, .bool F.beg, .int .i64 (↑F.k : Int), .int .i64 F.lk, .str
 F.lb]), (7, .row 5 byteRow F.L .plain)]))) (branch (decide ((70000 : Int) ≤ (↑F.k : Int))) (Q (.exit 0) (fE .nils (f13 i)) (AHeap.mk 8 (fHx n cs ds fv [(6, .cells 70 [.sl 7 0 1 0 F.L.length none, .int
 .i64 sp, .bool F.beg, .int .i64 (↑F.k : Int), .int .i64 F.lk, .str F.lb]), (7, .row 5 byteRow F.L .plain)]))) (obl (inI64 ((↑F.k : Int) + (1 : Int))) (obl (true && decide (F.L.length = F.L.length ∧ 1
 = 1 ∧ 1 = 1 ∧ 0 < 1 ∧ (F.L ++ [(48 : UInt8), (1 : UInt8), (0 : UInt8)]).length ≤ 9223372036854775807 ∧ (F.L ++ [(48 : UInt8), (1 : UInt8), (0 : UInt8)]).length * 1 ≤ 140737488355328)) (branch F.beg (Q
 .normal (fE .nils (f13 i)) (AHeap.mk 8 (fHx n cs ds fv [(6, .cells 70 [.sl 7 0 1 0 (F.L ++ [(48 : UInt8), (1 : UInt8), (0 : UInt8)]).length none, .int .i64 sp, .bool true, .int .i64 ((↑F.k : Int) + (1
 : Int)), .int .i64 F.lk, .str F.lb]), (7, .row 5 byteRow (F.L ++ [(48 : UInt8), (1 : UInt8), (0 : UInt8)]) .plain)]))) (Q .normal (fE .nils (f13 i)) (AHeap.mk 8 (fHx n cs ds fv [(6, .cells 70 [.sl 7 0
 1 0 (F.L ++ [(48 : UInt8), (1 : UInt8), (0 : UInt8)]).length none, .int .i64 sp, .bool false, .int .i64 ((↑F.k : Int) + (1 : Int)), .int .i64 F.lk, .str F.lb]), (7, .row 5 byteRow (F.L ++ [(48 :
 UInt8), (1 : UInt8), (0 : UInt8)]) .plain)]))))))))) (obl (decide ((0 : Int) ≤ idJ i ∧ idJ i < (↑n : Int))) (obl (decide (0 + (idJ i).toNat < cs.length) && true) (obl (decide ((0 : Int) ≤ idJ i ∧ idJ
 i < (↑n : Int))) (obl (decide (0 + (idJ i).toNat < ds.length) && true) (obl (decide (R.lb.length + R.data.length + R.sum.length ≤ 9223372036854775000)) (branch (!decide (gErr R.st R.en R.id R.total
 R.typ R.k R.lb R.data R.sum = (0 : Int))) (Q (.exit 0) (fE .nils (f13 i)) (AHeap.mk 8 (fHx n (cs.set (idI i) (CutR.mk (cutI cs i).typ R.k2 R.b2 (cutI cs i).data R.at2 (cutI cs i).id)) (ds.set (idI i)
 (BoolR.mk R.en)) fv [(6, .cells 70 [.sl 7 0 1 0 F.L.length none, .int .i64 sp, .bool F.beg, .int .i64 (↑F.k : Int), .int .i64 F.lk, .str F.lb]), (7, .row 5 byteRow F.L .plain)]))) (branch (decide (sp
 - (↑F.L.length : Int) < (↑(gEnc R.st R.en R.id R.total R.typ R.k R.lb R.data R.sum).length : Int))) (Q (.exit 0) (fE .nils (f13 i)) (AHeap.mk 8 (fHx n (cs.set (idI i) (CutR.mk (cutI cs i).typ R.k2
 R.b2 (cutI cs i).data R.at2 (cutI cs i).id)) (ds.set (idI i) (BoolR.mk R.en)) fv [(6, .cells 70 [.sl 7 0 1 0 F.L.length none, .int .i64 sp, .bool F.beg, .int .i64 (↑F.k : Int), .int .i64 F.lk, .str
 F.lb]), (7, .row 5 byteRow F.L .plain)]))) (branch (decide ((70000 : Int) ≤ (↑F.k : Int))) (Q (.exit 0) (fE .nils (f13 i)) (AHeap.mk 8 (fHx n (cs.set (idI i) (CutR.mk (cutI cs i).typ R.k2 R.b2 (cutI
 cs i).data R.at2 (cutI cs i).id)) (ds.set (idI i) (BoolR.mk R.en)) fv [(6, .cells 70 [.sl 7 0 1 0 F.L.length none, .int .i64 sp, .bool F.beg, .int .i64 (↑F.k : Int), .int .i64 F.lk, .str F.lb]), (7,
 .row 5 byteRow F.L .plain)]))) (obl (inI64 ((↑F.k : Int) + (1 : Int))) (obl (true && decide (F.L.length = F.L.length ∧ 1 = 1 ∧ 1 = 1 ∧ 0 < 1 ∧ (F.L ++ gEnc R.st R.en R.id R.total R.typ R.k R.lb R.data
 R.sum).length ≤ 9223372036854775807 ∧ (F.L ++ gEnc R.st R.en R.id R.total R.typ R.k R.lb R.data R.sum).length * 1 ≤ 140737488355328)) (branch F.beg (branch R.en (Q (.exit 2) (fE (.sl 7 0 1 0 1 none)
 (f13 i)) (AHeap.mk 9 (fHx n (cs.set (idI i) (CutR.mk (cutI cs i).typ R.k2 R.b2 (cutI cs i).data R.at2 (cutI cs i).id)) (ds.set (idI i) (BoolR.mk R.en)) fv [(6, .cells 70 [.sl 8 0 1 0 (F.L ++ gEnc R.st
 R.en R.id R.total R.typ R.k R.lb R.data R.sum).length none, .int .i64 sp, .bool true, .int .i64 ((↑F.k : Int) + (1 : Int)), .int .i64 F.lk, .str F.lb]), (7, .row 33 (intRow .u64) [(↑i : Int) + (1 :
 Int)] .plain), (8, .row 5 byteRow (F.L ++ gEnc R.st R.en R.id R.total R.typ R.k R.lb R.data R.sum) .plain)]))) (Q .normal (fE .nils (f13 i)) (AHeap.mk 8 (fHx n (cs.set (idI i) (CutR.mk (cutI cs i).typ
 R.k2 R.b2 (cutI cs i).data R.at2 (cutI cs i).id)) (ds.set (idI i) (BoolR.mk R.en)) fv [(6, .cells 70 [.sl 7 0 1 0 (F.L ++ gEnc R.st R.en R.id R.total R.typ R.k R.lb R.data R.sum).length none, .int
 .i64 sp, .bool true, .int .i64 ((↑F.k : Int) + (1 : Int)), .int .i64 F.lk, .str F.lb]), (7, .row 5 byteRow (F.L ++ gEnc R.st R.en R.id R.total R.typ R.k R.lb R.data R.sum) .plain)])))) (branch R.st
 (branch R.en (Q (.exit 2) (fE (.sl 7 0 1 0 1 none) (f13 i)) (AHeap.mk 9 (fHx n (cs.set (idI i) (CutR.mk (cutI cs i).typ R.k2 R.b2 (cutI cs i).data R.at2 (cutI cs i).id)) (ds.set (idI i) (BoolR.mk
 R.en)) fv [(6, .cells 70 [.sl 8 0 1 0 (F.L ++ gEnc R.st R.en R.id R.total R.typ R.k R.lb R.data R.sum).length none, .int .i64 sp, .bool !R.en, .int .i64 ((↑F.k : Int) + (1 : Int)), .int .i64 F.lk,
 .str F.lb]), (7, .row 33 (intRow .u64) [(↑i : Int) + (1 : Int)] .plain), (8, .row 5 byteRow (F.L ++ gEnc R.st R.en R.id R.total R.typ R.k R.lb R.data R.sum) .plain)]))) (Q .normal (fE .nils (f13 i))
 (AHeap.mk 8 (fHx n (cs.set (idI i) (CutR.mk (cutI cs i).typ R.k2 R.b2 (cutI cs i).data R.at2 (cutI cs i).id)) (ds.set (idI i) (BoolR.mk R.en)) fv [(6, .cells 70 [.sl 7 0 1 0 (F.L ++ gEnc R.st R.en
 R.id R.total R.typ R.k R.lb R.data R.sum).length none, .int .i64 sp, .bool !R.en, .int .i64 ((↑F.k : Int) + (1 : Int)), .int .i64 F.lk, .str F.lb]), (7, .row 5 byteRow (F.L ++ gEnc R.st R.en R.id
 R.total R.typ R.k R.lb R.data R.sum) .plain)])))) (branch R.en (Q (.exit 2) (fE (.sl 7 0 1 0 1 none) (f13 i)) (AHeap.mk 9 (fHx n (cs.set (idI i) (CutR.mk (cutI cs i).typ R.k2 R.b2 (cutI cs i).data
 R.at2 (cutI cs i).id)) (ds.set (idI i) (BoolR.mk R.en)) fv [(6, .cells 70 [.sl 8 0 1 0 (F.L ++ gEnc R.st R.en R.id R.total R.typ R.k R.lb R.data R.sum).length none, .int .i64 sp, .bool false, .int
 .i64 ((↑F.k : Int) + (1 : Int)), .int .i64 F.lk, .str F.lb]), (7, .row 33 (intRow .u64) [(↑i : Int) + (1 : Int)] .plain), (8, .row 5 byteRow (F.L ++ gEnc R.st R.en R.id R.total R.typ R.k R.lb R.data
 R.sum) .plain)]))) (Q .normal (fE .nils (f13 i)) (AHeap.mk 8 (fHx n (cs.set (idI i) (CutR.mk (cutI cs i).typ R.k2 R.b2 (cutI cs i).data R.at2 (cutI cs i).id)) (ds.set (idI i) (BoolR.mk R.en)) fv [(6,
 .cells 70 [.sl 7 0 1 0 (F.L ++ gEnc R.st R.en R.id R.total R.typ R.k R.lb R.data R.sum).length none, .int .i64 sp, .bool false, .int .i64 ((↑F.k : Int) + (1 : Int)), .int .i64 F.lk, .str F.lb]), (7,
 .row 5 byteRow (F.L ++ gEnc R.st R.en R.id R.total R.typ R.k R.lb R.data R.sum) .plain)])))))))))))))))))) (∀ (R : NextR), nextR (cutI cs i).typ (cutI cs i).k (cutI cs i).lb (cutI cs i).data (cutI cs
 i).pos (cutI cs i).id (cutI cs i).k (cutI cs i).lb (sp - (↑F.L.length : Int)) F.beg = R → branch (!decide (R.err = (0 : Int))) (branch (!decide (R.err = (0 : Int))) (Q (.exit 0) (fE .nils (f13 i))
 (AHeap.mk 8 (fHx n cs ds fv [(6, .cells 70 [.sl 7 0 1 0 F.L.length none, .int .i64 sp, .bool F.beg, .int .i64 (↑F.k : Int), .int .i64 F.lk, .str F.lb]), (7, .row 5 byteRow F.L .plain)]))) (branch
 (decide (sp - (↑F.L.length : Int) < (3 : Int))) (Q (.exit 0) (fE .nils (f13 i)) (AHeap.mk 8 (fHx n cs ds fv [(6, .cells 70 [.sl 7 0 1 0 F.L.length none, .int .i64 sp, .bool F.beg, .int .i64 (↑F.k :
 Int), .int .i64 F.lk, .str F.lb]), (7, .row 5 byteRow F.L .plain)]))) (branch (decide ((70000 : Int) ≤ (↑F.k : Int))) (Q (.exit 0) (fE .nils (f13 i)) (AHeap.mk 8 (fHx n cs ds fv [(6, .cells 70 [.sl 7
 0 1 0 F.L.length none, .int .i64 sp, .bool F.beg, .int .i64 (↑F.k : Int), .int .i64 F.lk, .str F.lb]), (7, .row 5 byteRow F.L .plain)]))) (obl (inI64 ((↑F.k : Int) + (1 : Int))) (obl (true && decide
 (F.L.length = F.L.length ∧ 1 = 1 ∧ 1 = 1 ∧ 0 < 1 ∧ (F.L ++ [(48 : UInt8), (1 : UInt8), (0 : UInt8)]).length ≤ 9223372036854775807 ∧ (F.L ++ [(48 : UInt8), (1 : UInt8), (0 : UInt8)]).length * 1 ≤
 140737488355328)) (branch F.beg (Q .normal (fE .nils (f13 i)) (AHeap.mk 8 (fHx n cs ds fv [(6, .cells 70 [.sl 7 0 1 0 (F.L ++ [(48 : UInt8), (1 : UInt8), (0 : UInt8)]).length none, .int .i64 sp, .bool
 true, .int .i64 ((↑F.k : Int) + (1 : Int)), .int .i64 F.lk, .str F.lb]), (7, .row 5 byteRow (F.L ++ [(48 : UInt8), (1 : UInt8), (0 : UInt8)]) .plain)]))) (Q .normal (fE .nils (f13 i)) (AHeap.mk 8 (fHx
 n cs ds fv [(6, .cells 70 [.sl 7 0 1 0 (F.L ++ [(48 : UInt8), (1 : UInt8), (0 : UInt8)]).length none, .int .i64 sp, .bool false, .int .i64 ((↑F.k : Int) + (1 : Int)), .int .i64 F.lk, .str F.lb]), (7,
 .row 5 byteRow (F.L ++ [(48 : UInt8), (1 : UInt8), (0 : UInt8)]) .plain)]))))))))) (obl (decide ((0 : Int) ≤ idJ i ∧ idJ i < (↑n : Int))) (obl (decide (0 + (idJ i).toNat < cs.length) && true) (obl
 (decide ((0 : Int) ≤ idJ i ∧ idJ i < (↑n : Int))) (obl (decide (0 + (idJ i).toNat < ds.length) && true) (obl (decide (R.lb.length + R.data.length + R.sum.length ≤ 9223372036854775000)) (branch
 (!decide (gErr R.st R.en R.id R.total R.typ R.k R.lb R.data R.sum = (0 : Int))) (Q (.exit 0) (fE .nils (f13 i)) (AHeap.mk 8 (fHx n (cs.set (idI i) (CutR.mk (cutI cs i).typ R.k2 R.b2 (cutI cs i).data
 R.at2 (cutI cs i).id)) (ds.set (idI i) (BoolR.mk R.en)) fv [(6, .cells 70 [.sl 7 0 1 0 F.L.length none, .int .i64 sp, .bool F.beg, .int .i64 (↑F.k : Int), .int .i64 F.lk, .str F.lb]), (7, .row 5
 byteRow F.L .plain)]))) (branch (decide (sp - (↑F.L.length : Int) < (↑(gEnc R.st R.en R.id R.total R.typ R.k R.lb R.data R.sum).length : Int))) (Q (.exit 0) (fE .nils (f13 i)) (AHeap.mk 8 (fHx n
 (cs.set (idI i) (CutR.mk (cutI cs i).typ R.k2 R.b2 (cutI cs i).data R.at2 (cutI cs i).id)) (ds.set (idI i) (BoolR.mk R.en)) fv [(6, .cells 70 [.sl 7 0 1 0 F.L.length none, .int .i64 sp, .bool F.beg,
 .int .i64 (↑F.k : Int), .int .i64 F.lk, .str F.lb]), (7, .row 5 byteRow F.L .plain)]))) (branch (decide ((70000 : Int) ≤ (↑F.k : Int))) (Q (.exit 0) (fE .nils (f13 i)) (AHeap.mk 8 (fHx n (cs.set (idI
 i) (CutR.mk (cutI cs i).typ R.k2 R.b2 (cutI cs i).data R.at2 (cutI cs i).id)) (ds.set (idI i) (BoolR.mk R.en)) fv [(6, .cells 70 [.sl 7 0 1 0 F.L.length none, .int .i64 sp, .bool F.beg, .int .i64
 (↑F.k : Int), .int .i64 F.lk, .str F.lb]), (7, .row 5 byteRow F.L .plain)]))) (obl (inI64 ((↑F.k : Int) + (1 : Int))) (obl (true && decide (F.L.length = F.L.length ∧ 1 = 1 ∧ 1 = 1 ∧ 0 < 1 ∧ (F.L ++
 gEnc R.st R.en R.id R.total R.typ R.k R.lb R.data R.sum).length ≤ 9223372036854775807 ∧ (F.L ++ gEnc R.st R.en R.id R.total R.typ R.k R.lb R.data R.sum).length * 1 ≤ 140737488355328)) (branch F.beg
 (branch R.en (Q (.exit 2) (fE (.sl 7 0 1 0 1 none) (f13 i)) (AHeap.mk 9 (fHx n (cs.set (idI i) (CutR.mk (cutI cs i).typ R.k2 R.b2 (cutI cs i).data R.at2 (cutI cs i).id)) (ds.set (idI i) (BoolR.mk
 R.en)) fv [(6, .cells 70 [.sl 8 0 1 0 (F.L ++ gEnc R.st R.en R.id R.total R.typ R.k R.lb R.data R.sum).length none, .int .i64 sp, .bool true, .int .i64 ((↑F.k : Int) + (1 : Int)), .int .i64 F.lk, .str
 F.lb]), (7, .row 33 (intRow .u64) [(↑i : Int) + (1 : Int)] .plain), (8, .row 5 byteRow (F.L ++ gEnc R.st R.en R.id R.total R.typ R.k R.lb R.data R.sum) .plain)]))) (Q .normal (fE .nils (f13 i))
 (AHeap.mk 8 (fHx n (cs.set (idI i) (CutR.mk (cutI cs i).typ R.k2 R.b2 (cutI cs i).data R.at2 (cutI cs i).id)) (ds.set (idI i) (BoolR.mk R.en)) fv [(6, .cells 70 [.sl 7 0 1 0 (F.L ++ gEnc R.st R.en
 R.id R.total R.typ R.k R.lb R.data R.sum).length none, .int .i64 sp, .bool true, .int .i64 ((↑F.k : Int) + (1 : Int)), .int .i64 F.lk, .str F.lb]), (7, .row 5 byteRow (F.L ++ gEnc R.st R.en R.id
 R.total R.typ R.k R.lb R.data R.sum) .plain)])))) (branch R.st (branch R.en (Q (.exit 2) (fE (.sl 7 0 1 0 1 none) (f13 i)) (AHeap.mk 9 (fHx n (cs.set (idI i) (CutR.mk (cutI cs i).typ R.k2 R.b2 (cutI
 cs i).data R.at2 (cutI cs i).id)) (ds.set (idI i) (BoolR.mk R.en)) fv [(6, .cells 70 [.sl 8 0 1 0 (F.L ++ gEnc R.st R.en R.id R.total R.typ R.k R.lb R.data R.sum).length none, .int .i64 sp, .bool
 !R.en, .int .i64 ((↑F.k : Int) + (1 : Int)), .int .i64 F.lk, .str F.lb]), (7, .row 33 (intRow .u64) [(↑i : Int) + (1 : Int)] .plain), (8, .row 5 byteRow (F.L ++ gEnc R.st R.en R.id R.total R.typ R.k
 R.lb R.data R.sum) .plain)]))) (Q .normal (fE .nils (f13 i)) (AHeap.mk 8 (fHx n (cs.set (idI i) (CutR.mk (cutI cs i).typ R.k2 R.b2 (cutI cs i).data R.at2 (cutI cs i).id)) (ds.set (idI i) (BoolR.mk
 R.en)) fv [(6, .cells 70 [.sl 7 0 1 0 (F.L ++ gEnc R.st R.en R.id R.total R.typ R.k R.lb R.data R.sum).length none, .int .i64 sp, .bool !R.en, .int .i64 ((↑F.k : Int) + (1 : Int)), .int .i64 F.lk,
 .str F.lb]), (7, .row 5 byteRow (F.L ++ gEnc R.st R.en R.id R.total R.typ R.k R.lb R.data R.sum) .plain)])))) (branch R.en (Q (.exit 2) (fE (.sl 7 0 1 0 1 none) (f13 i)) (AHeap.mk 9 (fHx n (cs.set
 (idI i) (CutR.mk (cutI cs i).typ R.k2 R.b2 (cutI cs i).data R.at2 (cutI cs i).id)) (ds.set (idI i) (BoolR.mk R.en)) fv [(6, .cells 70 [.sl 8 0 1 0 (F.L ++ gEnc R.st R.en R.id R.total R.typ R.k R.lb
 R.data R.sum).length none, .int .i64 sp, .bool false, .int .i64 ((↑F.k : Int) + (1 : Int)), .int .i64 F.lk, .str F.lb]), (7, .row 33 (intRow .u64) [(↑i : Int) + (1 : Int)] .plain), (8, .row 5 byteRow
 (F.L ++ gEnc R.st R.en R.id R.total R.typ R.k R.lb R.data R.sum) .plain)]))) (Q .normal (fE .nils (f13 i)) (AHeap.mk 8 (fHx n (cs.set (idI i) (CutR.mk (cutI cs i).typ R.k2 R.b2 (cutI cs i).data R.at2
 (cutI cs i).id)) (ds.set (idI i) (BoolR.mk R.en)) fv [(6, .cells 70 [.sl 7 0 1 0 (F.L ++ gEnc R.st R.en R.id R.total R.typ R.k R.lb R.data R.sum).length none, .int .i64 sp, .bool false, .int .i64
 ((↑F.k : Int) + (1 : Int)), .int .i64 F.lk, .str F.lb]), (7, .row 5 byteRow (F.L ++ gEnc R.st R.en R.id R.total R.typ R.k R.lb R.data R.sum) .plain)]))))))))))))))))))) (branch (decide ((0 : Int) <
 lSize (cutI cs i).k)) (branch (decide ((if lOk (cutI cs i).k (cutI cs i).lb = true then (0 : Int) else (2 : Int)) = (0 : Int))) (∀ (R : NextR), nextR (cutI cs i).typ (cutI cs i).k (cutI cs i).lb (cutI
 cs i).data (cutI cs i).pos (cutI cs i).id (cutI cs i).k (cutI cs i).lb (sp - (↑F.L.length : Int)) F.beg = R → branch (!decide (R.err = (0 : Int))) (branch (!decide (R.err = (0 : Int))) (Q (.exit 0)
 (fE .nils (f13 i)) (AHeap.mk 8 (fHx n cs ds fv [(6, .cells 70 [.sl 7 0 1 0 F.L.length none, .int .i64 sp, .bool F.beg, .int .i64 (↑F.k : Int), .int .i64 (cutI cs i).k, .str (cutI cs i).lb]), (7, .row
 5 byteRow F.L .plain)]))) (branch (decide (sp - (↑F.L.length : Int) < (3 : Int))) (Q (.exit 0) (fE .nils (f13 i)) (AHeap.mk 8 (fHx n cs ds fv [(6, .cells 70 [.sl 7 0 1 0 F.L.length none, .int .i64 sp,
 .bool F.beg, .int .i64 (↑F.k : Int), .int .i64 (cutI cs i).k, .str (cutI cs i).lb]), (7, .row 5 byteRow F.L .plain)]))) (branch (decide ((70000 : Int) ≤ (↑F.k : Int))) (Q (.exit 0) (fE .nils (f13 i))
 (AHeap.mk 8 (fHx n cs ds fv [(6, .cells 70 [.sl 7 0 1 0 F.L.length none, .int .i64 sp, .bool F.beg, .int .i64 (↑F.k : Int), .int .i64 (cutI cs i).k, .str (cutI cs i).lb]), (7, .row 5 byteRow F.L
 .plain)]))) (obl (inI64 ((↑F.k : Int) + (1 : Int))) (obl (true && decide (F.L.length = F.L.length ∧ 1 = 1 ∧ 1 = 1 ∧ 0 < 1 ∧ (F.L ++ [(48 : UInt8), (1 : UInt8), (0 : UInt8)]).length ≤
 9223372036854775807 ∧ (F.L ++ [(48 : UInt8), (1 : UInt8), (0 : UInt8)]).length * 1 ≤ 140737488355328)) (branch F.beg (Q .normal (fE .nils (f13 i)) (AHeap.mk 8 (fHx n cs ds fv [(6, .cells 70 [.sl 7 0 1
 0 (F.L ++ [(48 : UInt8), (1 : UInt8), (0 : UInt8)]).length none, .int .i64 sp, .bool true, .int .i64 ((↑F.k : Int) + (1 : Int)), .int .i64 (cutI cs i).k, .str (cutI cs i).lb]), (7, .row 5 byteRow (F.L
 ++ [(48 : UInt8), (1 : UInt8), (0 : UInt8)]) .plain)]))) (Q .normal (fE .nils (f13 i)) (AHeap.mk 8 (fHx n cs ds fv [(6, .cells 70 [.sl 7 0 1 0 (F.L ++ [(48 : UInt8), (1 : UInt8), (0 : UInt8)]).length
 none, .int .i64 sp, .bool false, .int .i64 ((↑F.k : Int) + (1 : Int)), .int .i64 (cutI cs i).k, .str (cutI cs i).lb]), (7, .row 5 byteRow (F.L ++ [(48 : UInt8), (1 : UInt8), (0 : UInt8)])
 .plain)]))))))))) (obl (decide ((0 : Int) ≤ idJ i ∧ idJ i < (↑n : Int))) (obl (decide (0 + (idJ i).toNat < cs.length) && true) (obl (decide ((0 : Int) ≤ idJ i ∧ idJ i < (↑n : Int))) (obl (decide (0 +
 (idJ i).toNat < ds.length) && true) (obl (decide (R.lb.length + R.data.length + R.sum.length ≤ 9223372036854775000)) (branch (!decide (gErr R.st R.en R.id R.total R.typ R.k R.lb R.data R.sum = (0 :
 Int))) (Q (.exit 0) (fE .nils (f13 i)) (AHeap.mk 8 (fHx n (cs.set (idI i) (CutR.mk (cutI cs i).typ R.k2 R.b2 (cutI cs i).data R.at2 (cutI cs i).id)) (ds.set (idI i) (BoolR.mk R.en)) fv [(6, .cells 70
 [.sl 7 0 1 0 F.L.length none, .int .i64 sp, .bool F.beg, .int .i64 (↑F.k : Int), .int .i64 (cutI cs i).k, .str (cutI cs i).lb]), (7, .row 5 byteRow F.L .plain)]))) (branch (decide (sp - (↑F.L.length :
 Int) < (↑(gEnc R.st R.en R.id R.total R.typ R.k R.lb R.data R.sum).length : Int))) (Q (.exit 0) (fE .nils (f13 i)) (AHeap.mk 8 (fHx n (cs.set (idI i) (CutR.mk (cutI cs i).typ R.k2 R.b2 (cutI cs
 i).data R.at2 (cutI cs i).id)) (ds.set (idI i) (BoolR.mk R.en)) fv [(6, .cells 70 [.sl 7 0 1 0 F.L.length none, .int .i64 sp, .bool F.beg, .int .i64 (↑F.k : Int), .int .i64 (cutI cs i).k, .str (cutI
 cs i).lb]), (7, .row 5 byteRow F.L .plain)]))) (branch (decide ((70000 : Int) ≤ (↑F.k : Int))) (Q (.exit 0) (fE .nils (f13 i)) (AHeap.mk 8 (fHx n (cs.set (idI i) (CutR.mk (cutI cs i).typ R.k2 R.b2
 (cutI cs i).data R.at2 (cutI cs i).id)) (ds.set (idI i) (BoolR.mk R.en)) fv [(6, .cells 70 [.sl 7 0 1 0 F.L.length none, .int .i64 sp, .bool F.beg, .int .i64 (↑F.k : Int), .int .i64 (cutI cs i).k,
 .str (cutI cs i).lb]), (7, .row 5 byteRow F.L .plain)]))) (obl (inI64 ((↑F.k : Int) + (1 : Int))) (obl (true && decide (F.L.length = F.L.length ∧ 1 = 1 ∧ 1 = 1 ∧ 0 < 1 ∧ (F.L ++ gEnc R.st R.en R.id
 R.total R.typ R.k R.lb R.data R.sum).length ≤ 9223372036854775807 ∧ (F.L ++ gEnc R.st R.en R.id R.total R.typ R.k R.lb R.data R.sum).length * 1 ≤ 140737488355328)) (branch F.beg (branch R.en (Q (.exit
 2) (fE (.sl 7 0 1 0 1 none) (f13 i)) (AHeap.mk 9 (fHx n (cs.set (idI i) (CutR.mk (cutI cs i).typ R.k2 R.b2 (cutI cs i).data R.at2 (cutI cs i).id)) (ds.set (idI i) (BoolR.mk R.en)) fv [(6, .cells 70
 [.sl 8 0 1 0 (F.L ++ gEnc R.st R.en R.id R.total R.typ R.k R.lb R.data R.sum).length none, .int .i64 sp, .bool true, .int .i64 ((↑F.k : Int) + (1 : Int)), .int .i64 (cutI cs i).k, .str (cutI cs
 i).lb]), (7, .row 33 (intRow .u64) [(↑i : Int) + (1 : Int)] .plain), (8, .row 5 byteRow (F.L ++ gEnc R.st R.en R.id R.total R.typ R.k R.lb R.data R.sum) .plain)]))) (Q .normal (fE .nils (f13 i))
 (AHeap.mk 8 (fHx n (cs.set (idI i) (CutR.mk (cutI cs i).typ R.k2 R.b2 (cutI cs i).data R.at2 (cutI cs i).id)) (ds.set (idI i) (BoolR.mk R.en)) fv [(6, .cells 70 [.sl 7 0 1 0 (F.L ++ gEnc R.st R.en
 R.id R.total R.typ R.k R.lb R.data R.sum).length none, .int .i64 sp, .bool true, .int .i64 ((↑F.k : Int) + (1 : Int)), .int .i64 (cutI cs i).k, .str (cutI cs i).lb]), (7, .row 5 byteRow (F.L ++ gEnc
 R.st R.en R.id R.total R.typ R.k R.lb R.data R.sum) .plain)])))) (branch R.st (branch R.en (Q (.exit 2) (fE (.sl 7 0 1 0 1 none) (f13 i)) (AHeap.mk 9 (fHx n (cs.set (idI i) (CutR.mk (cutI cs i).typ
 R.k2 R.b2 (cutI cs i).data R.at2 (cutI cs i).id)) (ds.set (idI i) (BoolR.mk R.en)) fv [(6, .cells 70 [.sl 8 0 1 0 (F.L ++ gEnc R.st R.en R.id R.total R.typ R.k R.lb R.data R.sum).length none, .int
 .i64 sp, .bool !R.en, .int .i64 ((↑F.k : Int) + (1 : Int)), .int .i64 (cutI cs i).k, .str (cutI cs i).lb]), (7, .row 33 (intRow .u64) [(↑i : Int) + (1 : Int)] .plain), (8, .row 5 byteRow (F.L ++ gEnc
 R.st R.en R.id R.total R.typ R.k R.lb R.data R.sum) .plain)]))) (Q .normal (fE .nils (f13 i)) (AHeap.mk 8 (fHx n (cs.set (idI i) (CutR.mk (cutI cs i).typ R.k2 R.b2 (cutI cs i).data R.at2 (cutI cs
 i).id)) (ds.set (idI i) (BoolR.mk R.en)) fv [(6, .cells 70 [.sl 7 0 1 0 (F.L ++ gEnc R.st R.en R.id R.total R.typ R.k R.lb R.data R.sum).length none, .int .i64 sp, .bool !R.en, .int .i64 ((↑F.k : Int)
 + (1 : Int)), .int .i64 (cutI cs i).k, .str (cutI cs i).lb]), (7, .row 5 byteRow (F.L ++ gEnc R.st R.en R.id R.total R.typ R.k R.lb R.data R.sum) .plain)])))) (branch R.en (Q (.exit 2) (fE (.sl 7 0 1
 0 1 none) (f13 i)) (AHeap.mk 9 (fHx n (cs.set (idI i) (CutR.mk (cutI cs i).typ R.k2 R.b2 (cutI cs i).data R.at2 (cutI cs i).id)) (ds.set (idI i) (BoolR.mk R.en)) fv [(6, .cells 70 [.sl 8 0 1 0 (F.L ++
 gEnc R.st R.en R.id R.total R.typ R.k R.lb R.data R.sum).length none, .int .i64 sp, .bool false, .int .i64 ((↑F.k : Int) + (1 : Int)), .int .i64 (cutI cs i).k, .str (cutI cs i).lb]), (7, .row 33
 (intRow .u64) [(↑i : Int) + (1 : Int)] .plain), (8, .row 5 byteRow (F.L ++ gEnc R.st R.en R.id R.total R.typ R.k R.lb R.data R.sum) .plain)]))) (Q .normal (fE .nils (f13 i)) (AHeap.mk 8 (fHx n (cs.set
 (idI i) (CutR.mk (cutI cs i).typ R.k2 R.b2 (cutI cs i).data R.at2 (cutI cs i).id)) (ds.set (idI i) (BoolR.mk R.en)) fv [(6, .cells 70 [.sl 7 0 1 0 (F.L ++ gEnc R.st R.en R.id R.total R.typ R.k R.lb
 R.data R.sum).length none, .int .i64 sp, .bool false, .int .i64 ((↑F.k : Int) + (1 : Int)), .int .i64 (cutI cs i).k, .str (cutI cs i).lb]), (7, .row 5 byteRow (F.L ++ gEnc R.st R.en R.id R.total R.typ
 R.k R.lb R.data R.sum) .plain)]))))))))))))))))) (∀ (R : NextR), nextR (cutI cs i).typ (cutI cs i).k (cutI cs i).lb (cutI cs i).data (cutI cs i).pos (cutI cs i).id (cutI cs i).k (cutI cs i).lb (sp -
 (↑F.L.length : Int)) F.beg = R → branch (!decide (R.err = (0 : Int))) (branch (!decide (R.err = (0 : Int))) (Q (.exit 0) (fE .nils (f13 i)) (AHeap.mk 8 (fHx n cs ds fv [(6, .cells 70 [.sl 7 0 1 0
 F.L.length none, .int .i64 sp, .bool F.beg, .int .i64 (↑F.k : Int), .int .i64 F.lk, .str F.lb]), (7, .row 5 byteRow F.L .plain)]))) (branch (decide (sp - (↑F.L.length : Int) < (3 : Int))) (Q (.exit 0)
 (fE .nils (f13 i)) (AHeap.mk 8 (fHx n cs ds fv [(6, .cells 70 [.sl 7 0 1 0 F.L.length none, .int .i64 sp, .bool F.beg, .int .i64 (↑F.k : Int), .int .i64 F.lk, .str F.lb]), (7, .row 5 byteRow F.L
 .plain)]))) (branch (decide ((70000 : Int) ≤ (↑F.k : Int))) (Q (.exit 0) (fE .nils (f13 i)) (AHeap.mk 8 (fHx n cs ds fv [(6, .cells 70 [.sl 7 0 1 0 F.L.length none, .int .i64 sp, .bool F.beg, .int
 .i64 (↑F.k : Int), .int .i64 F.lk, .str F.lb]), (7, .row 5 byteRow F.L .plain)]))) (obl (inI64 ((↑F.k : Int) + (1 : Int))) (obl (true && decide (F.L.length = F.L.length ∧ 1 = 1 ∧ 1 = 1 ∧ 0 < 1 ∧ (F.L
 ++ [(48 : UInt8), (1 : UInt8), (0 : UInt8)]).length ≤ 9223372036854775807 ∧ (F.L ++ [(48 : UInt8), (1 : UInt8), (0 : UInt8)]).length * 1 ≤ 140737488355328)) (branch F.beg (Q .normal (fE .nils (f13 i))
 (AHeap.mk 8 (fHx n cs ds fv [(6, .cells 70 [.sl 7 0 1 0 (F.L ++ [(48 : UInt8), (1 : UInt8), (0 : UInt8)]).length none, .int .i64 sp, .bool true, .int .i64 ((↑F.k : Int) + (1 : Int)), .int .i64 F.lk,
 .str F.lb]), (7, .row 5 byteRow (F.L ++ [(48 : UInt8), (1 : UInt8), (0 : UInt8)]) .plain)]))) (Q .normal (fE .nils (f13 i)) (AHeap.mk 8 (fHx n cs ds fv [(6, .cells 70 [.sl 7 0 1 0 (F.L ++ [(48 :
 UInt8), (1 : UInt8), (0 : UInt8)]).length none, .int .i64 sp, .bool false, .int .i64 ((↑F.k : Int) + (1 : Int)), .int .i64 F.lk, .str F.lb]), (7, .row 5 byteRow (F.L ++ [(48 : UInt8), (1 : UInt8), (0
 : UInt8)]) .plain)]))))))))) (obl (decide ((0 : Int) ≤ idJ i ∧ idJ i < (↑n : Int))) (obl (decide (0 + (idJ i).toNat < cs.length) && true) (obl (decide ((0 : Int) ≤ idJ i ∧ idJ i < (↑n : Int))) (obl
 (decide (0 + (idJ i).toNat < ds.length) && true) (obl (decide (R.lb.length + R.data.length + R.sum.length ≤ 9223372036854775000)) (branch (!decide (gErr R.st R.en R.id R.total R.typ R.k R.lb R.data
 R.sum = (0 : Int))) (Q (.exit 0) (fE .nils (f13 i)) (AHeap.mk 8 (fHx n (cs.set (idI i) (CutR.mk (cutI cs i).typ R.k2 R.b2 (cutI cs i).data R.at2 (cutI cs i).id)) (ds.set (idI i) (BoolR.mk R.en)) fv
 [(6, .cells 70 [.sl 7 0 1 0 F.L.length none, .int .i64 sp, .bool F.beg, .int .i64 (↑F.k : Int), .int .i64 F.lk, .str F.lb]), (7, .row 5 byteRow F.L .plain)]))) (branch (decide (sp - (↑F.L.length :
 Int) < (↑(gEnc R.st R.en R.id R.total R.typ R.k R.lb R.data R.sum).length : Int))) (Q (.exit 0) (fE .nils (f13 i)) (AHeap.mk 8 (fHx n (cs.set (idI i) (CutR.mk (cutI cs i).typ R.k2 R.b2 (cutI cs
 i).data R.at2 (cutI cs i).id)) (ds.set (idI i) (BoolR.mk R.en)) fv [(6, .cells 70 [.sl 7 0 1 0 F.L.length none, .int .i64 sp, .bool F.beg, .int .i64 (↑F.k : Int), .int .i64 F.lk, .str F.lb]), (7, .row
 5 byteRow F.L .plain)]))) (branch (decide ((70000 : Int) ≤ (↑F.k : Int))) (Q (.exit 0) (fE .nils (f13 i)) (AHeap.mk 8 (fHx n (cs.set (idI i) (CutR.mk (cutI cs i).typ R.k2 R.b2 (cutI cs i).data R.at2
 (cutI cs i).id)) (ds.set (idI i) (BoolR.mk R.en)) fv [(6, .cells 70 [.sl 7 0 1 0 F.L.length none, .int .i64 sp, .bool F.beg, .int .i64 (↑F.k : Int), .int .i64 F.lk, .str F.lb]), (7, .row 5 byteRow F.L
 .plain)]))) (obl (inI64 ((↑F.k : Int) + (1 : Int))) (obl (true && decide (F.L.length = F.L.length ∧ 1 = 1 ∧ 1 = 1 ∧ 0 < 1 ∧ (F.L ++ gEnc R.st R.en R.id R.total R.typ R.k R.lb R.data R.sum).length ≤
 9223372036854775807 ∧ (F.L ++ gEnc R.st R.en R.id R.total R.typ R.k R.lb R.data R.sum).length * 1 ≤ 140737488355328)) (branch F.beg (branch R.en (Q (.exit 2) (fE (.sl 7 0 1 0 1 none) (f13 i))
 (AHeap.mk 9 (fHx n (cs.set (idI i) (CutR.mk (cutI cs i).typ R.k2 R.b2 (cutI cs i).data R.at2 (cutI cs i).id)) (ds.set (idI i) (BoolR.mk R.en)) fv [(6, .cells 70 [.sl 8 0 1 0 (F.L ++ gEnc R.st R.en
 R.id R.total R.typ R.k R.lb R.data R.sum).length none, .int .i64 sp, .bool true, .int .i64 ((↑F.k : Int) + (1 : Int)), .int .i64 F.lk, .str F.lb]), (7, .row 33 (intRow .u64) [(↑i : Int) + (1 : Int)]
 .plain), (8, .row 5 byteRow (F.L ++ gEnc R.st R.en R.id R.total R.typ R.k R.lb R.data R.sum) .plain)]))) (Q .normal (fE .nils (f13 i)) (AHeap.mk 8 (fHx n (cs.set (idI i) (CutR.mk (cutI cs i).typ R.k2
 R.b2 (cutI cs i).data R.at2 (cutI cs i).id)) (ds.set (idI i) (BoolR.mk R.en)) fv [(6, .cells 70 [.sl 7 0 1 0 (F.L ++ gEnc R.st R.en R.id R.total R.typ R.k R.lb R.data R.sum).length none, .int .i64 sp,
 .bool true, .int .i64 ((↑F.k : Int) + (1 : Int)), .int .i64 F.lk, .str F.lb]), (7, .row 5 byteRow (F.L ++ gEnc R.st R.en R.id R.total R.typ R.k R.lb R.data R.sum) .plain)])))) (branch R.st (branch
 R.en (Q (.exit 2) (fE (.sl 7 0 1 0 1 none) (f13 i)) (AHeap.mk 9 (fHx n (cs.set (idI i) (CutR.mk (cutI cs i).typ R.k2 R.b2 (cutI cs i).data R.at2 (cutI cs i).id)) (ds.set (idI i) (BoolR.mk R.en)) fv
 [(6, .cells 70 [.sl 8 0 1 0 (F.L ++ gEnc R.st R.en R.id R.total R.typ R.k R.lb R.data R.sum).length none, .int .i64 sp, .bool !R.en, .int .i64 ((↑F.k : Int) + (1 : Int)), .int .i64 F.lk, .str F.lb]),
 (7, .row 33 (intRow .u64) [(↑i : Int) + (1 : Int)] .plain), (8, .row 5 byteRow (F.L ++ gEnc R.st R.en R.id R.total R.typ R.k R.lb R.data R.sum) .plain)]))) (Q .normal (fE .nils (f13 i)) (AHeap.mk 8
 (fHx n (cs.set (idI i) (CutR.mk (cutI cs i).typ R.k2 R.b2 (cutI cs i).data R.at2 (cutI cs i).id)) (ds.set (idI i) (BoolR.mk R.en)) fv [(6, .cells 70 [.sl 7 0 1 0 (F.L ++ gEnc R.st R.en R.id R.total
 R.typ R.k R.lb R.data R.sum).length none, .int .i64 sp, .bool !R.en, .int .i64 ((↑F.k : Int) + (1 : Int)), .int .i64 F.lk, .str F.lb]), (7, .row 5 byteRow (F.L ++ gEnc R.st R.en R.id R.total R.typ R.k
 R.lb R.data R.sum) .plain)])))) (branch R.en (Q (.exit 2) (fE (.sl 7 0 1 0 1 none) (f13 i)) (AHeap.mk 9 (fHx n (cs.set (idI i) (CutR.mk (cutI cs i).typ R.k2 R.b2 (cutI cs i).data R.at2 (cutI cs
 i).id)) (ds.set (idI i) (BoolR.mk R.en)) fv [(6, .cells 70 [.sl 8 0 1 0 (F.L ++ gEnc R.st R.en R.id R.total R.typ R.k R.lb R.data R.sum).length none, .int .i64 sp, .bool false, .int .i64 ((↑F.k : Int)
 + (1 : Int)), .int .i64 F.lk, .str F.lb]), (7, .row 33 (intRow .u64) [(↑i : Int) + (1 : Int)] .plain), (8, .row 5 byteRow (F.L ++ gEnc R.st R.en R.id R.total R.typ R.k R.lb R.data R.sum) .plain)])))
 (Q .normal (fE .nils (f13 i)) (AHeap.mk 8 (fHx n (cs.set (idI i) (CutR.mk (cutI cs i).typ R.k2 R.b2 (cutI cs i).data R.at2 (cutI cs i).id)) (ds.set (idI i) (BoolR.mk R.en)) fv [(6, .cells 70 [.sl 7 0
 1 0 (F.L ++ gEnc R.st R.en R.id R.total R.typ R.k R.lb R.data R.sum).length none, .int .i64 sp, .bool false, .int .i64 ((↑F.k : Int) + (1 : Int)), .int .i64 F.lk, .str F.lb]), (7, .row 5 byteRow (F.L
 ++ gEnc R.st R.en R.id R.total R.typ R.k R.lb R.data R.sum) .plain)])))))))))))))))))) (∀ (R : NextR), nextR (cutI cs i).typ (cutI cs i).k (cutI cs i).lb (cutI cs i).data (cutI cs i).pos (cutI cs
 i).id (cutI cs i).k (cutI cs i).lb (sp - (↑F.L.length : Int)) F.beg = R → branch (!decide (R.err = (0 : Int))) (branch (!decide (R.err = (0 : Int))) (Q (.exit 0) (fE .nils (f13 i)) (AHeap.mk 8 (fHx n
 cs ds fv [(6, .cells 70 [.sl 7 0 1 0 F.L.length none, .int .i64 sp, .bool F.beg, .int .i64 (↑F.k : Int), .int .i64 F.lk, .str F.lb]), (7, .row 5 byteRow F.L .plain)]))) (branch (decide (sp -
 (↑F.L.length : Int) < (3 : Int))) (Q (.exit 0) (fE .nils (f13 i)) (AHeap.mk 8 (fHx n cs ds fv [(6, .cells 70 [.sl 7 0 1 0 F.L.length none, .int .i64 sp, .bool F.beg, .int .i64 (↑F.k : Int), .int .i64
 F.lk, .str F.lb]), (7, .row 5 byteRow F.L .plain)]))) (branch (decide ((70000 : Int) ≤ (↑F.k : Int))) (Q (.exit 0) (fE .nils (f13 i)) (AHeap.mk 8 (fHx n cs ds fv [(6, .cells 70 [.sl 7 0 1 0 F.L.length
 none, .int .i64 sp, .bool F.beg, .int .i64 (↑F.k : Int), .int .i64 F.lk, .str F.lb]), (7, .row 5 byteRow F.L .plain)]))) (obl (inI64 ((↑F.k : Int) + (1 : Int))) (obl (true && decide (F.L.length =
 F.L.length ∧ 1 = 1 ∧ 1 = 1 ∧ 0 < 1 ∧ (F.L ++ [(48 : UInt8), (1 : UInt8), (0 : UInt8)]).length ≤ 9223372036854775807 ∧ (F.L ++ [(48 : UInt8), (1 : UInt8), (0 : UInt8)]).length * 1 ≤ 140737488355328))
 (branch F.beg (Q .normal (fE .nils (f13 i)) (AHeap.mk 8 (fHx n cs ds fv [(6, .cells 70 [.sl 7 0 1 0 (F.L ++ [(48 : UInt8), (1 : UInt8), (0 : UInt8)]).length none, .int .i64 sp, .bool true, .int .i64
 ((↑F.k : Int) + (1 : Int)), .int .i64 F.lk, .str F.lb]), (7, .row 5 byteRow (F.L ++ [(48 : UInt8), (1 : UInt8), (0 : UInt8)]) .plain)]))) (Q .normal (fE .nils (f13 i)) (AHeap.mk 8 (fHx n cs ds fv [(6,
 .cells 70 [.sl 7 0 1 0 (F.L ++ [(48 : UInt8), (1 : UInt8), (0 : UInt8)]).length none, .int .i64 sp, .bool false, .int .i64 ((↑F.k : Int) + (1 : Int)), .int .i64 F.lk, .str F.lb]), (7, .row 5 byteRow
 (F.L ++ [(48 : UInt8), (1 : UInt8), (0 : UInt8)]) .plain)]))))))))) (obl (decide ((0 : Int) ≤ idJ i ∧ idJ i < (↑n : Int))) (obl (decide (0 + (idJ i).toNat < cs.length) && true) (obl (decide ((0 : Int)
 ≤ idJ i ∧ idJ i < (↑n : Int))) (obl (decide (0 + (idJ i).toNat < ds.length) && true) (obl (decide (R.lb.length + R.data.length + R.sum.length ≤ 9223372036854775000)) (branch (!decide (gErr R.st R.en
 R.id R.total R.typ R.k R.lb R.data R.sum = (0 : Int))) (Q (.exit 0) (fE .nils (f13 i)) (AHeap.mk 8 (fHx n (cs.set (idI i) (CutR.mk (cutI cs i).typ R.k2 R.b2 (cutI cs i).data R.at2 (cutI cs i).id))
 (ds.set (idI i) (BoolR.mk R.en)) fv [(6, .cells 70 [.sl 7 0 1 0 F.L.length none, .int .i64 sp, .bool F.beg, .int .i64 (↑F.k : Int), .int .i64 F.lk, .str F.lb]), (7, .row 5 byteRow F.L .plain)])))
 (branch (decide (sp - (↑F.L.length : Int) < (↑(gEnc R.st R.en R.id R.total R.typ R.k R.lb R.data R.sum).length : Int))) (Q (.exit 0) (fE .nils (f13 i)) (AHeap.mk 8 (fHx n (cs.set (idI i) (CutR.mk
 (cutI cs i).typ R.k2 R.b2 (cutI cs i).data R.at2 (cutI cs i).id)) (ds.set (idI i) (BoolR.mk R.en)) fv [(6, .cells 70 [.sl 7 0 1 0 F.L.length none, .int .i64 sp, .bool F.beg, .int .i64 (↑F.k : Int),
 .int .i64 F.lk, .str F.lb]), (7, .row 5 byteRow F.L .plain)]))) (branch (decide ((70000 : Int) ≤ (↑F.k : Int))) (Q (.exit 0) (fE .nils (f13 i)) (AHeap.mk 8 (fHx n (cs.set (idI i) (CutR.mk (cutI cs
 i).typ R.k2 R.b2 (cutI cs i).data R.at2 (cutI cs i).id)) (ds.set (idI i) (BoolR.mk R.en)) fv [(6, .cells 70 [.sl 7 0 1 0 F.L.length none, .int .i64 sp, .bool F.beg, .int .i64 (↑F.k : Int), .int .i64
 F.lk, .str F.lb]), (7, .row 5 byteRow F.L .plain)]))) (obl (inI64 ((↑F.k : Int) + (1 : Int))) (obl (true && decide (F.L.length = F.L.length ∧ 1 = 1 ∧ 1 = 1 ∧ 0 < 1 ∧ (F.L ++ gEnc R.st R.en R.id
 R.total R.typ R.k R.lb R.data R.sum).length ≤ 9223372036854775807 ∧ (F.L ++ gEnc R.st R.en R.id R.total R.typ R.k R.lb R.data R.sum).length * 1 ≤ 140737488355328)) (branch F.beg (branch R.en (Q (.exit
 2) (fE (.sl 7 0 1 0 1 none) (f13 i)) (AHeap.mk 9 (fHx n (cs.set (idI i) (CutR.mk (cutI cs i).typ R.k2 R.b2 (cutI cs i).data R.at2 (cutI cs i).id)) (ds.set (idI i) (BoolR.mk R.en)) fv [(6, .cells 70
 [.sl 8 0 1 0 (F.L ++ gEnc R.st R.en R.id R.total R.typ R.k R.lb R.data R.sum).length none, .int .i64 sp, .bool true, .int .i64 ((↑F.k : Int) + (1 : Int)), .int .i64 F.lk, .str F.lb]), (7, .row 33
 (intRow .u64) [(↑i : Int) + (1 : Int)] .plain), (8, .row 5 byteRow (F.L ++ gEnc R.st R.en R.id R.total R.typ R.k R.lb R.data R.sum) .plain)]))) (Q .normal (fE .nils (f13 i)) (AHeap.mk 8 (fHx n (cs.set
 (idI i) (CutR.mk (cutI cs i).typ R.k2 R.b2 (cutI cs i).data R.at2 (cutI cs i).id)) (ds.set (idI i) (BoolR.mk R.en)) fv [(6, .cells 70 [.sl 7 0 1 0 (F.L ++ gEnc R.st R.en R.id R.total R.typ R.k R.lb
 R.data R.sum).length none, .int .i64 sp, .bool true, .int .i64 ((↑F.k : Int) + (1 : Int)), .int .i64 F.lk, .str F.lb]), (7, .row 5 byteRow (F.L ++ gEnc R.st R.en R.id R.total R.typ R.k R.lb R.data
 R.sum) .plain)])))) (branch R.st (branch R.en (Q (.exit 2) (fE (.sl 7 0 1 0 1 none) (f13 i)) (AHeap.mk 9 (fHx n (cs.set (idI i) (CutR.mk (cutI cs i).typ R.k2 R.b2 (cutI cs i).data R.at2 (cutI cs
 i).id)) (ds.set (idI i) (BoolR.mk R.en)) fv [(6, .cells 70 [.sl 8 0 1 0 (F.L ++ gEnc R.st R.en R.id R.total R.typ R.k R.lb R.data R.sum).length none, .int .i64 sp, .bool !R.en, .int .i64 ((↑F.k : Int)
 + (1 : Int)), .int .i64 F.lk, .str F.lb]), (7, .row 33 (intRow .u64) [(↑i : Int) + (1 : Int)] .plain), (8, .row 5 byteRow (F.L ++ gEnc R.st R.en R.id R.total R.typ R.k R.lb R.data R.sum) .plain)])))
 (Q .normal (fE .nils (f13 i)) (AHeap.mk 8 (fHx n (cs.set (idI i) (CutR.mk (cutI cs i).typ R.k2 R.b2 (cutI cs i).data R.at2 (cutI cs i).id)) (ds.set (idI i) (BoolR.mk R.en)) fv [(6, .cells 70 [.sl 7 0
 1 0 (F.L ++ gEnc R.st R.en R.id R.total R.typ R.k R.lb R.data R.sum).length none, .int .i64 sp, .bool !R.en, .int .i64 ((↑F.k : Int) + (1 : Int)), .int .i64 F.lk, .str F.lb]), (7, .row 5 byteRow (F.L
 ++ gEnc R.st R.en R.id R.total R.typ R.k R.lb R.data R.sum) .plain)])))) (branch R.en (Q (.exit 2) (fE (.sl 7 0 1 0 1 none) (f13 i)) (AHeap.mk 9 (fHx n (cs.set (idI i) (CutR.mk (cutI cs i).typ R.k2
 R.b2 (cutI cs i).data R.at2 (cutI cs i).id)) (ds.set (idI i) (BoolR.mk R.en)) fv [(6, .cells 70 [.sl 8 0 1 0 (F.L ++ gEnc R.st R.en R.id R.total R.typ R.k R.lb R.data R.sum).length none, .int .i64 sp,
 .bool false, .int .i64 ((↑F.k : Int) + (1 : Int)), .int .i64 F.lk, .str F.lb]), (7, .row 33 (intRow .u64) [(↑i : Int) + (1 : Int)] .plain), (8, .row 5 byteRow (F.L ++ gEnc R.st R.en R.id R.total R.typ
 R.k R.lb R.data R.sum) .plain)]))) (Q .normal (fE .nils (f13 i)) (AHeap.mk 8 (fHx n (cs.set (idI i) (CutR.mk (cutI cs i).typ R.k2 R.b2 (cutI cs i).data R.at2 (cutI cs i).id)) (ds.set (idI i) (BoolR.mk
 R.en)) fv [(6, .cells 70 [.sl 7 0 1 0 (F.L ++ gEnc R.st R.en R.id R.total R.typ R.k R.lb R.data R.sum).length none, .int .i64 sp, .bool false, .int .i64 ((↑F.k : Int) + (1 : Int)), .int .i64 F.lk,
 .str F.lb]), (7, .row 5 byteRow (F.L ++ gEnc R.st R.en R.id R.total R.typ R.k R.lb R.data R.sum) .plain)]))))))))))))))))))) (∀ (R : NextR), nextR (cutI cs i).typ (cutI cs i).k (cutI cs i).lb (cutI cs
 i).data (cutI cs i).pos (cutI cs i).id (cutI cs i).k (cutI cs i).lb (sp - (↑F.L.length : Int)) F.beg = R → branch (!decide (R.err = (0 : Int))) (branch (!decide (R.err = (0 : Int))) (Q (.exit 0) (fE
 .nils (f13 i)) (AHeap.mk 8 (fHx n cs ds fv [(6, .cells 70 [.sl 7 0 1 0 F.L.length none, .int .i64 sp, .bool F.beg, .int .i64 (↑F.k : Int), .int .i64 F.lk, .str F.lb]), (7, .row 5 byteRow F.L
 .plain)]))) (branch (decide (sp - (↑F.L.length : Int) < (3 : Int))) (Q (.exit 0) (fE .nils (f13 i)) (AHeap.mk 8 (fHx n cs ds fv [(6, .cells 70 [.sl 7 0 1 0 F.L.length none, .int .i64 sp, .bool F.beg,
 .int .i64 (↑F.k : Int), .int .i64 F.lk, .str F.lb]), (7, .row 5 byteRow F.L .plain)]))) (branch (decide ((70000 : Int) ≤ (↑F.k : Int))) (Q (.exit 0) (fE .nils (f13 i)) (AHeap.mk 8 (fHx n cs ds fv [(6,
 .cells 70 [.sl 7 0 1 0 F.L.length none, .int .i64 sp, .bool F.beg, .int .i64 (↑F.k : Int), .int .i64 F.lk, .str F.lb]), (7, .row 5 byteRow F.L .plain)]))) (obl (inI64 ((↑F.k : Int) + (1 : Int))) (obl
 (true && decide (F.L.length = F.L.length ∧ 1 = 1 ∧ 1 = 1 ∧ 0 < 1 ∧ (F.L ++ [(48 : UInt8), (1 : UInt8), (0 : UInt8)]).length ≤ 9223372036854775807 ∧ (F.L ++ [(48 : UInt8), (1 : UInt8), (0 :
 UInt8)]).length * 1 ≤ 140737488355328)) (branch F.beg (Q .normal (fE .nils (f13 i)) (AHeap.mk 8 (fHx n cs ds fv [(6, .cells 70 [.sl 7 0 1 0 (F.L ++ [(48 : UInt8), (1 : UInt8), (0 : UInt8)]).length
 none, .int .i64 sp, .bool true, .int .i64 ((↑F.k : Int) + (1 : Int)), .int .i64 F.lk, .str F.lb]), (7, .row 5 byteRow (F.L ++ [(48 : UInt8), (1 : UInt8), (0 : UInt8)]) .plain)]))) (Q .normal (fE .nils
 (f13 i)) (AHeap.mk 8 (fHx n cs ds fv [(6, .cells 70 [.sl 7 0 1 0 (F.L ++ [(48 : UInt8), (1 : UInt8), (0 : UInt8)]).length none, .int .i64 sp, .bool false, .int .i64 ((↑F.k : Int) + (1 : Int)), .int
 .i64 F.lk, .str F.lb]), (7, .row 5 byteRow (F.L ++ [(48 : UInt8), (1 : UInt8), (0 : UInt8)]) .plain)]))))))))) (obl (decide ((0 : Int) ≤ idJ i ∧ idJ i < (↑n : Int))) (obl (decide (0 + (idJ i).toNat <
 cs.length) && true) (obl (decide ((0 : Int) ≤ idJ i ∧ idJ i < (↑n : Int))) (obl (decide (0 + (idJ i).toNat < ds.length) && true) (obl (decide (R.lb.length + R.data.length + R.sum.length ≤
 9223372036854775000)) (branch (!decide (gErr R.st R.en R.id R.total R.typ R.k R.lb R.data R.sum = (0 : Int))) (Q (.exit 0) (fE .nils (f13 i)) (AHeap.mk 8 (fHx n (cs.set (idI i) (CutR.mk (cutI cs
 i).typ R.k2 R.b2 (cutI cs i).data R.at2 (cutI cs i).id)) (ds.set (idI i) (BoolR.mk R.en)) fv [(6, .cells 70 [.sl 7 0 1 0 F.L.length none, .int .i64 sp, .bool F.beg, .int .i64 (↑F.k : Int), .int .i64
 F.lk, .str F.lb]), (7, .row 5 byteRow F.L .plain)]))) (branch (decide (sp - (↑F.L.length : Int) < (↑(gEnc R.st R.en R.id R.total R.typ R.k R.lb R.data R.sum).length : Int))) (Q (.exit 0) (fE .nils
 (f13 i)) (AHeap.mk 8 (fHx n (cs.set (idI i) (CutR.mk (cutI cs i).typ R.k2 R.b2 (cutI cs i).data R.at2 (cutI cs i).id)) (ds.set (idI i) (BoolR.mk R.en)) fv [(6, .cells 70 [.sl 7 0 1 0 F.L.length none,
 .int .i64 sp, .bool F.beg, .int .i64 (↑F.k : Int), .int .i64 F.lk, .str F.lb]), (7, .row 5 byteRow F.L .plain)]))) (branch (decide ((70000 : Int) ≤ (↑F.k : Int))) (Q (.exit 0) (fE .nils (f13 i))
 (AHeap.mk 8 (fHx n (cs.set (idI i) (CutR.mk (cutI cs i).typ R.k2 R.b2 (cutI cs i).data R.at2 (cutI cs i).id)) (ds.set (idI i) (BoolR.mk R.en)) fv [(6, .cells 70 [.sl 7 0 1 0 F.L.length none, .int .i64
 sp, .bool F.beg, .int .i64 (↑F.k : Int), .int .i64 F.lk, .str F.lb]), (7, .row 5 byteRow F.L .plain)]))) (obl (inI64 ((↑F.k : Int) + (1 : Int))) (obl (true && decide (F.L.length = F.L.length ∧ 1 = 1 ∧
 1 = 1 ∧ 0 < 1 ∧ (F.L ++ gEnc R.st R.en R.id R.total R.typ R.k R.lb R.data R.sum).length ≤ 9223372036854775807 ∧ (F.L ++ gEnc R.st R.en R.id R.total R.typ R.k R.lb R.data R.sum).length * 1 ≤
 140737488355328)) (branch F.beg (branch R.en (Q (.exit 2) (fE (.sl 7 0 1 0 1 none) (f13 i)) (AHeap.mk 9 (fHx n (cs.set (idI i) (CutR.mk (cutI cs i).typ R.k2 R.b2 (cutI cs i).data R.at2 (cutI cs
 i).id)) (ds.set (idI i) (BoolR.mk R.en)) fv [(6, .cells 70 [.sl 8 0 1 0 (F.L ++ gEnc R.st R.en R.id R.total R.typ R.k R.lb R.data R.sum).length none, .int .i64 sp, .bool true, .int .i64 ((↑F.k : Int)
 + (1 : Int)), .int .i64 F.lk, .str F.lb]), (7, .row 33 (intRow .u64) [(↑i : Int) + (1 : Int)] .plain), (8, .row 5 byteRow (F.L ++ gEnc R.st R.en R.id R.total R.typ R.k R.lb R.data R.sum) .plain)])))
 (Q .normal (fE .nils (f13 i)) (AHeap.mk 8 (fHx n (cs.set (idI i) (CutR.mk (cutI cs i).typ R.k2 R.b2 (cutI cs i).data R.at2 (cutI cs i).id)) (ds.set (idI i) (BoolR.mk R.en)) fv [(6, .cells 70 [.sl 7 0
 1 0 (F.L ++ gEnc R.st R.en R.id R.total R.typ R.k R.lb R.data R.sum).length none, .int .i64 sp, .bool true, .int .i64 ((↑F.k : Int) + (1 : Int)), .int .i64 F.lk, .str F.lb]), (7, .row 5 byteRow (F.L
 ++ gEnc R.st R.en R.id R.total R.typ R.k R.lb R.data R.sum) .plain)])))) (branch R.st (branch R.en (Q (.exit 2) (fE (.sl 7 0 1 0 1 none) (f13 i)) (AHeap.mk 9 (fHx n (cs.set (idI i) (CutR.mk (cutI cs
 i).typ R.k2 R.b2 (cutI cs i).data R.at2 (cutI cs i).id)) (ds.set (idI i) (BoolR.mk R.en)) fv [(6, .cells 70 [.sl 8 0 1 0 (F.L ++ gEnc R.st R.en R.id R.total R.typ R.k R.lb R.data R.sum).length none,
 .int .i64 sp, .bool !R.en, .int .i64 ((↑F.k : Int) + (1 : Int)), .int .i64 F.lk, .str F.lb]), (7, .row 33 (intRow .u64) [(↑i : Int) + (1 : Int)] .plain), (8, .row 5 byteRow (F.L ++ gEnc R.st R.en R.id
 R.total R.typ R.k R.lb R.data R.sum) .plain)]))) (Q .normal (fE .nils (f13 i)) (AHeap.mk 8 (fHx n (cs.set (idI i) (CutR.mk (cutI cs i).typ R.k2 R.b2 (cutI cs i).data R.at2 (cutI cs i).id)) (ds.set
 (idI i) (BoolR.mk R.en)) fv [(6, .cells 70 [.sl 7 0 1 0 (F.L ++ gEnc R.st R.en R.id R.total R.typ R.k R.lb R.data R.sum).length none, .int .i64 sp, .bool !R.en, .int .i64 ((↑F.k : Int) + (1 : Int)),
 .int .i64 F.lk, .str F.lb]), (7, .row 5 byteRow (F.L ++ gEnc R.st R.en R.id R.total R.typ R.k R.lb R.data R.sum) .plain)])))) (branch R.en (Q (.exit 2) (fE (.sl 7 0 1 0 1 none) (f13 i)) (AHeap.mk 9
 (fHx n (cs.set (idI i) (CutR.mk (cutI cs i).typ R.k2 R.b2 (cutI cs i).data R.at2 (cutI cs i).id)) (ds.set (idI i) (BoolR.mk R.en)) fv [(6, .cells 70 [.sl 8 0 1 0 (F.L ++ gEnc R.st R.en R.id R.total
 R.typ R.k R.lb R.data R.sum).length none, .int .i64 sp, .bool false, .int .i64 ((↑F.k : Int) + (1 : Int)), .int .i64 F.lk, .str F.lb]), (7, .row 33 (intRow .u64) [(↑i : Int) + (1 : Int)] .plain), (8,
 .row 5 byteRow (F.L ++ gEnc R.st R.en R.id R.total R.typ R.k R.lb R.data R.sum) .plain)]))) (Q .normal (fE .nils (f13 i)) (AHeap.mk 8 (fHx n (cs.set (idI i) (CutR.mk (cutI cs i).typ R.k2 R.b2 (cutI cs
 i).data R.at2 (cutI cs i).id)) (ds.set (idI i) (BoolR.mk R.en)) fv [(6, .cells 70 [.sl 7 0 1 0 (F.L ++ gEnc R.st R.en R.id R.total R.typ R.k R.lb R.data R.sum).length none, .int .i64 sp, .bool false,
 .int .i64 ((↑F.k : Int) + (1 : Int)), .int .i64 F.lk, .str F.lb]), (7, .row 5 byteRow (F.L ++ gEnc R.st R.en R.id R.total R.typ R.k R.lb R.data R.sum) .plain)])))))))))))))))))))))))))) := by
 kernel_rfl
end Go.Proofs.Ytjacnjecggedhaa
namespace Go.Proofs.Ytjacnjecggedhaa
set_option linter.unusedVariables false
set_option linter.unusedSimpArgs false
open Go.RowKit Ev
set_option maxRecDepth 100000 in
theorem g_10 (H0 : AHeap) (hH0 : H0.next ≤ 3) (n : Nat) (sp : Int) (cs : List CutR) (ds : List BoolR) (fv : Int) (F : FSt) (i : Nat) (Q : AExit → Env → AHeap → Prop)
    (hn : i < n) (hcs : cs.length = n) (hds : ds.length = n) (hn30 : n ≤ 30) (hd : (ds.getD i ⟨false⟩).b = false) (hsp : sp ≤ 7300) (hL : (F.L.length : Int) ≤ sp) (hk : 2 * F.k ≤ F.L.length) (hc : CSm (cs.getD i noCut))
    (hfail : ∀ (cs' : List CutR) (ds' : List BoolR) (F' : FSt), F'.L = F.L → ¬ OkR sp F (stepR sp F (cs.getD i noCut)) → Q (.exit 0) (g10 n sp cs' ds' fv F' (f13 i)).1 (g10 n sp cs' ds' fv F' (f13 i)).2)
    (hlast : ∀ (R : NextR) (F' : FSt), stepR sp F (cs.getD i noCut) = R → OkR sp F R → R.en = true → F' = stepF F (cs.getD i noCut) R → Q (.exit 2) (g11 n sp (cs.set i (stepC (cs.getD i noCut) R)) (ds.set i ⟨R.en⟩) fv F' [(i : Int) + 1] (f13 i)).1 (g11 n sp (cs.set i (stepC (cs.getD i noCut) R)) (ds.set i ⟨R.en⟩) fv F' [(i : Int) + 1] (f13 i)).2)
    (hnorm : ∀ (R : NextR) (F' : FSt), stepR sp F (cs.getD i noCut) = R → OkR sp F R → R.en = false → F' = stepF F (cs.getD i noCut) R → Q .normal (g10 n sp (cs.set i (stepC (cs.getD i noCut) R)) (ds.set i ⟨R.en⟩) fv F' (f13 i)).1 (g10 n sp (cs.set i (stepC (cs.getD i noCut) R)) (ds.set i ⟨R.en⟩) fv F' (f13 i)).2) :
    Gd (TX2.ctx Try.prog) 9 H0 fillL Q (g10 n sp cs ds fv F (f13 i)).1 (g10 n sp cs ds fv F (f13 i)).2 := by
  refine Gd.walkC TX2ok.ctx 3 ts13 hH0 (inFn_at TX2ok.ctx (fn := Try.f9) (by kernel_rfl) (by kernel_rfl) [true, false, true, true, true, true, true, false, true, false, false, true, false, false, false, false]) (Eq.mpr (w_fl_10 n sp cs ds fv F i _) ?_)
  have idx : 0 + (i : Int).toNat = i := by omega
  have hi6 : i < 1000000 := by omega
  rw [idJ_eq hi6, idx, cutI_eq hi6, idI_eq hi6]
  refine obl_int (by omega) ((twice_iff _).2 ?_)
  refine br_dec (fun h => absurd h (by omega)) (fun _ => ?_)
  refine obl_dec (by omega) (obl_dec (by omega) ?_)
  refine br_mk (fun h => by rw [hd] at h; cases h) (fun _ => ?_)
  refine obl_dec (by omega) (obl_dec (by omega) ?_)
  generalize hce : cs.getD i noCut = c
  have hce' : cs.getD i noCut = c := hce
  rw [hce'] at hc
  simp only [hce'] at hlast hnorm hfail
  refine br_dec (fun hp => ?_) (fun hp => ?_)
  · refine br_mk (fun hb0 => ?_) (fun hb0 => ?_)
    · have hb0 : F.lb ≠ [] := by simpa using hb0
      refine br_mk (fun hq => ?_) (fun hq => ?_)
      · have hq : F.lk = c.k ∧ F.lb = c.lb := by simpa using hq
        intro R hR
        have q : labOf F c = (3, []) := by unfold labOf memL; rw [if_pos hp, if_pos ⟨hb0, hq.1, hq.2⟩]
        have hM : memOf F c = (F.lk, F.lb) := by unfold memOf memK; rw [if_pos hp, if_pos ⟨hb0, hq.1, hq.2⟩]
        have hR' : stepR sp F c = R := by unfold stepR; rw [q]; exact hR
        have hsm := stepR_small hR' hc
        refine br_mk (fun he => br_mk (fun _ => hfail cs ds ⟨F.L, F.beg, F.k, F.lk, F.lb⟩ rfl (fun hk => by rw [hR'] at hk; rw [hk.err] at he; cases he)) (fun h2 => by rw [he] at h2; cases h2)) (fun he => ?_)
        have he : R.err = 0 := by simpa using he
        refine obl_dec (by omega) (obl_and (by omega) rfl (obl_dec (by omega) (obl_and (by omega) rfl (obl_dec hsm.1 ?_))))
        refine br_mk (fun hg => hfail (cs.set i (stepC c R)) (ds.set i ⟨R.en⟩) ⟨F.L, F.beg, F.k, F.lk, F.lb⟩ rfl (fun hk => by rw [hR'] at hk; have h0 : (!decide (errR R = 0)) = true := hg; rw [hk.enc] at h0; cases h0)) (fun hg => ?_)
        have hg : errR R = 0 := by simpa [errR] using hg
        refine br_dec (fun hs => hfail (cs.set i (stepC c R)) (ds.set i ⟨R.en⟩) ⟨F.L, F.beg, F.k, F.lk, F.lb⟩ rfl (fun hk => by rw [hR'] at hk; have h0 : sp - (F.L.length : Int) < ((encR R).length : Int) := hs; have h1 := hk.len; omega)) (fun hs => ?_)
        have hs : ¬ (sp - (F.L.length : Int) < ((encR R).length : Int)) := by exact hs
        have hok : OkR sp F R := ⟨he, hg, by omega⟩
        have t2 := encR_len hg
        refine br_dec (fun h => absurd h (by omega)) (fun _ => ?_)
        have q0 : (F.L ++ encR R).length = F.L.length + (encR R).length := List.length_append
        have q1 : (F.L ++ encR R).length ≤ 9223372036854775807 := by omega
        have q2 : (F.L ++ encR R).length * 1 ≤ 140737488355328 := by omega
        refine obl_int (by omega) (obl_tt (decide_eq_true ⟨rfl, rfl, rfl, Nat.one_pos, q1, q2⟩) ?_)
        refine br_mk (fun hb => br_mk (fun h => hlast R ⟨F.L ++ encR R, true, F.k + 1, F.lk, F.lb⟩ hR' hok h (by unfold stepF; rw [hM, hb]; rfl)) (fun h => hnorm R ⟨F.L ++ encR R, true, F.k + 1, F.lk, F.lb⟩ hR' hok h (by unfold stepF; rw [hM, hb]; rfl))) (fun hb => br_mk (fun hst => br_mk (fun h => hlast R ⟨F.L ++ encR R, !R.en, F.k + 1, F.lk, F.lb⟩ hR' hok h (by unfold stepF; rw [hM, hb, hst]; rfl)) (fun h => hnorm R ⟨F.L ++ encR R, !R.en, F.k + 1, F.lk, F.lb⟩ hR' hok h (by unfold stepF; rw [hM, hb, hst]; rfl))) (fun hst => br_mk (fun h => hlast R ⟨F.L ++ encR R, false, F.k + 1, F.lk, F.lb⟩ hR' hok h (by unfold stepF; rw [hM, hb, hst]; rfl)) (fun h => hnorm R ⟨F.L ++ encR R, false, F.k + 1, F.lk, F.lb⟩ hR' hok h (by unfold stepF; rw [hM, hb, hst]; rfl))))
      · have hne : ¬ (F.lb ≠ [] ∧ F.lk = c.k ∧ F.lb = c.lb) := by rintro ⟨_, h1, h2⟩; rw [decide_eq_true h1, decide_eq_true h2] at hq; cases hq
        refine br_dec (fun hs0 => br_dec (fun ho => ?_) (fun ho => ?_)) (fun hs0 => ?_)
        · have ho : lOk c.k c.lb = true := by by_cases h : lOk c.k c.lb = true; exact h; rw [if_neg h] at ho; exact absurd ho (by decide)
          intro R hR
          have q : labOf F c = (c.k, c.lb) := by unfold labOf memL; rw [if_pos hp, if_neg hne]
          have hM : memOf F c = (c.k, c.lb) := by unfold memOf memK; rw [if_pos hp, if_neg hne, if_pos ⟨hs0, ho⟩]
          have hR' : stepR sp F c = R := by unfold stepR; rw [q]; exact hR
          have hsm := stepR_small hR' hc
          refine br_mk (fun he => br_mk (fun _ => hfail cs ds ⟨F.L, F.beg, F.k, c.k, c.lb⟩ rfl (fun hk => by rw [hR'] at hk; rw [hk.err] at he; cases he)) (fun h2 => by rw [he] at h2; cases h2)) (fun he => ?_)
          have he : R.err = 0 := by simpa using he
          refine obl_dec (by omega) (obl_and (by omega) rfl (obl_dec (by omega) (obl_and (by omega) rfl (obl_dec hsm.1 ?_))))
          refine br_mk (fun hg => hfail (cs.set i (stepC c R)) (ds.set i ⟨R.en⟩) ⟨F.L, F.beg, F.k, c.k, c.lb⟩ rfl (fun hk => by rw [hR'] at hk; have h0 : (!decide (errR R = 0)) = true := hg; rw [hk.enc] at h0; cases h0)) (fun hg => ?_)
          have hg : errR R = 0 := by simpa [errR] using hg
          refine br_dec (fun hs => hfail (cs.set i (stepC c R)) (ds.set i ⟨R.en⟩) ⟨F.L, F.beg, F.k, c.k, c.lb⟩ rfl (fun hk => by rw [hR'] at hk; have h0 : sp - (F.L.length : Int) < ((encR R).length : Int) := hs; have h1 := hk.len; omega)) (fun hs => ?_)
          have hs : ¬ (sp - (F.L.length : Int) < ((encR R).length : Int)) := by exact hs
          have hok : OkR sp F R := ⟨he, hg, by omega⟩
          have t2 := encR_len hg
          refine br_dec (fun h => absurd h (by omega)) (fun _ => ?_)
          have q0 : (F.L ++ encR R).length = F.L.length + (encR R).length := List.length_append
          have q1 : (F.L ++ encR R).length ≤ 9223372036854775807 := by omega
          have q2 : (F.L ++ encR R).length * 1 ≤ 140737488355328 := by omega
          refine obl_int (by omega) (obl_tt (decide_eq_true ⟨rfl, rfl, rfl, Nat.one_pos, q1, q2⟩) ?_)
          refine br_mk (fun hb => br_mk (fun h => hlast R ⟨F.L ++ encR R, true, F.k + 1, c.k, c.lb⟩ hR' hok h (by unfold stepF; rw [hM, hb]; rfl)) (fun h => hnorm R ⟨F.L ++ encR R, true, F.k + 1, c.k, c.lb⟩ hR' hok h (by unfold stepF; rw [hM, hb]; rfl))) (fun hb => br_mk (fun hst => br_mk (fun h => hlast R ⟨F.L ++ encR R, !R.en, F.k + 1, c.k, c.lb⟩ hR' hok h (by unfold stepF; rw [hM, hb, hst]; rfl)) (fun h => hnorm R ⟨F.L ++ encR R, !R.en, F.k + 1, c.k, c.lb⟩ hR' hok h (by unfold stepF; rw [hM, hb, hst]; rfl))) (fun hst => br_mk (fun h => hlast R ⟨F.L ++ encR R, false, F.k + 1, c.k, c.lb⟩ hR' hok h (by unfold stepF; rw [hM, hb, hst]; rfl)) (fun h => hnorm R ⟨F.L ++ encR R, false, F.k + 1, c.k, c.lb⟩ hR' hok h (by unfold stepF; rw [hM, hb, hst]; rfl))))
        · have ho : ¬ lOk c.k c.lb = true := fun h => by rw [if_pos h] at ho; exact ho rfl
          intro R hR
          have q : labOf F c = (c.k, c.lb) := by unfold labOf memL; rw [if_pos hp, if_neg hne]
          have hM : memOf F c = (F.lk, F.lb) := by unfold memOf memK; rw [if_pos hp, if_neg hne, if_neg (fun h => ho h.2)]
          have hR' : stepR sp F c = R := by unfold stepR; rw [q]; exact hR
          have hsm := stepR_small hR' hc
          refine br_mk (fun he => br_mk (fun _ => hfail cs ds ⟨F.L, F.beg, F.k, F.lk, F.lb⟩ rfl (fun hk => by rw [hR'] at hk; rw [hk.err] at he; cases he)) (fun h2 => by rw [he] at h2; cases h2)) (fun he => ?_)
          have he : R.err = 0 := by simpa using he
          refine obl_dec (by omega) (obl_and (by omega) rfl (obl_dec (by omega) (obl_and (by omega) rfl (obl_dec hsm.1 ?_))))
          refine br_mk (fun hg => hfail (cs.set i (stepC c R)) (ds.set i ⟨R.en⟩) ⟨F.L, F.beg, F.k, F.lk, F.lb⟩ rfl (fun hk => by rw [hR'] at hk; have h0 : (!decide (errR R = 0)) = true := hg; rw [hk.enc] at h0; cases h0)) (fun hg => ?_)
          have hg : errR R = 0 := by simpa [errR] using hg
          refine br_dec (fun hs => hfail (cs.set i (stepC c R)) (ds.set i ⟨R.en⟩) ⟨F.L, F.beg, F.k, F.lk, F.lb⟩ rfl (fun hk => by rw [hR'] at hk; have h0 : sp - (F.L.length : Int) < ((encR R).length : Int) := hs; have h1 := hk.len; omega)) (fun hs => ?_)
          have hs : ¬ (sp - (F.L.length : Int) < ((encR R).length : Int)) := by exact hs
          have hok : OkR sp F R := ⟨he, hg, by omega⟩
          have t2 := encR_len hg
          refine br_dec (fun h => absurd h (by omega)) (fun _ => ?_)
          have q0 : (F.L ++ encR R).length = F.L.length + (encR R).length := List.length_append
          have q1 : (F.L ++ encR R).length ≤ 9223372036854775807 := by omega
          have q2 : (F.L ++ encR R).length * 1 ≤ 140737488355328 := by omega
          refine obl_int (by omega) (obl_tt (decide_eq_true ⟨rfl, rfl, rfl, Nat.one_pos, q1, q2⟩) ?_)
          refine br_mk (fun hb => br_mk (fun h => hlast R ⟨F.L ++ encR R, true, F.k + 1, F.lk, F.lb⟩ hR' hok h (by unfold stepF; rw [hM, hb]; rfl)) (fun h => hnorm R ⟨F.L ++ encR R, true, F.k + 1, F.lk, F.lb⟩ hR' hok h (by unfold stepF; rw [hM, hb]; rfl))) (fun hb => br_mk (fun hst => br_mk (fun h => hlast R ⟨F.L ++ encR R, !R.en, F.k + 1, F.lk, F.lb⟩ hR' hok h (by unfold stepF; rw [hM, hb, hst]; rfl)) (fun h => hnorm R ⟨F.L ++ encR R, !R.en, F.k + 1, F.lk, F.lb⟩ hR' hok h (by unfold stepF; rw [hM, hb, hst]; rfl))) (fun hst => br_mk (fun h => hlast R ⟨F.L ++ encR R, false, F.k + 1, F.lk, F.lb⟩ hR' hok h (by unfold stepF; rw [hM, hb, hst]; rfl)) (fun h => hnorm R ⟨F.L ++ encR R, false, F.k + 1, F.lk, F.lb⟩ hR' hok h (by unfold stepF; rw [hM, hb, hst]; rfl))))
        · skip
          intro R hR
          have q : labOf F c = (c.k, c.lb) := by unfold labOf memL; rw [if_pos hp, if_neg hne]
          have hM : memOf F c = (F.lk, F.lb) := by unfold memOf memK; rw [if_pos hp, if_neg hne, if_neg (fun h => hs0 h.1)]
          have hR' : stepR sp F c = R := by unfold stepR; rw [q]; exact hR
          have hsm := stepR_small hR' hc
          refine br_mk (fun he => br_mk (fun _ => hfail cs ds ⟨F.L, F.beg, F.k, F.lk, F.lb⟩ rfl (fun hk => by rw [hR'] at hk; rw [hk.err] at he; cases he)) (fun h2 => by rw [he] at h2; cases h2)) (fun he => ?_)
          have he : R.err = 0 := by simpa using he
          refine obl_dec (by omega) (obl_and (by omega) rfl (obl_dec (by omega) (obl_and (by omega) rfl (obl_dec hsm.1 ?_))))
          refine br_mk (fun hg => hfail (cs.set i (stepC c R)) (ds.set i ⟨R.en⟩) ⟨F.L, F.beg, F.k, F.lk, F.lb⟩ rfl (fun hk => by rw [hR'] at hk; have h0 : (!decide (errR R = 0)) = true := hg; rw [hk.enc] at h0; cases h0)) (fun hg => ?_)
          have hg : errR R = 0 := by simpa [errR] using hg
          refine br_dec (fun hs => hfail (cs.set i (stepC c R)) (ds.set i ⟨R.en⟩) ⟨F.L, F.beg, F.k, F.lk, F.lb⟩ rfl (fun hk => by rw [hR'] at hk; have h0 : sp - (F.L.length : Int) < ((encR R).length : Int) := hs; have h1 := hk.len; omega)) (fun hs => ?_)
          have hs : ¬ (sp - (F.L.length : Int) < ((encR R).length : Int)) := by exact hs
          have hok : OkR sp F R := ⟨he, hg, by omega⟩
          have t2 := encR_len hg
          refine br_dec (fun h => absurd h (by omega)) (fun _ => ?_)
          have q0 : (F.L ++ encR R).length = F.L.length + (encR R).length := List.length_append
          have q1 : (F.L ++ encR R).length ≤ 9223372036854775807 := by omega
          have q2 : (F.L ++ encR R).length * 1 ≤ 140737488355328 := by omega
          refine obl_int (by omega) (obl_tt (decide_eq_true ⟨rfl, rfl, rfl, Nat.one_pos, q1, q2⟩) ?_)
          refine br_mk (fun hb => br_mk (fun h => hlast R ⟨F.L ++ encR R, true, F.k + 1, F.lk, F.lb⟩ hR' hok h (by unfold stepF; rw [hM, hb]; rfl)) (fun h => hnorm R ⟨F.L ++ encR R, true, F.k + 1, F.lk, F.lb⟩ hR' hok h (by unfold stepF; rw [hM, hb]; rfl))) (fun hb => br_mk (fun hst => br_mk (fun h => hlast R ⟨F.L ++ encR R, !R.en, F.k + 1, F.lk, F.lb⟩ hR' hok h (by unfold stepF; rw [hM, hb, hst]; rfl)) (fun h => hnorm R ⟨F.L ++ encR R, !R.en, F.k + 1, F.lk, F.lb⟩ hR' hok h (by unfold stepF; rw [hM, hb, hst]; rfl))) (fun hst => br_mk (fun h => hlast R ⟨F.L ++ encR R, false, F.k + 1, F.lk, F.lb⟩ hR' hok h (by unfold stepF; rw [hM, hb, hst]; rfl)) (fun h => hnorm R ⟨F.L ++ encR R, false, F.k + 1, F.lk, F.lb⟩ hR' hok h (by unfold stepF; rw [hM, hb, hst]; rfl))))
    · have hb0 : F.lb = [] := by simpa using hb0
      have hne : ¬ (F.lb ≠ [] ∧ F.lk = c.k ∧ F.lb = c.lb) := fun h => h.1 hb0
      refine br_dec (fun hs0 => br_dec (fun ho => ?_) (fun ho => ?_)) (fun hs0 => ?_)
      · have ho : lOk c.k c.lb = true := by by_cases h : lOk c.k c.lb = true; exact h; rw [if_neg h] at ho; exact absurd ho (by decide)
        intro R hR
        have q : labOf F c = (c.k, c.lb) := by unfold labOf memL; rw [if_pos hp, if_neg hne]
        have hM : memOf F c = (c.k, c.lb) := by unfold memOf memK; rw [if_pos hp, if_neg hne, if_pos ⟨hs0, ho⟩]
        have hR' : stepR sp F c = R := by unfold stepR; rw [q]; exact hR
        have hsm := stepR_small hR' hc
        refine br_mk (fun he => br_mk (fun _ => hfail cs ds ⟨F.L, F.beg, F.k, c.k, c.lb⟩ rfl (fun hk => by rw [hR'] at hk; rw [hk.err] at he; cases he)) (fun h2 => by rw [he] at h2; cases h2)) (fun he => ?_)
        have he : R.err = 0 := by simpa using he
        refine obl_dec (by omega) (obl_and (by omega) rfl (obl_dec (by omega) (obl_and (by omega) rfl (obl_dec hsm.1 ?_))))
        refine br_mk (fun hg => hfail (cs.set i (stepC c R)) (ds.set i ⟨R.en⟩) ⟨F.L, F.beg, F.k, c.k, c.lb⟩ rfl (fun hk => by rw [hR'] at hk; have h0 : (!decide (errR R = 0)) = true := hg; rw [hk.enc] at h0; cases h0)) (fun hg => ?_)
        have hg : errR R = 0 := by simpa [errR] using hg
        refine br_dec (fun hs => hfail (cs.set i (stepC c R)) (ds.set i ⟨R.en⟩) ⟨F.L, F.beg, F.k, c.k, c.lb⟩ rfl (fun hk => by rw [hR'] at hk; have h0 : sp - (F.L.length : Int) < ((encR R).length : Int) := hs; have h1 := hk.len; omega)) (fun hs => ?_)
        have hs : ¬ (sp - (F.L.length : Int) < ((encR R).length : Int)) := by exact hs
        have hok : OkR sp F R := ⟨he, hg, by omega⟩
        have t2 := encR_len hg
        refine br_dec (fun h => absurd h (by omega)) (fun _ => ?_)
        have q0 : (F.L ++ encR R).length = F.L.length + (encR R).length := List.length_append
        have q1 : (F.L ++ encR R).length ≤ 9223372036854775807 := by omega
        have q2 : (F.L ++ encR R).length * 1 ≤ 140737488355328 := by omega
        refine obl_int (by omega) (obl_tt (decide_eq_true ⟨rfl, rfl, rfl, Nat.one_pos, q1, q2⟩) ?_)
        refine br_mk (fun hb => br_mk (fun h => hlast R ⟨F.L ++ encR R, true, F.k + 1, c.k, c.lb⟩ hR' hok h (by unfold stepF; rw [hM, hb]; rfl)) (fun h => hnorm R ⟨F.L ++ encR R, true, F.k + 1, c.k, c.lb⟩ hR' hok h (by unfold stepF; rw [hM, hb]; rfl))) (fun hb => br_mk (fun hst => br_mk (fun h => hlast R ⟨F.L ++ encR R, !R.en, F.k + 1, c.k, c.lb⟩ hR' hok h (by unfold stepF; rw [hM, hb, hst]; rfl)) (fun h => hnorm R ⟨F.L ++ encR R, !R.en, F.k + 1, c.k, c.lb⟩ hR' hok h (by unfold stepF; rw [hM, hb, hst]; rfl))) (fun hst => br_mk (fun h => hlast R ⟨F.L ++ encR R, false, F.k + 1, c.k, c.lb⟩ hR' hok h (by unfold stepF; rw [hM, hb, hst]; rfl)) (fun h => hnorm R ⟨F.L ++ encR R, false, F.k + 1, c.k, c.lb⟩ hR' hok h (by unfold stepF; rw [hM, hb, hst]; rfl))))
      · have ho : ¬ lOk c.k c.lb = true := fun h => by rw [if_pos h] at ho; exact ho rfl
        intro R hR
        have q : labOf F c = (c.k, c.lb) := by unfold labOf memL; rw [if_pos hp, if_neg hne]
        have hM : memOf F c = (F.lk, F.lb) := by unfold memOf memK; rw [if_pos hp, if_neg hne, if_neg (fun h => ho h.2)]
        have hR' : stepR sp F c = R := by unfold stepR; rw [q]; exact hR
        have hsm := stepR_small hR' hc
        refine br_mk (fun he => br_mk (fun _ => hfail cs ds ⟨F.L, F.beg, F.k, F.lk, F.lb⟩ rfl (fun hk => by rw [hR'] at hk; rw [hk.err] at he; cases he)) (fun h2 => by rw [he] at h2; cases h2)) (fun he => ?_)
        have he : R.err = 0 := by simpa using he
        refine obl_dec (by omega) (obl_and (by omega) rfl (obl_dec (by omega) (obl_and (by omega) rfl (obl_dec hsm.1 ?_))))
        refine br_mk (fun hg => hfail (cs.set i (stepC c R)) (ds.set i ⟨R.en⟩) ⟨F.L, F.beg, F.k, F.lk, F.lb⟩ rfl (fun hk => by rw [hR'] at hk; have h0 : (!decide (errR R = 0)) = true := hg; rw [hk.enc] at h0; cases h0)) (fun hg => ?_)
        have hg : errR R = 0 := by simpa [errR] using hg
        refine br_dec (fun hs => hfail (cs.set i (stepC c R)) (ds.set i ⟨R.en⟩) ⟨F.L, F.beg, F.k, F.lk, F.lb⟩ rfl (fun hk => by rw [hR'] at hk; have h0 : sp - (F.L.length : Int) < ((encR R).length : Int) := hs; have h1 := hk.len; omega)) (fun hs => ?_)
        have hs : ¬ (sp - (F.L.length : Int) < ((encR R).length : Int)) := by exact hs
        have hok : OkR sp F R := ⟨he, hg, by omega⟩
        have t2 := encR_len hg
        refine br_dec (fun h => absurd h (by omega)) (fun _ => ?_)
        have q0 : (F.L ++ encR R).length = F.L.length + (encR R).length := List.length_append
        have q1 : (F.L ++ encR R).length ≤ 9223372036854775807 := by omega
        have q2 : (F.L ++ encR R).length * 1 ≤ 140737488355328 := by omega
        refine obl_int (by omega) (obl_tt (decide_eq_true ⟨rfl, rfl, rfl, Nat.one_pos, q1, q2⟩) ?_)
        refine br_mk (fun hb => br_mk (fun h => hlast R ⟨F.L ++ encR R, true, F.k + 1, F.lk, F.lb⟩ hR' hok h (by unfold stepF; rw [hM, hb]; rfl)) (fun h => hnorm R ⟨F.L ++ encR R, true, F.k + 1, F.lk, F.lb⟩ hR' hok h (by unfold stepF; rw [hM, hb]; rfl))) (fun hb => br_mk (fun hst => br_mk (fun h => hlast R ⟨F.L ++ encR R, !R.en, F.k + 1, F.lk, F.lb⟩ hR' hok h (by unfold stepF; rw [hM, hb, hst]; rfl)) (fun h => hnorm R ⟨F.L ++ encR R, !R.en, F.k + 1, F.lk, F.lb⟩ hR' hok h (by unfold stepF; rw [hM, hb, hst]; rfl))) (fun hst => br_mk (fun h => hlast R ⟨F.L ++ encR R, false, F.k + 1, F.lk, F.lb⟩ hR' hok h (by unfold stepF; rw [hM, hb, hst]; rfl)) (fun h => hnorm R ⟨F.L ++ encR R, false, F.k + 1, F.lk, F.lb⟩ hR' hok h (by unfold stepF; rw [hM, hb, hst]; rfl))))
      · skip
        intro R hR
        have q : labOf F c = (c.k, c.lb) := by unfold labOf memL; rw [if_pos hp, if_neg hne]
        have hM : memOf F c = (F.lk, F.lb) := by unfold memOf memK; rw [if_pos hp, if_neg hne, if_neg (fun h => hs0 h.1)]
        have hR' : stepR sp F c = R := by unfold stepR; rw [q]; exact hR
        have hsm := stepR_small hR' hc
        refine br_mk (fun he => br_mk (fun _ => hfail cs ds ⟨F.L, F.beg, F.k, F.lk, F.lb⟩ rfl (fun hk => by rw [hR'] at hk; rw [hk.err] at he; cases he)) (fun h2 => by rw [he] at h2; cases h2)) (fun he => ?_)
        have he : R.err = 0 := by simpa using he
        refine obl_dec (by omega) (obl_and (by omega) rfl (obl_dec (by omega) (obl_and (by omega) rfl (obl_dec hsm.1 ?_))))
        refine br_mk (fun hg => hfail (cs.set i (stepC c R)) (ds.set i ⟨R.en⟩) ⟨F.L, F.beg, F.k, F.lk, F.lb⟩ rfl (fun hk => by rw [hR'] at hk; have h0 : (!decide (errR R = 0)) = true := hg; rw [hk.enc] at h0; cases h0)) (fun hg => ?_)
        have hg : errR R = 0 := by simpa [errR] using hg
        refine br_dec (fun hs => hfail (cs.set i (stepC c R)) (ds.set i ⟨R.en⟩) ⟨F.L, F.beg, F.k, F.lk, F.lb⟩ rfl (fun hk => by rw [hR'] at hk; have h0 : sp - (F.L.length : Int) < ((encR R).length : Int) := hs; have h1 := hk.len; omega)) (fun hs => ?_)
        have hs : ¬ (sp - (F.L.length : Int) < ((encR R).length : Int)) := by exact hs
        have hok : OkR sp F R := ⟨he, hg, by omega⟩
        have t2 := encR_len hg
        refine br_dec (fun h => absurd h (by omega)) (fun _ => ?_)
        have q0 : (F.L ++ encR R).length = F.L.length + (encR R).length := List.length_append
        have q1 : (F.L ++ encR R).length ≤ 9223372036854775807 := by omega
        have q2 : (F.L ++ encR R).length * 1 ≤ 140737488355328 := by omega
        refine obl_int (by omega) (obl_tt (decide_eq_true ⟨rfl, rfl, rfl, Nat.one_pos, q1, q2⟩) ?_)
        refine br_mk (fun hb => br_mk (fun h => hlast R ⟨F.L ++ encR R, true, F.k + 1, F.lk, F.lb⟩ hR' hok h (by unfold stepF; rw [hM, hb]; rfl)) (fun h => hnorm R ⟨F.L ++ encR R, true, F.k + 1, F.lk, F.lb⟩ hR' hok h (by unfold stepF; rw [hM, hb]; rfl))) (fun hb => br_mk (fun hst => br_mk (fun h => hlast R ⟨F.L ++ encR R, !R.en, F.k + 1, F.lk, F.lb⟩ hR' hok h (by unfold stepF; rw [hM, hb, hst]; rfl)) (fun h => hnorm R ⟨F.L ++ encR R, !R.en, F.k + 1, F.lk, F.lb⟩ hR' hok h (by unfold stepF; rw [hM, hb, hst]; rfl))) (fun hst => br_mk (fun h => hlast R ⟨F.L ++ encR R, false, F.k + 1, F.lk, F.lb⟩ hR' hok h (by unfold stepF; rw [hM, hb, hst]; rfl)) (fun h => hnorm R ⟨F.L ++ encR R, false, F.k + 1, F.lk, F.lb⟩ hR' hok h (by unfold stepF; rw [hM, hb, hst]; rfl))))
  · skip
    intro R hR
    have q : labOf F c = (c.k, c.lb) := by unfold labOf; rw [if_neg hp]
    have hM : memOf F c = (F.lk, F.lb) := by unfold memOf; rw [if_neg hp]
    have hR' : stepR sp F c = R := by unfold stepR; rw [q]; exact hR
    have hsm := stepR_small hR' hc
    refine br_mk (fun he => br_mk (fun _ => hfail cs ds ⟨F.L, F.beg, F.k, F.lk, F.lb⟩ rfl (fun hk => by rw [hR'] at hk; rw [hk.err] at he; cases he)) (fun h2 => by rw [he] at h2; cases h2)) (fun he => ?_)
    have he : R.err = 0 := by simpa using he
    refine obl_dec (by omega) (obl_and (by omega) rfl (obl_dec (by omega) (obl_and (by omega) rfl (obl_dec hsm.1 ?_))))
    refine br_mk (fun hg => hfail (cs.set i (stepC c R)) (ds.set i ⟨R.en⟩) ⟨F.L, F.beg, F.k, F.lk, F.lb⟩ rfl (fun hk => by rw [hR'] at hk; have h0 : (!decide (errR R = 0)) = true := hg; rw [hk.enc] at h0; cases h0)) (fun hg => ?_)
    have hg : errR R = 0 := by simpa [errR] using hg
    refine br_dec (fun hs => hfail (cs.set i (stepC c R)) (ds.set i ⟨R.en⟩) ⟨F.L, F.beg, F.k, F.lk, F.lb⟩ rfl (fun hk => by rw [hR'] at hk; have h0 : sp - (F.L.length : Int) < ((encR R).length : Int) := hs; have h1 := hk.len; omega)) (fun hs => ?_)
    have hs : ¬ (sp - (F.L.length : Int) < ((encR R).length : Int)) := by exact hs
    have hok : OkR sp F R := ⟨he, hg, by omega⟩
    have t2 := encR_len hg
    refine br_dec (fun h => absurd h (by omega)) (fun _ => ?_)
    have q0 : (F.L ++ encR R).length = F.L.length + (encR R).length := List.length_append
    have q1 : (F.L ++ encR R).length ≤ 9223372036854775807 := by omega
    have q2 : (F.L ++ encR R).length * 1 ≤ 140737488355328 := by omega
    refine obl_int (by omega) (obl_tt (decide_eq_true ⟨rfl, rfl, rfl, Nat.one_pos, q1, q2⟩) ?_)
    refine br_mk (fun hb => br_mk (fun h => hlast R ⟨F.L ++ encR R, true, F.k + 1, F.lk, F.lb⟩ hR' hok h (by unfold stepF; rw [hM, hb]; rfl)) (fun h => hnorm R ⟨F.L ++ encR R, true, F.k + 1, F.lk, F.lb⟩ hR' hok h (by unfold stepF; rw [hM, hb]; rfl))) (fun hb => br_mk (fun hst => br_mk (fun h => hlast R ⟨F.L ++ encR R, !R.en, F.k + 1, F.lk, F.lb⟩ hR' hok h (by unfold stepF; rw [hM, hb, hst]; rfl)) (fun h => hnorm R ⟨F.L ++ encR R, !R.en, F.k + 1, F.lk, F.lb⟩ hR' hok h (by unfold stepF; rw [hM, hb, hst]; rfl))) (fun hst => br_mk (fun h => hlast R ⟨F.L ++ encR R, false, F.k + 1, F.lk, F.lb⟩ hR' hok h (by unfold stepF; rw [hM, hb, hst]; rfl)) (fun h => hnorm R ⟨F.L ++ encR R, false, F.k + 1, F.lk, F.lb⟩ hR' hok h (by unfold stepF; rw [hM, hb, hst]; rfl))))
end Go.Proofs.Ytjacnjecggedhaa
namespace Go.Proofs.Ytjacnjecggedhaa
set_option linter.unusedVariables false
set_option linter.unusedSimpArgs false
open Go.RowKit Ev
set_option maxRecDepth 100000 in
set_option maxHeartbeats 1000000 in
theorem w_fl_11 (n : Nat) (sp : Int) (cs : List CutR) (ds : List BoolR) (fv : Int) (F : FSt) (S : List Int) (i : Nat) (Q : AExit → Env → AHeap → Prop) : (wpC (TX2.ctx Try.prog) 400 9 3 fillL (g11 n sp cs ds fv F S (f13 i)).1 (g11 n sp cs ds fv F S (f13 i)).2 (canQ 3 ts13 Q)
) =  (obl (inI64 (sp - (↑F.L.length : Int))) (twice (branch (decide ((↑n : Int) % (18446744073709551616 : Int) < (↑i : Int) + (1 : Int))) (Q (.exit 0) (fE (.sl 7 0 1 0 S.length none) (f13 i)) (AHeap.mk 9
 (fHx n cs ds fv [(6, .cells 70 [.sl 8 0 1 0 F.L.length none, .int .i64 sp, .bool F.beg, .int .i64 (↑F.k : Int), .int .i64 F.lk, .str F.lb]), (7, .row 33 (intRow .u64) S .plain), (8, .row 5 byteRow F.L
 .plain)]))) (obl (decide ((0 : Int) ≤ idJ i ∧ idJ i < (↑n : Int))) (obl (decide (0 + (idJ i).toNat < ds.length)) (branch (ds.getD (idI i) (BoolR.mk false)).b (Q (.exit 0) (fE (.sl 7 0 1 0 S.length
 none) (f13 i)) (AHeap.mk 9 (fHx n cs ds fv [(6, .cells 70 [.sl 8 0 1 0 F.L.length none, .int .i64 sp, .bool F.beg, .int .i64 (↑F.k : Int), .int .i64 F.lk, .str F.lb]), (7, .row 33 (intRow .u64) S
 .plain), (8, .row 5 byteRow F.L .plain)]))) (obl (decide ((0 : Int) ≤ idJ i ∧ idJ i < (↑n : Int))) (obl (decide (0 + (idJ i).toNat < cs.length)) (branch (decide ((cutI cs i).pos = (0 : Int))) (branch
 (!decide (F.lb = [])) (branch (decide (F.lk = (cutI cs i).k) && (decide (F.lb = (cutI cs i).lb) && true)) (∀ (R : NextR), nextR (cutI cs i).typ (cutI cs i).k (cutI cs i).lb (cutI cs i).data (cutI cs
 i).pos (cutI cs i).id (3 : Int) [] (sp - (↑F.L.length : Int)) F.beg = R → branch (!decide (R.err = (0 : Int))) (branch (!decide (R.err = (0 : Int))) (Q (.exit 0) (fE (.sl 7 0 1 0 S.length none) (f13
 i)) (AHeap.mk 9 (fHx n cs ds fv [(6, .cells 70 [.sl 8 0 1 0 F.L.length none, .int .i64 sp, .bool F.beg, .int .i64 (↑F.k : Int), .int .i64 F.lk, .str F.lb]), (7, .row 33 (intRow .u64) S .plain), (8,
 .row 5 byteRow F.L .plain)]))) (branch (decide (sp - (↑F.L.length : Int) < (3 : Int))) (Q (.exit 0) (fE (.sl 7 0 1 0 S.length none) (f13 i)) (AHeap.mk 9 (fHx n cs ds fv [(6, .cells 70 [.sl 8 0 1 0
 F.L.length none, .int .i64 sp, .bool F.beg, .int .i64 (↑F.k : Int), .int .i64 F.lk, .str F.lb]), (7, .row 33 (intRow .u64) S .plain), (8, .row 5 byteRow F.L .plain)]))) (branch (decide ((70000 : Int)
 ≤ (↑F.k : Int))) (Q (.exit 0) (fE (.sl 7 0 1 0 S.length none) (f13 i)) (AHeap.mk 9 (fHx n cs ds fv [(6, .cells 70 [.sl 8 0 1 0 F.L.length none, .int .i64 sp, .bool F.beg, .int .i64 (↑F.k : Int), .int
 .i64 F.lk, .str F.lb]), (7, .row 33 (intRow .u64) S .plain), (8, .row 5 byteRow F.L .plain)]))) (obl (inI64 ((↑F.k : Int) + (1 : Int))) (obl (true && decide (F.L.length = F.L.length ∧ 1 = 1 ∧ 1 = 1 ∧
 0 < 1 ∧ (F.L ++ [(48 : UInt8), (1 : UInt8), (0 : UInt8)]).length ≤ 9223372036854775807 ∧ (F.L ++ [(48 : UInt8), (1 : UInt8), (0 : UInt8)]).length * 1 ≤ 140737488355328)) (branch F.beg (Q .normal (fE
 (.sl 7 0 1 0 S.length none) (f13 i)) (AHeap.mk 9 (fHx n cs ds fv [(6, .cells 70 [.sl 8 0 1 0 (F.L ++ [(48 : UInt8), (1 : UInt8), (0 : UInt8)]).length none, .int .i64 sp, .bool true, .int .i64 ((↑F.k :
 Int) + (1 : Int)), .int .i64 F.lk, .str F.lb]), (7, .row 33 (intRow .u64) S .plain), (8, .row 5 byteRow (F.L ++ [(48 : UInt8), (1 : UInt8), (0 : UInt8)]) .plain)]))) (Q .normal (fE (.sl 7 0 1 0
 S.length none) (f13 i)) (AHeap.mk 9 (fHx n cs ds fv [(6, .cells 70 [.sl 8 0 1 0 (F.L ++ [(48 : UInt8), (1 : UInt8), (0 : UInt8)]).length none, .int .i64 sp, .bool false, .int .i64 ((↑F.k : Int) + (1 :
 Int)), .int .i64 F.lk, .str F.lb]), (7, .row 33 (intRow .u64) S .plain), (8, .row 5 byteRow (F.L ++ [(48 : UInt8), (1 : UInt8), (0 : UInt8)]) .plain)]))))))))) (obl (decide ((0 : Int) ≤ idJ i ∧ idJ i
 < (↑n : Int))) (obl (decide (0 + (idJ i).toNat < cs.length) && true) (obl (decide ((0 : Int) ≤ idJ i ∧ idJ i < (↑n : Int))) (obl (decide (0 + (idJ i).toNat < ds.length) && true) (obl (decide
 (R.lb.length + R.data.length + R.sum.length ≤ 9223372036854775000)) (branch (!decide (gErr R.st R.en R.id R.total R.typ R.k R.lb R.data R.sum = (0 : Int))) (Q (.exit 0) (fE (.sl 7 0 1 0 S.length none)
 (f13 i)) (AHeap.mk 9 (fHx n (cs.set (idI i) (CutR.mk (cutI cs i).typ R.k2 R.b2 (cutI cs i).data R.at2 (cutI cs i).id)) (ds.set (idI i) (BoolR.mk R.en)) fv [(6, .cells 70 [.sl 8 0 1 0 F.L.length none,
 .int .i64 sp, .bool F.beg, .int .i64 (↑F.k : Int), .int .i64 F.lk, .str F.lb]), (7, .row 33 (intRow .u64) S .plain), (8, .row 5 byteRow F.L .plain)]))) (branch (decide (sp - (↑F.L.length : Int) <
 (↑(gEnc R.st R.en R.id R.total R.typ R.k R.lb R.data R.sum).length : Int))) (Q (.exit 0) (fE (.sl 7 0 1 0 S.length none) (f13 i)) (AHeap.mk 9 (fHx n (cs.set (idI i) (CutR.mk (cutI cs i).typ R.k2 R.b2
 (cutI cs i).data R.at2 (cutI cs i).id)) (ds.set (idI i) (BoolR.mk R.en)) fv [(6, .cells 70 [.sl 8 0 1 0 F.L.length none, .int .i64 sp, .bool F.beg, .int .i64 (↑F.k : Int), .int .i64 F.lk, .str F.lb]),
 (7, .row 33 (intRow .u64) S .plain), (8, .row 5 byteRow F.L .plain)]))) (branch (decide ((70000 : Int) ≤ (↑F.k : Int))) (Q (.exit 0) (fE (.sl 7 0 1 0 S.length none) (f13 i)) (AHeap.mk 9 (fHx n (cs.set
 (idI i) (CutR.mk (cutI cs i).typ R.k2 R.b2 (cutI cs i).data R.at2 (cutI cs i).id)) (ds.set (idI i) (BoolR.mk R.en)) fv [(6, .cells 70 [.sl 8 0 1 0 F.L.length none, .int .i64 sp, .bool F.beg, .int .i64
 (↑F.k : Int), .int .i64 F.lk, .str F.lb]), (7, .row 33 (intRow .u64) S .plain), (8, .row 5 byteRow F.L .plain)]))) (obl (inI64 ((↑F.k : Int) + (1 : Int))) (obl (true && decide (F.L.length = F.L.length
 ∧ 1 = 1 ∧ 1 = 1 ∧ 0 < 1 ∧ (F.L ++ gEnc R.st R.en R.id R.total R.typ R.k R.lb R.data R.sum).length ≤ 9223372036854775807 ∧ (F.L ++ gEnc R.st R.en R.id R.total R.typ R.k R.lb R.data R.sum).length * 1 ≤
 140737488355328)) (branch F.beg (branch R.en (obl (true && decide (S.length = S.length ∧ 1 = 1 ∧ 1 = 1 ∧ 0 < 1 ∧ (S ++ [(↑i : Int) + (1 : Int)]).length ≤ 9223372036854775807 ∧ (S ++ [(↑i : Int) + (1 :
 Int)]).length * 8 ≤ 140737488355328)) (Q (.exit 2) [(4, .ptr 3 0 0 0), (5, .ptr 4 0 0 0), (6, .ptr 5 0 0 0), (10, .ptr 6 0 0 0), (11, .sl 7 0 1 0 (S ++ [(↑i : Int) + (1 : Int)]).length none), (12,
 .func 16 [] [.ptr 3 0 0 0, .ptr 4 0 0 0, .ptr 5 0 0 0]), (13, .int .u64 ((↑i : Int) + (1 : Int)))] (AHeap.mk 9 (fHx n (cs.set (idI i) (CutR.mk (cutI cs i).typ R.k2 R.b2 (cutI cs i).data R.at2 (cutI cs
 i).id)) (ds.set (idI i) (BoolR.mk R.en)) fv [(6, .cells 70 [.sl 8 0 1 0 (F.L ++ gEnc R.st R.en R.id R.total R.typ R.k R.lb R.data R.sum).length none, .int .i64 sp, .bool true, .int .i64 ((↑F.k : Int)
 + (1 : Int)), .int .i64 F.lk, .str F.lb]), (7, .row 33 (intRow .u64) (S ++ [(↑i : Int) + (1 : Int)]) .plain), (8, .row 5 byteRow (F.L ++ gEnc R.st R.en R.id R.total R.typ R.k R.lb R.data R.sum)
 .plain)])))) (Q .normal (fE (.sl 7 0 1 0 S.length none) (f13 i)) (AHeap.mk 9 (fHx n (cs.set (idI i) (CutR.mk (cutI cs i).typ R.k2 R.b2 (cutI cs i).data R.at2 (cutI cs i).id)) (ds.set (idI i) (BoolR.mk
 R.en)) fv [(6, .cells 70 [.sl 8 0 1 0 (F.L ++ gEnc R.st R.en R.id R.total R.typ R.k R.lb R.data R.sum).length none, .int .i64 sp, .bool true, .int .i64 ((↑F.k : Int) + (1 : Int)), .int .i64 F.lk, .str
 F.lb]), (7, .row 33 (intRow .u64) S .plain), (8, .row 5 byteRow (F.L ++ gEnc R.st R.en R.id R.total R.typ R.k R.lb R.data R.sum) .plain)])))) (branch R.st (branch R.en (obl (true && decide (S.length =
 S.length ∧ 1 = 1 ∧ 1 = 1 ∧ 0 < 1 ∧ (S ++ [(↑i : Int) + (1 : Int)]).length ≤ 9223372036854775807 ∧ (S ++ [(↑i : Int) + (1 : Int)]).length * 8 ≤ 140737488355328)) (Q (.exit 2) [(4, .ptr 3 0 0 0), (5,
 .ptr 4 0 0 0), (6, .ptr 5 0 0 0), (10, .ptr 6 0 0 0), (11, .sl 7 0 1 0 (S ++ [(↑i : Int) + (1 : Int)]).length none), (12, .func 16 [] [.ptr 3 0 0 0, .ptr 4 0 0 0, .ptr 5 0 0 0]), (13, .int .u64 ((↑i :
 Int) + (1 : Int)))] (AHeap.mk 9 (fHx n (cs.set (idI i) (CutR.mk (cutI cs i).typ R.k2 R.b2 (cutI cs i).data R.at2 (cutI cs i).id)) (ds.set (idI i) (BoolR.mk R.en)) fv [(6, .cells 70 [.sl 8 0 1 0 (F.L
 ++ gEnc R.st R.en R.id R.total R.typ R.k R.lb R.data R.sum).length none, .int .i64 sp, .bool !R.en, .int .i64 ((↑F.k : Int) + (1 : Int)), .int .i64 F.lk, .str F.lb]), (7, .row 33 (intRow .u64) (S ++
 [(↑i : Int) + (1 : Int)]) .plain), (8, .row 5 byteRow (F.L ++ gEnc R.st R.en R.id R.total R.typ R.k R.lb R.data R.sum) .plain)])))) (Q .normal (fE (.sl 7 0 1 0 S.length none) (f13 i)) (AHeap.mk 9 (fHx
 n (cs.set (idI i) (CutR.mk (cutI cs i).typ R.k2 R.b2 (cutI cs i).data R.at2 (cutI cs i).id)) (ds.set (idI i) (BoolR.mk R.en)) fv [(6, .cells 70 [.sl 8 0 1 0 (F.L ++ gEnc R.st R.en R.id R.total R.typ
 R.k R.lb R.data R.sum).length none, .int .i64 sp, .bool !R.en, .int .i64 ((↑F.k : Int) + (1 : Int)), .int .i64 F.lk, .str F.lb]), (7, .row 33 (intRow .u64) S .plain), (8, .row 5 byteRow (F.L ++ gEnc
 R.st R.en R.id R.total R.typ R.k R.lb R.data R.sum) .plain)])))) (branch R.en (obl (true && decide (S.length = S.length ∧ 1 = 1 ∧ 1 = 1 ∧ 0 < 1 ∧ (S ++ [(↑i : Int) + (1 : Int)]).length ≤
 9223372036854775807 ∧ (S ++ [(↑i : Int) + (1 : Int)]).length * 8 ≤ 140737488355328)) (Q (.exit 2) [(4, .ptr 3 0 0 0), (5, .ptr 4 0 0 0), (6, .ptr 5 0 0 0), (10, .ptr 6 0 0 0), (11, .sl 7 0 1 0 (S ++
 [(↑i : Int) + (1 : Int)]).length none), (12, .func 16 [] [.ptr 3 0 0 0, .ptr 4 0 0 0, .ptr 5 0 0 0]), (13, .int .u64 ((↑i : Int) + (1 : Int)))] (AHeap.mk 9 (fHx n (cs.set (idI i) (CutR.mk (cutI cs
 i).typ R.k2 R.b2 (cutI cs i).data R.at2 (cutI cs i).id)) (ds.set (idI i) (BoolR.mk R.en)) fv [(6, .cells 70 [.sl 8 0 1 0 (F.L ++ gEnc R.st R.en R.id R.total R.typ R.k R.lb R.data R.sum).length none,
 .int .i64 sp, .bool false, .int .i64 ((↑F.k : Int) + (1 : Int)), .int .i64 F.lk, .str F.lb]), (7, .row 33 (intRow .u64) (S ++ [(↑i : Int) + (1 : Int)]) .plain), (8, .row 5 byteRow (F.L ++ gEnc R.st
 R.en R.id R.total R.typ R.k R.lb R.data R.sum) .plain)])))) (Q .normal (fE (.sl 7 0 1 0 S.length none) (f13 i)) (AHeap.mk 9 (fHx n (cs.set (idI i) (CutR.mk (cutI cs i).typ R.k2 R.b2 (cutI cs i).data
 R.at2 (cutI cs i).id)) (ds.set (idI i) (BoolR.mk R.en)) fv [(6, .cells 70 [.sl 8 0 1 0 (F.L ++ gEnc R.st R.en R.id R.total R.typ R.k R.lb R.data R.sum).length none, .int .i64 sp, .bool false, .int
 .i64 ((↑F.k : Int) + (1 : Int)), .int .i64 F.lk, .str F.lb]), (7, .row 33 (intRow .u64) S .plain), (8, .row 5 byteRow (F.L ++ gEnc R.st R.en R.id R.total R.typ R.k R.lb R.data R.sum)
 .plain)]))))))))))))))))) (branch (decide ((0 : Int) < lSize (cutI cs i).k)) (branch (decide ((if lOk (cutI cs i).k (cutI cs i).lb = true then (0 : Int) else (2 : Int)) = (0 : Int))) (∀ (R : NextR),
 nextR (cutI cs i).typ (cutI cs i).k (cutI cs i).lb (cutI cs i).data (cutI cs i).pos (cutI cs i).id (cutI cs i).k (cutI cs i).lb (sp - (↑F.L.length : Int)) F.beg = R → branch (!decide (R.err = (0 :
 Int))) (branch (!decide (R.err = (0 : Int))) (Q (.exit 0) (fE (.sl 7 0 1 0 S.length none) (f13 i)) (AHeap.mk 9 (fHx n cs ds fv [(6, .cells 70 [.sl 8 0 1 0 F.L.length none, .int .i64 sp, .bool F.beg,
 .int .i64 (↑F.k : Int), .int .i64 (cutI cs i).k, .str (cutI cs i).lb]), (7, .row 33 (intRow .u64) S .plain), (8, .row 5 byteRow F.L .plain)]))) (branch (decide (sp - (↑F.L.length : Int) < (3 : Int)))
 (Q (.exit 0) (fE (.sl 7 0 1 0 S.length none) (f13 i)) (AHeap.mk 9 (fHx n cs ds fv [(6, .cells 70 [.sl 8 0 1 0 F.L.length none, .int .i64 sp, .bool F.beg, .int .i64 (↑F.k : Int), .int .i64 (cutI cs
 i).k, .str (cutI cs i).lb]), (7, .row 33 (intRow .u64) S .plain), (8, .row 5 byteRow F.L .plain)]))) (branch (decide ((70000 : Int) ≤ (↑F.k : Int))) (Q (.exit 0) (fE (.sl 7 0 1 0 S.length none) (f13
 i)) (AHeap.mk 9 (fHx n cs ds fv [(6, .cells 70 [.sl 8 0 1 0 F.L.length none, .int .i64 sp, .bool F.beg, .int .i64 (↑F.k : Int), .int .i64 (cutI cs i).k, .str (cutI cs i).lb]), (7, .row 33 (intRow
 .u64) S .plain), (8, .row 5 byteRow F.L .plain)]))) (obl (inI64 ((↑F.k : Int) + (1 : Int))) (obl (true && decide (F.L.length = F.L.length ∧ 1 = 1 ∧ 1 = 1 ∧ 0 < 1 ∧ (F.L ++ [(48 : UInt8), (1 : UInt8),
 (0 : UInt8)]).length ≤ 9223372036854775807 ∧ (F.L ++ [(48 : UInt8), (1 : UInt8), (0 : UInt8)]).length * 1 ≤ 140737488355328)) (branch F.beg (Q .normal (fE (.sl 7 0 1 0 S.length none) (f13 i))
 (AHeap.mk 9 (fHx n cs ds fv [(6, .cells 70 [.sl 8 0 1 0 (F.L ++ [(48 : UInt8), (1 : UInt8), (0 : UInt8)]).length none, .int .i64 sp, .bool true, .int .i64 ((↑F.k : Int) + (1 : Int)), .int .i64 (cutI
 cs i).k, .str (cutI cs i).lb]), (7, .row 33 (intRow .u64) S .plain), (8, .row 5 byteRow (F.L ++ [(48 : UInt8), (1 : UInt8), (0 : UInt8)]) .plain)]))) (Q .normal (fE (.sl 7 0 1 0 S.length none) (f13
 i)) (AHeap.mk 9 (fHx n cs ds fv [(6, .cells 70 [.sl 8 0 1 0 (F.L ++ [(48 : UInt8), (1 : UInt8), (0 : UInt8)]).length none, .int .i64 sp, .bool false, .int .i64 ((↑F.k : Int) + (1 : Int)), .int .i64
 (cutI cs i).k, .str (cutI cs i).lb]), (7, .row 33 (intRow .u64) S .plain), (8, .row 5 byteRow (F.L ++ [(48 : UInt8), (1 : UInt8), (0 : UInt8)]) .plain)]))))))))) (obl (decide ((0 : Int) ≤ idJ i ∧ idJ
 i < (↑n : Int))) (obl (decide (0 + (idJ i).toNat < cs.length) && true) (obl (decide ((0 : Int) ≤ idJ i ∧ idJ i < (↑n : Int))) (obl (decide (0 + (idJ i).toNat < ds.length) && true) (obl (decide
 (R.lb.length + R.data.length + R.sum.length ≤ 9223372036854775000)) (branch (!decide (gErr R.st R.en R.id R.total R.typ R.k R.lb R.data R.sum = (0 : Int))) (Q (.exit 0) (fE (.sl 7 0 1 0 S.length none)
 (f13 i)) (AHeap.mk 9 (fHx n (cs.set (idI i) (CutR.mk (cutI cs i).typ R.k2 R.b2 (cutI cs i).data R.at2 (cutI cs i).id)) (ds.set (idI i) (BoolR.mk R.en)) fv [(6, .cells 70 [.sl 8 0 1 0 F.L.length none,
 .int .i64 sp, .bool F.beg, .int .i64 (↑F.k : Int), .int .i64 (cutI cs i).k, .str (cutI cs i).lb]), (7, .row 33 (intRow .u64) S .plain), (8, .row 5 byteRow F.L .plain)]))) (branch (decide (sp -
 (↑F.L.length : Int) < (↑(gEnc R.st R.en R.id R.total R.typ R.k R.lb R.data R.sum).length : Int))) (Q (.exit 0) (fE (.sl 7 0 1 0 S.length none) (f13 i)) (AHeap.mk 9 (fHx n (cs.set (idI i) (CutR.mk
 (cutI cs i).typ R.k2 R.b2 (cutI cs i).data R.at2 (cutI cs i).id)) (ds.set (idI i) (BoolR.mk R.en)) fv [(6, .cells 70 [.sl 8 0 1 0 F.L.length none, .int .i64 sp, .bool F.beg, .int .i64 (↑F.k : Int),
 .int .i64 (cutI cs i).k, .str (cutI cs i).lb]), (7, .row 33 (intRow .u64) S .plain), (8, .row 5 byteRow F.L .plain)]))) (branch (decide ((70000 : Int) ≤ (↑F.k : Int))) (Q (.exit 0) (fE (.sl 7 0 1 0
 S.length none) (f13 i)) (AHeap.mk 9 (fHx n (cs.set (idI i) (CutR.mk (cutI cs i).typ R.k2 R.b2 (cutI cs i).data R.at2 (cutI cs i).id)) (ds.set (idI i) (BoolR.mk R.en)) fv [(6, .cells 70 [.sl 8 0 1 0
 F.L.length none, .int .i64 sp, .bool F.beg, .int .i64 (↑F.k : Int), .int .i64 (cutI cs i).k, .str (cutI cs i).lb]), (7, .row 33 (intRow .u64) S .plain), (8, .row 5 byteRow F.L .plain)]))) (obl (inI64
 ((↑F.k : Int) + (1 : Int))) (obl (true && decide (F.L.length = F.L.length ∧ 1 = 1 ∧ 1 = 1 ∧ 0 < 1 ∧ (F.L ++ gEnc R.st R.en R.id R.total R.typ R.k R.lb R.data R.sum).length ≤ 9223372036854775807 ∧ (F.L
 ++ gEnc R.st R.en R.id R.total R.typ R.k R.lb R.data R.sum).length * 1 ≤ 140737488355328)) (branch F.beg (branch R.en (obl (true && decide (S.length = S.length ∧ 1 = 1 ∧ 1 = 1 ∧ 0 < 1 ∧ (S ++ [(↑i :
 Int) + (1 : Int)]).length ≤ 9223372036854775807 ∧ (S ++ [(↑i : Int) + (1 : Int)]).length * 8 ≤ 140737488355328)) (Q (.exit 2) [(4, .ptr 3 0 0 0), (5, .ptr 4 0 0 0), (6, .ptr 5 0 0 0), (10, .ptr 6 0 0
 0), (11, .sl 7 0 1 0 (S ++ [(↑i : Int) + (1 : Int)]).length none), (12, .func 16 [] [.ptr 3 0 0 0, .ptr 4 0 0 0, .ptr 5 0 0 0]), (13, .int .u64 ((↑i : Int) + (1 : Int)))] (AHeap.mk 9 (fHx n (cs.set
 (idI i) (CutR.mk (cutI cs i).typ R.k2 R.b2 (cutI cs i).data R.at2 (cutI cs i).id)) (ds.set (idI i) (BoolR.mk R.en)) fv [(6, .cells 70 [.sl 8 0 1 0 (F.L ++ gEnc R.st R.en R.id R.total R.typ R.k R.lb
 R.data R.sum).length none, .int .i64 sp, .bool true, .int .i64 ((↑F.k : Int) + (1 : Int)), .int .i64 (cutI cs i).k, .str (cutI cs i).lb]), (7, .row 33 (intRow .u64) (S ++ [(↑i : Int) + (1 : Int)])
 .plain), (8, .row 5 byteRow (F.L ++ gEnc R.st R.en R.id R.total R.typ R.k R.lb R.data R.sum) .plain)])))) (Q .normal (fE (.sl 7 0 1 0 S.length none) (f13 i)) (AHeap.mk 9 (fHx n (cs.set (idI i)
 (CutR.mk (cutI cs i).typ R.k2 R.b2 (cutI cs i).data R.at2 (cutI cs i).id)) (ds.set (idI i) (BoolR.mk R.en)) fv [(6, .cells 70 [.sl 8 0 1 0 (F.L ++ gEnc R.st R.en R.id R.total R.typ R.k R.lb R.data
 R.sum).length none, .int .i64 sp, .bool true, .int .i64 ((↑F.k : Int) + (1 : Int)), .int .i64 (cutI cs i).k, .str (cutI cs i).lb]), (7, .row 33 (intRow .u64) S .plain), (8, .row 5 byteRow (F.L ++ gEnc
 R.st R.en R.id R.total R.typ R.k R.lb R.data R.sum) .plain)])))) (branch R.st (branch R.en (obl (true && decide (S.length = S.length ∧ 1 = 1 ∧ 1 = 1 ∧ 0 < 1 ∧ (S ++ [(↑i : Int) + (1 : Int)]).length ≤
 9223372036854775807 ∧ (S ++ [(↑i : Int) + (1 : Int)]).length * 8 ≤ 140737488355328)) (Q (.exit 2) [(4, .ptr 3 0 0 0), (5, .ptr 4 0 0 0), (6, .ptr 5 0 0 0), (10, .ptr 6 0 0 0), (11, .sl 7 0 1 0 (S ++
 [(↑i : Int) + (1 : Int)]).length none), (12, .func 16 [] [.ptr 3 0 0 0, .ptr 4 0 0 0, .ptr 5 0 0 0]), (13, .int .u64 ((↑i : Int) + (1 : Int)))] (AHeap.mk 9 (fHx n (cs.set (idI i) (CutR.mk (cutI cs
 i).typ R.k2 R.b2 (cutI cs i).data R.at2 (cutI cs i).id)) (ds.set (idI i) (BoolR.mk R.en)) fv [(6, .cells 70 [.sl 8 0 1 0 (F.L ++ gEnc R.st R.en R.id R.total R.typ R.k R.lb R.data R.sum).length none,
 .int .i64 sp, .bool !R.en, .int .i64 ((↑F.k : Int) + (1 : Int)), .int .i64 (cutI cs i).k, .str (cutI cs i).lb]), (7, .row 33 (intRow .u64) (S ++ [(↑i : Int) + (1 : Int)]) .plain), (8, .row 5 byteRow
 (F.L ++ gEnc R.st R.en R.id R.total R.typ R.k R.lb R.data R.sum) .plain)])))) (Q .normal (fE (.sl 7 0 1 0 S.length none) (f13 i)) (AHeap.mk 9 (fHx n (cs.set (idI i) (CutR.mk (cutI cs i).typ R.k2 R.b2
 (cutI cs i).data R.at2 (cutI cs i).id)) (ds.set (idI i) (BoolR.mk R.en)) fv [(6, .cells 70 [.sl 8 0 1 0 (F.L ++ gEnc R.st R.en R.id R.total R.typ R.k R.lb R.data R.sum).length none, .int .i64 sp,
 .bool !R.en, .int .i64 ((↑F.k : Int) + (1 : Int)), .int .i64 (cutI cs i).k, .str (cutI cs i).lb]), (7, .row 33 (intRow .u64) S .plain), (8, .row 5 byteRow (F.L ++ gEnc R.st R.en R.id R.total R.typ R.k
 R.lb R.data R.sum) .plain)])))) (branch R.en (obl (true && decide (S.length = S.length ∧ 1 = 1 ∧ 1 = 1 ∧ 0 < 1 ∧ (S ++ [(↑i : Int) + (1 : Int)]).length ≤ 9223372036854775807 ∧ (S ++ [(↑i : Int) + (1 :
 Int)]).length * 8 ≤ 140737488355328)) (Q (.exit 2) [(4, .ptr 3 0 0 0), (5, .ptr 4 0 0 0), (6, .ptr 5 0 0 0), (10, .ptr 6 0 0 0), (11, .sl 7 0 1 0 (S ++ [(↑i : Int) + (1 : Int)]).length none), (12,
 .func 16 [] [.ptr 3 0 0 0, .ptr 4 0 0 0, .ptr 5 0 0 0]), (13, .int .u64 ((↑i : Int) + (1 : Int)))] (AHeap.mk 9 (fHx n (cs.set (idI i) (CutR.mk (cutI cs i).typ R.k2 R.b2 (cutI cs i).data R.at2 (cutI cs
 i).id)) (ds.set (idI i) (BoolR.mk R.en)) fv [(6, .cells 70 [.sl 8 0 1 0 (F.L ++ gEnc R.st R.en R.id R.total R.typ R.k R.lb R.data R.sum).length none, .int .i64 sp, .bool false, .int .i64 ((↑F.k : Int)
 + (1 : Int)), .int .i64 (cutI cs i).k, .str (cutI cs i).lb]), (7, .row 33 (intRow .u64) (S ++ [(↑i : Int) + (1 : Int)]) .plain), (8, .row 5 byteRow (F.L ++ gEnc R.st R.en R.id R.total R.typ R.k R.lb
 R.data R.sum) .plain)])))) (Q .normal (fE (.sl 7 0 1 0 S.length none) (f13 i)) (AHeap.mk 9 (fHx n (cs.set (idI i) (CutR.mk (cutI cs i).typ R.k2 R.b2 (cutI cs i).data R.at2 (cutI cs i).id)) (ds.set
 (idI i) (BoolR.mk R.en)) fv [(6, .cells 70 [.sl 8 0 1 0 (F.L ++ gEnc R.st R.en R.id R.total R.typ R.k R.lb R.data R.sum).length none, .int .i64 sp, .bool false, .int .i64 ((↑F.k : Int) + (1 : Int)),
 .int .i64 (cutI cs i).k, .str (cutI cs i).lb]), (7, .row 33 (intRow .u64) S .plain), (8, .row 5 byteRow (F.L ++ gEnc R.st R.en R.id R.total R.typ R.k R.lb R.data R.sum) .plain)]))))))))))))))))) (∀ (R
 : NextR), nextR (cutI cs i).typ (cutI cs i).k (cutI cs i).lb (cutI cs i).data (cutI cs i).pos (cutI cs i).id (cutI cs i).k (cutI cs i).lb (sp - (↑F.L.length : Int)) F.beg = R → branch (!decide (R.err
 = (0 : Int))) (branch (!decide (R.err = (0 : Int))) (Q (.exit 0) (fE (.sl 7 0 1 0 S.length none) (f13 i)) (AHeap.mk 9 (fHx n cs ds fv [(6, .cells 70 [.sl 8 0 1 0 F.L.length none, .int .i64 sp, .bool
 F.beg, .int .i64 (↑F.k : Int), .int .i64 F.lk, .str F.lb]), (7, .row 33 (intRow .u64) S .plain), (8, .row 5 byteRow F.L .plain)]))) (branch (decide (sp - (↑F.L.length : Int) < (3 : Int))) (Q (.exit 0)
 (fE (.sl 7 0 1 0 S.length none) (f13 i)) (AHeap.mk 9 (fHx n cs ds fv [(6, .cells 70 [.sl 8 0 1 0 F.L.length none, .int .i64 sp, .bool F.beg, .int .i64 (↑F.k : Int), .int .i64 F.lk, .str F.lb]), (7,
 .row 33 (intRow .u64) S .plain), (8, .row 5 byteRow F.L .plain)]))) (branch (decide ((70000 : Int) ≤ (↑F.k : Int))) (Q (.exit 0) (fE (.sl 7 0 1 0 S.length none) (f13 i)) (AHeap.mk 9 (fHx n cs ds fv
 [(6, .cells 70 [.sl 8 0 1 0 F.L.length none, .int .i64 sp, .bool F.beg, .int .i64 (↑F.k : Int), .int .i64 F.lk, .str F.lb]), (7, .row 33 (intRow .u64) S .plain), (8, .row 5 byteRow F.L .plain)])))
 (obl (inI64 ((↑F.k : Int) + (1 : Int))) (obl (true && decide (F.L.length = F.L.length ∧ 1 = 1 ∧ 1 = 1 ∧ 0 < 1 ∧ (F.L ++ [(48 : UInt8), (1 : UInt8), (0 : UInt8)]).length ≤ 9223372036854775807 ∧ (F.L ++
 [(48 : UInt8), (1 : UInt8), (0 : UInt8)]).length * 1 ≤ 140737488355328)) (branch F.beg (Q .normal (fE (.sl 7 0 1 0 S.length none) (f13 i)) (AHeap.mk 9 (fHx n cs ds fv [(6, .cells 70 [.sl 8 0 1 0 (F.L
 ++ [(48 : UInt8), (1 : UInt8), (0 : UInt8)]).length none, .int .i64 sp, .bool true, .int .i64 ((↑F.k : Int) + (1 : Int)), .int .i64 F.lk, .str F.lb]), (7, .row 33 (intRow .u64) S .plain), (8, .row 5
 byteRow (F.L ++ [(48 : UInt8), (1 : UInt8), (0 : UInt8)]) .plain)]))) (Q .normal (fE (.sl 7 0 1 0 S.length none) (f13 i)) (AHeap.mk 9 (fHx n cs ds fv [(6, .cells 70 [.sl 8 0 1 0 (F.L ++ [(48 : UInt8),
 (1 : UInt8), (0 : UInt8)]).length none, .int .i64 sp, .bool false, .int .i64 ((↑F.k : Int) + (1 : Int)), .int .i64 F.lk, .str F.lb]), (7, .row 33 (intRow .u64) S .plain), (8, .row 5 byteRow (F.L ++
 [(48 : UInt8), (1 : UInt8), (0 : UInt8)]) .plain)]))))))))) (obl (decide ((0 : Int) ≤ idJ i ∧ idJ i < (↑n : Int))) (obl (decide (0 + (idJ i).toNat < cs.length) && true) (obl (decide ((0 : Int) ≤ idJ i
 ∧ idJ i < (↑n : Int))) (obl (decide (0 + (idJ i).toNat < ds.length) && true) (obl (decide (R.lb.length + R.data.length + R.sum.length ≤ 9223372036854775000)) (branch (!decide (gErr R.st R.en R.id
 R.total R.typ R.k R.lb R.data R.sum = (0 : Int))) (Q (.exit 0) (fE (.sl 7 0 1 0 S.length none) (f13 i)) (AHeap.mk 9 (fHx n (cs.set (idI i) (CutR.mk (cutI cs i).typ R.k2 R.b2 (cutI cs i).data R.at2
 (cutI cs i).id)) (ds.set (idI i) (BoolR.mk R.en)) fv [(6, .cells 70 [.sl 8 0 1 0 F.L.length none, .int .i64 sp, .bool F.beg, .int .i64 (↑F.k : Int), .int .i64 F.lk, .str F.lb]), (7, .row 33 (intRow
 .u64) S .plain), (8, .row 5 byteRow F.L .plain)]))) (branch (decide (sp - (↑F.L.length : Int) < (↑(gEnc R.st R.en R.id R.total R.typ R.k R.lb R.data R.sum).length : Int))) (Q (.exit 0) (fE (.sl 7 0 1
 0 S.length none) (f13 i)) (AHeap.mk 9 (fHx n (cs.set (idI i) (CutR.mk (cutI cs i).typ R.k2 R.b2 (cutI cs i).data R.at2 (cutI cs i).id)) (ds.set (idI i) (BoolR.mk R.en)) fv [(6, .cells 70 [.sl 8 0 1 0
 F.L.length none, .int .i64 sp, .bool F.beg, .int .i64 (↑F.k : Int), .int .i64 F.lk, .str F.lb]), (7, .row 33 (intRow .u64) S .plain), (8, .row 5 byteRow F.L .plain)]))) (branch (decide ((70000 : Int)
 ≤ (↑F.k : Int))) (Q (.exit 0) (fE (.sl 7 0 1 0 S.length none) (f13 i)) (AHeap.mk 9 (fHx n (cs.set (idI i) (CutR.mk (cutI cs i).typ R.k2 R.b2 (cutI cs i).data R.at2 (cutI cs i).id)) (ds.set (idI i)
 (BoolR.mk R.en)) fv [(6, .cells 70 [.sl 8 0 1 0 F.L.length none, .int .i64 sp, .bool F.beg, .int .i64 (↑F.k : Int), .int .i64 F.lk, .str F.lb]), (7, .row 33 (intRow .u64) S .plain), (8, .row 5 byteRow
 F.L .plain)]))) (obl (inI64 ((↑F.k : Int) + (1 : Int))) (obl (true && decide (F.L.length = F.L.length ∧ 1 = 1 ∧ 1 = 1 ∧ 0 < 1 ∧ (F.L ++ gEnc R.st R.en R.id R.total R.typ R.k R.lb R.data R.sum).length
 ≤ 9223372036854775807 ∧ (F.L ++ gEnc R.st R.en R.id R.total R.typ R.k R.lb R.data R.sum).length * 1 ≤ 140737488355328)) (branch F.beg (branch R.en (obl (true && decide (S.length = S.length ∧ 1 = 1 ∧ 1
 = 1 ∧ 0 < 1 ∧ (S ++ [(↑i : Int) + (1 : Int)]).length ≤ 9223372036854775807 ∧ (S ++ [(↑i : Int) + (1 : Int)]).length * 8 ≤ 140737488355328)) (Q (.exit 2) [(4, .ptr 3 0 0 0), (5, .ptr 4 0 0 0), (6, .ptr
 5 0 0 0), (10, .ptr 6 0 0 0), (11, .sl 7 0 1 0 (S ++ [(↑i : Int) + (1 : Int)]).length none), (12, .func 16 [] [.ptr 3 0 0 0, .ptr 4 0 0 0, .ptr 5 0 0 0]), (13, .int .u64 ((↑i : Int) + (1 : Int)))]
 (AHeap.mk 9 (fHx n (cs.set (idI i) (CutR.mk (cutI cs i).typ R.k2 R.b2 (cutI cs i).data R.at2 (cutI cs i).id)) (ds.set (idI i) (BoolR.mk R.en)) fv [(6, .cells 70 [.sl 8 0 1 0 (F.L ++ gEnc R.st R.en
 R.id R.total R.typ R.k R.lb R.data R.sum).length none, .int .i64 sp, .bool true, .int .i64 ((↑F.k : Int) + (1 : Int)), .int .i64 F.lk, .str F.lb]), (7, .row 33 (intRow .u64) (S ++ [(↑i : Int) + (1 :
 Int)]) .plain), (8, .row 5 byteRow (F.L ++ gEnc R.st R.en R.id R.total R.typ R.k R.lb R.data R.sum) .plain)])))) (Q .normal (fE (.sl 7 0 1 0 S.length none) (f13 i)) (AHeap.mk 9 (fHx n (cs.set (idI i)
 (CutR.mk (cutI cs i).typ R.k2 R.b2 (cutI cs i).data R.at2 (cutI cs i).id)) (ds.set (idI i) (BoolR.mk R.en)) fv [(6, .cells 70 [.sl 8 0 1 0 (F.L ++ gEnc R.st R.en R.id R.total R.typ R.k R.lb R.data
 R.sum).length none, .int .i64 sp, .bool true, .int .i64 ((↑F.k : Int) + (1 : Int)), .int .i64 F.lk, .str F.lb]), (7, .row 33 (intRow .u64) S .plain), (8, .row 5 byteRow (F.L ++ gEnc R.st R.en R.id
 R.total R.typ R.k R.lb R.data R.sum) .plain)])))) (branch R.st (branch R.en (obl (true && decide (S.length = S.length ∧ 1 = 1 ∧ 1 = 1 ∧ 0 < 1 ∧ (S ++ [(↑i : Int) + (1 : Int)]).length ≤
 9223372036854775807 ∧ (S ++ [(↑i : Int) + (1 : Int)]).length * 8 ≤ 140737488355328)) (Q (.exit 2) [(4, .ptr 3 0 0 0), (5, .ptr 4 0 0 0), (6, .ptr 5 0 0 0), (10, .ptr 6 0 0 0), (11, .sl 7 0 1 0 (S ++
 [(↑i : Int) + (1 : Int)]).length none), (12, .func 16 [] [.ptr 3 0 0 0, .ptr 4 0 0 0, .ptr 5 0 0 0]), (13, .int .u64 ((↑i : Int) + (1 : Int)))] (AHeap.mk 9 (fHx n (cs.set (idI i) (CutR.mk (cutI cs
 i).typ R.k2 R.b2 (cutI cs i).data R.at2 (cutI cs i).id)) (ds.set (idI i) (BoolR.mk R.en)) fv [(6, .cells 70 [.sl 8 0 1 0 (F.L ++ gEnc R.st R.en R.id R.total R.typ R.k R.lb R.data R.sum).length none,
 .int .i64 sp, .bool !R.en, .int .i64 ((↑F.k : Int) + (1 : Int)), .int .i64 F.lk, .str F.lb]), (7, .row 33 (intRow .u64) (S ++ [(↑i : Int) + (1 : Int)]) .plain), (8, .row 5 byteRow (F.L ++ gEnc R.st
 R.en R.id R.total R.typ R.k R.lb R.data R.sum) .plain)])))) (Q .normal (fE (.sl 7 0 1 0 S.length none) (f13 i)) (AHeap.mk 9 (fHx n (cs.set (idI i) (CutR.mk (cutI cs i).typ R.k2 R.b2 (cutI cs i).data
 R.at2 (cutI cs i).id)) (ds.set (idI i) (BoolR.mk R.en)) fv [(6, .cells 70 [.sl 8 0 1 0 (F.L ++ gEnc R.st R.en R.id R.total R.typ R.k R.lb R.data R.sum).length none, .int .i64 sp, .bool !R.en, .int
 .i64 ((↑F.k : Int) + (1 : Int)), .int .i64 F.lk, .str F.lb]), (7, .row 33 (intRow .u64) S .plain), (8, .row 5 byteRow (F.L ++ gEnc R.st R.en R.id R.total R.typ R.k R.lb R.data R.sum) .plain)]))))
 (branch R.en (obl (true && decide (S.length = S.length ∧ 1 = 1 ∧ 1 = 1 ∧ 0 < 1 ∧ (S ++ [(↑i : Int) + (1 : Int)]).length ≤ 9223372036854775807 ∧ (S ++ [(↑i : Int) + (1 : Int)]).length * 8 ≤
 140737488355328)) (Q (.exit 2) [(4, .ptr 3 0 0 0), (5, .ptr 4 0 0 0), (6, .ptr 5 0 0 0), (10, .ptr 6 0 0 0), (11, .sl 7 0 1 0 (S ++ [(↑i : Int) + (1 : Int)]).length none), (12, .func 16 [] [.ptr 3 0 0
 0, .ptr 4 0 0 0, .ptr 5 0 0 0]), (13, .int .u64 ((↑i : Int) + (1 : Int)))] (AHeap.mk 9 (fHx n (cs.set (idI i) (CutR.mk (cutI cs i).typ R.k2 R.b2 (cutI cs i).data R.at2 (cutI cs i).id)) (ds.set (idI i)
 (BoolR.mk R.en)) fv [(6, .cells 70 [.sl 8 0 1 0 (F.L ++ gEnc R.st R.en R.id R.total R.typ R.k R.lb R.data R.sum).length none, .int .i64 sp, .bool false, .int .i64 ((↑F.k : Int) + (1 : Int)), .int .i64
 F.lk, .str F.lb]), (7, .row 33 (intRow .u64) (S ++ [(↑i : Int) + (1 : Int)]) .plain), (8, .row 5 byteRow (F.L ++ gEnc R.st R.en R.id R.total R.typ R.k R.lb R.data R.sum) .plain)])))) (Q .normal (fE
 (.sl 7 0 1 0 S.length none) (f13 i)) (AHeap.mk 9 (fHx n (cs.set (idI i) (CutR.mk (cutI cs i).typ R.k2 R.b2 (cutI cs i).data R.at2 (cutI cs i).id)) (ds.set (idI i) (BoolR.mk R.en)) fv [(6, .cells 70
 [.sl 8 0 1 0 (F.L ++ gEnc R.st R.en R.id R.total R.typ R.k R.lb R.data R.sum).length none, .int .i64 sp, .bool false, .int .i64 ((↑F.k : Int) + (1 : Int)), .int .i64 F.lk, .str F.lb]), (7, .row 33
 (intRow .u64) S .plain), (8, .row 5 byteRow (F.L ++ gEnc R.st R.en R.id R.total R.typ R.k R.lb R.data R.sum) .plain)])))))))))))))))))) (∀ (R : NextR), nextR (cutI cs i).typ (cutI cs i).k (cutI cs
 i).lb (cutI cs i).data (cutI cs i).pos (cutI cs i).id (cutI cs i).k (cutI cs i).lb (sp - (↑F.L.length : Int)) F.beg = R → branch (!decide (R.err = (0 : Int))) (branch (!decide (R.err = (0 : Int))) (Q
 (.exit 0) (fE (.sl 7 0 1 0 S.length none) (f13 i)) (AHeap.mk 9 (fHx n cs ds fv [(6, .cells 70 [.sl 8 0 1 0 F.L.length none, .int .i64 sp, .bool F.beg, .int .i64 (↑F.k : Int), .int .i64 F.lk, .str
 F.lb]), (7, .row 33 (intRow .u64) S .plain), (8, .row 5 byteRow F.L .plain)]))) (branch (decide (sp - (↑F.L.length : Int) < (3 : Int))) (Q (.exit 0) (fE (.sl 7 0 1 0 S.length none) (f13 i)) (AHeap.mk
 9 (fHx n cs ds fv [(6, .cells 70 [.sl 8 0 1 0 F.L.length none, .int .i64 sp, .bool F.beg, .int .i64 (↑F.k : Int), .int .i64 F.lk, .str F.lb]), (7, .row 33 (intRow .u64) S .plain), (8, .row 5 byteRow
 F.L .plain)]))) (branch (decide ((70000 : Int) ≤ (↑F.k : Int))) (Q (.exit 0) (fE (.sl 7 0 1 0 S.length none) (f13 i)) (AHeap.mk 9 (fHx n cs ds fv [(6, .cells 70 [.sl 8 0 1 0 F.L.length none, .int .i64
 sp, .bool F.beg, .int .i64 (↑F.k : Int), .int .i64 F.lk, .str F.lb]), (7, .row 33 (intRow .u64) S .plain), (8, .row 5 byteRow F.L .plain)]))) (obl (inI64 ((↑F.k : Int) + (1 : Int))) (obl (true &&
 decide (F.L.length = F.L.length ∧ 1 = 1 ∧ 1 = 1 ∧ 0 < 1 ∧ (F.L ++ [(48 : UInt8), (1 : UInt8), (0 : UInt8)]).length ≤ 9223372036854775807 ∧ (F.L ++ [(48 : UInt8), (1 : UInt8), (0 : UInt8)]).length * 1
 ≤ 140737488355328)) (branch F.beg (Q .normal (fE (.sl 7 0 1 0 S.length none) (f13 i)) (AHeap.mk 9 (fHx n cs ds fv [(6, .cells 70 [.sl 8 0 1 0 (F.L ++ [(48 : UInt8), (1 : UInt8), (0 : UInt8)]).length
 none, .int .i64 sp, .bool true, .int .i64 ((↑F.k : Int) + (1 : Int)), .int .i64 F.lk, .str F.lb]), (7, .row 33 (intRow .u64) S .plain), (8, .row 5 byteRow (F.L ++ [(48 : UInt8), (1 : UInt8), (0 :
 UInt8)]) .plain)]))) (Q .normal (fE (.sl 7 0 1 0 S.length none) (f13 i)) (AHeap.mk 9 (fHx n cs ds fv [(6, .cells 70 [.sl 8 0 1 0 (F.L ++ [(48 : UInt8), (1 : UInt8), (0 : UInt8)]).length none, .int
 .i64 sp, .bool false, .int .i64 ((↑F.k : Int) + (1 : Int)), .int .i64 F.lk, .str F.lb]), (7, .row 33 (intRow .u64) S .plain), (8, .row 5 byteRow (F.L ++ [(48 : UInt8), (1 : UInt8), (0 : UInt8)])
 .plain)]))))))))) (obl (decide ((0 : Int) ≤ idJ i ∧ idJ i < (↑n : Int))) (obl (decide (0 + (idJ i).toNat < cs.length) && true) (obl (decide ((0 : Int) ≤ idJ i ∧ idJ i < (↑n : Int))) (obl (decide (0 +
 (idJ i).toNat < ds.length) && true) (obl (decide (R.lb.length + R.data.length + R.sum.length ≤ 9223372036854775000)) (branch (!decide (gErr R.st R.en R.id R.total R.typ R.k R.lb R.data R.sum = (0 :
 Int))) (Q (.exit 0) (fE (.sl 7 0 1 0 S.length none) (f13 i)) (AHeap.mk 9 (fHx n (cs.set (idI i) (CutR.mk (cutI cs i).typ R.k2 R.b2 (cutI cs i).data R.at2 (cutI cs i).id)) (ds.set (idI i) (BoolR.mk
 R.en)) fv [(6, .cells 70 [.sl 8 0 1 0 F.L.length none, .int .i64 sp, .bool F.beg, .int .i64 (↑F.k : Int), .int .i64 F.lk, .str F.lb]), (7, .row 33 (intRow .u64) S .plain), (8, .row 5 byteRow F.L
 .plain)]))) (branch (decide (sp - (↑F.L.length : Int) < (↑(gEnc R.st R.en R.id R.total R.typ R.k R.lb R.data R.sum).length : Int))) (Q (.exit 0) (fE (.sl 7 0 1 0 S.length none) (f13 i)) (AHeap.mk 9
 (fHx n (cs.set (idI i) (CutR.mk (cutI cs i).typ R.k2 R.b2 (cutI cs i).data R.at2 (cutI cs i).id)) (ds.set (idI i) (BoolR.mk R.en)) fv [(6, .cells 70 [.sl 8 0 1 0 F.L.length none, .int .i64 sp, .bool
 F.beg, .int .i64 (↑F.k : Int), .int .i64 F.lk, .str F.lb]), (7, .row 33 (intRow .u64) S .plain), (8, .row 5 byteRow F.L .plain)]))) (branch (decide ((70000 : Int) ≤ (↑F.k : Int))) (Q (.exit 0) (fE
 (.sl 7 0 1 0 S.length none) (f13 i)) (AHeap.mk 9 (fHx n (cs.set (idI i) (CutR.mk (cutI cs i).typ R.k2 R.b2 (cutI cs i).data R.at2 (cutI cs i).id)) (ds.set (idI i) (BoolR.mk R.en)) fv [(6, .cells 70
 [.sl 8 0 1 0 F.L.length none, .int .i64 sp, .bool F.beg, .int .i64 (↑F.k : Int), .int .i64 F.lk, .str F.lb]), (7, .row 33 (intRow .u64) S .plain), (8, .row 5 byteRow F.L .plain)]))) (obl (inI64 ((↑F.k
 : Int) + (1 : Int))) (obl (true && decide (F.L.length = F.L.length ∧ 1 = 1 ∧ 1 = 1 ∧ 0 < 1 ∧ (F.L ++ gEnc R.st R.en R.id R.total R.typ R.k R.lb R.data R.sum).length ≤ 9223372036854775807 ∧ (F.L ++
 gEnc R.st R.en R.id R.total R.typ R.k R.lb R.data R.sum).length * 1 ≤ 140737488355328)) (branch F.beg (branch R.en (obl (true && decide (S.length = S.length ∧ 1 = 1 ∧ 1 = 1 ∧ 0 < 1 ∧ (S ++ [(↑i : Int)
 + (1 : Int)]).length ≤ 9223372036854775807 ∧ (S ++ [(↑i : Int) + (1 : Int)]).length * 8 ≤ 140737488355328)) (Q (.exit 2) [(4, .ptr 3 0 0 0), (5, .ptr 4 0 0 0), (6, .ptr 5 0 0 0), (10, .ptr 6 0 0 0),
 (11, .sl 7 0 1 0 (S ++ [(↑i : Int) + (1 : Int)]).length none), (12, .func 16 [] [.ptr 3 0 0 0, .ptr 4 0 0 0, .ptr 5 0 0 0]), (13, .int .u64 ((↑i : Int) + (1 : Int)))] (AHeap.mk 9 (fHx n (cs.set (idI
 i) (CutR.mk (cutI cs i).typ R.k2 R.b2 (cutI cs i).data R.at2 (cutI cs i).id)) (ds.set (idI i) (BoolR.mk R.en)) fv [(6, .cells 70 [.sl 8 0 1 0 (F.L ++ gEnc R.st R.en R.id R.total R.typ R.k R.lb R.data
 R.sum).length none, .int .i64 sp, .bool true, .int .i64 ((↑F.k : Int) + (1 : Int)), .int .i64 F.lk, .str F.lb]), (7, .row 33 (intRow .u64) (S ++ [(↑i : Int) + (1 : Int)]) .plain), (8, .row 5 byteRow
 (F.L ++ gEnc R.st R.en R.id R.total R.typ R.k R.lb R.data R.sum) .plain)])))) (Q .normal (fE (.sl 7 0 1 0 S.length none) (f13 i)) (AHeap.mk 9 (fHx n (cs.set (idI i) (CutR.mk (cutI cs i).typ R.k2 R.b2
 (cutI cs i).data R.at2 (cutI cs i).id)) (ds.set (idI i) (BoolR.mk R.en)) fv [(6, .cells 70 [.sl 8 0 1 0 (F.L ++ gEnc R.st R.en R.id R.total R.typ R.k R.lb R.data R.sum).length none, .int .i64 sp,
 .bool true, .int .i64 ((↑F.k : Int) + (1 : Int)), .int .i64 F.lk, .str F.lb]), (7, .row 33 (intRow .u64) S .plain), (8, .row 5 byteRow (F.L ++ gEnc R.st R.en R.id R.total R.typ R.k R.lb R.data R.sum)
 .plain)])))) (branch R.st (branch R.en (obl (true && decide (S.length = S.length ∧ 1 = 1 ∧ 1 = 1 ∧ 0 < 1 ∧ (S ++ [(↑i : Int) + (1 : Int)]).length ≤ 9223372036854775807 ∧ (S ++ [(↑i : Int) + (1 :
 Int)]).length * 8 ≤ 140737488355328)) (Q (.exit 2) [(4, .ptr 3 0 0 0), (5, .ptr 4 0 0 0), (6, .ptr 5 0 0 0), (10, .ptr 6 0 0 0), (11, .sl 7 0 1 0 (S ++ [(↑i : Int) + (1 : Int)]).length none), (12,
 .func 16 [] [.ptr 3 0 0 0, .ptr 4 0 0 0, .ptr 5 0 0 0]), (13, .int .u64 ((↑i : Int) + (1 : Int)))] (AHeap.mk 9 (fHx n (cs.set (idI i) (CutR.mk (cutI cs i).typ R.k2 R.b2 (cutI cs i).data R.at2 (cutI cs
 i).id)) (ds.set (idI i) (BoolR.mk R.en)) fv [(6, .cells 70 [.sl 8 0 1 0 (F.L ++ gEnc R.st R.en R.id R.total R.typ R.k R.lb R.data R.sum).length none, .int .i64 sp, .bool !R.en, .int .i64 ((↑F.k : Int)
 + (1 : Int)), .int .i64 F.lk, .str F.lb]), (7, .row 33 (intRow .u64) (S ++ [(↑i : Int) + (1 : Int)]) .plain), (8, .row 5 byteRow (F.L ++ gEnc R.st R.en R.id R.total R.typ R.k R.lb R.data R.sum)
 .plain)])))) (Q .normal (fE (.sl 7 0 1 0 S.length none) (f13 i)) (AHeap.mk 9 (fHx n (cs.set (idI i) (CutR.mk (cutI cs i).typ R.k2 R.b2 (cutI cs i).data R.at2 (cutI cs i).id)) (ds.set (idI i) (BoolR.mk
 R.en)) fv [(6, .cells 70 [.sl 8 0 1 0 (F.L ++ gEnc R.st R.en R.id R.total R.typ R.k R.lb R.data R.sum).length none, .int .i64 sp, .bool !R.en, .int .i64 ((↑F.k : Int) + (1 : Int)), .int .i64 F.lk,
 .str F.lb]), (7, .row 33 (intRow .u64) S .plain), (8, .row 5 byteRow (F.L ++ gEnc R.st R.en R.id R.total R.typ R.k R.lb R.data R.sum) .plain)])))) (branch R.en (obl (true && decide (S.length =
 S.length ∧ 1 = 1 ∧ 1 = 1 ∧ 0 < 1 ∧ (S ++ [(↑i : Int) + (1 : Int)]).length ≤ 9223372036854775807 ∧ (S ++ [(↑i : Int) + (1 : Int)]).length * 8 ≤ 140737488355328)) (Q (.exit 2) [(4, .ptr 3 0 0 0), (5,
 .ptr 4 0 0 0), (6, .ptr 5 0 0 0), (10, .ptr 6 0 0 0), (11, .sl 7 0 1 0 (S ++ [(↑i : Int) + (1 : Int)]).length none), (12, .func 16 [] [.ptr 3 0 0 0, .ptr 4 0 0 0, .ptr 5 0 0 0]), (13, .int .u64 ((↑i :
 Int) + (1 : Int)))] (AHeap.mk 9 (fHx n (cs.set (idI i) (CutR.mk (cutI cs i).typ R.k2 R.b2 (cutI cs i).data R.at2 (cutI cs i).id)) (ds.set (idI i) (BoolR.mk R.en)) fv [(6, .cells 70 [.sl 8 0 1 0 (F.L
 ++ gEnc R.st R.en R.id R.total R.typ R.k R.lb R.data R.sum).length none, .int .i64 sp, .bool false, .int .i64 ((↑F.k : Int) + (1 : Int)), .int .i64 F.lk, .str F.lb]), (7, .row 33 (intRow .u64) (S ++
 [(↑i : Int) + (1 : Int)]) .plain), (8, .row 5 byteRow (F.L ++ gEnc R.st R.en R.id R.total R.typ R.k R.lb R.data R.sum) .plain)])))) (Q .normal (fE (.sl 7 0 1 0 S.length none) (f13 i)) (AHeap.mk 9 (fHx
 n (cs.set (idI i) (CutR.mk (cutI cs i).typ R.k2 R.b2 (cutI cs i).data R.at2 (cutI cs i).id)) (ds.set (idI i) (BoolR.mk R.en)) fv [(6, .cells 70 [.sl 8 0 1 0 (F.L ++ gEnc R.st R.en R.id R.total R.typ
 R.k R.lb R.data R.sum).length none, .int .i64 sp, .bool false, .int .i64 ((↑F.k : Int) + (1 : Int)), .int .i64 F.lk, .str F.lb]), (7, .row 33 (intRow .u64) S .plain), (8, .row 5 byteRow (F.L ++ gEnc
 R.st R.en R.id R.total R.typ R.k R.lb R.data R.sum) .plain)]))))))))))))))))))) (branch (decide ((0 : Int) < lSize (cutI cs i).k)) (branch (decide ((if lOk (cutI cs i).k (cutI cs i).lb = true then (0
 : Int) else (2 : Int)) = (0 : Int))) (∀ (R : NextR), nextR (cutI cs i).typ (cutI cs i).k (cutI cs i).lb (cutI cs i).data (cutI cs i).pos (cutI cs i).id (cutI cs i).k (cutI cs i).lb (sp - (↑F.L.length
 : Int)) F.beg = R → branch (!decide (R.err = (0 : Int))) (branch (!decide (R.err = (0 : Int))) (Q (.exit 0) (fE (.sl 7 0 1 0 S.length none) (f13 i)) (AHeap.mk 9 (fHx n cs ds fv [(6, .cells 70 [.sl 8 0
 1 0 F.L.length none, .int .i64 sp, .bool F.beg, .int .i64 (↑F.k : Int), .int .i64 (cutI cs i).k, .str (cutI cs i).lb]), (7, .row 33 (intRow .u64) S .plain), (8, .row 5 byteRow F.L .plain)]))) (branch
 (decide (sp - (↑F.L.length : Int) < (3 : Int))) (Q (.exit 0) (fE (.sl 7 0 1 0 S.length none) (f13 i)) (AHeap.mk 9 (fHx n cs ds fv [(6, .cells 70 [.sl 8 0 1 0 F.L.length none, .int .i64 sp, .bool
 F.beg, .int .i64 (↑F.k : Int), .int .i64 (cutI cs i).k, .str (cutI cs i).lb]), (7, .row 33 (intRow .u64) S .plain), (8, .row 5 byteRow F.L .plain)]))) (branch (decide ((70000 : Int) ≤ (↑F.k : Int)))
 (Q (.exit 0) (fE (.sl 7 0 1 0 S.length none) (f13 i)) (AHeap.mk 9 (fHx n cs ds fv [(6, .cells 70 [.sl 8 0 1 0 F.L.length none, .int .i64 sp, .bool F.beg, .int .i64 (↑F.k : Int), .int .i64 (cutI cs
 i).k, .str (cutI cs i).lb]), (7, .row 33 (intRow .u64) S .plain), (8, .row 5 byteRow F.L .plain)]))) (obl (inI64 ((↑F.k : Int) + (1 : Int))) (obl (true && decide (F.L.length = F.L.length ∧ 1 = 1 ∧ 1 =
 1 ∧ 0 < 1 ∧ (F.L ++ [(48 : UInt8), (1 : UInt8), (0 : UInt8)]).length ≤ 9223372036854775807 ∧ (F.L ++ [(48 : UInt8), (1 : UInt8), (0 : UInt8)]).length * 1 ≤ 140737488355328)) (branch F.beg (Q .normal
 (fE (.sl 7 0 1 0 S.length none) (f13 i)) (AHeap.mk 9 (fHx n cs ds fv [(6, .cells 70 [.sl 8 0 1 0 (F.L ++ [(48 : UInt8), (1 : UInt8), (0 : UInt8)]).length none, .int .i64 sp, .bool true, .int .i64
 ((↑F.k : Int) + (1 : Int)), .int .i64 (cutI cs i).k, .str (cutI cs i).lb]), (7, .row 33 (intRow .u64) S .plain), (8, .row 5 byteRow (F.L ++ [(48 : UInt8), (1 : UInt8), (0 : UInt8)]) .plain)]))) (Q
 .normal (fE (.sl 7 0 1 0 S.length none) (f13 i)) (AHeap.mk 9 (fHx n cs ds fv [(6, .cells 70 [.sl 8 0 1 0 (F.L ++ [(48 : UInt8), (1 : UInt8), (0 : UInt8)]).length none, .int .i64 sp, .bool false, .int
 .i64 ((↑F.k : Int) + (1 : Int)), .int .i64 (cutI cs i).k, .str (cutI cs i).lb]), (7, .row 33 (intRow .u64) S .plain), (8, .row 5 byteRow (F.L ++ [(48 : UInt8), (1 : UInt8), (0 : UInt8)])
 .plain)]))))))))) (obl (decide ((0 : Int) ≤ idJ i ∧ idJ i < (↑n : Int))) (obl (decide (0 + (idJ i).toNat < cs.length) && true) (obl (decide ((0 : Int) ≤ idJ i ∧ idJ i < (↑n : Int))) (obl (decide (0 +
 (idJ i).toNat < ds.length) && true) (obl (decide (R.lb.length + R.data.length + R.sum.length ≤ 9223372036854775000)) (branch (!decide (gErr R.st R.en R.id R.total R.typ R.k R.lb R.data R.sum = (0 :
 Int))) (Q (.exit 0) (fE (.sl 7 0 1 0 S.length none) (f13 i)) (AHeap.mk 9 (fHx n (cs.set (idI i) (CutR.mk (cutI cs i).typ R.k2 R.b2 (cutI cs i).data R.at2 (cutI cs i).id)) (ds.set (idI i) (BoolR.mk
 R.en)) fv [(6, .cells 70 [.sl 8 0 1 0 F.L.length none, .int .i64 sp, .bool F.beg, .int .i64 (↑F.k : Int), .int .i64 (cutI cs i).k, .str (cutI cs i).lb]), (7, .row 33 (intRow .u64) S .plain), (8, .row
 5 byteRow F.L .plain)]))) (branch (decide (sp - (↑F.L.length : Int) < (↑(gEnc R.st R.en R.id R.total R.typ R.k R.lb R.data R.sum).length : Int))) (Q (.exit 0) (fE (.sl 7 0 1 0 S.length none) (f13 i))
 (AHeap.mk 9 (fHx n (cs.set (idI i) (CutR.mk (cutI cs i).typ R.k2 R.b2 (cutI cs i).data R.at2 (cutI cs i).id)) (ds.set (idI i) (BoolR.mk R.en)) fv [(6, .cells 70 [.sl 8 0 1 0 F.L.length none, .int .i64
 sp, .bool F.beg, .int .i64 (↑F.k : Int), .int .i64 (cutI cs i).k, .str (cutI cs i).lb]), (7, .row 33 (intRow .u64) S .plain), (8, .row 5 byteRow F.L .plain)]))) (branch (decide ((70000 : Int) ≤ (↑F.k
 : Int))) (Q (.exit 0) (fE (.sl 7 0 1 0 S.length none) (f13 i)) (AHeap.mk 9 (fHx n (cs.set (idI i) (CutR.mk (cutI cs i).typ R.k2 R.b2 (cutI cs i).data R.at2 (cutI cs i).id)) (ds.set (idI i) (BoolR.mk
 R.en)) fv [(6, .cells 70 [.sl 8 0 1 0 F.L.length none, .int .i64 sp, .bool F.beg, .int .i64 (↑F.k : Int), .int .i64 (cutI cs i).k, .str (cutI cs i).lb]), (7, .row 33 (intRow .u64) S .plain), (8, .row
 5 byteRow F.L .plain)]))) (obl (inI64 ((↑F.k : Int) + (1 : Int))) (obl (true && decide (F.L.length = F.L.length ∧ 1 = 1 ∧ 1 = 1 ∧ 0 < 1 ∧ (F.L ++ gEnc R.st R.en R.id R.total R.typ R.k R.lb R.data
 R.sum).length ≤ 9223372036854775807 ∧ (F.L ++ gEnc R.st R.en R.id R.total R.typ R.k R.lb R.data R.sum).length * 1 ≤ 140737488355328)) (branch F.beg (branch R.en (obl (true && decide (S.length =
 S.length ∧ 1 = 1 ∧ 1 = 1 ∧ 0 < 1 ∧ (S ++ [(↑i : Int) + (1 : Int)]).length ≤ 9223372036854775807 ∧ (S ++ [(↑i : Int) + (1 : Int)]).length * 8 ≤ 140737488355328)) (Q (.exit 2) [(4, .ptr 3 0 0 0), (5,
 .ptr 4 0 0 0), (6, .ptr 5 0 0 0), (10, .ptr 6 0 0 0), (11, .sl 7 0 1 0 (S ++ [(↑i : Int) + (1 : Int)]).length none), (12, .func 16 [] [.ptr 3 0 0 0, .ptr 4 0 0 0, .ptr 5 0 0 0]), (13, .int .u64 ((↑i :
 Int) + (1 : Int)))] (AHeap.mk 9 (fHx n (cs.set (idI i) (CutR.mk (cutI cs i).typ R.k2 R.b2 (cutI cs i).data R.at2 (cutI cs i).id)) (ds.set (idI i) (BoolR.mk R.en)) fv [(6, .cells 70 [.sl 8 0 1 0 (F.L
 ++ gEnc R.st R.en R.id R.total R.typ R.k R.lb R.data R.sum).length none, .int .i64 sp, .bool true, .int .i64 ((↑F.k : Int) + (1 : Int)), .int .i64 (cutI cs i).k, .str (cutI cs i).lb]), (7, .row 33
 (intRow .u64) (S ++ [(↑i : Int) + (1 : Int)]) .plain), (8, .row 5 byteRow (F.L ++ gEnc R.st R.en R.id R.total R.typ R.k R.lb R.data R.sum) .plain)])))) (Q .normal (fE (.sl 7 0 1 0 S.length none) (f13
 i)) (AHeap.mk 9 (fHx n (cs.set (idI i) (CutR.mk (cutI cs i).typ R.k2 R.b2 (cutI cs i).data R.at2 (cutI cs i).id)) (ds.set (idI i) (BoolR.mk R.en)) fv [(6, .cells 70 [.sl 8 0 1 0 (F.L ++ gEnc R.st R.en
 R.id R.total R.typ R.k R.lb R.data R.sum).length none, .int .i64 sp, .bool true, .int .i64 ((↑F.k : Int) + (1 : Int)), .int .i64 (cutI cs i).k, .str (cutI cs i).lb]), (7, .row 33 (intRow .u64) S
 .plain), (8, .row 5 byteRow (F.L ++ gEnc R.st R.en R.id R.total R.typ R.k R.lb R.data R.sum) .plain)])))) (branch R.st (branch R.en (obl (true && decide (S.length = S.length ∧ 1 = 1 ∧ 1 = 1 ∧ 0 < 1 ∧
 (S ++ [(↑i : Int) + (1 : Int)]).length ≤ 9223372036854775807 ∧ (S ++ [(↑i : Int) + (1 : Int)]).length * 8 ≤ 140737488355328)) (Q (.exit 2) [(4, .ptr 3 0 0 0), (5, .ptr 4 0 0 0), (6, .ptr 5 0 0 0),
 (10, .ptr 6 0 0 0), (11, .sl 7 0 1 0 (S ++ [(↑i : Int) + (1 : Int)]).length none), (12, .func 16 [] [.ptr 3 0 0 0, .ptr 4 0 0 0, .ptr 5 0 0 0]), (13, .int .u64 ((↑i : Int) + (1 : Int)))] (AHeap.mk 9
 (fHx n (cs.set (idI i) (CutR.mk (cutI cs i).typ R.k2 R.b2 (cutI cs i).data R.at2 (cutI cs i).id)) (ds.set (idI i) (BoolR.mk R.en)) fv [(6, .cells 70 [.sl 8 0 1 0 (F.L ++ gEnc R.st R.en R.id R.total
 R.typ R.k R.lb R.data R.sum).length none, .int .i64 sp, .bool !R.en, .int .i64 ((↑F.k : Int) + (1 : Int)), .int .i64 (cutI cs i).k, .str (cutI cs i).lb]), (7, .row 33 (intRow .u64) (S ++ [(↑i : Int) +
 (1 : Int)]) .plain), (8, .row 5 byteRow (F.L ++ gEnc R.st R.en R.id R.total R.typ R.k R.lb R.data R.sum) .plain)])))) (Q .normal (fE (.sl 7 0 1 0 S.length none) (f13 i)) (AHeap.mk 9 (fHx n (cs.set
 (idI i) (CutR.mk (cutI cs i).typ R.k2 R.b2 (cutI cs i).data R.at2 (cutI cs i).id)) (ds.set (idI i) (BoolR.mk R.en)) fv [(6, .cells 70 [.sl 8 0 1 0 (F.L ++ gEnc R.st R.en R.id R.total R.typ R.k R.lb
 R.data R.sum).length none, .int .i64 sp, .bool !R.en, .int .i64 ((↑F.k : Int) + (1 : Int)), .int .i64 (cutI cs i).k, .str (cutI cs i).lb]), (7, .row 33 (intRow .u64) S .plain), (8, .row 5 byteRow (F.L
 ++ gEnc R.st R.en R.id R.total R.typ R.k R.lb R.data R.sum) .plain)])))) (branch R.en (obl (true && decide (S.length = S.length ∧ 1 = 1 ∧ 1 = 1 ∧ 0 < 1 ∧ (S ++ [(↑i : Int) + (1 : Int)]).length ≤
 9223372036854775807 ∧ (S ++ [(↑i : Int) + (1 : Int)]).length * 8 ≤ 140737488355328)) (Q (.exit 2) [(4, .ptr 3 0 0 0), (5, .ptr 4 0 0 0), (6, .ptr 5 0 0 0), (10, .ptr 6 0 0 0), (11, .sl 7 0 1 0 (S ++
 [(↑i : Int) + (1 : Int)]).length none), (12, .func 16 [] [.ptr 3 0 0 0, .ptr 4 0 0 0, .ptr 5 0 0 0]), (13, .int .u64 ((↑i : Int) + (1 : Int)))] (AHeap.mk 9 (fHx n (cs.set (idI i) (CutR.mk (cutI cs
 i).typ R.k2 R.b2 (cutI cs i).data R.at2 (cutI cs i).id)) (ds.set (idI i) (BoolR.mk R.en)) fv [(6, .cells 70 [.sl 8 0 1 0 (F.L ++ gEnc R.st R.en R.id R.total R.typ R.k R.lb R.data R.sum).length none,
 .int .i64 sp, .bool false, .int .i64 ((↑F.k : Int) + (1 : Int)), .int .i64 (cutI cs i).k, .str (cutI cs i).lb]), (7, .row 33 (intRow .u64) (S ++ [(↑i : Int) + (1 : Int)]) .plain), (8, .row 5 byteRow
 (F.L ++ gEnc R.st R.en R.id R.total R.typ R.k R.lb R.data R.sum) .plain)])))) (Q .normal (fE (.sl 7 0 1 0 S.length none) (f13 i)) (AHeap.mk 9 (fHx n (cs.set (idI i) (CutR.mk (cutI cs i).typ R.k2 R.b2
 (cutI cs i).data R.at2 (cutI cs i).id)) (ds.set (idI i) (BoolR.mk R.en)) fv [(6, .cells 70 [.sl 8 0 1 0 (F.L ++ gEnc R.st R.en R.id R.total R.typ R.k R.lb R.data R.sum).length none, .int .i64 sp,
 .bool false, .int .i64 ((↑F.k : Int) + (1 : Int)), .int .i64 (cutI cs i).k, .str (cutI cs i).lb]), (7, .row 33 (intRow .u64) S .plain), (8, .row 5 byteRow (F.L ++ gEnc R.st R.en R.id R.total R.typ R.k
 R.lb R.data R.sum) .plain)]))))))))))))))))) (∀ (R : NextR), nextR (cutI cs i).typ (cutI cs i).k (cutI cs i).lb (cutI cs i).data (cutI cs i).pos (cutI cs i).id (cutI cs i).k (cutI cs i).lb (sp -
 (↑F.L.length : Int)) F.beg = R → branch (!decide (R.err = (0 : Int))) (branch (!decide (R.err = (0 : Int))) (Q (.exit 0) (fE (.sl 7 0 1 0 S.length none) (f13 i)) (AHeap.mk 9 (fHx n cs ds fv [(6,
 .cells 70 [.sl 8 0 1 0 F.L.length none, .int .i64 sp, .bool F.beg, .int .i64 (↑F.k : Int), .int .i64 F.lk, .str F.lb]), (7, .row 33 (intRow .u64) S .plain), (8, .row 5 byteRow F.L .plain)]))) (branch
 (decide (sp - (↑F.L.length : Int) < (3 : Int))) (Q (.exit 0) (fE (.sl 7 0 1 0 S.length none) (f13 i)) (AHeap.mk 9 (fHx n cs ds fv [(6, .cells 70 [.sl 8 0 1 0 F.L.length none, .int .i64 sp, .bool
 F.beg, .int .i64 (↑F.k : Int), .int .i64 F.lk, .str F.lb]), (7, .row 33 (intRow .u64) S .plain), (8, .row 5 byteRow F.L .plain)]))) (branch (decide ((70000 : Int) ≤ (↑F.k : Int))) (Q (.exit 0) (fE
 (.sl 7 0 1 0 S.length none) (f13 i)) (AHeap.mk 9 (fHx n cs ds fv [(6, .cells 70 [.sl 8 0 1 0 F.L.length none, .int .i64 sp, .bool F.beg, .int .i64 (↑F.k : Int), .int .i64 F.lk, .str F.lb]), (7, .row
 33 (intRow .u64) S .plain), (8, .row 5 byteRow F.L .plain)]))) (obl (inI64 ((↑F.k : Int) + (1 : Int))) (obl (true && decide (F.L.length = F.L.length ∧ 1 = 1 ∧ 1 = 1 ∧ 0 < 1 ∧ (F.L ++ [(48 : UInt8), (1
 : UInt8), (0 : UInt8)]).length ≤ 9223372036854775807 ∧ (F.L ++ [(48 : UInt8), (1 : UInt8), (0 : UInt8)]).length * 1 ≤ 140737488355328)) (branch F.beg (Q .normal (fE (.sl 7 0 1 0 S.length none) (f13
 i)) (AHeap.mk 9 (fHx n cs ds fv [(6, .cells 70 [.sl 8 0 1 0 (F.L ++ [(48 : UInt8), (1 : UInt8), (0 : UInt8)]).length none, .int .i64 sp, .bool true, .int .i64 ((↑F.k : Int) + (1 : Int)), .int .i64
 F.lk, .str F.lb]), (7, .row 33 (intRow .u64) S .plain), (8, .row 5 byteRow (F.L ++ [(48 : UInt8), (1 : UInt8), (0 : UInt8)]) .plain)]))) (Q .normal (fE (.sl 7 0 1 0 S.length none) (f13 i)) (AHeap.mk 9
 (fHx n cs ds fv [(6, .cells 70 [.sl 8 0 1 0 (F.L ++ [(48 : UInt8), (1 : UInt8), (0 : UInt8)]).length none, .int .i64 sp, .bool false, .int .i64 ((↑F.k : Int) + (1 : Int)), .int .i64 F.lk, .str F.lb]),
 (7, .row 33 (intRow .u64) S .plain), (8, .row 5 byteRow (F.L ++ [(48 : UInt8), (1 : UInt8), (0 : UInt8)]) .plain)]))))))))) (obl (decide ((0 : Int) ≤ idJ i ∧ idJ i < (↑n : Int))) (obl (decide (0 +
 (idJ i).toNat < cs.length) && true) (obl (decide ((0 : Int) ≤ idJ i ∧ idJ i < (↑n : Int))) (obl (decide (0 + (idJ i).toNat < ds.length) && true) (obl (decide (R.lb.length + R.data.length +
 R.sum.length ≤ 9223372036854775000)) (branch (!decide (gErr R.st R.en R.id R.total R.typ R.k R.lb R.data R.sum = (0 : Int))) (Q (.exit 0) (fE (.sl 7 0 1 0 S.length none) (f13 i)) (AHeap.mk 9 (fHx n
 (cs.set (idI i) (CutR.mk (cutI cs i).typ R.k2 R.b2 (cutI cs i).data R.at2 (cutI cs i).id)) (ds.set (idI i) (BoolR.mk R.en)) fv [(6, .cells 70 [.sl 8 0 1 0 F.L.length none, .int .i64 sp, .bool F.beg,
 .int .i64 (↑F.k : Int), .int .i64 F.lk, .str F.lb]), (7, .row 33 (intRow .u64) S .plain), (8, .row 5 byteRow F.L .plain)]))) (branch (decide (sp - (↑F.L.length : Int) < (↑(gEnc R.st R.en R.id R.total
 R.typ R.k R.lb R.data R.sum).length : Int))) (Q (.exit 0) (fE (.sl 7 0 1 0 S.length none) (f13 i)) (AHeap.mk 9 (fHx n (cs.set (idI i) (CutR.mk (cutI cs i).typ R.k2 R.b2 (cutI cs i).data R.at2 (cutI cs
 i).id)) (ds.set (idI i) (BoolR.mk R.en)) fv [(6, .cells 70 [.sl 8 0 1 0 F.L.length none, .int .i64 sp, .bool F.beg, .int .i64 (↑F.k : Int), .int .i64 F.lk, .str F.lb]), (7, .row 33 (intRow .u64) S
 .plain), (8, .row 5 byteRow F.L .plain)]))) (branch (decide ((70000 : Int) ≤ (↑F.k : Int))) (Q (.exit 0) (fE (.sl 7 0 1 0 S.length none) (f13 i)) (AHeap.mk 9 (fHx n (cs.set (idI i) (CutR.mk (cutI cs
 i).typ R.k2 R.b2 (cutI cs i).data R.at2 (cutI cs i).id)) (ds.set (idI i) (BoolR.mk R.en)) fv [(6, .cells 70 [.sl 8 0 1 0 F.L.length none, .int .i64 sp, .bool F.beg, .int .i64 (↑F.k : Int), .int .i64
 F.lk, .str F.lb]), (7, .row 33 (intRow .u64) S .plain), (8, .row 5 byteRow F.L .plain)]))) (obl (inI64 ((↑F.k : Int) + (1 : Int))) (obl (true && decide (F.L.length = F.L.length ∧ 1 = 1 ∧ 1 = 1 ∧ 0 < 1
 ∧ (F.L ++ gEnc R.st R.en R.id R.total R.typ R.k R.lb R.data R.sum).length ≤ 9223372036854775807 ∧ (F.L ++ gEnc R.st R.en R.id R.total R.typ R.k R.lb R.data R.sum).length * 1 ≤ 140737488355328))
 (branch F.beg (branch R.en (obl (true && decide (S.length = S.length ∧ 1 = 1 ∧ 1 = 1 ∧ 0 < 1 ∧ (S ++ [(↑i : Int) + (1 : Int)]).length ≤ 9223372036854775807 ∧ (S ++ [(↑i : Int) + (1 : Int)]).length * 8
 ≤ 140737488355328)) (Q (.exit 2) [(4, .ptr 3 0 0 0), (5, .ptr 4 0 0 0), (6, .ptr 5 0 0 0), (10, .ptr 6 0 0 0), (11, .sl 7 0 1 0 (S ++ [(↑i : Int) + (1 : Int)]).length none), (12, .func 16 [] [.ptr 3 0
 0 0, .ptr 4 0 0 0, .ptr 5 0 0 0]), (13, .int .u64 ((↑i : Int) + (1 : Int)))] (AHeap.mk 9 (fHx n (cs.set (idI i) (CutR.mk (cutI cs i).typ R.k2 R.b2 (cutI cs i).data R.at2 (cutI cs i).id)) (ds.set (idI
 i) (BoolR.mk R.en)) fv [(6, .cells 70 [.sl 8 0 1 0 (F.L ++ gEnc R.st R.en R.id R.total R.typ R.k R.lb R.data R.sum).length none, .int .i64 sp, .bool true, .int .i64 ((↑F.k : Int) + (1 : Int)), .int
 .i64 F.lk, .str F.lb]), (7, .row 33 (intRow .u64) (S ++ [(↑i : Int) + (1 : Int)]) .plain), (8, .row 5 byteRow (F.L ++ gEnc R.st R.en R.id R.total R.typ R.k R.lb R.data R.sum) .plain)])))) (Q .normal
 (fE (.sl 7 0 1 0 S.length none) (f13 i)) (AHeap.mk 9 (fHx n (cs.set (idI i) (CutR.mk (cutI cs i).typ R.k2 R.b2 (cutI cs i).data R.at2 (cutI cs i).id)) (ds.set (idI i) (BoolR.mk R.en)) fv [(6, .cells
 70 [.sl 8 0 1 0 (F.L ++ gEnc R.st R.en R.id R.total R.typ R.k R.lb R.data R.sum).length none, .int .i64 sp, .bool true, .int .i64 ((↑F.k : Int) + (1 : Int)), .int .i64 F.lk, .str F.lb]), (7, .row 33
 (intRow .u64) S .plain), (8, .row 5 byteRow (F.L ++ gEnc R.st R.en R.id R.total R.typ R.k R.lb R.data R.sum) .plain)])))) (branch R.st (branch R.en (obl (true && decide (S.length = S.length ∧ 1 = 1 ∧
 1 = 1 ∧ 0 < 1 ∧ (S ++ [(↑i : Int) + (1 : Int)]).length ≤ 9223372036854775807 ∧ (S ++ [(↑i : Int) + (1 : Int)]).length * 8 ≤ 140737488355328)) (Q (.exit 2) [(4, .ptr 3 0 0 0), (5, .ptr 4 0 0 0), (6,
 .ptr 5 0 0 0), (10, .ptr 6 0 0 0), (11, .sl 7 0 1 0 (S ++ [(↑i : Int) + (1 : Int)]).length none), (12, .func 16 [] [.ptr 3 0 0 0, .ptr 4 0 0 0, .ptr 5 0 0 0]), (13, .int .u64 ((↑i : Int) + (1 :
 Int)))] (AHeap.mk 9 (fHx n (cs.set (idI i) (CutR.mk (cutI cs i).typ R.k2 R.b2 (cutI cs i).data R.at2 (cutI cs i).id)) (ds.set (idI i) (BoolR.mk R.en)) fv [(6, .cells 70 [.sl 8 0 1 0 (F.L ++ gEnc R.st
 R.en R.id R.total R.typ R.k R.lb R.data R.sum).length none, .int .i64 sp, .bool !R.en, .int .i64 ((↑F.k : Int) + (1 : Int)), .int .i64 F.lk, .str F.lb]), (7, .row 33 (intRow .u64) (S ++ [(↑i : Int) +
 (1 : Int)]) .plain), (8, .row 5 byteRow (F.L ++ gEnc R.st R.en R.id R.total R.typ R.k R.lb R.data R.sum) .plain)])))) (Q .normal (fE (.sl 7 0 1 0 S.length none) (f13 i)) (AHeap.mk 9 (fHx n (cs.set
 (idI i) (CutR.mk (cutI cs i).typ R.k2 R.b2 (cutI cs i).data R.at2 (cutI cs i).id)) (ds.set (idI i) (BoolR.mk R.en)) fv [(6, .cells 70 [.sl 8 0 1 0 (F.L ++ gEnc R.st R.en R.id R.total R.typ R.k R.lb
 R.data R.sum).length none, .int .i64 sp, .bool !R.en, .int .i64 ((↑F.k : Int) + (1 : Int)), .int .i64 F.lk, .str F.lb]), (7, .row 33 (intRow .u64) S .plain), (8, .row 5 byteRow (F.L ++ gEnc R.st R.en
 R.id R.total R.typ R.k R.lb R.data R.sum) .plain)])))) (branch R.en (obl (true && decide (S.length = S.length ∧ 1 = 1 ∧ 1 = 1 ∧ 0 < 1 ∧ (S ++ [(↑i : Int) + (1 : Int)]).length ≤ 9223372036854775807 ∧
 (S ++ [(↑i : Int) + (1 : Int)]).length * 8 ≤ 140737488355328)) (Q (.exit 2) [(4, .ptr 3 0 0 0), (5, .ptr 4 0 0 0), (6, .ptr 5 0 0 0), (10, .ptr 6 0 0 0), (11, .sl 7 0 1 0 (S ++ [(↑i : Int) + (1 :
 Int)]).length none), (12, .func 16 [] [.ptr 3 0 0 0, .ptr 4 0 0 0, .ptr 5 0 0 0]), (13, .int .u64 ((↑i : Int) + (1 : Int)))] (AHeap.mk 9 (fHx n (cs.set (idI i) (CutR.mk (cutI cs i).typ R.k2 R.b2 (cutI
 cs i).data R.at2 (cutI cs i).id)) (ds.set (idI i) (BoolR.mk R.en)) fv [(6, .cells 70 [.sl 8 0 1 0 (F.L ++ gEnc R.st R.en R.id R.total R.typ R.k R.lb R.data R.sum).length none, .int .i64 sp, .bool
 false, .int .i64 ((↑F.k : Int) + (1 : Int)), .int .i64 F.lk, .str F.lb]), (7, .row 33 (intRow .u64) (S ++ [(↑i : Int) + (1 : Int)]) .plain), (8, .row 5 byteRow (F.L ++ gEnc R.st R.en R.id R.total
 R.typ R.k R.lb R.data R.sum) .plain)])))) (Q .normal (fE (.sl 7 0 1 0 S.length none) (f13 i)) (AHeap.mk 9 (fHx n (cs.set (idI i) (CutR.mk (cutI cs i).typ R.k2 R.b2 (cutI cs i).data R.at2 (cutI cs
 i).id)) (ds.set (idI i) (BoolR.mk R.en)) fv [(6, .cells 70 [.sl 8 0 1 0 (F.L ++ gEnc R.st R.en R.id R.total R.typ R.k R.lb R.data R.sum).length none, .int .i64 sp, .bool false, .int .i64 ((↑F.k : Int)
 + (1 : Int)), .int .i64 F.lk, .str F.lb]), (7, .row 33 (intRow .u64) S .plain), (8, .row 5 byteRow (F.L ++ gEnc R.st R.en R.id R.total R.typ R.k R.lb R.data R.sum) .plain)])))))))))))))))))) (∀ (R :
 NextR), nextR (cutI cs i).typ (cutI cs i).k (cutI cs i).lb (cutI cs i).data (cutI cs i).pos (cutI cs i).id (cutI cs i).k (cutI cs i).lb (sp - (↑F.L.length : Int)) F.beg = R → branch (!decide (R.err =
 (0 : Int))) (branch (!decide (R.err = (0 : Int))) (Q (.exit 0) (fE (.sl 7 0 1 0 S.length none) (f13 i)) (AHeap.mk 9 (fHx n cs ds fv [(6, .cells 70 [.sl 8 0 1 0 F.L.length none, .int .i64 sp, .bool
 F.beg, .int .i64 (↑F.k : Int), .int .i64 F.lk, .str F.lb]), (7, .row 33 (intRow .u64) S .plain), (8, .row 5 byteRow F.L .plain)]))) (branch (decide (sp - (↑F.L.length : Int) < (3 : Int))) (Q (.exit 0)
 (fE (.sl 7 0 1 0 S.length none) (f13 i)) (AHeap.mk 9 (fHx n cs ds fv [(6, .cells 70 [.sl 8 0 1 0 F.L.length none, .int .i64 sp, .bool F.beg, .int .i64 (↑F.k : Int), .int .i64 F.lk, .str F.lb]), (7,
 .row 33 (intRow .u64) S .plain), (8, .row 5 byteRow F.L .plain)]))) (branch (decide ((70000 : Int) ≤ (↑F.k : Int))) (Q (.exit 0) (fE (.sl 7 0 1 0 S.length none) (f13 i)) (AHeap.mk 9 (fHx n cs ds fv
 [(6, .cells 70 [.sl 8 0 1 0 F.L.length none, .int .i64 sp, .bool F.beg, .int .i64 (↑F.k : Int), .int .i64 F.lk, .str F.lb]), (7, .row 33 (intRow .u64) S .plain), (8, .row 5 byteRow F.L .plain)])))
 (obl (inI64 ((↑F.k : Int) + (1 : Int))) (obl (true && decide (F.L.length = F.L.length ∧ 1 = 1 ∧ 1 = 1 ∧ 0 < 1 ∧ (F.L ++ [(48 : UInt8), (1 : UInt8), (0 : UInt8)]).length ≤ 9223372036854775807 ∧ (F.L ++
 [(48 : UInt8), (1 : UInt8), (0 : UInt8)]).length * 1 ≤ 140737488355328)) (branch F.beg (Q .normal (fE (.sl 7 0 1 0 S.length none) (f13 i)) (AHeap.mk 9 (fHx n cs ds fv [(6, .cells 70 [.sl 8 0 1 0 (F.L
 ++ [(48 : UInt8), (1 : UInt8), (0 : UInt8)]).length none, .int .i64 sp, .bool true, .int .i64 ((↑F.k : Int) + (1 : Int)), .int .i64 F.lk, .str F.lb]), (7, .row 33 (intRow .u64) S .plain), (8, .row 5
 byteRow (F.L ++ [(48 : UInt8), (1 : UInt8), (0 : UInt8)]) .plain)]))) (Q .normal (fE (.sl 7 0 1 0 S.length none) (f13 i)) (AHeap.mk 9 (fHx n cs ds fv [(6, .cells 70 [.sl 8 0 1 0 (F.L ++ [(48 : UInt8),
 (1 : UInt8), (0 : UInt8)]).length none, .int .i64 sp, .bool false, .int .i64 ((↑F.k : Int) + (1 : Int)), .int .i64 F.lk, .str F.lb]), (7, .row 33 (intRow .u64) S .plain), (8, .row 5 byteRow (F.L ++
 [(48 : UInt8), (1 : UInt8), (0 : UInt8)]) .plain)]))))))))) (obl (decide ((0 : Int) ≤ idJ i ∧ idJ i < (↑n : Int))) (obl (decide (0 + (idJ i).toNat < cs.length) && true) (obl (decide ((0 : Int) ≤ idJ i
 ∧ idJ i < (↑n : Int))) (obl (decide (0 + (idJ i).toNat < ds.length) && true) (obl (decide (R.lb.length + R.data.length + R.sum.length ≤ 9223372036854775000)) (branch (!decide (gErr R.st R.en R.id
 R.total R.typ R.k R.lb R.data R.sum = (0 : Int))) (Q (.exit 0) (fE (.sl 7 0 1 0 S.length none) (f13 i)) (AHeap.mk 9 (fHx n (cs.set (idI i) (CutR.mk (cutI cs i).typ R.k2 R.b2 (cutI cs i).data R.at2
 (cutI cs i).id)) (ds.set (idI i) (BoolR.mk R.en)) fv [(6, .cells 70 [.sl 8 0 1 0 F.L.length none, .int .i64 sp, .bool F.beg, .int .i64 (↑F.k : Int), .int .i64 F.lk, .str F.lb]), (7, .row 33 (intRow
 .u64) S .plain), (8, .row 5 byteRow F.L .plain)]))) (branch (decide (sp - (↑F.L.length : Int) < (↑(gEnc R.st R.en R.id R.total R.typ R.k R.lb R.data R.sum).length : Int))) (Q (.exit 0) (fE (.sl 7 0 1
 0 S.length none) (f13 i)) (AHeap.mk 9 (fHx n (cs.set (idI i) (CutR.mk (cutI cs i).typ R.k2 R.b2 (cutI cs i).data R.at2 (cutI cs i).id)) (ds.set (idI i) (BoolR.mk R.en)) fv [(6, .cells 70 [.sl 8 0 1 0
 F.L.length none, .int .i64 sp, .bool F.beg, .int .i64 (↑F.k : Int), .int .i64 F.lk, .str F.lb]), (7, .row 33 (intRow .u64) S .plain), (8, .row 5 byteRow F.L .plain)]))) (branch (decide ((70000 : Int)
 ≤ (↑F.k : Int))) (Q (.exit 0) (fE (.sl 7 0 1 0 S.length none) (f13 i)) (AHeap.mk 9 (fHx n (cs.set (idI i) (CutR.mk (cutI cs i).typ R.k2 R.b2 (cutI cs i).data R.at2 (cutI cs i).id)) (ds.set (idI i)
 (BoolR.mk R.en)) fv [(6, .cells 70 [.sl 8 0 1 0 F.L.length none, .int .i64 sp, .bool F.beg, .int .i64 (↑F.k : Int), .int .i64 F.lk, .str F.lb]), (7, .row 33 (intRow .u64) S .plain), (8, .row 5 byteRow
 F.L .plain)]))) (obl (inI64 ((↑F.k : Int) + (1 : Int))) (obl (true && decide (F.L.length = F.L.length ∧ 1 = 1 ∧ 1 = 1 ∧ 0 < 1 ∧ (F.L ++ gEnc R.st R.en R.id R.total R.typ R.k R.lb R.data R.sum).length
 ≤ 9223372036854775807 ∧ (F.L ++ gEnc R.st R.en R.id R.total R.typ R.k R.lb R.data R.sum).length * 1 ≤ 140737488355328)) (branch F.beg (branch R.en (obl (true && decide (S.length = S.length ∧ 1 = 1 ∧ 1
 = 1 ∧ 0 < 1 ∧ (S ++ [(↑i : Int) + (1 : Int)]).length ≤ 9223372036854775807 ∧ (S ++ [(↑i : Int) + (1 : Int)]).length * 8 ≤ 140737488355328)) (Q (.exit 2) [(4, .ptr 3 0 0 0), (5, .ptr 4 0 0 0), (6, .ptr
 5 0 0 0), (10, .ptr 6 0 0 0), (11, .sl 7 0 1 0 (S ++ [(↑i : Int) + (1 : Int)]).length none), (12, .func 16 [] [.ptr 3 0 0 0, .ptr 4 0 0 0, .ptr 5 0 0 0]), (13, .int .u64 ((↑i : Int) + (1 : Int)))]
 (AHeap.mk 9 (fHx n (cs.set (idI i) (CutR.mk (cutI cs i).typ R.k2 R.b2 (cutI cs i).data R.at2 (cutI cs i).id)) (ds.set (idI i) (BoolR.mk R.en)) fv [(6, .cells 70 [.sl 8 0 1 0 (F.L ++ gEnc R.st R.en
 R.id R.total R.typ R.k R.lb R.data R.sum).length none, .int .i64 sp, .bool true, .int .i64 ((↑F.k : Int) + (1 : Int)), .int .i64 F.lk, .str F.lb]), (7, .row 33 (intRow .u64) (S ++ [(↑i : Int) + (1 :
 Int)]) .plain), (8, .row 5 byteRow (F.L ++ gEnc R.st R.en R.id R.total R.typ R.k R.lb R.data R.sum) .plain)])))) (Q .normal (fE (.sl 7 0 1 0 S.length none) (f13 i)) (AHeap.mk 9 (fHx n (cs.set (idI i)
 (CutR.mk (cutI cs i).typ R.k2 R.b2 (cutI cs i).data R.at2 (cutI cs i).id)) (ds.set (idI i) (BoolR.mk R.en)) fv [(6, .cells 70 [.sl 8 0 1 0 (F.L ++ gEnc R.st R.en R.id R.total R.typ R.k R.lb R.data
 R.sum).length none, .int .i64 sp, .bool true, .int .i64 ((↑F.k : Int) + (1 : Int)), .int .i64 F.lk, .str F.lb]), (7, .row 33 (intRow .u64) S .plain), (8, .row 5 byteRow (F.L ++ gEnc R.st R.en R.id
 R.total R.typ R.k R.lb R.data R.sum) .plain)])))) (branch R.st (branch R.en (obl (true && decide (S.length = S.length ∧ 1 = 1 ∧ 1 = 1 ∧ 0 < 1 ∧ (S ++ [(↑i : Int) + (1 : Int)]).length ≤
 9223372036854775807 ∧ (S ++ [(↑i : Int) + (1 : Int)]).length * 8 ≤ 140737488355328)) (Q (.exit 2) [(4, .ptr 3 0 0 0), (5, .ptr 4 0 0 0), (6, .ptr 5 0 0 0), (10, .ptr 6 0 0 0), (11, .sl 7 0 1 0 (S ++
 [(↑i : Int) + (1 : Int)]).length none), (12, .func 16 [] [.ptr 3 0 0 0, .ptr 4 0 0 0, .ptr 5 0 0 0]), (13, .int .u64 ((↑i : Int) + (1 : Int)))] (AHeap.mk 9 (fHx n (cs.set (idI i) (CutR.mk (cutI cs
 i).typ R.k2 R.b2 (cutI cs i).data R.at2 (cutI cs i).id)) (ds.set (idI i) (BoolR.mk R.en)) fv [(6, .cells 70 [.sl 8 0 1 0 (F.L ++ gEnc R.st R.en R.id R.total R.typ R.k R.lb R.data R.sum).length none,
 .int .i64 sp, .bool !R.en, .int .i64 ((↑F.k : Int) + (1 : Int)), .int .i64 F.lk, .str F.lb]), (7, .row 33 (intRow .u64) (S ++ [(↑i : Int) + (1 : Int)]) .plain), (8, .row 5 byteRow (F.L ++ gEnc R.st
 R.en R.id R.total R.typ R.k R.lb R.data R.sum) .plain)])))) (Q .normal (fE (.sl 7 0 1 0 S.length none) (f13 i)) (AHeap.mk 9 (fHx n (cs.set (idI i) (CutR.mk (cutI cs i).typ R.k2 R.b2 (cutI cs i).data
 R.at2 (cutI cs i).id)) (ds.set (idI i) (BoolR.mk R.en)) fv [(6, .cells 70 [.sl 8 0 1 0 (F.L ++ gEnc R.st R.en R.id R.total R.typ R.k R.lb R.data R.sum).length none, .int .i64 sp, .bool !R.en, .int
 .i64 ((↑F.k : Int) + (1 : Int)), .int .i64 F.lk, .str F.lb]), (7, .row 33 (intRow .u64) S .plain), (8, .row 5 byteRow (F.L ++ gEnc R.st R.en R.id R.total R.typ R.k R.lb R.data R.sum) .plain)]))))
 (branch R.en (obl (true && decide (S.length = S.length ∧ 1 = 1 ∧ 1 = 1 ∧ 0 < 1 ∧ (S ++ [(↑i : Int) + (1 : Int)]).length ≤ 9223372036854775807 ∧ (S ++ [(↑i : Int) + (1 : Int)]).length * 8 ≤
 140737488355328)) (Q (.exit 2) [(4, .ptr 3 0 0 0), (5, .ptr 4 0 0 0), (6, .ptr 5 0 0 0), (10, .ptr 6 0 0 0), (11, .sl 7 0 1 0 (S ++ [(↑i : Int) + (1 : Int)]).length none), (12, .func 16 [] [.ptr 3 0 0
 0, .ptr 4 0 0 0, .ptr 5 0 0 0]), (13, .int .u64 ((↑i : Int) + (1 : Int)))] (AHeap.mk 9 (fHx n (cs.set (idI i) (CutR.mk (cutI cs i).typ R.k2 R.b2 (cutI cs i).data R.at2 (cutI cs i).id)) (ds.set (idI i)
 (BoolR.mk R.en)) fv [(6, .cells 70 [.sl 8 0 1 0 (F.L ++ gEnc R.st R.en R.id R.total R.typ R.k R.lb R.data R.sum).length none, .int .i64 sp, .bool false, .int .i64 ((↑F.k : Int) + (1 : Int)), .int .i64
 F.lk, .str F.lb]), (7, .row 33 (intRow .u64) (S ++ [(↑i : Int) + (1 : Int)]) .plain), (8, .row 5 byteRow (F.L ++ gEnc R.st R.en R.id R.total R.typ R.k R.lb R.data R.sum) .plain)])))) (Q .normal (fE
 (.sl 7 0 1 0 S.length none) (f13 i)) (AHeap.mk 9 (fHx n (cs.set (idI i) (CutR.mk (cutI cs i).typ R.k2 R.b2 (cutI cs i).data R.at2 (cutI cs i).id)) (ds.set (idI i) (BoolR.mk R.en)) fv [(6, .cells 70
 [.sl 8 0 1 0 (F.L ++ gEnc R.st R.en R.id R.total R.typ R.k R.lb R.data R.sum).length none, .int .i64 sp, .bool false, .int .i64 ((↑F.k : Int) + (1 : Int)), .int .i64 F.lk, .str F.lb]), (7, .row 33
 (intRow .u64) S .plain), (8, .row 5 byteRow (F.L ++ gEnc R.st R.en R.id R.total R.typ R.k R.lb R.data R.sum) .plain)]))))))))))))))))))) (∀ (R : NextR), nextR (cutI cs i).typ (cutI cs i).k (cutI cs
 i).lb (cutI cs i).data (cutI cs i).pos (cutI cs i).id (cutI cs i).k (cutI cs i).lb (sp - (↑F.L.length : Int)) F.beg = R → branch (!decide (R.err = (0 : Int))) (branch (!decide (R.err = (0 : Int))) (Q
 (.exit 0) (fE (.sl 7 0 1 0 S.length none) (f13 i)) (AHeap.mk 9 (fHx n cs ds fv [(6, .cells 70 [.sl 8 0 1 0 F.L.length none, .int .i64 sp, .bool F.beg, .int .i64 (↑F.k : Int), .int .i64 F.lk, .str
 F.lb]), (7, .row 33 (intRow .u64) S .plain), (8, .row 5 byteRow F.L .plain)]))) (branch (decide (sp - (↑F.L.length : Int) < (3 : Int))) (Q (.exit 0) (fE (.sl 7 0 1 0 S.length none) (f13 i)) (AHeap.mk
 9 (fHx n cs ds fv [(6, .cells 70 [.sl 8 0 1 0 F.L.length none, .int .i64 sp, .bool F.beg, .int .i64 (↑F.k : Int), .int .i64 F.lk, .str F.lb]), (7, .row 33 (intRow .u64) S .plain), (8, .row 5 byteRow
 F.L .plain)]))) (branch (decide ((70000 : Int) ≤ (↑F.k : Int))) (Q (.exit 0) (fE (.sl 7 0 1 0 S.length none) (f13 i)) (AHeap.mk 9 (fHx n cs ds fv [(6, .cells 70 [.sl 8 0 1 0 F.L.length none, .int .i64
 sp, .bool F.beg, .int .i64 (↑F.k : Int), .int .i64 F.lk, .str F.lb]), (7, .row 33 (intRow .u64) S .plain), (8, .row 5 byteRow F.L .plain)]))) (obl (inI64 ((↑F.k : Int) + (1 : Int))) (obl (true &&
 decide (F.L.length = F.L.length ∧ 1 = 1 ∧ 1 = 1 ∧ 0 < 1 ∧ (F.L ++ [(48 : UInt8), (1 : UInt8), (0 : UInt8)]).length ≤ 9223372036854775807 ∧ (F.L ++ [(48 : UInt8), (1 : UInt8), (0 : UInt8)]).length * 1
 ≤ 140737488355328)) (branch F.beg (Q .normal (fE (.sl 7 0 1 0 S.length none) (f13 i)) (AHeap.mk 9 (fHx n cs ds fv [(6, .cells 70 [.sl 8 0 1 0 (F.L ++ [(48 : UInt8), (1 : UInt8), (0 : UInt8)]).length
 none, .int .i64 sp, .bool true, .int .i64 ((↑F.k : Int) + (1 : Int)), .int .i64 F.lk, .str F.lb]), (7, .row 33 (intRow .u64) S .plain), (8, .row 5 byteRow (F.L ++ [(48 : UInt8), (1 : UInt8), (0 :
 UInt8)]) .plain)]))) (Q .normal (fE (.sl 7 0 1 0 S.length none) (f13 i)) (AHeap.mk 9 (fHx n cs ds fv [(6, .cells 70 [.sl 8 0 1 0 (F.L ++ [(48 : UInt8), (1 : UInt8), (0 : UInt8)]).length none, .int
 .i64 sp, .bool false, .int .i64 ((↑F.k : Int) + (1 : Int)), .int .i64 F.lk, .str F.lb]), (7, .row 33 (intRow .u64) S .plain), (8, .row 5 byteRow (F.L ++ [(48 : UInt8), (1 : UInt8), (0 : UInt8)])
 .plain)]))))))))) (obl (decide ((0 : Int) ≤ idJ i ∧ idJ i < (↑n : Int))) (obl (decide (0 + (idJ i).toNat < cs.length) && true) (obl (decide ((0 : Int) ≤ idJ i ∧ idJ i < (↑n : Int))) (obl (decide (0 +
 (idJ i).toNat < ds.length) && true) (obl (decide (R.lb.length + R.data.length + R.sum.length ≤ 9223372036854775000)) (branch (!decide (gErr R.st R.en R.id R.total R.typ R.k R.lb R.data R.sum = (0 :
 Int))) (Q (.exit 0) (fE (.sl 7 0 1 0 S.length none) (f13 i)) (AHeap.mk 9 (fHx n (cs.set (idI i) (CutR.mk (cutI cs i).typ R.k2 R.b2 (cutI cs i).data R.at2 (cutI cs i).id)) (ds.set (idI i) (BoolR.mk
 R.en)) fv [(6, .cells 70 [.sl 8 0 1 0 F.L.length none, .int .i64 sp, .bool F.beg, .int .i64 (↑F.k : Int), .int .i64 F.lk, .str F.lb]), (7, .row 33 (intRow .u64) S .plain), (8, .row 5 byteRow F.L
 .plain)]))) (branch (decide (sp - (↑F.L.length : Int) < (↑(gEnc R.st R.en R.id R.total R.typ R.k R.lb R.data R.sum).length : Int))) (Q (.exit 0) (fE (.sl 7 0 1 0 S.length none) (f13 i)) (AHeap.mk 9
 (fHx n (cs.set (idI i) (CutR.mk (cutI cs i).typ R.k2 R.b2 (cutI cs i).data R.at2 (cutI cs i).id)) (ds.set (idI i) (BoolR.mk R.en)) fv [(6, .cells 70 [.sl 8 0 1 0 F.L.length none, .int .i64 sp, .bool
 F.beg, .int .i64 (↑F.k : Int), .int .i64 F.lk, .str F.lb]), (7, .row 33 (intRow .u64) S .plain), (8, .row 5 byteRow F.L .plain)]))) (branch (decide ((70000 : Int) ≤ (↑F.k : Int))) (Q (.exit 0) (fE
 (.sl 7 0 1 0 S.length none) (f13 i)) (AHeap.mk 9 (fHx n (cs.set (idI i) (CutR.mk (cutI cs i).typ R.k2 R.b2 (cutI cs i).data R.at2 (cutI cs i).id)) (ds.set (idI i) (BoolR.mk R.en)) fv [(6, .cells 70
 [.sl 8 0 1 0 F.L.length none, .int .i64 sp, .bool F.beg, .int .i64 (↑F.k : Int), .int .i64 F.lk, .str F.lb]), (7, .row 33 (intRow .u64) S .plain), (8, .row 5 byteRow F.L .plain)]))) (obl (inI64 ((↑F.k
 : Int) + (1 : Int))) (obl (true && decide (F.L.length = F.L.length ∧ 1 = 1 ∧ 1 = 1 ∧ 0 < 1 ∧ (F.L ++ gEnc R.st R.en R.id R.total R.typ R.k R.lb R.data R.sum).length ≤ 9223372036854775807 ∧ (F.L ++
 gEnc R.st R.en R.id R.total R.typ R.k R.lb R.data R.sum).length * 1 ≤ 140737488355328)) (branch F.beg (branch R.en (obl (true && decide (S.length = S.length ∧ 1 = 1 ∧ 1 = 1 ∧ 0 < 1 ∧ (S ++ [(↑i : Int)
 + (1 : Int)]).length ≤ 9223372036854775807 ∧ (S ++ [(↑i : Int) + (1 : Int)]).length * 8 ≤ 140737488355328)) (Q (.exit 2) [(4, .ptr 3 0 0 0), (5, .ptr 4 0 0 0), (6, .ptr 5 0 0 0), (10, .ptr 6 0 0 0),
 (11, .sl 7 0 1 0 (S ++ [(↑i : Int) + (1 : Int)]).length none), (12, .func 16 [] [.ptr 3 0 0 0, .ptr 4 0 0 0, .ptr 5 0 0 0]), (13, .int .u64 ((↑i : Int) + (1 : Int)))] (AHeap.mk 9 (fHx n (cs.set (idI
 i) (CutR.mk (cutI cs i).typ R.k2 R.b2 (cutI cs i).data R.at2 (cutI cs i).id)) (ds.set (idI i) (BoolR.mk R.en)) fv [(6, .cells 70 [.sl 8 0 1 0 (F.L ++ gEnc R.st R.en R.id R.total R.typ R.k R.lb R.data
 R.sum).length none, .int .i64 sp, .bool true, .int .i64 ((↑F.k : Int) + (1 : Int)), .int .i64 F.lk, .str F.lb]), (7, .row 33 (intRow .u64) (S ++ [(↑i : Int) + (1 : Int)]) .plain), (8, .row 5 byteRow
 (F.L ++ gEnc R.st R.en R.id R.total R.typ R.k R.lb R.data R.sum) .plain)])))) (Q .normal (fE (.sl 7 0 1 0 S.length none) (f13 i)) (AHeap.mk 9 (fHx n (cs.set (idI i) (CutR.mk (cutI cs i).typ R.k2 R.b2
 (cutI cs i).data R.at2 (cutI cs i).id)) (ds.set (idI i) (BoolR.mk R.en)) fv [(6, .cells 70 [.sl 8 0 1 0 (F.L ++ gEnc R.st R.en R.id R.total R.typ R.k R.lb R.data R.sum).length none, .int .i64 sp,
 .bool true, .int .i64 ((↑F.k : Int) + (1 : Int)), .int .i64 F.lk, .str F.lb]), (7, .row 33 (intRow .u64) S .plain), (8, .row 5 byteRow (F.L ++ gEnc R.st R.en R.id R.total R.typ R.k R.lb R.data R.sum)
 .plain)])))) (branch R.st (branch R.en (obl (true && decide (S.length = S.length ∧ 1 = 1 ∧ 1 = 1 ∧ 0 < 1 ∧ (S ++ [(↑i : Int) + (1 : Int)]).length ≤ 9223372036854775807 ∧ (S ++ [(↑i : Int) + (1 :
 Int)]).length * 8 ≤ 140737488355328)) (Q (.exit 2) [(4, .ptr 3 0 0 0), (5, .ptr 4 0 0 0), (6, .ptr 5 0 0 0), (10, .ptr 6 0 0 0), (11, .sl 7 0 1 0 (S ++ [(↑i : Int) + (1 : Int)]).length none), (12,
 .func 16 [] [.ptr 3 0 0 0, .ptr 4 0 0 0, .ptr 5 0 0 0]), (13, .int .u64 ((↑i : Int) + (1 : Int)))] (AHeap.mk 9 (fHx n (cs.set (idI i) (CutR.mk (cutI cs i).typ R.k2 R.b2 (cutI cs i).data R.at2 (cutI cs
 i).id)) (ds.set (idI i) (BoolR.mk R.en)) fv [(6, .cells 70 [.sl 8 0 1 0 (F.L ++ gEnc R.st R.en R.id R.total R.typ R.k R.lb R.data R.sum).length none, .int .i64 sp, .bool !R.en, .int .i64 ((↑F.k : Int)
 + (1 : Int)), .int .i64 F.lk, .str F.lb]), (7, .row 33 (intRow .u64) (S ++ [(↑i : Int) + (1 : Int)]) .plain), (8, .row 5 byteRow (F.L ++ gEnc R.st R.en R.id R.total R.typ R.k R.lb R.data R.sum)
 .plain)])))) (Q .normal (fE (.sl 7 0 1 0 S.length none) (f13 i)) (AHeap.mk 9 (fHx n (cs.set (idI i) (CutR.mk (cutI cs i).typ R.k2 R.b2 (cutI cs i).data R.at2 (cutI cs i).id)) (ds.set (idI i) (BoolR.mk
 R.en)) fv [(6, .cells 70 [.sl 8 0 1 0 (F.L ++ gEnc R.st R.en R.id R.total R.typ R.k R.lb R.data R.sum).length none, .int .i64 sp, .bool !R.en, .int .i64 ((↑F.k : Int) + (1 : Int)), .int .i64 F.lk,
 .str F.lb]), (7, .row 33 (intRow .u64) S .plain), (8, .row 5 byteRow (F.L ++ gEnc R.st R.en R.id R.total R.typ R.k R.lb R.data R.sum) .plain)])))) (branch R.en (obl (true && decide (S.length =
 S.length ∧ 1 = 1 ∧ 1 = 1 ∧ 0 < 1 ∧ (S ++ [(↑i : Int) + (1 : Int)]).length ≤ 9223372036854775807 ∧ (S ++ [(↑i : Int) + (1 : Int)]).length * 8 ≤ 140737488355328)) (Q (.exit 2) [(4, .ptr 3 0 0 0), (5,
 .ptr 4 0 0 0), (6, .ptr 5 0 0 0), (10, .ptr 6 0 0 0), (11, .sl 7 0 1 0 (S ++ [(↑i : Int) + (1 : Int)]).length none), (12, .func 16 [] [.ptr 3 0 0 0, .ptr 4 0 0 0, .ptr 5 0 0 0]), (13, .int .u64 ((↑i :
 Int) + (1 : Int)))] (AHeap.mk 9 (fHx n (cs.set (idI i) (CutR.mk (cutI cs i).typ R.k2 R.b2 (cutI cs i).data R.at2 (cutI cs i).id)) (ds.set (idI i) (BoolR.mk R.en)) fv [(6, .cells 70 [.sl 8 0 1 0 (F.L
 ++ gEnc R.st R.en R.id R.total R.typ R.k R.lb R.data R.sum).length none, .int .i64 sp, .bool false, .int .i64 ((↑F.k : Int) + (1 : Int)), .int .i64 F.lk, .str F.lb]), (7, .row 33 (intRow .u64) (S ++
 [(↑i : Int) + (1 : Int)]) .plain), (8, .row 5 byteRow (F.L ++ gEnc R.st R.en R.id R.total R.typ R.k R.lb R.data R.sum) .plain)])))) (Q .normal (fE (.sl 7 0 1 0 S.length none) (f13 i)) (AHeap.mk 9 (fHx
 n (cs.set (idI i) (CutR.mk (cutI cs i).typ R.k2 R.b2 (cutI cs i).data R.at2 (cutI cs i).id)) (ds.set (idI i) (BoolR.mk R.en)) fv [(6, .cells 70 [.sl 8 0 1 0 (F.L ++ gEnc R.st R.en R.id R.total R.typ
 R.k R.lb R.data R.sum).length none, .int .i64 sp, .bool false, .int .i64 ((↑F.k : Int) + (1 : Int)), .int .i64 F.lk, .str F.lb]), (7, .row 33 (intRow .u64) S .plain), (8, .row 5 byteRow (F.L ++ gEnc
 R.st R.en R.id R.total R.typ R.k R.lb R.data R.sum) .plain)])))))))))))))))))))))))))) := by kernel_rfl
end Go.Proofs.Ytjacnjecggedhaa
namespace Go.Proofs.Ytjacnjecggedhaa
set_option linter.unusedVariables false
set_option linter.unusedSimpArgs false
open Go.RowKit Ev
set_option maxRecDepth 100000 in
theorem g_11 (H0 : AHeap) (hH0 : H0.next ≤ 3) (n : Nat) (sp : Int) (cs : List CutR) (ds : List BoolR) (fv : Int) (F : FSt) (S : List Int) (i : Nat) (Q : AExit → Env → AHeap → Prop)
    (hn : i < n) (hcs : cs.length = n) (hds : ds.length = n) (hn30 : n ≤ 30) (hd : (ds.getD i ⟨false⟩).b = false) (hsp : sp ≤ 7300) (hL : (F.L.length : Int) ≤ sp) (hk : 2 * F.k ≤ F.L.length) (hc : CSm (cs.getD i noCut)) (hS : S.length ≤ 30)
    (hfail : ∀ (cs' : List CutR) (ds' : List BoolR) (F' : FSt), F'.L = F.L → ¬ OkR sp F (stepR sp F (cs.getD i noCut)) → Q (.exit 0) (g11 n sp cs' ds' fv F' S (f13 i)).1 (g11 n sp cs' ds' fv F' S (f13 i)).2)
    (hlast : ∀ (R : NextR) (F' : FSt), stepR sp F (cs.getD i noCut) = R → OkR sp F R → R.en = true → F' = stepF F (cs.getD i noCut) R → Q (.exit 2) (g11 n sp (cs.set i (stepC (cs.getD i noCut) R)) (ds.set i ⟨R.en⟩) fv F' (S ++ [(i : Int) + 1]) (f13 i)).1 (g11 n sp (cs.set i (stepC (cs.getD i noCut) R)) (ds.set i ⟨R.en⟩) fv F' (S ++ [(i : Int) + 1]) (f13 i)).2)
    (hnorm : ∀ (R : NextR) (F' : FSt), stepR sp F (cs.getD i noCut) = R → OkR sp F R → R.en = false → F' = stepF F (cs.getD i noCut) R → Q .normal (g11 n sp (cs.set i (stepC (cs.getD i noCut) R)) (ds.set i ⟨R.en⟩) fv F' S (f13 i)).1 (g11 n sp (cs.set i (stepC (cs.getD i noCut) R)) (ds.set i ⟨R.en⟩) fv F' S (f13 i)).2) :
    Gd (TX2.ctx Try.prog) 9 H0 fillL Q (g11 n sp cs ds fv F S (f13 i)).1 (g11 n sp cs ds fv F S (f13 i)).2 := by
  refine Gd.walkC TX2ok.ctx 3 ts13 hH0 (inFn_at TX2ok.ctx (fn := Try.f9) (by kernel_rfl) (by kernel_rfl) [true, false, true, true, true, true, true, false, true, false, false, true, false, false, false, false]) (Eq.mpr (w_fl_11 n sp cs ds fv F S i _) ?_)
  have idx : 0 + (i : Int).toNat = i := by omega
  have hi6 : i < 1000000 := by omega
  rw [idJ_eq hi6, idx, cutI_eq hi6, idI_eq hi6]
  have qS0 : (S ++ [(i : Int) + 1]).length = S.length + 1 := by simp
  have qS1 : (S ++ [(i : Int) + 1]).length ≤ 9223372036854775807 := by omega
  have qS2 : (S ++ [(i : Int) + 1]).length * 8 ≤ 140737488355328 := by omega
  refine obl_int (by omega) ((twice_iff _).2 ?_)
  refine br_dec (fun h => absurd h (by omega)) (fun _ => ?_)
  refine obl_dec (by omega) (obl_dec (by omega) ?_)
  refine br_mk (fun h => by rw [hd] at h; cases h) (fun _ => ?_)
  refine obl_dec (by omega) (obl_dec (by omega) ?_)
  generalize hce : cs.getD i noCut = c
  have hce' : cs.getD i noCut = c := hce
  rw [hce'] at hc
  simp only [hce'] at hlast hnorm hfail
  refine br_dec (fun hp => ?_) (fun hp => ?_)
  · refine br_mk (fun hb0 => ?_) (fun hb0 => ?_)
    · have hb0 : F.lb ≠ [] := by simpa using hb0
      refine br_mk (fun hq => ?_) (fun hq => ?_)
      · have hq : F.lk = c.k ∧ F.lb = c.lb := by simpa using hq
        intro R hR
        have q : labOf F c = (3, []) := by unfold labOf memL; rw [if_pos hp, if_pos ⟨hb0, hq.1, hq.2⟩]
        have hM : memOf F c = (F.lk, F.lb) := by unfold memOf memK; rw [if_pos hp, if_pos ⟨hb0, hq.1, hq.2⟩]
        have hR' : stepR sp F c = R := by unfold stepR; rw [q]; exact hR
        have hsm := stepR_small hR' hc
        refine br_mk (fun he => br_mk (fun _ => hfail cs ds ⟨F.L, F.beg, F.k, F.lk, F.lb⟩ rfl (fun hk => by rw [hR'] at hk; rw [hk.err] at he; cases he)) (fun h2 => by rw [he] at h2; cases h2)) (fun he => ?_)
        have he : R.err = 0 := by simpa using he
        refine obl_dec (by omega) (obl_and (by omega) rfl (obl_dec (by omega) (obl_and (by omega) rfl (obl_dec hsm.1 ?_))))
        refine br_mk (fun hg => hfail (cs.set i (stepC c R)) (ds.set i ⟨R.en⟩) ⟨F.L, F.beg, F.k, F.lk, F.lb⟩ rfl (fun hk => by rw [hR'] at hk; have h0 : (!decide (errR R = 0)) = true := hg; rw [hk.enc] at h0; cases h0)) (fun hg => ?_)
        have hg : errR R = 0 := by simpa [errR] using hg
        refine br_dec (fun hs => hfail (cs.set i (stepC c R)) (ds.set i ⟨R.en⟩) ⟨F.L, F.beg, F.k, F.lk, F.lb⟩ rfl (fun hk => by rw [hR'] at hk; have h0 : sp - (F.L.length : Int) < ((encR R).length : Int) := hs; have h1 := hk.len; omega)) (fun hs => ?_)
        have hs : ¬ (sp - (F.L.length : Int) < ((encR R).length : Int)) := by exact hs
        have hok : OkR sp F R := ⟨he, hg, by omega⟩
        have t2 := encR_len hg
        refine br_dec (fun h => absurd h (by omega)) (fun _ => ?_)
        have q0 : (F.L ++ encR R).length = F.L.length + (encR R).length := List.length_append
        have q1 : (F.L ++ encR R).length ≤ 9223372036854775807 := by omega
        have q2 : (F.L ++ encR R).length * 1 ≤ 140737488355328 := by omega
        refine obl_int (by omega) (obl_tt (decide_eq_true ⟨rfl, rfl, rfl, Nat.one_pos, q1, q2⟩) ?_)
        refine br_mk (fun hb => br_mk (fun h => obl_tt (decide_eq_true ⟨rfl, rfl, rfl, Nat.succ_pos _, qS1, qS2⟩) (hlast R ⟨F.L ++ encR R, true, F.k + 1, F.lk, F.lb⟩ hR' hok h (by unfold stepF; rw [hM, hb]; rfl))) (fun h => hnorm R ⟨F.L ++ encR R, true, F.k + 1, F.lk, F.lb⟩ hR' hok h (by unfold stepF; rw [hM, hb]; rfl))) (fun hb => br_mk (fun hst => br_mk (fun h => obl_tt (decide_eq_true ⟨rfl, rfl, rfl, Nat.succ_pos _, qS1, qS2⟩) (hlast R ⟨F.L ++ encR R, !R.en, F.k + 1, F.lk, F.lb⟩ hR' hok h (by unfold stepF; rw [hM, hb, hst]; rfl))) (fun h => hnorm R ⟨F.L ++ encR R, !R.en, F.k + 1, F.lk, F.lb⟩ hR' hok h (by unfold stepF; rw [hM, hb, hst]; rfl))) (fun hst => br_mk (fun h => obl_tt (decide_eq_true ⟨rfl, rfl, rfl, Nat.succ_pos _, qS1, qS2⟩) (hlast R ⟨F.L ++ encR R, false, F.k + 1, F.lk, F.lb⟩ hR' hok h (by unfold stepF; rw [hM, hb, hst]; rfl))) (fun h => hnorm R ⟨F.L ++ encR R, false, F.k + 1, F.lk, F.lb⟩ hR' hok h (by unfold stepF; rw [hM, hb, hst]; rfl))))
      · have hne : ¬ (F.lb ≠ [] ∧ F.lk = c.k ∧ F.lb = c.lb) := by rintro ⟨_, h1, h2⟩; rw [decide_eq_true h1, decide_eq_true h2] at hq; cases hq
        refine br_dec (fun hs0 => br_dec (fun ho => ?_) (fun ho => ?_)) (fun hs0 => ?_)
        · have ho : lOk c.k c.lb = true := by by_cases h : lOk c.k c.lb = true; exact h; rw [if_neg h] at ho; exact absurd ho (by decide)
          intro R hR
          have q : labOf F c = (c.k, c.lb) := by unfold labOf memL; rw [if_pos hp, if_neg hne]
          have hM : memOf F c = (c.k, c.lb) := by unfold memOf memK; rw [if_pos hp, if_neg hne, if_pos ⟨hs0, ho⟩]
          have hR' : stepR sp F c = R := by unfold stepR; rw [q]; exact hR
          have hsm := stepR_small hR' hc
          refine br_mk (fun he => br_mk (fun _ => hfail cs ds ⟨F.L, F.beg, F.k, c.k, c.lb⟩ rfl (fun hk => by rw [hR'] at hk; rw [hk.err] at he; cases he)) (fun h2 => by rw [he] at h2; cases h2)) (fun he => ?_)
          have he : R.err = 0 := by simpa using he
          refine obl_dec (by omega) (obl_and (by omega) rfl (obl_dec (by omega) (obl_and (by omega) rfl (obl_dec hsm.1 ?_))))
          refine br_mk (fun hg => hfail (cs.set i (stepC c R)) (ds.set i ⟨R.en⟩) ⟨F.L, F.beg, F.k, c.k, c.lb⟩ rfl (fun hk => by rw [hR'] at hk; have h0 : (!decide (errR R = 0)) = true := hg; rw [hk.enc] at h0; cases h0)) (fun hg => ?_)
          have hg : errR R = 0 := by simpa [errR] using hg
          refine br_dec (fun hs => hfail (cs.set i (stepC c R)) (ds.set i ⟨R.en⟩) ⟨F.L, F.beg, F.k, c.k, c.lb⟩ rfl (fun hk => by rw [hR'] at hk; have h0 : sp - (F.L.length : Int) < ((encR R).length : Int) := hs; have h1 := hk.len; omega)) (fun hs => ?_)
          have hs : ¬ (sp - (F.L.length : Int) < ((encR R).length : Int)) := by exact hs
          have hok : OkR sp F R := ⟨he, hg, by omega⟩
          have t2 := encR_len hg
          refine br_dec (fun h => absurd h (by omega)) (fun _ => ?_)
          have q0 : (F.L ++ encR R).length = F.L.length + (encR R).length := List.length_append
          have q1 : (F.L ++ encR R).length ≤ 9223372036854775807 := by omega
          have q2 : (F.L ++ encR R).length * 1 ≤ 140737488355328 := by omega
          refine obl_int (by omega) (obl_tt (decide_eq_true ⟨rfl, rfl, rfl, Nat.one_pos, q1, q2⟩) ?_)
          refine br_mk (fun hb => br_mk (fun h => obl_tt (decide_eq_true ⟨rfl, rfl, rfl, Nat.succ_pos _, qS1, qS2⟩) (hlast R ⟨F.L ++ encR R, true, F.k + 1, c.k, c.lb⟩ hR' hok h (by unfold stepF; rw [hM, hb]; rfl))) (fun h => hnorm R ⟨F.L ++ encR R, true, F.k + 1, c.k, c.lb⟩ hR' hok h (by unfold stepF; rw [hM, hb]; rfl))) (fun hb => br_mk (fun hst => br_mk (fun h => obl_tt (decide_eq_true ⟨rfl, rfl, rfl, Nat.succ_pos _, qS1, qS2⟩) (hlast R ⟨F.L ++ encR R, !R.en, F.k + 1, c.k, c.lb⟩ hR' hok h (by unfold stepF; rw [hM, hb, hst]; rfl))) (fun h => hnorm R ⟨F.L ++ encR R, !R.en, F.k + 1, c.k, c.lb⟩ hR' hok h (by unfold stepF; rw [hM, hb, hst]; rfl))) (fun hst => br_mk (fun h => obl_tt (decide_eq_true ⟨rfl, rfl, rfl, Nat.succ_pos _, qS1, qS2⟩) (hlast R ⟨F.L ++ encR R, false, F.k + 1, c.k, c.lb⟩ hR' hok h (by unfold stepF; rw [hM, hb, hst]; rfl))) (fun h => hnorm R ⟨F.L ++ encR R, false, F.k + 1, c.k, c.lb⟩ hR' hok h (by unfold stepF; rw [hM, hb, hst]; rfl))))
        · have ho : ¬ lOk c.k c.lb = true := fun h => by rw [if_pos h] at ho; exact ho rfl
          intro R hR
          have q : labOf F c = (c.k, c.lb) := by unfold labOf memL; rw [if_pos hp, if_neg hne]
          have hM : memOf F c = (F.lk, F.lb) := by unfold memOf memK; rw [if_pos hp, if_neg hne, if_neg (fun h => ho h.2)]
          have hR' : stepR sp F c = R := by unfold stepR; rw [q]; exact hR
          have hsm := stepR_small hR' hc
          refine br_mk (fun he => br_mk (fun _ => hfail cs ds ⟨F.L, F.beg, F.k, F.lk, F.lb⟩ rfl (fun hk => by rw [hR'] at hk; rw [hk.err] at he; cases he)) (fun h2 => by rw [he] at h2; cases h2)) (fun he => ?_)
          have he : R.err = 0 := by simpa using he
          refine obl_dec (by omega) (obl_and (by omega) rfl (obl_dec (by omega) (obl_and (by omega) rfl (obl_dec hsm.1 ?_))))
          refine br_mk (fun hg => hfail (cs.set i (stepC c R)) (ds.set i ⟨R.en⟩) ⟨F.L, F.beg, F.k, F.lk, F.lb⟩ rfl (fun hk => by rw [hR'] at hk; have h0 : (!decide (errR R = 0)) = true := hg; rw [hk.enc] at h0; cases h0)) (fun hg => ?_)
          have hg : errR R = 0 := by simpa [errR] using hg
          refine br_dec (fun hs => hfail (cs.set i (stepC c R)) (ds.set i ⟨R.en⟩) ⟨F.L, F.beg, F.k, F.lk, F.lb⟩ rfl (fun hk => by rw [hR'] at hk; have h0 : sp - (F.L.length : Int) < ((encR R).length : Int) := hs; have h1 := hk.len; omega)) (fun hs => ?_)
          have hs : ¬ (sp - (F.L.length : Int) < ((encR R).length : Int)) := by exact hs
          have hok : OkR sp F R := ⟨he, hg, by omega⟩
          have t2 := encR_len hg
          refine br_dec (fun h => absurd h (by omega)) (fun _ => ?_)
          have q0 : (F.L ++ encR R).length = F.L.length + (encR R).length := List.length_append
          have q1 : (F.L ++ encR R).length ≤ 9223372036854775807 := by omega
          have q2 : (F.L ++ encR R).length * 1 ≤ 140737488355328 := by omega
          refine obl_int (by omega) (obl_tt (decide_eq_true ⟨rfl, rfl, rfl, Nat.one_pos, q1, q2⟩) ?_)
          refine br_mk (fun hb => br_mk (fun h => obl_tt (decide_eq_true ⟨rfl, rfl, rfl, Nat.succ_pos _, qS1, qS2⟩) (hlast R ⟨F.L ++ encR R, true, F.k + 1, F.lk, F.lb⟩ hR' hok h (by unfold stepF; rw [hM, hb]; rfl))) (fun h => hnorm R ⟨F.L ++ encR R, true, F.k + 1, F.lk, F.lb⟩ hR' hok h (by unfold stepF; rw [hM, hb]; rfl))) (fun hb => br_mk (fun hst => br_mk (fun h => obl_tt (decide_eq_true ⟨rfl, rfl, rfl, Nat.succ_pos _, qS1, qS2⟩) (hlast R ⟨F.L ++ encR R, !R.en, F.k + 1, F.lk, F.lb⟩ hR' hok h (by unfold stepF; rw [hM, hb, hst]; rfl))) (fun h => hnorm R ⟨F.L ++ encR R, !R.en, F.k + 1, F.lk, F.lb⟩ hR' hok h (by unfold stepF; rw [hM, hb, hst]; rfl))) (fun hst => br_mk (fun h => obl_tt (decide_eq_true ⟨rfl, rfl, rfl, Nat.succ_pos _, qS1, qS2⟩) (hlast R ⟨F.L ++ encR R, false, F.k + 1, F.lk, F.lb⟩ hR' hok h (by unfold stepF; rw [hM, hb, hst]; rfl))) (fun h => hnorm R ⟨F.L ++ encR R, false, F.k + 1, F.lk, F.lb⟩ hR' hok h (by unfold stepF; rw [hM, hb, hst]; rfl))))
        · skip
          intro R hR
          have q : labOf F c = (c.k, c.lb) := by unfold labOf memL; rw [if_pos hp, if_neg hne]
          have hM : memOf F c = (F.lk, F.lb) := by unfold memOf memK; rw [if_pos hp, if_neg hne, if_neg (fun h => hs0 h.1)]
          have hR' : stepR sp F c = R := by unfold stepR; rw [q]; exact hR
          have hsm := stepR_small hR' hc
          refine br_mk (fun he => br_mk (fun _ => hfail cs ds ⟨F.L, F.beg, F.k, F.lk, F.lb⟩ rfl (fun hk => by rw [hR'] at hk; rw [hk.err] at he; cases he)) (fun h2 => by rw [he] at h2; cases h2)) (fun he => ?_)
          have he : R.err = 0 := by simpa using he
          refine obl_dec (by omega) (obl_and (by omega) rfl (obl_dec (by omega) (obl_and (by omega) rfl (obl_dec hsm.1 ?_))))
          refine br_mk (fun hg => hfail (cs.set i (stepC c R)) (ds.set i ⟨R.en⟩) ⟨F.L, F.beg, F.k, F.lk, F.lb⟩ rfl (fun hk => by rw [hR'] at hk; have h0 : (!decide (errR R = 0)) = true := hg; rw [hk.enc] at h0; cases h0)) (fun hg => ?_)
          have hg : errR R = 0 := by simpa [errR] using hg
          refine br_dec (fun hs => hfail (cs.set i (stepC c R)) (ds.set i ⟨R.en⟩) ⟨F.L, F.beg, F.k, F.lk, F.lb⟩ rfl (fun hk => by rw [hR'] at hk; have h0 : sp - (F.L.length : Int) < ((encR R).length : Int) := hs; have h1 := hk.len; omega)) (fun hs => ?_)
          have hs : ¬ (sp - (F.L.length : Int) < ((encR R).length : Int)) := by exact hs
          have hok : OkR sp F R := ⟨he, hg, by omega⟩
          have t2 := encR_len hg
          refine br_dec (fun h => absurd h (by omega)) (fun _ => ?_)
          have q0 : (F.L ++ encR R).length = F.L.length + (encR R).length := List.length_append
          have q1 : (F.L ++ encR R).length ≤ 9223372036854775807 := by omega
          have q2 : (F.L ++ encR R).length * 1 ≤ 140737488355328 := by omega
          refine obl_int (by omega) (obl_tt (decide_eq_true ⟨rfl, rfl, rfl, Nat.one_pos, q1, q2⟩) ?_)
          refine br_mk (fun hb => br_mk (fun h => obl_tt (decide_eq_true ⟨rfl, rfl, rfl, Nat.succ_pos _, qS1, qS2⟩) (hlast R ⟨F.L ++ encR R, true, F.k + 1, F.lk, F.lb⟩ hR' hok h (by unfold stepF; rw [hM, hb]; rfl))) (fun h => hnorm R ⟨F.L ++ encR R, true, F.k + 1, F.lk, F.lb⟩ hR' hok h (by unfold stepF; rw [hM, hb]; rfl))) (fun hb => br_mk (fun hst => br_mk (fun h => obl_tt (decide_eq_true ⟨rfl, rfl, rfl, Nat.succ_pos _, qS1, qS2⟩) (hlast R ⟨F.L ++ encR R, !R.en, F.k + 1, F.lk, F.lb⟩ hR' hok h (by unfold stepF; rw [hM, hb, hst]; rfl))) (fun h => hnorm R ⟨F.L ++ encR R, !R.en, F.k + 1, F.lk, F.lb⟩ hR' hok h (by unfold stepF; rw [hM, hb, hst]; rfl))) (fun hst => br_mk (fun h => obl_tt (decide_eq_true ⟨rfl, rfl, rfl, Nat.succ_pos _, qS1, qS2⟩) (hlast R ⟨F.L ++ encR R, false, F.k + 1, F.lk, F.lb⟩ hR' hok h (by unfold stepF; rw [hM, hb, hst]; rfl))) (fun h => hnorm R ⟨F.L ++ encR R, false, F.k + 1, F.lk, F.lb⟩ hR' hok h (by unfold stepF; rw [hM, hb, hst]; rfl))))
    · have hb0 : F.lb = [] := by simpa using hb0
      have hne : ¬ (F.lb ≠ [] ∧ F.lk = c.k ∧ F.lb = c.lb) := fun h => h.1 hb0
      refine br_dec (fun hs0 => br_dec (fun ho => ?_) (fun ho => ?_)) (fun hs0 => ?_)
      · have ho : lOk c.k c.lb = true := by by_cases h : lOk c.k c.lb = true; exact h; rw [if_neg h] at ho; exact absurd ho (by decide)
        intro R hR
        have q : labOf F c = (c.k, c.lb) := by unfold labOf memL; rw [if_pos hp, if_neg hne]
        have hM : memOf F c = (c.k, c.lb) := by unfold memOf memK; rw [if_pos hp, if_neg hne, if_pos ⟨hs0, ho⟩]
        have hR' : stepR sp F c = R := by unfold stepR; rw [q]; exact hR
        have hsm := stepR_small hR' hc
        refine br_mk (fun he => br_mk (fun _ => hfail cs ds ⟨F.L, F.beg, F.k, c.k, c.lb⟩ rfl (fun hk => by rw [hR'] at hk; rw [hk.err] at he; cases he)) (fun h2 => by rw [he] at h2; cases h2)) (fun he => ?_)
        have he : R.err = 0 := by simpa using he
        refine obl_dec (by omega) (obl_and (by omega) rfl (obl_dec (by omega) (obl_and (by omega) rfl (obl_dec hsm.1 ?_))))
        refine br_mk (fun hg => hfail (cs.set i (stepC c R)) (ds.set i ⟨R.en⟩) ⟨F.L, F.beg, F.k, c.k, c.lb⟩ rfl (fun hk => by rw [hR'] at hk; have h0 : (!decide (errR R = 0)) = true := hg; rw [hk.enc] at h0; cases h0)) (fun hg => ?_)
        have hg : errR R = 0 := by simpa [errR] using hg
        refine br_dec (fun hs => hfail (cs.set i (stepC c R)) (ds.set i ⟨R.en⟩) ⟨F.L, F.beg, F.k, c.k, c.lb⟩ rfl (fun hk => by rw [hR'] at hk; have h0 : sp - (F.L.length : Int) < ((encR R).length : Int) := hs; have h1 := hk.len; omega)) (fun hs => ?_)
        have hs : ¬ (sp - (F.L.length : Int) < ((encR R).length : Int)) := by exact hs
        have hok : OkR sp F R := ⟨he, hg, by omega⟩
        have t2 := encR_len hg
        refine br_dec (fun h => absurd h (by omega)) (fun _ => ?_)
        have q0 : (F.L ++ encR R).length = F.L.length + (encR R).length := List.length_append
        have q1 : (F.L ++ encR R).length ≤ 9223372036854775807 := by omega
        have q2 : (F.L ++ encR R).length * 1 ≤ 140737488355328 := by omega
        refine obl_int (by omega) (obl_tt (decide_eq_true ⟨rfl, rfl, rfl, Nat.one_pos, q1, q2⟩) ?_)
        refine br_mk (fun hb => br_mk (fun h => obl_tt (decide_eq_true ⟨rfl, rfl, rfl, Nat.succ_pos _, qS1, qS2⟩) (hlast R ⟨F.L ++ encR R, true, F.k + 1, c.k, c.lb⟩ hR' hok h (by unfold stepF; rw [hM, hb]; rfl))) (fun h => hnorm R ⟨F.L ++ encR R, true, F.k + 1, c.k, c.lb⟩ hR' hok h (by unfold stepF; rw [hM, hb]; rfl))) (fun hb => br_mk (fun hst => br_mk (fun h => obl_tt (decide_eq_true ⟨rfl, rfl, rfl, Nat.succ_pos _, qS1, qS2⟩) (hlast R ⟨F.L ++ encR R, !R.en, F.k + 1, c.k, c.lb⟩ hR' hok h (by unfold stepF; rw [hM, hb, hst]; rfl))) (fun h => hnorm R ⟨F.L ++ encR R, !R.en, F.k + 1, c.k, c.lb⟩ hR' hok h (by unfold stepF; rw [hM, hb, hst]; rfl))) (fun hst => br_mk (fun h => obl_tt (decide_eq_true ⟨rfl, rfl, rfl, Nat.succ_pos _, qS1, qS2⟩) (hlast R ⟨F.L ++ encR R, false, F.k + 1, c.k, c.lb⟩ hR' hok h (by unfold stepF; rw [hM, hb, hst]; rfl))) (fun h => hnorm R ⟨F.L ++ encR R, false, F.k + 1, c.k, c.lb⟩ hR' hok h (by unfold stepF; rw [hM, hb, hst]; rfl))))
      · have ho : ¬ lOk c.k c.lb = true := fun h => by rw [if_pos h] at ho; exact ho rfl
        intro R hR
        have q : labOf F c = (c.k, c.lb) := by unfold labOf memL; rw [if_pos hp, if_neg hne]
        have hM : memOf F c = (F.lk, F.lb) := by unfold memOf memK; rw [if_pos hp, if_neg hne, if_neg (fun h => ho h.2)]
        have hR' : stepR sp F c = R := by unfold stepR; rw [q]; exact hR
        have hsm := stepR_small hR' hc
        refine br_mk (fun he => br_mk (fun _ => hfail cs ds ⟨F.L, F.beg, F.k, F.lk, F.lb⟩ rfl (fun hk => by rw [hR'] at hk; rw [hk.err] at he; cases he)) (fun h2 => by rw [he] at h2; cases h2)) (fun he => ?_)
        have he : R.err = 0 := by simpa using he
        refine obl_dec (by omega) (obl_and (by omega) rfl (obl_dec (by omega) (obl_and (by omega) rfl (obl_dec hsm.1 ?_))))
        refine br_mk (fun hg => hfail (cs.set i (stepC c R)) (ds.set i ⟨R.en⟩) ⟨F.L, F.beg, F.k, F.lk, F.lb⟩ rfl (fun hk => by rw [hR'] at hk; have h0 : (!decide (errR R = 0)) = true := hg; rw [hk.enc] at h0; cases h0)) (fun hg => ?_)
        have hg : errR R = 0 := by simpa [errR] using hg
        refine br_dec (fun hs => hfail (cs.set i (stepC c R)) (ds.set i ⟨R.en⟩) ⟨F.L, F.beg, F.k, F.lk, F.lb⟩ rfl (fun hk => by rw [hR'] at hk; have h0 : sp - (F.L.length : Int) < ((encR R).length : Int) := hs; have h1 := hk.len; omega)) (fun hs => ?_)
        have hs : ¬ (sp - (F.L.length : Int) < ((encR R).length : Int)) := by exact hs
        have hok : OkR sp F R := ⟨he, hg, by omega⟩
        have t2 := encR_len hg
        refine br_dec (fun h => absurd h (by omega)) (fun _ => ?_)
        have q0 : (F.L ++ encR R).length = F.L.length + (encR R).length := List.length_append
        have q1 : (F.L ++ encR R).length ≤ 9223372036854775807 := by omega
        have q2 : (F.L ++ encR R).length * 1 ≤ 140737488355328 := by omega
        refine obl_int (by omega) (obl_tt (decide_eq_true ⟨rfl, rfl, rfl, Nat.one_pos, q1, q2⟩) ?_)
        refine br_mk (fun hb => br_mk (fun h => obl_tt (decide_eq_true ⟨rfl, rfl, rfl, Nat.succ_pos _, qS1, qS2⟩) (hlast R ⟨F.L ++ encR R, true, F.k + 1, F.lk, F.lb⟩ hR' hok h (by unfold stepF; rw [hM, hb]; rfl))) (fun h => hnorm R ⟨F.L ++ encR R, true, F.k + 1, F.lk, F.lb⟩ hR' hok h (by unfold stepF; rw [hM, hb]; rfl))) (fun hb => br_mk (fun hst => br_mk (fun h => obl_tt (decide_eq_true ⟨rfl, rfl, rfl, Nat.succ_pos _, qS1, qS2⟩) (hlast R ⟨F.L ++ encR R, !R.en, F.k + 1, F.lk, F.lb⟩ hR' hok h (by unfold stepF; rw [hM, hb, hst]; rfl))) (fun h => hnorm R ⟨F.L ++ encR R, !R.en, F.k + 1, F.lk, F.lb⟩ hR' hok h (by unfold stepF; rw [hM, hb, hst]; rfl))) (fun hst => br_mk (fun h => obl_tt (decide_eq_true ⟨rfl, rfl, rfl, Nat.succ_pos _, qS1, qS2⟩) (hlast R ⟨F.L ++ encR R, false, F.k + 1, F.lk, F.lb⟩ hR' hok h (by unfold stepF; rw [hM, hb, hst]; rfl))) (fun h => hnorm R ⟨F.L ++ encR R, false, F.k + 1, F.lk, F.lb⟩ hR' hok h (by unfold stepF; rw [hM, hb, hst]; rfl))))
      · skip
        intro R hR
        have q : labOf F c = (c.k, c.lb) := by unfold labOf memL; rw [if_pos hp, if_neg hne]
        have hM : memOf F c = (F.lk, F.lb) := by unfold memOf memK; rw [if_pos hp, if_neg hne, if_neg (fun h => hs0 h.1)]
        have hR' : stepR sp F c = R := by unfold stepR; rw [q]; exact hR
        have hsm := stepR_small hR' hc
        refine br_mk (fun he => br_mk (fun _ => hfail cs ds ⟨F.L, F.beg, F.k, F.lk, F.lb⟩ rfl (fun hk => by rw [hR'] at hk; rw [hk.err] at he; cases he)) (fun h2 => by rw [he] at h2; cases h2)) (fun he => ?_)
        have he : R.err = 0 := by simpa using he
        refine obl_dec (by omega) (obl_and (by omega) rfl (obl_dec (by omega) (obl_and (by omega) rfl (obl_dec hsm.1 ?_))))
        refine br_mk (fun hg => hfail (cs.set i (stepC c R)) (ds.set i ⟨R.en⟩) ⟨F.L, F.beg, F.k, F.lk, F.lb⟩ rfl (fun hk => by rw [hR'] at hk; have h0 : (!decide (errR R = 0)) = true := hg; rw [hk.enc] at h0; cases h0)) (fun hg => ?_)
        have hg : errR R = 0 := by simpa [errR] using hg
        refine br_dec (fun hs => hfail (cs.set i (stepC c R)) (ds.set i ⟨R.en⟩) ⟨F.L, F.beg, F.k, F.lk, F.lb⟩ rfl (fun hk => by rw [hR'] at hk; have h0 : sp - (F.L.length : Int) < ((encR R).length : Int) := hs; have h1 := hk.len; omega)) (fun hs => ?_)
        have hs : ¬ (sp - (F.L.length : Int) < ((encR R).length : Int)) := by exact hs
        have hok : OkR sp F R := ⟨he, hg, by omega⟩
        have t2 := encR_len hg
        refine br_dec (fun h => absurd h (by omega)) (fun _ => ?_)
        have q0 : (F.L ++ encR R).length = F.L.length + (encR R).length := List.length_append
        have q1 : (F.L ++ encR R).length ≤ 9223372036854775807 := by omega
        have q2 : (F.L ++ encR R).length * 1 ≤ 140737488355328 := by omega
        refine obl_int (by omega) (obl_tt (decide_eq_true ⟨rfl, rfl, rfl, Nat.one_pos, q1, q2⟩) ?_)
        refine br_mk (fun hb => br_mk (fun h => obl_tt (decide_eq_true ⟨rfl, rfl, rfl, Nat.succ_pos _, qS1, qS2⟩) (hlast R ⟨F.L ++ encR R, true, F.k + 1, F.lk, F.lb⟩ hR' hok h (by unfold stepF; rw [hM, hb]; rfl))) (fun h => hnorm R ⟨F.L ++ encR R, true, F.k + 1, F.lk, F.lb⟩ hR' hok h (by unfold stepF; rw [hM, hb]; rfl))) (fun hb => br_mk (fun hst => br_mk (fun h => obl_tt (decide_eq_true ⟨rfl, rfl, rfl, Nat.succ_pos _, qS1, qS2⟩) (hlast R ⟨F.L ++ encR R, !R.en, F.k + 1, F.lk, F.lb⟩ hR' hok h (by unfold stepF; rw [hM, hb, hst]; rfl))) (fun h => hnorm R ⟨F.L ++ encR R, !R.en, F.k + 1, F.lk, F.lb⟩ hR' hok h (by unfold stepF; rw [hM, hb, hst]; rfl))) (fun hst => br_mk (fun h => obl_tt (decide_eq_true ⟨rfl, rfl, rfl, Nat.succ_pos _, qS1, qS2⟩) (hlast R ⟨F.L ++ encR R, false, F.k + 1, F.lk, F.lb⟩ hR' hok h (by unfold stepF; rw [hM, hb, hst]; rfl))) (fun h => hnorm R ⟨F.L ++ encR R, false, F.k + 1, F.lk, F.lb⟩ hR' hok h (by unfold stepF; rw [hM, hb, hst]; rfl))))
  · skip
    intro R hR
    have q : labOf F c = (c.k, c.lb) := by unfold labOf; rw [if_neg hp]
    have hM : memOf F c = (F.lk, F.lb) := by unfold memOf; rw [if_neg hp]
    have hR' : stepR sp F c = R := by unfold stepR; rw [q]; exact hR
    have hsm := stepR_small hR' hc
    refine br_mk (fun he => br_mk (fun _ => hfail cs ds ⟨F.L, F.beg, F.k, F.lk, F.lb⟩ rfl (fun hk => by rw [hR'] at hk; rw [hk.err] at he; cases he)) (fun h2 => by rw [he] at h2; cases h2)) (fun he => ?_)
    have he : R.err = 0 := by simpa using he
    refine obl_dec (by omega) (obl_and (by omega) rfl (obl_dec (by omega) (obl_and (by omega) rfl (obl_dec hsm.1 ?_))))
    refine br_mk (fun hg => hfail (cs.set i (stepC c R)) (ds.set i ⟨R.en⟩) ⟨F.L, F.beg, F.k, F.lk, F.lb⟩ rfl (fun hk => by rw [hR'] at hk; have h0 : (!decide (errR R = 0)) = true := hg; rw [hk.enc] at h0; cases h0)) (fun hg => ?_)
    have hg : errR R = 0 := by simpa [errR] using hg
    refine br_dec (fun hs => hfail (cs.set i (stepC c R)) (ds.set i ⟨R.en⟩) ⟨F.L, F.beg, F.k, F.lk, F.lb⟩ rfl (fun hk => by rw [hR'] at hk; have h0 : sp - (F.L.length : Int) < ((encR R).length : Int) := hs; have h1 := hk.len; omega)) (fun hs => ?_)
    have hs : ¬ (sp - (F.L.length : Int) < ((encR R).length : Int)) := by exact hs
    have hok : OkR sp F R := ⟨he, hg, by omega⟩
    have t2 := encR_len hg
    refine br_dec (fun h => absurd h (by omega)) (fun _ => ?_)
    have q0 : (F.L ++ encR R).length = F.L.length + (encR R).length := List.length_append
    have q1 : (F.L ++ encR R).length ≤ 9223372036854775807 := by omega
    have q2 : (F.L ++ encR R).length * 1 ≤ 140737488355328 := by omega
    refine obl_int (by omega) (obl_tt (decide_eq_true ⟨rfl, rfl, rfl, Nat.one_pos, q1, q2⟩) ?_)
    refine br_mk (fun hb => br_mk (fun h => obl_tt (decide_eq_true ⟨rfl, rfl, rfl, Nat.succ_pos _, qS1, qS2⟩) (hlast R ⟨F.L ++ encR R, true, F.k + 1, F.lk, F.lb⟩ hR' hok h (by unfold stepF; rw [hM, hb]; rfl))) (fun h => hnorm R ⟨F.L ++ encR R, true, F.k + 1, F.lk, F.lb⟩ hR' hok h (by unfold stepF; rw [hM, hb]; rfl))) (fun hb => br_mk (fun hst => br_mk (fun h => obl_tt (decide_eq_true ⟨rfl, rfl, rfl, Nat.succ_pos _, qS1, qS2⟩) (hlast R ⟨F.L ++ encR R, !R.en, F.k + 1, F.lk, F.lb⟩ hR' hok h (by unfold stepF; rw [hM, hb, hst]; rfl))) (fun h => hnorm R ⟨F.L ++ encR R, !R.en, F.k + 1, F.lk, F.lb⟩ hR' hok h (by unfold stepF; rw [hM, hb, hst]; rfl))) (fun hst => br_mk (fun h => obl_tt (decide_eq_true ⟨rfl, rfl, rfl, Nat.succ_pos _, qS1, qS2⟩) (hlast R ⟨F.L ++ encR R, false, F.k + 1, F.lk, F.lb⟩ hR' hok h (by unfold stepF; rw [hM, hb, hst]; rfl))) (fun h => hnorm R ⟨F.L ++ encR R, false, F.k + 1, F.lk, F.lb⟩ hR' hok h (by unfold stepF; rw [hM, hb, hst]; rfl))))
end Go.Proofs.Ytjacnjecggedhaa
namespace Go.Proofs.Ytjacnjecggedhaa
set_option linter.unusedVariables false
set_option linter.unusedSimpArgs false
open Go.RowKit Ev
set_option maxRecDepth 100000 in
theorem w_fe0 (n : Nat) (cs : List CutR) (ds : List BoolR) (first sp : Int) (Q : AExit → Env → AHeap → Prop) : (wpC (TX2.ctx Try.prog) 400 9 3 (codeAt [false] fillB) (env0 (fA first sp) 0) ⟨3, srcN n cs ds⟩ (canQ 3 ts0 Q)
) =  (Q AExit.normal [(3, AVal.int IntKind.i64 sp), (4, AVal.ptr 3 0 0 0), (5, AVal.ptr 4 0 0 0), (6, AVal.ptr 5 0 0 0)] (AHeap.mk 6 [(0, ABlk.cells 29 [AVal.sl 1 0 6 0 n none, AVal.sl 2 0 1 0 n none]),
 (1, ABlk.row 48 cutRow cs RowMd.plain), (2, ABlk.row 4 boolRow ds RowMd.plain), (3, ABlk.cells 65 [AVal.iface 24 (AVal.ptr 0 0 0 0)]), (4, ABlk.cells 33 [AVal.int IntKind.u64 first]), (5, ABlk.cells 3
 [AVal.int IntKind.i64 (7 : Int)])])) := by kernel_rfl
set_option maxRecDepth 100000 in
theorem w_fe1 (n : Nat) (cs : List CutR) (ds : List BoolR) (first sp : Int) (K : Out → AHeap → Prop) (Q : AExit → Env → AHeap → Prop) : (wpC (TX2.ctx Try.prog) 400 9 3 (seqL fillI) (feE sp) ⟨6, fH0 n cs ds first⟩ (canQ 3 tsA (qRet (endA (TX2.ctx Try.prog).P Try.f9 K) Q))
) =  (branch (decide (sp < (1 : Int))) (K (Out.ret (AVal.tup [AVal.str [], AVal.nils])) (AHeap.mk 3 [(0, ABlk.cells 29 [AVal.sl 1 0 6 0 n none, AVal.sl 2 0 1 0 n none]), (1, ABlk.row 48 cutRow cs
 RowMd.plain), (2, ABlk.row 4 boolRow ds RowMd.plain)])) (Q AExit.normal [(3, AVal.int IntKind.i64 sp), (4, AVal.ptr 3 0 0 0), (5, AVal.ptr 4 0 0 0), (6, AVal.ptr 5 0 0 0)] (AHeap.mk 6 [(0, ABlk.cells
 29 [AVal.sl 1 0 6 0 n none, AVal.sl 2 0 1 0 n none]), (1, ABlk.row 48 cutRow cs RowMd.plain), (2, ABlk.row 4 boolRow ds RowMd.plain), (3, ABlk.cells 65 [AVal.iface 24 (AVal.ptr 0 0 0 0)]), (4,
 ABlk.cells 33 [AVal.int IntKind.u64 first]), (5, ABlk.cells 3 [AVal.int IntKind.i64 (7 : Int)])]))) := by kernel_rfl
set_option maxRecDepth 100000 in
theorem w_fe1b (n : Nat) (cs : List CutR) (ds : List BoolR) (first sp : Int) (It : Env → AHeap → Prop) (Q : AExit → Env → AHeap → Prop) : (wpN (TX2.ctx Try.prog) 4 400 9 3 (seqR fillI) (feE sp) ⟨6, fH0 n cs ds first⟩ (fun E H => canonK 3 [4, 5, 6, 10, 11, 12] E H It) Q
) =  (It [(4, AVal.ptr 3 0 0 0), (5, AVal.ptr 4 0 0 0), (6, AVal.ptr 5 0 0 0), (10, AVal.ptr 6 0 0 0), (11, AVal.nils), (12, AVal.func 16 [] [AVal.ptr 3 0 0 0, AVal.ptr 4 0 0 0, AVal.ptr 5 0 0 0])]
 (AHeap.mk 7 [(0, ABlk.cells 29 [AVal.sl 1 0 6 0 n none, AVal.sl 2 0 1 0 n none]), (1, ABlk.row 48 cutRow cs RowMd.plain), (2, ABlk.row 4 boolRow ds RowMd.plain), (3, ABlk.cells 65 [AVal.iface 24
 (AVal.ptr 0 0 0 0)]), (4, ABlk.cells 33 [AVal.int IntKind.u64 first]), (5, ABlk.cells 3 [AVal.int IntKind.i64 (7 : Int)]), (6, ABlk.cells 70 [AVal.nils, AVal.int IntKind.i64 sp, AVal.bool false,
 AVal.int IntKind.i64 (0 : Int), AVal.int IntKind.i64 (0 : Int), AVal.str []])])) := by kernel_rfl
set_option maxRecDepth 100000 in
theorem w_fe2 (n : Nat) (sp : Int) (cs : List CutR) (ds : List BoolR) (first : Int) (Q : AExit → Env → AHeap → Prop) : (wpC (TX2.ctx Try.prog) 400 9 3 (seqL (seqL (tailN 5 fillI))) (g00 n sp cs ds first F0 []).1 (g00 n sp cs ds first F0 []).2 (canQ 3 ts14 Q)
) =  (∃ cs_1 ds_1, ((ABlk.row 48 cutRow cs RowMd.plain = ABlk.row 48 cutRow cs_1 RowMd.plain ∧ ABlk.row 4 boolRow ds RowMd.plain = ABlk.row 4 boolRow ds_1 RowMd.plain) ∧ (n = cs_1.length ∧ n = ds_1.length)
 ∧ cs_1.length = ds_1.length ∧ ds_1.length.le 30) ∧ (∀ (i : Nat), moreM ds_1 first = some i → Q AExit.normal [(4, AVal.ptr 3 0 0 0), (5, AVal.ptr 4 0 0 0), (6, AVal.ptr 5 0 0 0), (10, AVal.ptr 6 0 0
 0), (11, AVal.nils), (12, AVal.func 16 [] [AVal.ptr 3 0 0 0, AVal.ptr 4 0 0 0, AVal.ptr 5 0 0 0]), (13, AVal.int IntKind.u64 ((↑i : Int) + (1 : Int))), (14, AVal.bool true)] (AHeap.mk 7 [(0,
 ABlk.cells 29 [AVal.sl 1 0 6 0 n none, AVal.sl 2 0 1 0 n none]), (1, ABlk.row 48 cutRow cs RowMd.plain), (2, ABlk.row 4 boolRow ds RowMd.plain), (3, ABlk.cells 65 [AVal.iface 24 (AVal.ptr 0 0 0 0)]),
 (4, ABlk.cells 33 [AVal.int IntKind.u64 (0 : Int)]), (5, ABlk.cells 3 [AVal.int IntKind.i64 (7 : Int)]), (6, ABlk.cells 70 [AVal.nils, AVal.int IntKind.i64 sp, AVal.bool false, AVal.int IntKind.i64 (0
 : Int), AVal.int IntKind.i64 (0 : Int), AVal.str []])])) ∧ (moreM ds_1 first = none → Q AExit.normal [(4, AVal.ptr 3 0 0 0), (5, AVal.ptr 4 0 0 0), (6, AVal.ptr 5 0 0 0), (10, AVal.ptr 6 0 0 0), (11,
 AVal.nils), (12, AVal.func 16 [] [AVal.ptr 3 0 0 0, AVal.ptr 4 0 0 0, AVal.ptr 5 0 0 0]), (13, AVal.int IntKind.u64 (0 : Int)), (14, AVal.bool false)] (AHeap.mk 7 [(0, ABlk.cells 29 [AVal.sl 1 0 6 0 n
 none, AVal.sl 2 0 1 0 n none]), (1, ABlk.row 48 cutRow cs RowMd.plain), (2, ABlk.row 4 boolRow ds RowMd.plain), (3, ABlk.cells 65 [AVal.iface 24 (AVal.ptr 0 0 0 0)]), (4, ABlk.cells 33 [AVal.int
 IntKind.u64 (0 : Int)]), (5, ABlk.cells 3 [AVal.int IntKind.i64 (7 : Int)]), (6, ABlk.cells 70 [AVal.nils, AVal.int IntKind.i64 sp, AVal.bool false, AVal.int IntKind.i64 (0 : Int), AVal.int
 IntKind.i64 (0 : Int), AVal.str []])]))) := by kernel_rfl
set_option maxRecDepth 100000 in
theorem w_f7_00 (n : Nat) (sp : Int) (cs : List CutR) (ds : List BoolR) (fv : Int) (F : FSt) (no : Int) (sm : Bool) (Q : AExit → Env → AHeap → Prop) : (wpC (TX2.ctx Try.prog) 400 9 3 (seqL fillO) (g00 n sp cs ds fv F (f14 no sm)).1 (g00 n sp cs ds fv F (f14 no sm)).2 (canQ 3 ts13 Q)
) =  (branch sm (Q AExit.normal [(4, AVal.ptr 3 0 0 0), (5, AVal.ptr 4 0 0 0), (6, AVal.ptr 5 0 0 0), (10, AVal.ptr 6 0 0 0), (11, AVal.nils), (12, AVal.func 16 [] [AVal.ptr 3 0 0 0, AVal.ptr 4 0 0 0,
 AVal.ptr 5 0 0 0]), (13, AVal.int IntKind.u64 no)] (AHeap.mk 7 [(0, ABlk.cells 29 [AVal.sl 1 0 6 0 n none, AVal.sl 2 0 1 0 n none]), (1, ABlk.row 48 cutRow cs RowMd.plain), (2, ABlk.row 4 boolRow ds
 RowMd.plain), (3, ABlk.cells 65 [AVal.iface 24 (AVal.ptr 0 0 0 0)]), (4, ABlk.cells 33 [AVal.int IntKind.u64 fv]), (5, ABlk.cells 3 [AVal.int IntKind.i64 (7 : Int)]), (6, ABlk.cells 70 [AVal.nils,
 AVal.int IntKind.i64 sp, AVal.bool F.beg, AVal.int IntKind.i64 (↑F.k : Int), AVal.int IntKind.i64 F.lk, AVal.str F.lb])])) (Q (AExit.exit 0) [(4, AVal.ptr 3 0 0 0), (5, AVal.ptr 4 0 0 0), (6, AVal.ptr
 5 0 0 0), (10, AVal.ptr 6 0 0 0), (11, AVal.nils), (12, AVal.func 16 [] [AVal.ptr 3 0 0 0, AVal.ptr 4 0 0 0, AVal.ptr 5 0 0 0]), (13, AVal.int IntKind.u64 no)] (AHeap.mk 7 [(0, ABlk.cells 29 [AVal.sl
 1 0 6 0 n none, AVal.sl 2 0 1 0 n none]), (1, ABlk.row 48 cutRow cs RowMd.plain), (2, ABlk.row 4 boolRow ds RowMd.plain), (3, ABlk.cells 65 [AVal.iface 24 (AVal.ptr 0 0 0 0)]), (4, ABlk.cells 33
 [AVal.int IntKind.u64 fv]), (5, ABlk.cells 3 [AVal.int IntKind.i64 (7 : Int)]), (6, ABlk.cells 70 [AVal.nils, AVal.int IntKind.i64 sp, AVal.bool F.beg, AVal.int IntKind.i64 (↑F.k : Int), AVal.int
 IntKind.i64 F.lk, AVal.str F.lb])]))) := by kernel_rfl
set_option maxRecDepth 100000 in
theorem w_f7_11 (n : Nat) (sp : Int) (cs : List CutR) (ds : List BoolR) (fv : Int) (F : FSt) (S : List Int) (no : Int) (sm : Bool) (Q : AExit → Env → AHeap → Prop) : (wpC (TX2.ctx Try.prog) 400 9 3 (seqL fillO) (g11 n sp cs ds fv F S (f14 no sm)).1 (g11 n sp cs ds fv F S (f14 no sm)).2 (canQ 3 ts13 Q)
) =  (branch sm (Q AExit.normal [(4, AVal.ptr 3 0 0 0), (5, AVal.ptr 4 0 0 0), (6, AVal.ptr 5 0 0 0), (10, AVal.ptr 6 0 0 0), (11, AVal.sl 7 0 1 0 S.length none), (12, AVal.func 16 [] [AVal.ptr 3 0 0 0,
 AVal.ptr 4 0 0 0, AVal.ptr 5 0 0 0]), (13, AVal.int IntKind.u64 no)] (AHeap.mk 9 [(0, ABlk.cells 29 [AVal.sl 1 0 6 0 n none, AVal.sl 2 0 1 0 n none]), (1, ABlk.row 48 cutRow cs RowMd.plain), (2,
 ABlk.row 4 boolRow ds RowMd.plain), (3, ABlk.cells 65 [AVal.iface 24 (AVal.ptr 0 0 0 0)]), (4, ABlk.cells 33 [AVal.int IntKind.u64 fv]), (5, ABlk.cells 3 [AVal.int IntKind.i64 (7 : Int)]), (6,
 ABlk.cells 70 [AVal.sl 8 0 1 0 F.L.length none, AVal.int IntKind.i64 sp, AVal.bool F.beg, AVal.int IntKind.i64 (↑F.k : Int), AVal.int IntKind.i64 F.lk, AVal.str F.lb]), (7, ABlk.row 33 (intRow
 IntKind.u64) S RowMd.plain), (8, ABlk.row 5 byteRow F.L RowMd.plain)])) (Q (AExit.exit 0) [(4, AVal.ptr 3 0 0 0), (5, AVal.ptr 4 0 0 0), (6, AVal.ptr 5 0 0 0), (10, AVal.ptr 6 0 0 0), (11, AVal.sl 7 0
 1 0 S.length none), (12, AVal.func 16 [] [AVal.ptr 3 0 0 0, AVal.ptr 4 0 0 0, AVal.ptr 5 0 0 0]), (13, AVal.int IntKind.u64 no)] (AHeap.mk 9 [(0, ABlk.cells 29 [AVal.sl 1 0 6 0 n none, AVal.sl 2 0 1 0
 n none]), (1, ABlk.row 48 cutRow cs RowMd.plain), (2, ABlk.row 4 boolRow ds RowMd.plain), (3, ABlk.cells 65 [AVal.iface 24 (AVal.ptr 0 0 0 0)]), (4, ABlk.cells 33 [AVal.int IntKind.u64 fv]), (5,
 ABlk.cells 3 [AVal.int IntKind.i64 (7 : Int)]), (6, ABlk.cells 70 [AVal.sl 8 0 1 0 F.L.length none, AVal.int IntKind.i64 sp, AVal.bool F.beg, AVal.int IntKind.i64 (↑F.k : Int), AVal.int IntKind.i64
 F.lk, AVal.str F.lb]), (7, ABlk.row 33 (intRow IntKind.u64) S RowMd.plain), (8, ABlk.row 5 byteRow F.L RowMd.plain)]))) := by kernel_rfl
set_option maxRecDepth 100000 in
theorem w_f8_11 (n : Nat) (sp : Int) (cs : List CutR) (ds : List BoolR) (fv : Int) (F : FSt) (S : List Int) (i : Nat) (Q : AExit → Env → AHeap → Prop) : (wpC (TX2.ctx Try.prog) 400 9 3 (seqR (seqR fillO)) (g11 n sp cs ds fv F S (f13 i)).1 (g11 n sp cs ds fv F S (f13 i)).2 (canQ 3 ts14 Q)
) =  (∃ cs_1 ds_1, ((ABlk.row 48 cutRow cs RowMd.plain = ABlk.row 48 cutRow cs_1 RowMd.plain ∧ ABlk.row 4 boolRow ds RowMd.plain = ABlk.row 4 boolRow ds_1 RowMd.plain) ∧ (n = cs_1.length ∧ n = ds_1.length)
 ∧ cs_1.length = ds_1.length ∧ ds_1.length.le 30) ∧ (∀ (i : Nat), moreM ds_1 fv = some i → Q AExit.normal [(4, AVal.ptr 3 0 0 0), (5, AVal.ptr 4 0 0 0), (6, AVal.ptr 5 0 0 0), (10, AVal.ptr 6 0 0 0),
 (11, AVal.sl 7 0 1 0 S.length none), (12, AVal.func 16 [] [AVal.ptr 3 0 0 0, AVal.ptr 4 0 0 0, AVal.ptr 5 0 0 0]), (13, AVal.int IntKind.u64 ((↑i : Int) + (1 : Int))), (14, AVal.bool true)] (AHeap.mk
 9 [(0, ABlk.cells 29 [AVal.sl 1 0 6 0 n none, AVal.sl 2 0 1 0 n none]), (1, ABlk.row 48 cutRow cs RowMd.plain), (2, ABlk.row 4 boolRow ds RowMd.plain), (3, ABlk.cells 65 [AVal.iface 24 (AVal.ptr 0 0 0
 0)]), (4, ABlk.cells 33 [AVal.int IntKind.u64 (0 : Int)]), (5, ABlk.cells 3 [AVal.int IntKind.i64 (7 : Int)]), (6, ABlk.cells 70 [AVal.sl 8 0 1 0 F.L.length none, AVal.int IntKind.i64 sp, AVal.bool
 F.beg, AVal.int IntKind.i64 (↑F.k : Int), AVal.int IntKind.i64 F.lk, AVal.str F.lb]), (7, ABlk.row 33 (intRow IntKind.u64) S RowMd.plain), (8, ABlk.row 5 byteRow F.L RowMd.plain)])) ∧ (moreM ds_1 fv =
 none → Q AExit.normal [(4, AVal.ptr 3 0 0 0), (5, AVal.ptr 4 0 0 0), (6, AVal.ptr 5 0 0 0), (10, AVal.ptr 6 0 0 0), (11, AVal.sl 7 0 1 0 S.length none), (12, AVal.func 16 [] [AVal.ptr 3 0 0 0,
 AVal.ptr 4 0 0 0, AVal.ptr 5 0 0 0]), (13, AVal.int IntKind.u64 (0 : Int)), (14, AVal.bool false)] (AHeap.mk 9 [(0, ABlk.cells 29 [AVal.sl 1 0 6 0 n none, AVal.sl 2 0 1 0 n none]), (1, ABlk.row 48
 cutRow cs RowMd.plain), (2, ABlk.row 4 boolRow ds RowMd.plain), (3, ABlk.cells 65 [AVal.iface 24 (AVal.ptr 0 0 0 0)]), (4, ABlk.cells 33 [AVal.int IntKind.u64 (0 : Int)]), (5, ABlk.cells 3 [AVal.int
 IntKind.i64 (7 : Int)]), (6, ABlk.cells 70 [AVal.sl 8 0 1 0 F.L.length none, AVal.int IntKind.i64 sp, AVal.bool F.beg, AVal.int IntKind.i64 (↑F.k : Int), AVal.int IntKind.i64 F.lk, AVal.str F.lb]),
 (7, ABlk.row 33 (intRow IntKind.u64) S RowMd.plain), (8, ABlk.row 5 byteRow F.L RowMd.plain)]))) := by kernel_rfl
set_option maxRecDepth 100000 in
theorem w_f9_00 (n : Nat) (sp : Int) (cs : List CutR) (ds : List BoolR) (fv : Int) (F : FSt) (no : Int) (K : Out → AHeap → Prop) : (wpC (TX2.ctx Try.prog) 400 9 3 (seqR (tailN 5 fillI)) (g00 n sp cs ds fv F [(13, .int .u64 no)]).1 (g00 n sp cs ds fv F [(13, .int .u64 no)]).2 (canQ 3 ts89 (endA (TX2.ctx Try.prog).P Try.f9 K))
) =  (K (Out.ret (AVal.tup [AVal.str [], AVal.nils])) (AHeap.mk 3 [(0, ABlk.cells 29 [AVal.sl 1 0 6 0 n none, AVal.sl 2 0 1 0 n none]), (1, ABlk.row 48 cutRow cs RowMd.plain), (2, ABlk.row 4 boolRow ds
 RowMd.plain)])) := by kernel_rfl
set_option maxRecDepth 100000 in
theorem w_f9_10 (n : Nat) (sp : Int) (cs : List CutR) (ds : List BoolR) (fv : Int) (F : FSt) (no : Int) (K : Out → AHeap → Prop) : (wpC (TX2.ctx Try.prog) 400 9 3 (seqR (tailN 5 fillI)) (g10 n sp cs ds fv F [(13, .int .u64 no)]).1 (g10 n sp cs ds fv F [(13, .int .u64 no)]).2 (canQ 3 ts89 (endA (TX2.ctx Try.prog).P Try.f9 K))
) =  (obl (decide (0 + F.L.length ≤ F.L.length)) (K (Out.ret (AVal.tup [AVal.str (List.take F.L.length (List.drop 0 F.L)), AVal.nils])) (AHeap.mk 3 [(0, ABlk.cells 29 [AVal.sl 1 0 6 0 n none, AVal.sl 2 0 1
 0 n none]), (1, ABlk.row 48 cutRow cs RowMd.plain), (2, ABlk.row 4 boolRow ds RowMd.plain)]))) := by kernel_rfl
set_option maxRecDepth 100000 in
theorem w_f9_11 (n : Nat) (sp : Int) (cs : List CutR) (ds : List BoolR) (fv : Int) (F : FSt) (S : List Int) (no : Int) (K : Out → AHeap → Prop) : (wpC (TX2.ctx Try.prog) 400 9 3 (seqR (tailN 5 fillI)) (g11 n sp cs ds fv F S [(13, .int .u64 no)]).1 (g11 n sp cs ds fv F S [(13, .int .u64 no)]).2 (canQ 3 ts89 (endA (TX2.ctx Try.prog).P Try.f9 K))
) =  (obl (decide (0 + F.L.length ≤ F.L.length)) (K (Out.ret (AVal.tup [AVal.str (List.take F.L.length (List.drop 0 F.L)), AVal.sl 3 0 1 0 S.length none])) (AHeap.mk 4 [(0, ABlk.cells 29 [AVal.sl 1 0 6 0 n
 none, AVal.sl 2 0 1 0 n none]), (1, ABlk.row 48 cutRow cs RowMd.plain), (2, ABlk.row 4 boolRow ds RowMd.plain), (3, ABlk.row 33 (intRow IntKind.u64) S RowMd.plain)]))) := by kernel_rfl
end Go.Proofs.Ytjacnjecggedhaa
