/-
  Texts for RowFillFits: of the reckoner, walks, contracts and plain laws that its row stands on.
-/
import Derived.Test.YtjacnjecggedhaaFb10
import Derived.Test.YtjacnjecggedhaaFb11
import Derived.Test.YtjacnjecggedhaaFb4
namespace Go.Proofs.Ytjacnjecggedhaa
set_option linter.unusedVariables false
set_option linter.unusedSimpArgs false
open Go.RowKit Ev
set_option maxRecDepth 100000 in
theorem w_allpre (s : List UInt8) (KK : Env → AHeap → Prop) : (wpC (TE.ctx Try.prog) 60 13 0 (seqL (bodyC Try.f13)) (env0 [.str s] 0) ⟨0, []⟩ (fun x E H => match x with | .normal => wpC (TE.ctx Try.prog) 60 13 0 (seqL (seqR (bodyC Try.f13))) E H (fun x E H => match x with | .normal => wpC (TE.ctx Try.prog) 60 13 0 (seqL (seqL (seqR (seqR (bodyC Try.f13))))) E H (fun x E H => match x with | .normal => KK E H | _ => False) | _ => False) | _ => False)
) = (KK [(8, AVal.func 27 [] [AVal.ptr 3 0 0 0]), (7, AVal.str s), (4, AVal.ptr 2 0 0 0), (3, AVal.ptr 1 0 0 0), (2, AVal.ptr 0 0 0 0), (0, AVal.str s)] (AHeap.mk 4 [(3, ABlk.cells 9 [AVal.str s]), (2,
 ABlk.cells 39 [AVal.nils]), (1, ABlk.cells 40 [AVal.int IntKind.i64 (0 : Int)]), (0, ABlk.cells 39 [AVal.nils])])) := by kernel_rfl
end Go.Proofs.Ytjacnjecggedhaa
namespace Go.Proofs.Ytjacnjecggedhaa
set_option linter.unusedVariables false
set_option linter.unusedSimpArgs false
open Go.RowKit Ev
set_option maxRecDepth 100000 in
theorem w_allround_nil (s0 s : List UInt8) (QQ : AExit → Env → AHeap → Option Code → Prop) : (wpY (TE.ctx Try.prog) 4 (roundA (TE.ctx Try.prog) 60 13 ((8, .func 27 [] [.ptr 3 0 0 0]) :: (7, .str s0) :: (4, .ptr 2 0 0 0) :: (3, .ptr 1 0 0 0) :: (2, .ptr 0 0 0 0) :: (0, .str s0) :: []) [9, 10] (rfAssign (blkC (seqR (seqL (seqR (seqR (bodyC Try.f13))))))) (rfBody (blkC (seqR (seqL (seqR (seqR (bodyC Try.f13)))))))) 60 27 (lpC (blkC (bodyC Try.f27))) [(0, .yld 4), (1, .ptr 3 0 0 0)] ⟨6, [(3, .cells 9 [.str s]), (2, .cells 39 [.nils]), (1, .cells 40 [.int .i64 0]), (0, .cells 39 [.nils])]⟩ none QQ
) = (obl (decide (s.length ≤ 9223372036854775000)) (branch (decide ((dec s).e = (5 : Int))) (QQ AExit.ret [(24, AVal.bool true), (23, AVal.tup []), (21, AVal.bool true), (22, AVal.tup []), (21, AVal.bool
 true), (21, AVal.bool true), (20, AVal.bool true), (19, AVal.tup []), (14, AVal.bool true), (18, AVal.tup []), (14, AVal.bool true), (17, AVal.tup []), (14, AVal.bool true), (16, AVal.tup []), (14,
 AVal.bool true), (15, AVal.tup []), (14, AVal.bool true), (14, AVal.bool (decide ((dec s).e = (5 : Int)))), (13, AVal.bool (decide ((dec s).e = (5 : Int)))), (12, AVal.int IntKind.i64 (dec s).e), (5,
 AVal.int IntKind.i64 (dec s).e), (4, AVal.int IntKind.i64 (dec s).n), (3, AVal.ptr 6 0 0 0), (11, AVal.int IntKind.i64 (dec s).e), (10, AVal.int IntKind.i64 (dec s).n), (9, AVal.agg [AVal.bool (dec
 s).p.st, AVal.bool (dec s).p.en, AVal.int IntKind.i64 (dec s).p.id, AVal.int IntKind.i64 (dec s).p.total, AVal.int IntKind.i64 (dec s).p.typ, AVal.int IntKind.i64 (dec s).p.k, AVal.str (dec s).p.lb,
 AVal.str (dec s).p.data, AVal.str (dec s).p.sum]), (6, AVal.tup [AVal.agg [AVal.bool (dec s).p.st, AVal.bool (dec s).p.en, AVal.int IntKind.i64 (dec s).p.id, AVal.int IntKind.i64 (dec s).p.total,
 AVal.int IntKind.i64 (dec s).p.typ, AVal.int IntKind.i64 (dec s).p.k, AVal.str (dec s).p.lb, AVal.str (dec s).p.data, AVal.str (dec s).p.sum], AVal.int IntKind.i64 (dec s).n, AVal.int IntKind.i64 (dec
 s).e]), (8, AVal.tup [AVal.agg [AVal.bool (dec s).p.st, AVal.bool (dec s).p.en, AVal.int IntKind.i64 (dec s).p.id, AVal.int IntKind.i64 (dec s).p.total, AVal.int IntKind.i64 (dec s).p.typ, AVal.int
 IntKind.i64 (dec s).p.k, AVal.str (dec s).p.lb, AVal.str (dec s).p.data, AVal.str (dec s).p.sum], AVal.int IntKind.i64 (dec s).n, AVal.int IntKind.i64 (dec s).e]), (7, AVal.str s), (0, AVal.yld 4),
 (1, AVal.ptr 3 0 0 0)] (AHeap.mk 7 [(6, ABlk.cells 46 [AVal.bool (dec s).p.st, AVal.bool (dec s).p.en, AVal.int IntKind.i64 (dec s).p.id, AVal.int IntKind.i64 (dec s).p.total, AVal.int IntKind.i64
 (dec s).p.typ, AVal.int IntKind.i64 (dec s).p.k, AVal.str (dec s).p.lb, AVal.str (dec s).p.data, AVal.str (dec s).p.sum]), (6, ABlk.cells 46 [AVal.bool false, AVal.bool false, AVal.int IntKind.i64 (0
 : Int), AVal.int IntKind.i64 (0 : Int), AVal.int IntKind.i64 (0 : Int), AVal.int IntKind.i64 (0 : Int), AVal.str [], AVal.str [], AVal.str []]), (3, ABlk.cells 9 [AVal.str s]), (2, ABlk.cells 39
 [AVal.nils]), (1, ABlk.cells 40 [AVal.int IntKind.i64 (0 : Int)]), (0, ABlk.cells 39 [AVal.nils])]) none) (branch (!decide ((dec s).e = (0 : Int))) (QQ AExit.ret [(24, AVal.bool true), (23, AVal.tup
 []), (21, AVal.bool true), (22, AVal.tup []), (21, AVal.bool true), (21, AVal.bool true), (20, AVal.bool true), (19, AVal.bool true), (14, AVal.bool false), (18, AVal.bool false), (14, AVal.bool
 false), (17, AVal.int IntKind.i64 (dec s).e), (14, AVal.bool false), (16, AVal.agg [AVal.bool (dec s).p.st, AVal.bool (dec s).p.en, AVal.int IntKind.i64 (dec s).p.id, AVal.int IntKind.i64 (dec
 s).p.total, AVal.int IntKind.i64 (dec s).p.typ, AVal.int IntKind.i64 (dec s).p.k, AVal.str (dec s).p.lb, AVal.str (dec s).p.data, AVal.str (dec s).p.sum]), (14, AVal.bool false), (15, AVal.yld 4),
 (14, AVal.bool false), (14, AVal.bool (decide ((dec s).e = (5 : Int)))), (13, AVal.bool (decide ((dec s).e = (5 : Int)))), (12, AVal.int IntKind.i64 (dec s).e), (5, AVal.int IntKind.i64 (dec s).e),
 (4, AVal.int IntKind.i64 (dec s).n), (3, AVal.ptr 6 0 0 0), (11, AVal.int IntKind.i64 (dec s).e), (10, AVal.int IntKind.i64 (dec s).n), (9, AVal.agg [AVal.bool (dec s).p.st, AVal.bool (dec s).p.en,
 AVal.int IntKind.i64 (dec s).p.id, AVal.int IntKind.i64 (dec s).p.total, AVal.int IntKind.i64 (dec s).p.typ, AVal.int IntKind.i64 (dec s).p.k, AVal.str (dec s).p.lb, AVal.str (dec s).p.data, AVal.str
 (dec s).p.sum]), (6, AVal.tup [AVal.agg [AVal.bool (dec s).p.st, AVal.bool (dec s).p.en, AVal.int IntKind.i64 (dec s).p.id, AVal.int IntKind.i64 (dec s).p.total, AVal.int IntKind.i64 (dec s).p.typ,
 AVal.int IntKind.i64 (dec s).p.k, AVal.str (dec s).p.lb, AVal.str (dec s).p.data, AVal.str (dec s).p.sum], AVal.int IntKind.i64 (dec s).n, AVal.int IntKind.i64 (dec s).e]), (8, AVal.tup [AVal.agg
 [AVal.bool (dec s).p.st, AVal.bool (dec s).p.en, AVal.int IntKind.i64 (dec s).p.id, AVal.int IntKind.i64 (dec s).p.total, AVal.int IntKind.i64 (dec s).p.typ, AVal.int IntKind.i64 (dec s).p.k, AVal.str
 (dec s).p.lb, AVal.str (dec s).p.data, AVal.str (dec s).p.sum], AVal.int IntKind.i64 (dec s).n, AVal.int IntKind.i64 (dec s).e]), (7, AVal.str s), (0, AVal.yld 4), (1, AVal.ptr 3 0 0 0)] (AHeap.mk 8
 [(1, ABlk.cells 40 [AVal.int IntKind.i64 (dec s).e]), (0, ABlk.cells 39 [AVal.nils]), (7, ABlk.cells 46 [AVal.bool (dec s).p.st, AVal.bool (dec s).p.en, AVal.int IntKind.i64 (dec s).p.id, AVal.int
 IntKind.i64 (dec s).p.total, AVal.int IntKind.i64 (dec s).p.typ, AVal.int IntKind.i64 (dec s).p.k, AVal.str (dec s).p.lb, AVal.str (dec s).p.data, AVal.str (dec s).p.sum]), (7, ABlk.cells 46
 [AVal.bool false, AVal.bool false, AVal.int IntKind.i64 (0 : Int), AVal.int IntKind.i64 (0 : Int), AVal.int IntKind.i64 (0 : Int), AVal.int IntKind.i64 (0 : Int), AVal.str [], AVal.str [], AVal.str
 []]), (6, ABlk.cells 46 [AVal.bool (dec s).p.st, AVal.bool (dec s).p.en, AVal.int IntKind.i64 (dec s).p.id, AVal.int IntKind.i64 (dec s).p.total, AVal.int IntKind.i64 (dec s).p.typ, AVal.int
 IntKind.i64 (dec s).p.k, AVal.str (dec s).p.lb, AVal.str (dec s).p.data, AVal.str (dec s).p.sum]), (6, ABlk.cells 46 [AVal.bool false, AVal.bool false, AVal.int IntKind.i64 (0 : Int), AVal.int
 IntKind.i64 (0 : Int), AVal.int IntKind.i64 (0 : Int), AVal.int IntKind.i64 (0 : Int), AVal.str [], AVal.str [], AVal.str []]), (3, ABlk.cells 9 [AVal.str s]), (2, ABlk.cells 39 [AVal.nils]), (1,
 ABlk.cells 40 [AVal.int IntKind.i64 (0 : Int)]), (0, ABlk.cells 39 [AVal.nils])]) (some Code.ret)) (branch (!decide ((dec s).e = (0 : Int))) (QQ AExit.ret [(24, AVal.bool !decide ((dec s).e = (0 :
 Int))), (23, AVal.bool !decide ((dec s).e = (0 : Int))), (21, AVal.bool false), (22, AVal.int IntKind.i64 (dec s).e), (21, AVal.bool false), (21, AVal.bool false), (20, AVal.bool false), (19,
 AVal.bool false), (14, AVal.bool false), (18, AVal.bool true), (14, AVal.bool false), (17, AVal.int IntKind.i64 (dec s).e), (14, AVal.bool false), (16, AVal.agg [AVal.bool (dec s).p.st, AVal.bool (dec
 s).p.en, AVal.int IntKind.i64 (dec s).p.id, AVal.int IntKind.i64 (dec s).p.total, AVal.int IntKind.i64 (dec s).p.typ, AVal.int IntKind.i64 (dec s).p.k, AVal.str (dec s).p.lb, AVal.str (dec s).p.data,
 AVal.str (dec s).p.sum]), (14, AVal.bool false), (15, AVal.yld 4), (14, AVal.bool false), (14, AVal.bool (decide ((dec s).e = (5 : Int)))), (13, AVal.bool (decide ((dec s).e = (5 : Int)))), (12,
 AVal.int IntKind.i64 (dec s).e), (5, AVal.int IntKind.i64 (dec s).e), (4, AVal.int IntKind.i64 (dec s).n), (3, AVal.ptr 6 0 0 0), (11, AVal.int IntKind.i64 (dec s).e), (10, AVal.int IntKind.i64 (dec
 s).n), (9, AVal.agg [AVal.bool (dec s).p.st, AVal.bool (dec s).p.en, AVal.int IntKind.i64 (dec s).p.id, AVal.int IntKind.i64 (dec s).p.total, AVal.int IntKind.i64 (dec s).p.typ, AVal.int IntKind.i64
 (dec s).p.k, AVal.str (dec s).p.lb, AVal.str (dec s).p.data, AVal.str (dec s).p.sum]), (6, AVal.tup [AVal.agg [AVal.bool (dec s).p.st, AVal.bool (dec s).p.en, AVal.int IntKind.i64 (dec s).p.id,
 AVal.int IntKind.i64 (dec s).p.total, AVal.int IntKind.i64 (dec s).p.typ, AVal.int IntKind.i64 (dec s).p.k, AVal.str (dec s).p.lb, AVal.str (dec s).p.data, AVal.str (dec s).p.sum], AVal.int
 IntKind.i64 (dec s).n, AVal.int IntKind.i64 (dec s).e]), (8, AVal.tup [AVal.agg [AVal.bool (dec s).p.st, AVal.bool (dec s).p.en, AVal.int IntKind.i64 (dec s).p.id, AVal.int IntKind.i64 (dec
 s).p.total, AVal.int IntKind.i64 (dec s).p.typ, AVal.int IntKind.i64 (dec s).p.k, AVal.str (dec s).p.lb, AVal.str (dec s).p.data, AVal.str (dec s).p.sum], AVal.int IntKind.i64 (dec s).n, AVal.int
 IntKind.i64 (dec s).e]), (7, AVal.str s), (0, AVal.yld 4), (1, AVal.ptr 3 0 0 0)] (AHeap.mk 10 [(2, ABlk.cells 39 [AVal.sl 9 0 9 0 1 none]), (9, ABlk.row 46 pieceRow [PieceR.mk (dec s).p.st (dec
 s).p.en (dec s).p.id (dec s).p.total (dec s).p.typ (dec s).p.k (dec s).p.lb (dec s).p.data (dec s).p.sum] RowMd.plain), (8, ABlk.cells 46 [AVal.bool (dec s).p.st, AVal.bool (dec s).p.en, AVal.int
 IntKind.i64 (dec s).p.id, AVal.int IntKind.i64 (dec s).p.total, AVal.int IntKind.i64 (dec s).p.typ, AVal.int IntKind.i64 (dec s).p.k, AVal.str (dec s).p.lb, AVal.str (dec s).p.data, AVal.str (dec
 s).p.sum]), (7, ABlk.cells 46 [AVal.bool (dec s).p.st, AVal.bool (dec s).p.en, AVal.int IntKind.i64 (dec s).p.id, AVal.int IntKind.i64 (dec s).p.total, AVal.int IntKind.i64 (dec s).p.typ, AVal.int
 IntKind.i64 (dec s).p.k, AVal.str (dec s).p.lb, AVal.str (dec s).p.data, AVal.str (dec s).p.sum]), (7, ABlk.cells 46 [AVal.bool false, AVal.bool false, AVal.int IntKind.i64 (0 : Int), AVal.int
 IntKind.i64 (0 : Int), AVal.int IntKind.i64 (0 : Int), AVal.int IntKind.i64 (0 : Int), AVal.str [], AVal.str [], AVal.str []]), (6, ABlk.cells 46 [AVal.bool (dec s).p.st, AVal.bool (dec s).p.en,
 AVal.int IntKind.i64 (dec s).p.id, AVal.int IntKind.i64 (dec s).p.total, AVal.int IntKind.i64 (dec s).p.typ, AVal.int IntKind.i64 (dec s).p.k, AVal.str (dec s).p.lb, AVal.str (dec s).p.data, AVal.str
 (dec s).p.sum]), (6, ABlk.cells 46 [AVal.bool false, AVal.bool false, AVal.int IntKind.i64 (0 : Int), AVal.int IntKind.i64 (0 : Int), AVal.int IntKind.i64 (0 : Int), AVal.int IntKind.i64 (0 : Int),
 AVal.str [], AVal.str [], AVal.str []]), (3, ABlk.cells 9 [AVal.str s]), (2, ABlk.cells 39 [AVal.nils]), (1, ABlk.cells 40 [AVal.int IntKind.i64 (0 : Int)]), (0, ABlk.cells 39 [AVal.nils])]) none)
 (obl (decide ((0 : Int) ≤ (dec s).n ∧ (dec s).n ≤ (↑s.length : Int))) (QQ AExit.normal [(27, AVal.str (List.drop (dec s).n.toNat s)), (26, AVal.int IntKind.i64 (dec s).n), (25, AVal.str s), (24,
 AVal.bool !decide ((dec s).e = (0 : Int))), (23, AVal.bool !decide ((dec s).e = (0 : Int))), (21, AVal.bool false), (22, AVal.int IntKind.i64 (dec s).e), (21, AVal.bool false), (21, AVal.bool false),
 (20, AVal.bool false), (19, AVal.bool false), (14, AVal.bool false), (18, AVal.bool true), (14, AVal.bool false), (17, AVal.int IntKind.i64 (dec s).e), (14, AVal.bool false), (16, AVal.agg [AVal.bool
 (dec s).p.st, AVal.bool (dec s).p.en, AVal.int IntKind.i64 (dec s).p.id, AVal.int IntKind.i64 (dec s).p.total, AVal.int IntKind.i64 (dec s).p.typ, AVal.int IntKind.i64 (dec s).p.k, AVal.str (dec
 s).p.lb, AVal.str (dec s).p.data, AVal.str (dec s).p.sum]), (14, AVal.bool false), (15, AVal.yld 4), (14, AVal.bool false), (14, AVal.bool (decide ((dec s).e = (5 : Int)))), (13, AVal.bool (decide
 ((dec s).e = (5 : Int)))), (12, AVal.int IntKind.i64 (dec s).e), (5, AVal.int IntKind.i64 (dec s).e), (4, AVal.int IntKind.i64 (dec s).n), (3, AVal.ptr 6 0 0 0), (11, AVal.int IntKind.i64 (dec s).e),
 (10, AVal.int IntKind.i64 (dec s).n), (9, AVal.agg [AVal.bool (dec s).p.st, AVal.bool (dec s).p.en, AVal.int IntKind.i64 (dec s).p.id, AVal.int IntKind.i64 (dec s).p.total, AVal.int IntKind.i64 (dec
 s).p.typ, AVal.int IntKind.i64 (dec s).p.k, AVal.str (dec s).p.lb, AVal.str (dec s).p.data, AVal.str (dec s).p.sum]), (6, AVal.tup [AVal.agg [AVal.bool (dec s).p.st, AVal.bool (dec s).p.en, AVal.int
 IntKind.i64 (dec s).p.id, AVal.int IntKind.i64 (dec s).p.total, AVal.int IntKind.i64 (dec s).p.typ, AVal.int IntKind.i64 (dec s).p.k, AVal.str (dec s).p.lb, AVal.str (dec s).p.data, AVal.str (dec
 s).p.sum], AVal.int IntKind.i64 (dec s).n, AVal.int IntKind.i64 (dec s).e]), (8, AVal.tup [AVal.agg [AVal.bool (dec s).p.st, AVal.bool (dec s).p.en, AVal.int IntKind.i64 (dec s).p.id, AVal.int
 IntKind.i64 (dec s).p.total, AVal.int IntKind.i64 (dec s).p.typ, AVal.int IntKind.i64 (dec s).p.k, AVal.str (dec s).p.lb, AVal.str (dec s).p.data, AVal.str (dec s).p.sum], AVal.int IntKind.i64 (dec
 s).n, AVal.int IntKind.i64 (dec s).e]), (7, AVal.str s), (0, AVal.yld 4), (1, AVal.ptr 3 0 0 0)] (AHeap.mk 10 [(3, ABlk.cells 9 [AVal.str (List.drop (dec s).n.toNat s)]), (2, ABlk.cells 39 [AVal.sl 9
 0 9 0 1 none]), (9, ABlk.row 46 pieceRow [PieceR.mk (dec s).p.st (dec s).p.en (dec s).p.id (dec s).p.total (dec s).p.typ (dec s).p.k (dec s).p.lb (dec s).p.data (dec s).p.sum] RowMd.plain), (8,
 ABlk.cells 46 [AVal.bool (dec s).p.st, AVal.bool (dec s).p.en, AVal.int IntKind.i64 (dec s).p.id, AVal.int IntKind.i64 (dec s).p.total, AVal.int IntKind.i64 (dec s).p.typ, AVal.int IntKind.i64 (dec
 s).p.k, AVal.str (dec s).p.lb, AVal.str (dec s).p.data, AVal.str (dec s).p.sum]), (7, ABlk.cells 46 [AVal.bool (dec s).p.st, AVal.bool (dec s).p.en, AVal.int IntKind.i64 (dec s).p.id, AVal.int
 IntKind.i64 (dec s).p.total, AVal.int IntKind.i64 (dec s).p.typ, AVal.int IntKind.i64 (dec s).p.k, AVal.str (dec s).p.lb, AVal.str (dec s).p.data, AVal.str (dec s).p.sum]), (7, ABlk.cells 46
 [AVal.bool false, AVal.bool false, AVal.int IntKind.i64 (0 : Int), AVal.int IntKind.i64 (0 : Int), AVal.int IntKind.i64 (0 : Int), AVal.int IntKind.i64 (0 : Int), AVal.str [], AVal.str [], AVal.str
 []]), (6, ABlk.cells 46 [AVal.bool (dec s).p.st, AVal.bool (dec s).p.en, AVal.int IntKind.i64 (dec s).p.id, AVal.int IntKind.i64 (dec s).p.total, AVal.int IntKind.i64 (dec s).p.typ, AVal.int
 IntKind.i64 (dec s).p.k, AVal.str (dec s).p.lb, AVal.str (dec s).p.data, AVal.str (dec s).p.sum]), (6, ABlk.cells 46 [AVal.bool false, AVal.bool false, AVal.int IntKind.i64 (0 : Int), AVal.int
 IntKind.i64 (0 : Int), AVal.int IntKind.i64 (0 : Int), AVal.int IntKind.i64 (0 : Int), AVal.str [], AVal.str [], AVal.str []]), (3, ABlk.cells 9 [AVal.str s]), (2, ABlk.cells 39 [AVal.nils]), (1,
 ABlk.cells 40 [AVal.int IntKind.i64 (0 : Int)]), (0, ABlk.cells 39 [AVal.nils])]) none)))))) := by kernel_rfl
set_option maxRecDepth 100000 in
theorem w_allround_cons (s0 s : List UInt8) (acc : List PieceR) (QQ : AExit → Env → AHeap → Option Code → Prop) : (wpY (TE.ctx Try.prog) 4 (roundA (TE.ctx Try.prog) 60 13 ((8, .func 27 [] [.ptr 3 0 0 0]) :: (7, .str s0) :: (4, .ptr 2 0 0 0) :: (3, .ptr 1 0 0 0) :: (2, .ptr 0 0 0 0) :: (0, .str s0) :: []) [9, 10] (rfAssign (blkC (seqR (seqL (seqR (seqR (bodyC Try.f13))))))) (rfBody (blkC (seqR (seqL (seqR (seqR (bodyC Try.f13)))))))) 60 27 (lpC (blkC (bodyC Try.f27))) [(0, .yld 4), (1, .ptr 3 0 0 0)] ⟨6, [(5, .row 46 pieceRow acc .plain), (3, .cells 9 [.str s]), (2, .cells 39 [.sl 5 0 9 0 acc.length none]), (1, .cells 40 [.int .i64 0]), (0, .cells 39 [.nils])]⟩ none QQ
) = (obl (decide (s.length ≤ 9223372036854775000)) (branch (decide ((dec s).e = (5 : Int))) (QQ AExit.ret [(24, AVal.bool true), (23, AVal.tup []), (21, AVal.bool true), (22, AVal.tup []), (21, AVal.bool
 true), (21, AVal.bool true), (20, AVal.bool true), (19, AVal.tup []), (14, AVal.bool true), (18, AVal.tup []), (14, AVal.bool true), (17, AVal.tup []), (14, AVal.bool true), (16, AVal.tup []), (14,
 AVal.bool true), (15, AVal.tup []), (14, AVal.bool true), (14, AVal.bool (decide ((dec s).e = (5 : Int)))), (13, AVal.bool (decide ((dec s).e = (5 : Int)))), (12, AVal.int IntKind.i64 (dec s).e), (5,
 AVal.int IntKind.i64 (dec s).e), (4, AVal.int IntKind.i64 (dec s).n), (3, AVal.ptr 6 0 0 0), (11, AVal.int IntKind.i64 (dec s).e), (10, AVal.int IntKind.i64 (dec s).n), (9, AVal.agg [AVal.bool (dec
 s).p.st, AVal.bool (dec s).p.en, AVal.int IntKind.i64 (dec s).p.id, AVal.int IntKind.i64 (dec s).p.total, AVal.int IntKind.i64 (dec s).p.typ, AVal.int IntKind.i64 (dec s).p.k, AVal.str (dec s).p.lb,
 AVal.str (dec s).p.data, AVal.str (dec s).p.sum]), (6, AVal.tup [AVal.agg [AVal.bool (dec s).p.st, AVal.bool (dec s).p.en, AVal.int IntKind.i64 (dec s).p.id, AVal.int IntKind.i64 (dec s).p.total,
 AVal.int IntKind.i64 (dec s).p.typ, AVal.int IntKind.i64 (dec s).p.k, AVal.str (dec s).p.lb, AVal.str (dec s).p.data, AVal.str (dec s).p.sum], AVal.int IntKind.i64 (dec s).n, AVal.int IntKind.i64 (dec
 s).e]), (8, AVal.tup [AVal.agg [AVal.bool (dec s).p.st, AVal.bool (dec s).p.en, AVal.int IntKind.i64 (dec s).p.id, AVal.int IntKind.i64 (dec s).p.total, AVal.int IntKind.i64 (dec s).p.typ, AVal.int
 IntKind.i64 (dec s).p.k, AVal.str (dec s).p.lb, AVal.str (dec s).p.data, AVal.str (dec s).p.sum], AVal.int IntKind.i64 (dec s).n, AVal.int IntKind.i64 (dec s).e]), (7, AVal.str s), (0, AVal.yld 4),
 (1, AVal.ptr 3 0 0 0)] (AHeap.mk 7 [(6, ABlk.cells 46 [AVal.bool (dec s).p.st, AVal.bool (dec s).p.en, AVal.int IntKind.i64 (dec s).p.id, AVal.int IntKind.i64 (dec s).p.total, AVal.int IntKind.i64
 (dec s).p.typ, AVal.int IntKind.i64 (dec s).p.k, AVal.str (dec s).p.lb, AVal.str (dec s).p.data, AVal.str (dec s).p.sum]), (6, ABlk.cells 46 [AVal.bool false, AVal.bool false, AVal.int IntKind.i64 (0
 : Int), AVal.int IntKind.i64 (0 : Int), AVal.int IntKind.i64 (0 : Int), AVal.int IntKind.i64 (0 : Int), AVal.str [], AVal.str [], AVal.str []]), (5, ABlk.row 46 pieceRow acc RowMd.plain), (3,
 ABlk.cells 9 [AVal.str s]), (2, ABlk.cells 39 [AVal.sl 5 0 9 0 acc.length none]), (1, ABlk.cells 40 [AVal.int IntKind.i64 (0 : Int)]), (0, ABlk.cells 39 [AVal.nils])]) none) (branch (!decide ((dec
 s).e = (0 : Int))) (QQ AExit.ret [(24, AVal.bool true), (23, AVal.tup []), (21, AVal.bool true), (22, AVal.tup []), (21, AVal.bool true), (21, AVal.bool true), (20, AVal.bool true), (19, AVal.bool
 true), (14, AVal.bool false), (18, AVal.bool false), (14, AVal.bool false), (17, AVal.int IntKind.i64 (dec s).e), (14, AVal.bool false), (16, AVal.agg [AVal.bool (dec s).p.st, AVal.bool (dec s).p.en,
 AVal.int IntKind.i64 (dec s).p.id, AVal.int IntKind.i64 (dec s).p.total, AVal.int IntKind.i64 (dec s).p.typ, AVal.int IntKind.i64 (dec s).p.k, AVal.str (dec s).p.lb, AVal.str (dec s).p.data, AVal.str
 (dec s).p.sum]), (14, AVal.bool false), (15, AVal.yld 4), (14, AVal.bool false), (14, AVal.bool (decide ((dec s).e = (5 : Int)))), (13, AVal.bool (decide ((dec s).e = (5 : Int)))), (12, AVal.int
 IntKind.i64 (dec s).e), (5, AVal.int IntKind.i64 (dec s).e), (4, AVal.int IntKind.i64 (dec s).n), (3, AVal.ptr 6 0 0 0), (11, AVal.int IntKind.i64 (dec s).e), (10, AVal.int IntKind.i64 (dec s).n), (9,
 AVal.agg [AVal.bool (dec s).p.st, AVal.bool (dec s).p.en, AVal.int IntKind.i64 (dec s).p.id, AVal.int IntKind.i64 (dec s).p.total, AVal.int IntKind.i64 (dec s).p.typ, AVal.int IntKind.i64 (dec s).p.k,
 AVal.str (dec s).p.lb, AVal.str (dec s).p.data, AVal.str (dec s).p.sum]), (6, AVal.tup [AVal.agg [AVal.bool (dec s).p.st, AVal.bool (dec s).p.en, AVal.int IntKind.i64 (dec s).p.id, AVal.int
 IntKind.i64 (dec s).p.total, AVal.int IntKind.i64 (dec s).p.typ, AVal.int IntKind.i64 (dec s).p.k, AVal.str (dec s).p.lb, AVal.str (dec s).p.data, AVal.str (dec s).p.sum], AVal.int IntKind.i64 (dec
 s).n, AVal.int IntKind.i64 (dec s).e]), (8, AVal.tup [AVal.agg [AVal.bool (dec s).p.st, AVal.bool (dec s).p.en, AVal.int IntKind.i64 (dec s).p.id, AVal.int IntKind.i64 (dec s).p.total, AVal.int
 IntKind.i64 (dec s).p.typ, AVal.int IntKind.i64 (dec s).p.k, AVal.str (dec s).p.lb, AVal.str (dec s).p.data, AVal.str (dec s).p.sum], AVal.int IntKind.i64 (dec s).n, AVal.int IntKind.i64 (dec s).e]),
 (7, AVal.str s), (0, AVal.yld 4), (1, AVal.ptr 3 0 0 0)] (AHeap.mk 8 [(1, ABlk.cells 40 [AVal.int IntKind.i64 (dec s).e]), (0, ABlk.cells 39 [AVal.sl 5 0 9 0 acc.length none]), (7, ABlk.cells 46
 [AVal.bool (dec s).p.st, AVal.bool (dec s).p.en, AVal.int IntKind.i64 (dec s).p.id, AVal.int IntKind.i64 (dec s).p.total, AVal.int IntKind.i64 (dec s).p.typ, AVal.int IntKind.i64 (dec s).p.k, AVal.str
 (dec s).p.lb, AVal.str (dec s).p.data, AVal.str (dec s).p.sum]), (7, ABlk.cells 46 [AVal.bool false, AVal.bool false, AVal.int IntKind.i64 (0 : Int), AVal.int IntKind.i64 (0 : Int), AVal.int
 IntKind.i64 (0 : Int), AVal.int IntKind.i64 (0 : Int), AVal.str [], AVal.str [], AVal.str []]), (6, ABlk.cells 46 [AVal.bool (dec s).p.st, AVal.bool (dec s).p.en, AVal.int IntKind.i64 (dec s).p.id,
 AVal.int IntKind.i64 (dec s).p.total, AVal.int IntKind.i64 (dec s).p.typ, AVal.int IntKind.i64 (dec s).p.k, AVal.str (dec s).p.lb, AVal.str (dec s).p.data, AVal.str (dec s).p.sum]), (6, ABlk.cells 46
 [AVal.bool false, AVal.bool false, AVal.int IntKind.i64 (0 : Int), AVal.int IntKind.i64 (0 : Int), AVal.int IntKind.i64 (0 : Int), AVal.int IntKind.i64 (0 : Int), AVal.str [], AVal.str [], AVal.str
 []]), (5, ABlk.row 46 pieceRow acc RowMd.plain), (3, ABlk.cells 9 [AVal.str s]), (2, ABlk.cells 39 [AVal.sl 5 0 9 0 acc.length none]), (1, ABlk.cells 40 [AVal.int IntKind.i64 (0 : Int)]), (0,
 ABlk.cells 39 [AVal.nils])]) (some Code.ret)) (obl (true && decide (acc.length = acc.length ∧ 9 = 9 ∧ 9 = 9 ∧ 0 < 9 ∧ (acc ++ [PieceR.mk (dec s).p.st (dec s).p.en (dec s).p.id (dec s).p.total (dec
 s).p.typ (dec s).p.k (dec s).p.lb (dec s).p.data (dec s).p.sum]).length ≤ 9223372036854775807 ∧ (acc ++ [PieceR.mk (dec s).p.st (dec s).p.en (dec s).p.id (dec s).p.total (dec s).p.typ (dec s).p.k (dec
 s).p.lb (dec s).p.data (dec s).p.sum]).length * 88 ≤ 140737488355328)) (branch (!decide ((dec s).e = (0 : Int))) (QQ AExit.ret [(24, AVal.bool !decide ((dec s).e = (0 : Int))), (23, AVal.bool !decide
 ((dec s).e = (0 : Int))), (21, AVal.bool false), (22, AVal.int IntKind.i64 (dec s).e), (21, AVal.bool false), (21, AVal.bool false), (20, AVal.bool false), (19, AVal.bool false), (14, AVal.bool
 false), (18, AVal.bool true), (14, AVal.bool false), (17, AVal.int IntKind.i64 (dec s).e), (14, AVal.bool false), (16, AVal.agg [AVal.bool (dec s).p.st, AVal.bool (dec s).p.en, AVal.int IntKind.i64
 (dec s).p.id, AVal.int IntKind.i64 (dec s).p.total, AVal.int IntKind.i64 (dec s).p.typ, AVal.int IntKind.i64 (dec s).p.k, AVal.str (dec s).p.lb, AVal.str (dec s).p.data, AVal.str (dec s).p.sum]), (14,
 AVal.bool false), (15, AVal.yld 4), (14, AVal.bool false), (14, AVal.bool (decide ((dec s).e = (5 : Int)))), (13, AVal.bool (decide ((dec s).e = (5 : Int)))), (12, AVal.int IntKind.i64 (dec s).e), (5,
 AVal.int IntKind.i64 (dec s).e), (4, AVal.int IntKind.i64 (dec s).n), (3, AVal.ptr 6 0 0 0), (11, AVal.int IntKind.i64 (dec s).e), (10, AVal.int IntKind.i64 (dec s).n), (9, AVal.agg [AVal.bool (dec
 s).p.st, AVal.bool (dec s).p.en, AVal.int IntKind.i64 (dec s).p.id, AVal.int IntKind.i64 (dec s).p.total, AVal.int IntKind.i64 (dec s).p.typ, AVal.int IntKind.i64 (dec s).p.k, AVal.str (dec s).p.lb,
 AVal.str (dec s).p.data, AVal.str (dec s).p.sum]), (6, AVal.tup [AVal.agg [AVal.bool (dec s).p.st, AVal.bool (dec s).p.en, AVal.int IntKind.i64 (dec s).p.id, AVal.int IntKind.i64 (dec s).p.total,
 AVal.int IntKind.i64 (dec s).p.typ, AVal.int IntKind.i64 (dec s).p.k, AVal.str (dec s).p.lb, AVal.str (dec s).p.data, AVal.str (dec s).p.sum], AVal.int IntKind.i64 (dec s).n, AVal.int IntKind.i64 (dec
 s).e]), (8, AVal.tup [AVal.agg [AVal.bool (dec s).p.st, AVal.bool (dec s).p.en, AVal.int IntKind.i64 (dec s).p.id, AVal.int IntKind.i64 (dec s).p.total, AVal.int IntKind.i64 (dec s).p.typ, AVal.int
 IntKind.i64 (dec s).p.k, AVal.str (dec s).p.lb, AVal.str (dec s).p.data, AVal.str (dec s).p.sum], AVal.int IntKind.i64 (dec s).n, AVal.int IntKind.i64 (dec s).e]), (7, AVal.str s), (0, AVal.yld 4),
 (1, AVal.ptr 3 0 0 0)] (AHeap.mk 10 [(2, ABlk.cells 39 [AVal.sl 9 0 9 0 (acc ++ [PieceR.mk (dec s).p.st (dec s).p.en (dec s).p.id (dec s).p.total (dec s).p.typ (dec s).p.k (dec s).p.lb (dec s).p.data
 (dec s).p.sum]).length none]), (9, ABlk.row 46 pieceRow (acc ++ [PieceR.mk (dec s).p.st (dec s).p.en (dec s).p.id (dec s).p.total (dec s).p.typ (dec s).p.k (dec s).p.lb (dec s).p.data (dec s).p.sum])
 RowMd.plain), (5, ABlk.dead), (8, ABlk.cells 46 [AVal.bool (dec s).p.st, AVal.bool (dec s).p.en, AVal.int IntKind.i64 (dec s).p.id, AVal.int IntKind.i64 (dec s).p.total, AVal.int IntKind.i64 (dec
 s).p.typ, AVal.int IntKind.i64 (dec s).p.k, AVal.str (dec s).p.lb, AVal.str (dec s).p.data, AVal.str (dec s).p.sum]), (7, ABlk.cells 46 [AVal.bool (dec s).p.st, AVal.bool (dec s).p.en, AVal.int
 IntKind.i64 (dec s).p.id, AVal.int IntKind.i64 (dec s).p.total, AVal.int IntKind.i64 (dec s).p.typ, AVal.int IntKind.i64 (dec s).p.k, AVal.str (dec s).p.lb, AVal.str (dec s).p.data, AVal.str (dec
 s).p.sum]), (7, ABlk.cells 46 [AVal.bool false, AVal.bool false, AVal.int IntKind.i64 (0 : Int), AVal.int IntKind.i64 (0 : Int), AVal.int IntKind.i64 (0 : Int), AVal.int IntKind.i64 (0 : Int),
 AVal.str [], AVal.str [], AVal.str []]), (6, ABlk.cells 46 [AVal.bool (dec s).p.st, AVal.bool (dec s).p.en, AVal.int IntKind.i64 (dec s).p.id, AVal.int IntKind.i64 (dec s).p.total, AVal.int
 IntKind.i64 (dec s).p.typ, AVal.int IntKind.i64 (dec s).p.k, AVal.str (dec s).p.lb, AVal.str (dec s).p.data, AVal.str (dec s).p.sum]), (6, ABlk.cells 46 [AVal.bool false, AVal.bool false, AVal.int
 IntKind.i64 (0 : Int), AVal.int IntKind.i64 (0 : Int), AVal.int IntKind.i64 (0 : Int), AVal.int IntKind.i64 (0 : Int), AVal.str [], AVal.str [], AVal.str []]), (5, ABlk.row 46 pieceRow acc
 RowMd.plain), (3, ABlk.cells 9 [AVal.str s]), (2, ABlk.cells 39 [AVal.sl 5 0 9 0 acc.length none]), (1, ABlk.cells 40 [AVal.int IntKind.i64 (0 : Int)]), (0, ABlk.cells 39 [AVal.nils])]) none) (obl
 (decide ((0 : Int) ≤ (dec s).n ∧ (dec s).n ≤ (↑s.length : Int))) (QQ AExit.normal [(27, AVal.str (List.drop (dec s).n.toNat s)), (26, AVal.int IntKind.i64 (dec s).n), (25, AVal.str s), (24, AVal.bool
 !decide ((dec s).e = (0 : Int))), (23, AVal.bool !decide ((dec s).e = (0 : Int))), (21, AVal.bool false), (22, AVal.int IntKind.i64 (dec s).e), (21, AVal.bool false), (21, AVal.bool false), (20,
 AVal.bool false), (19, AVal.bool false), (14, AVal.bool false), (18, AVal.bool true), (14, AVal.bool false), (17, AVal.int IntKind.i64 (dec s).e), (14, AVal.bool false), (16, AVal.agg [AVal.bool (dec
 s).p.st, AVal.bool (dec s).p.en, AVal.int IntKind.i64 (dec s).p.id, AVal.int IntKind.i64 (dec s).p.total, AVal.int IntKind.i64 (dec s).p.typ, AVal.int IntKind.i64 (dec s).p.k, AVal.str (dec s).p.lb,
 AVal.str (dec s).p.data, AVal.str (dec s).p.sum]), (14, AVal.bool false), (15, AVal.yld 4), (14, AVal.bool false), (14, AVal.bool (decide ((dec s).e = (5 : Int)))), (13, AVal.bool (decide ((dec s).e =
 (5 : Int)))), (12, AVal.int IntKind.i64 (dec s).e), (5, AVal.int IntKind.i64 (dec s).e), (4, AVal.int IntKind.i64 (dec s).n), (3, AVal.ptr 6 0 0 0), (11, AVal.int IntKind.i64 (dec s).e), (10, AVal.int
 IntKind.i64 (dec s).n), (9, AVal.agg [AVal.bool (dec s).p.st, AVal.bool (dec s).p.en, AVal.int IntKind.i64 (dec s).p.id, AVal.int IntKind.i64 (dec s).p.total, AVal.int IntKind.i64 (dec s).p.typ,
 AVal.int IntKind.i64 (dec s).p.k, AVal.str (dec s).p.lb, AVal.str (dec s).p.data, AVal.str (dec s).p.sum]), (6, AVal.tup [AVal.agg [AVal.bool (dec s).p.st, AVal.bool (dec s).p.en, AVal.int IntKind.i64
 (dec s).p.id, AVal.int IntKind.i64 (dec s).p.total, AVal.int IntKind.i64 (dec s).p.typ, AVal.int IntKind.i64 (dec s).p.k, AVal.str (dec s).p.lb, AVal.str (dec s).p.data, AVal.str (dec s).p.sum],
 AVal.int IntKind.i64 (dec s).n, AVal.int IntKind.i64 (dec s).e]), (8, AVal.tup [AVal.agg [AVal.bool (dec s).p.st, AVal.bool (dec s).p.en, AVal.int IntKind.i64 (dec s).p.id, AVal.int IntKind.i64 (dec
 s).p.total, AVal.int IntKind.i64 (dec s).p.typ, AVal.int IntKind.i64 (dec s).p.k, AVal.str (dec s).p.lb, AVal.str (dec s).p.data, AVal.str (dec s).p.sum], AVal.int IntKind.i64 (dec s).n, AVal.int
 IntKind.i64 (dec s).e]), (7, AVal.str s), (0, AVal.yld 4), (1, AVal.ptr 3 0 0 0)] (AHeap.mk 10 [(3, ABlk.cells 9 [AVal.str (List.drop (dec s).n.toNat s)]), (2, ABlk.cells 39 [AVal.sl 9 0 9 0 (acc ++
 [PieceR.mk (dec s).p.st (dec s).p.en (dec s).p.id (dec s).p.total (dec s).p.typ (dec s).p.k (dec s).p.lb (dec s).p.data (dec s).p.sum]).length none]), (9, ABlk.row 46 pieceRow (acc ++ [PieceR.mk (dec
 s).p.st (dec s).p.en (dec s).p.id (dec s).p.total (dec s).p.typ (dec s).p.k (dec s).p.lb (dec s).p.data (dec s).p.sum]) RowMd.plain), (5, ABlk.dead), (8, ABlk.cells 46 [AVal.bool (dec s).p.st,
 AVal.bool (dec s).p.en, AVal.int IntKind.i64 (dec s).p.id, AVal.int IntKind.i64 (dec s).p.total, AVal.int IntKind.i64 (dec s).p.typ, AVal.int IntKind.i64 (dec s).p.k, AVal.str (dec s).p.lb, AVal.str
 (dec s).p.data, AVal.str (dec s).p.sum]), (7, ABlk.cells 46 [AVal.bool (dec s).p.st, AVal.bool (dec s).p.en, AVal.int IntKind.i64 (dec s).p.id, AVal.int IntKind.i64 (dec s).p.total, AVal.int
 IntKind.i64 (dec s).p.typ, AVal.int IntKind.i64 (dec s).p.k, AVal.str (dec s).p.lb, AVal.str (dec s).p.data, AVal.str (dec s).p.sum]), (7, ABlk.cells 46 [AVal.bool false, AVal.bool false, AVal.int
 IntKind.i64 (0 : Int), AVal.int IntKind.i64 (0 : Int), AVal.int IntKind.i64 (0 : Int), AVal.int IntKind.i64 (0 : Int), AVal.str [], AVal.str [], AVal.str []]), (6, ABlk.cells 46 [AVal.bool (dec
 s).p.st, AVal.bool (dec s).p.en, AVal.int IntKind.i64 (dec s).p.id, AVal.int IntKind.i64 (dec s).p.total, AVal.int IntKind.i64 (dec s).p.typ, AVal.int IntKind.i64 (dec s).p.k, AVal.str (dec s).p.lb,
 AVal.str (dec s).p.data, AVal.str (dec s).p.sum]), (6, ABlk.cells 46 [AVal.bool false, AVal.bool false, AVal.int IntKind.i64 (0 : Int), AVal.int IntKind.i64 (0 : Int), AVal.int IntKind.i64 (0 : Int),
 AVal.int IntKind.i64 (0 : Int), AVal.str [], AVal.str [], AVal.str []]), (5, ABlk.row 46 pieceRow acc RowMd.plain), (3, ABlk.cells 9 [AVal.str s]), (2, ABlk.cells 39 [AVal.sl 5 0 9 0 acc.length
 none]), (1, ABlk.cells 40 [AVal.int IntKind.i64 (0 : Int)]), (0, ABlk.cells 39 [AVal.nils])]) none))))))) := by kernel_rfl
end Go.Proofs.Ytjacnjecggedhaa
namespace Go.Proofs.Ytjacnjecggedhaa
set_option linter.unusedVariables false
set_option linter.unusedSimpArgs false
open Go.RowKit Ev
set_option maxRecDepth 100000 in
theorem w_allpost_nil (s0 : List UInt8) (g1 g2 g3 : ABlk) (K : Out → AHeap → Prop) : (wpC (TE.ctx Try.prog) 60 13 7 (seqR (seqR (seqR (bodyC Try.f13)))) ((8, .func 27 [] [.ptr 3 0 0 0]) :: (7, .str s0) :: (4, .ptr 2 0 0 0) :: (3, .ptr 1 0 0 0) :: (2, .ptr 0 0 0 0) :: (0, .str s0) :: []) ⟨7, (6, g1) :: (6, g2) :: (3, g3) :: (2, .cells 39 [.nils]) :: (1, .cells 40 [.int .i64 0]) :: (0, .cells 39 [.nils]) :: []⟩ (endN (TE.ctx Try.prog) Try.f13 K)
) = (K (Out.ret (AVal.tup [AVal.nils, AVal.int IntKind.i64 (0 : Int)])) (AHeap.mk 7 [(1, ABlk.cells 40 [AVal.int IntKind.i64 (0 : Int)]), (0, ABlk.cells 39 [AVal.nils]), (6, g1), (6, g2), (3, g3), (2,
 ABlk.cells 39 [AVal.nils]), (1, ABlk.cells 40 [AVal.int IntKind.i64 (0 : Int)]), (0, ABlk.cells 39 [AVal.nils])])) := by kernel_rfl
set_option maxRecDepth 100000 in
theorem w_allerr_nil (s0 : List UInt8) (e : Int) (g1 g2 g3 g4 g5 g6 g7 g8 : ABlk) (K : Out → AHeap → Prop) : (endA (TE.ctx Try.prog).P Try.f13 K .ret ((8, .func 27 [] [.ptr 3 0 0 0]) :: (7, .str s0) :: (4, .ptr 2 0 0 0) :: (3, .ptr 1 0 0 0) :: (2, .ptr 0 0 0 0) :: (0, .str s0) :: []) ⟨8, (1, .cells 40 [.int .i64 e]) :: (0, .cells 39 [.nils]) :: (7, g1) :: (7, g2) :: (6, g3) :: (6, g4) :: (3, g5) :: (2, g6) :: (1, g7) :: (0, g8) :: []⟩
) = (K (Out.ret (AVal.tup [AVal.nils, AVal.int IntKind.i64 e])) (AHeap.mk 8 [(1, ABlk.cells 40 [AVal.int IntKind.i64 e]), (0, ABlk.cells 39 [AVal.nils]), (7, g1), (7, g2), (6, g3), (6, g4), (3, g5), (2,
 g6), (1, g7), (0, g8)])) := by kernel_rfl
set_option maxRecDepth 100000 in
theorem w_allpost_cons (s0 : List UInt8) (acc : List PieceR) (g1 g2 g3 : ABlk) (K : Out → AHeap → Prop) : (wpC (TE.ctx Try.prog) 60 13 7 (seqR (seqR (seqR (bodyC Try.f13)))) ((8, .func 27 [] [.ptr 3 0 0 0]) :: (7, .str s0) :: (4, .ptr 2 0 0 0) :: (3, .ptr 1 0 0 0) :: (2, .ptr 0 0 0 0) :: (0, .str s0) :: []) ⟨7, (6, g1) :: (6, g2) :: (5, .row 46 pieceRow acc .plain) :: (3, g3) :: (2, .cells 39 [.sl 5 0 9 0 acc.length none]) :: (1, .cells 40 [.int .i64 0]) :: (0, .cells 39 [.nils]) :: []⟩ (endN (TE.ctx Try.prog) Try.f13 K)
) = (K (Out.ret (AVal.tup [AVal.sl 5 0 9 0 acc.length none, AVal.int IntKind.i64 (0 : Int)])) (AHeap.mk 7 [(1, ABlk.cells 40 [AVal.int IntKind.i64 (0 : Int)]), (0, ABlk.cells 39 [AVal.sl 5 0 9 0
 acc.length none]), (6, g1), (6, g2), (5, ABlk.row 46 pieceRow acc RowMd.plain), (3, g3), (2, ABlk.cells 39 [AVal.sl 5 0 9 0 acc.length none]), (1, ABlk.cells 40 [AVal.int IntKind.i64 (0 : Int)]), (0,
 ABlk.cells 39 [AVal.nils])])) := by kernel_rfl
set_option maxRecDepth 100000 in
theorem w_allerr_cons (s0 : List UInt8) (e : Int) (acc : List PieceR) (g1 g2 g3 g4 g5 g6 g7 g8 : ABlk) (K : Out → AHeap → Prop) : (endA (TE.ctx Try.prog).P Try.f13 K .ret ((8, .func 27 [] [.ptr 3 0 0 0]) :: (7, .str s0) :: (4, .ptr 2 0 0 0) :: (3, .ptr 1 0 0 0) :: (2, .ptr 0 0 0 0) :: (0, .str s0) :: []) ⟨8, (1, .cells 40 [.int .i64 e]) :: (0, .cells 39 [.sl 5 0 9 0 acc.length none]) :: (7, g1) :: (7, g2) :: (6, g3) :: (6, g4) :: (5, .row 46 pieceRow acc .plain) :: (3, g5) :: (2, g6) :: (1, g7) :: (0, g8) :: []⟩
) = (K (Out.ret (AVal.tup [AVal.sl 5 0 9 0 acc.length none, AVal.int IntKind.i64 e])) (AHeap.mk 8 [(1, ABlk.cells 40 [AVal.int IntKind.i64 e]), (0, ABlk.cells 39 [AVal.sl 5 0 9 0 acc.length none]), (7,
 g1), (7, g2), (6, g3), (6, g4), (5, ABlk.row 46 pieceRow acc RowMd.plain), (3, g5), (2, g6), (1, g7), (0, g8)])) := by kernel_rfl
end Go.Proofs.Ytjacnjecggedhaa
namespace Go.Proofs.Ytjacnjecggedhaa
set_option linter.unusedVariables false
set_option linter.unusedSimpArgs false
open Go.RowKit Ev
def allL : Nat → List UInt8 → List PieceR × Int
  | 0, _ => ([], 0)
  | n + 1, s => if (dec s).e = 5 then ([], 0) else if (dec s).e = 0 then ((dec s).p :: (allL n (s.drop (dec s).n.toNat)).1, (allL n (s.drop (dec s).n.toNat)).2) else ([], (dec s).e)
def allP (s : List UInt8) : List PieceR := (allL (s.length + 1) s).1
def allE (s : List UInt8) : Int := (allL (s.length + 1) s).2
theorem allL_more : ∀ (n m : Nat) (s : List UInt8), s.length < n → s.length < m → allL n s = allL m s
  | 0, _, s, h, _ => by omega
  | _ + 1, 0, s, _, h => by omega
  | n + 1, m + 1, s, h1, h2 => by
    unfold allL
    split
    · rfl
    · split
      · rename_i h0
        obtain ⟨_, g2, g3, _⟩ := dec_again h0
        have hl : (s.drop (dec s).n.toNat).length < n ∧ (s.drop (dec s).n.toNat).length < m := by
          rw [List.length_drop]; omega
        rw [allL_more n m _ hl.1 hl.2]
      · rfl
theorem all_5 {s : List UInt8} (h : (dec s).e = 5) : allP s = [] ∧ allE s = 0 := by
  unfold allP allE allL
  rw [if_pos h]
  exact ⟨rfl, rfl⟩
theorem all_4 {s : List UInt8} (h : (dec s).e ≠ 5) (h0 : (dec s).e ≠ 0) : allP s = [] ∧ allE s = (dec s).e := by
  unfold allP allE allL
  rw [if_neg h, if_neg h0]
  exact ⟨rfl, rfl⟩
theorem all_0 {s : List UInt8} (h0 : (dec s).e = 0) : allP s = (dec s).p :: allP (s.drop (dec s).n.toNat) ∧ allE s = allE (s.drop (dec s).n.toNat) := by
  obtain ⟨_, g2, g3, _⟩ := dec_again h0
  have hl : (s.drop (dec s).n.toNat).length < s.length := by rw [List.length_drop]; omega
  have e := allL_more s.length ((s.drop (dec s).n.toNat).length + 1) _ hl (Nat.lt_succ_self _)
  have e1 : allP s = (dec s).p :: (allL s.length (s.drop (dec s).n.toNat)).1 := by
    show (allL (s.length + 1) s).1 = _
    rw [allL, if_neg (by omega), if_pos h0]
  have e2 : allE s = (allL s.length (s.drop (dec s).n.toNat)).2 := by
    show (allL (s.length + 1) s).2 = _
    rw [allL, if_neg (by omega), if_pos h0]
  rw [e1, e2, e]
  exact ⟨rfl, rfl⟩
noncomputable def gcAll : GC := fun args H K => match args with
  | [.str s] => obl (decide (s.length ≤ 1000000000)) <| branch (allP s).isEmpty (K (.ret (.tup [.nils, .int .i64 (allE s)])) H) (forceK H.next fun id => forceH (H.new (.row 46 pieceRow (allP s) .plain)) (K (.ret (.tup [.sl id 0 9 0 (allP s).length none, .int .i64 (allE s)]))))
  | _ => Stuck 60 []
def kAll (s : List UInt8) : Out → AHeap → Prop := fun out H => match allP s with
  | [] => out = .ret (.tup [.nils, .int .i64 (allE s)])
  | _ => ∃ r, out = .ret (.tup [.sl r 0 9 0 (allP s).length none, .int .i64 (allE s)]) ∧ H.get r = some (.row 46 pieceRow (allP s) .plain)
theorem kAll_nil {s : List UInt8} {H : AHeap} {e : Int} (h : allP s = []) (he : allE s = e) : kAll s (.ret (.tup [.nils, .int .i64 e])) H := by
  unfold kAll; rw [h, he]
theorem kAll_cons {s : List UInt8} {H : AHeap} {r : Nat} {p : PieceR} {l : List PieceR} {e : Int} (h : allP s = p :: l) (he : allE s = e) (hr : H.get r = some (.row 46 pieceRow (p :: l) .plain)) : kAll s (.ret (.tup [.sl r 0 9 0 (p :: l).length none, .int .i64 e])) H := by
  unfold kAll; rw [h, he]; exact ⟨r, rfl, hr⟩
def stAll (x : List UInt8 × List PieceR) : Env × AHeap := ([(0, .yld 4), (1, .ptr 3 0 0 0)], match x.2 with
  | [] => ⟨6, [(3, .cells 9 [.str x.1]), (2, .cells 39 [.nils]), (1, .cells 40 [.int .i64 0]), (0, .cells 39 [.nils])]⟩
  | p :: l => ⟨6, [(5, .row 46 pieceRow (p :: l) .plain), (3, .cells 9 [.str x.1]), (2, .cells 39 [.sl 5 0 9 0 (p :: l).length none]), (1, .cells 40 [.int .i64 0]), (0, .cells 39 [.nils])]⟩)
def tAll (s0 : List UInt8) (x : List UInt8 × List PieceR) : Prop := s0.length ≤ 1000000000 ∧ x.2 ++ allP x.1 = allP s0 ∧ allE x.1 = allE s0 ∧ x.1.length + 2 * x.2.length ≤ s0.length
def envAll (s0 : List UInt8) : Env := (8, .func 27 [] [.ptr 3 0 0 0]) :: (7, .str s0) :: (4, .ptr 2 0 0 0) :: (3, .ptr 1 0 0 0) :: (2, .ptr 0 0 0 0) :: (0, .str s0) :: []
noncomputable abbrev rfAll : Code := blkC (seqR (seqL (seqR (seqR (bodyC Try.f13)))))
noncomputable abbrev postAll : Code := seqR (seqR (seqR (bodyC Try.f13)))
def qAll (s0 : List UInt8) : AExit → Env → AHeap → Option Code → Prop := fun x _ H' pd => (x = .normal ∨ x = .ret) ∧ behindRF (TE.ctx Try.prog) 60 13 Try.f13 postAll (envAll s0) (kAll s0) H' pd
theorem q_none {s0 : List UInt8} {E : Env} {H : AHeap} (h : wpC (TE.ctx Try.prog) 60 13 H.next postAll (envAll s0) H (endN (TE.ctx Try.prog) Try.f13 (kAll s0))) : qAll s0 .ret E H none := ⟨.inr rfl, h⟩
theorem q_err {s0 : List UInt8} {E : Env} {H : AHeap} (h : endA (TE.ctx Try.prog).P Try.f13 (kAll s0) .ret (envAll s0) H) : qAll s0 .ret E H (some .ret) := ⟨.inr rfl, h⟩
theorem all_done {s0 s : List UInt8} {acc : List PieceR} (h : tAll s0 (s, acc)) (hp : allP s = []) : allP s0 = acc := by
  have := h.2.1
  rw [hp, List.append_nil] at this
  exact this.symm
set_option maxRecDepth 100000 in
theorem all_round (s0 : List UInt8) : ∀ x, tAll s0 x → wpY (TE.ctx Try.prog) 4 (roundA (TE.ctx Try.prog) 60 13 (envAll s0) [9, 10] (rfAssign rfAll) (rfBody rfAll)) 60 27 (lpC (blkC (bodyC Try.f27))) (stAll x).1 (stAll x).2 none (RoundY 5 stAll (fun x => x.1.length) (tAll s0) x (qAll s0)) := by
  rintro ⟨s, acc⟩ hT
  have hT' := hT
  obtain ⟨t0, t1, t2, t3⟩ := hT'
  simp only at t1 t2 t3
  have next : (dec s).e = 0 → tAll s0 (s.drop (dec s).n.toNat, acc ++ [(dec s).p]) ∧ (s.drop (dec s).n.toNat).length < s.length := by
    intro h0
    obtain ⟨_, g2, g3, _⟩ := dec_again h0
    obtain ⟨a1, a2⟩ := all_0 h0
    refine ⟨⟨t0, ?_, ?_, ?_⟩, ?_⟩
    · simp only; rw [← t1, a1]; simp
    · simp only; rw [← t2, a2]
    · simp only [List.length_drop, List.length_append, List.length_cons, List.length_nil]; omega
    · rw [List.length_drop]; omega
  cases acc with
  | nil =>
    refine Eq.mpr (w_allround_nil s0 s _) ?_
    simp only [obl_iff, branch_iff, decide_eq_true_eq, decide_eq_false_iff_not, Bool.not_eq_true', Bool.not_eq_false', Bool.and_eq_true, true_and]
    simp only [List.length_nil] at t3
    refine ⟨by omega, fun h5 => ?_, fun h5 => ⟨fun h4 => ?_, fun h4 => ?_⟩⟩
    · obtain ⟨a1, a2⟩ := all_5 h5
      show qAll s0 .ret [] _ none
      apply q_none
      refine (Eq.mpr (w_allpost_nil s0 _ _ _ (kAll s0)) ?_)
      exact kAll_nil (all_done hT a1) (t2.symm.trans a2)
    · obtain ⟨a1, a2⟩ := all_4 h5 h4
      show qAll s0 .ret [] _ (some .ret)
      apply q_err
      refine (Eq.mpr (w_allerr_nil s0 _ _ _ _ _ _ _ _ _ (kAll s0)) ?_)
      exact kAll_nil (all_done hT a1) (t2.symm.trans a2)
    · obtain ⟨n1, n2⟩ := next h4
      obtain ⟨_, g2, g3, _⟩ := dec_again h4
      refine ⟨fun h => absurd h4 h, fun _ => ⟨⟨by omega, by omega⟩, rfl, (_, [(dec s).p]), [(5, 9)], n2, n1, by decide, by kernel_rfl, ?_, ?_⟩⟩
      · exact subER_cons rfl rfl rfl (subER_cons rfl rfl rfl subER_nil)
      · exact subHR_cons rfl rfl rfl rfl (subHR_cons rfl rfl rfl rfl (subHR_cons rfl rfl rfl rfl (subHR_cons rfl rfl rfl rfl (subHR_cons rfl rfl rfl rfl subHR_nil))))
  | cons p l =>
    refine Eq.mpr (w_allround_cons s0 s (p :: l) _) ?_
    simp only [obl_iff, branch_iff, decide_eq_true_eq, decide_eq_false_iff_not, Bool.not_eq_true', Bool.not_eq_false', Bool.and_eq_true, true_and]
    simp only [List.length_cons] at t3
    refine ⟨by omega, fun h5 => ?_, fun h5 => ⟨fun h4 => ?_, fun h4 => ?_⟩⟩
    · obtain ⟨a1, a2⟩ := all_5 h5
      show qAll s0 .ret [] _ none
      apply q_none
      refine (Eq.mpr (w_allpost_cons s0 (p :: l) _ _ _ (kAll s0)) ?_)
      exact kAll_cons (r := 5) (all_done hT a1) (t2.symm.trans a2) rfl
    · obtain ⟨a1, a2⟩ := all_4 h5 h4
      show qAll s0 .ret [] _ (some .ret)
      apply q_err
      refine (Eq.mpr (w_allerr_cons s0 _ (p :: l) _ _ _ _ _ _ _ _ (kAll s0)) ?_)
      exact kAll_cons (r := 5) (all_done hT a1) (t2.symm.trans a2) rfl
    · obtain ⟨n1, n2⟩ := next h4
      obtain ⟨_, g2, g3, _⟩ := dec_again h4
      refine ⟨?_, fun h => absurd h4 h, fun _ => ⟨⟨by omega, by omega⟩, rfl, (_, p :: (l ++ [(dec s).p])), [(5, 9)], n2, n1, by decide, by kernel_rfl, ?_, ?_⟩⟩
      · simp only [List.length_cons, List.length_append, List.length_nil]
        (repeat' apply And.intro) <;> first | omega | rfl | decide
      · exact subER_cons rfl rfl rfl (subER_cons rfl rfl rfl subER_nil)
      · exact subHR_cons rfl rfl rfl rfl (subHR_cons rfl rfl rfl rfl (subHR_cons rfl rfl rfl rfl (subHR_cons rfl rfl rfl rfl (subHR_cons rfl rfl rfl rfl subHR_nil))))
end Go.Proofs.Ytjacnjecggedhaa
namespace Go.Proofs.Ytjacnjecggedhaa
set_option linter.unusedVariables false
set_option linter.unusedSimpArgs false
open Go.RowKit Ev
theorem pieces_code : bodyC Try.f27 = .block 0 (.loop (lpC (blkC (bodyC Try.f27)))) := by kernel_rfl
def itAll (s0 : List UInt8) : Env → AHeap → List AVal → Prop := fun E H cs => s0.length ≤ 1000000000 ∧ E = envAll s0 ∧ cs = [.ptr 3 0 0 0] ∧ H = ⟨4, [(3, .cells 9 [.str s0]), (2, .cells 39 [.nils]), (1, .cells 40 [.int .i64 0]), (0, .cells 39 [.nils])]⟩
theorem all_it (s0 : List UInt8) : ∀ E H cs, itAll s0 E H cs → ∀ ρ0 w0 At ρ a w, YOk (TE.ctx Try.prog) H.next (roundA (TE.ctx Try.prog) 60 13 E [9, 10] (rfAssign rfAll) (rfBody rfAll)) ρ0 ⟨H.next + 1, H.bs⟩ w0 At → AtKeeps At → Step ρ0 ⟨H.next + 1, H.bs⟩ w0 ρ ⟨H.next + 1, H.bs⟩ w → RelE ρ (H.next + 1) (env0 (.yld H.next :: cs) 0) a → a.defers = [] → Try.f27.ntmps ≤ a.tmps.size → At none w →
      (bodyC Try.f27).wp (TE.ctx Try.prog).P (LiftY ρ0 ⟨H.next + 1, H.bs⟩ w0 a.tmps.size At (fun x _ H' pd => (x = .normal ∨ x = .ret) ∧ behindRF (TE.ctx Try.prog) 60 13 Try.f13 postAll E (kAll s0) H' pd)) a w := by
  rintro E H cs ⟨hl, rfl, rfl, rfl⟩ ρ0 w0 At ρ a w hY hAt hS hE hd hN hat
  have hT : tAll s0 (s0, []) := ⟨hl, by simp, rfl, by simp⟩
  have hS6 : Step ρ0 ⟨5, [(3, .cells 9 [.str s0]), (2, .cells 39 [.nils]), (1, .cells 40 [.int .i64 0]), (0, .cells 39 [.nils])]⟩ w0 (ρ.set 5 0 0) (stAll (s0, [])).2 w := by
    have h1 := hS.rel.more 0 0
    refine ⟨hS.agree.trans (Rho.set_agree ρ 5 0 0) (Nat.le_refl _), Nat.le_succ _, h1, hS.os, hS.tape, hS.output, hS.size, hS.old, fun g hg => ?_⟩
    obtain ⟨b, x, hx, ho, rfl⟩ := hg
    have hb := (hS.rel.blk b x hx).1
    have e : (ρ.set 5 0 0).blk b = ρ.blk b := (Rho.set_agree ρ 5 0 0 b hb).1
    rw [e]
    exact hS.owns _ ⟨b, x, hx, ho, rfl⟩
  have hE6 : RelE (ρ.set 5 0 0) (stAll (s0, [])).2.next (stAll (s0, [])).1 a := hE.step (Rho.set_agree ρ 5 0 0) (Nat.le_succ _)
  rw [pieces_code]
  have hrun := loopY_sound TEok.ctx hY hAt hN (g := 27) (n := 60) (c := lpC (blkC (bodyC Try.f27))) (by kernel_rfl) (by kernel_rfl) (base := 5) stAll (Nat.le_refl _) (fun x => by obtain ⟨s, acc⟩ := x; cases acc <;> exact (by decide : 5 ≤ 6)) (fun x => x.1.length) (tAll s0) (qAll s0)
    (fun x hx => ⟨_, fun _ _ _ _ h => h, all_round s0 x hx⟩) (s0, []) hT _ a w hS6 hE6 hd rfl hat
  refine wp_block (wp_mono hrun ?_)
  rintro e a' w' ⟨x', E', H', ρ', pd, q1, q2, q3, q4, q5, q6, q7⟩
  have q2' := q2
  obtain ⟨q8, q9⟩ := q2
  cases x' with
  | normal => cases e <;> simp only [AExit.rel] at q1; exact ⟨.normal, E', H', ρ', pd, trivial, q2', q3, q4, q5, q6, q7⟩
  | ret => cases e <;> simp only [AExit.rel] at q1; exact ⟨.ret, E', H', ρ', pd, trivial, q2', q3, q4, q5, q6, q7⟩
  | exit i => rcases q8 with h | h <;> cases h
  | panic v => rcases q8 with h | h <;> cases h
set_option maxRecDepth 100000 in
theorem all_walk (s0 : List UInt8) (hl : s0.length ≤ 1000000000) : wpRF (TE.ctx Try.prog) 60 13 27 8 (seqL (bodyC Try.f13)) (seqL (seqR (bodyC Try.f13))) (seqL (seqL (seqR (seqR (bodyC Try.f13))))) (itAll s0) [.str s0] ⟨0, []⟩ := by
  refine Eq.mpr (w_allpre s0 (fun E H => match getE E 8 with
    | some (.func g' [] cs) => match Nat.beq g' 27 with
      | true => forceH H fun H => itAll s0 E H cs
      | false => False
    | _ => False)) ?_
  exact ⟨hl, rfl, rfl, rfl⟩
set_option maxRecDepth 100000 in
theorem all_calls (s0 : List UInt8) (hl : s0.length ≤ 1000000000) (ρ : Rho) (w : World) : Calls Try.prog 13 (trL ρ [.str s0]).toArray w fun e w' => ∃ out H' ρ', Out.rel ρ' H'.next out e ∧ kAll s0 out H' ∧ Step ρ ⟨0, []⟩ w ρ' H' w' :=
  wpRF_sound TEok.ctx (bid := 0) (ps := [9, 10]) (fn := Try.f13) (gn := Try.f27) (assign := rfAssign rfAll) (body := rfBody rfAll) (post := postAll) (by kernel_rfl) (by kernel_rfl) (by kernel_rfl) rfl
    ⟨by simp [show (TE.ctx Try.prog).lcs = fun _ _ => none from rfl], by simp [show (TE.ctx Try.prog).lcs = fun _ _ => none from rfl], by kernel_rfl, by kernel_rfl, by kernel_rfl, by kernel_rfl, by decide⟩ (by kernel_rfl) (all_it s0) (all_walk s0 hl) (rel_nil ρ w) rfl
theorem gcAll_of {f : Nat} (he : ∀ vs w, (callFunc f vs).run Try.prog w = .ok (.enter f vs) w) (hc : ∀ s : List UInt8, s.length ≤ 1000000000 → ∀ ρ w, Calls Try.prog f (trL ρ [.str s]).toArray w fun e w' => ∃ out H' ρ', Out.rel ρ' H'.next out e ∧ kAll s out H' ∧ Step ρ ⟨0, []⟩ w ρ' H' w') : GcSound Try.prog f gcAll := by
  intro args H K hK ρ w hR hargs
  refine ⟨he, ?_⟩
  unfold gcAll at hK
  split at hK
  · rename_i s
    simp only [obl_iff, branch_iff, decide_eq_true_eq, forceK_eq, forceH_eq] at hK
    obtain ⟨hl, hnil, hcons⟩ := hK
    refine (hc s hl ρ w).mono ?_
    rintro e w' ⟨out, H', ρ', h1, h2, h3⟩
    have hno : ∀ g, ¬ Owns ρ ⟨0, []⟩ g := by
      rintro g ⟨b, x, hx, _⟩
      simp [AHeap.get, getB] at hx
    have hbelow : Below w.heap.size w w' := h3.below (Nat.le_refl _) (fun g hg => absurd hg (hno g))
    unfold kAll at h2
    split at h2
    · rename_i hp
      subst h2
      cases e <;> simp only [Out.rel] at h1
      obtain ⟨rfl, _⟩ := h1
      refine ⟨.ret (.tup [.nils, .int .i64 (allE s)]), H, ρ, ⟨rfl, rfl⟩, hnil (by rw [hp]; rfl), Step.grow hR hbelow⟩
    · rename_i hp
      obtain ⟨r, rfl, hr⟩ := h2
      cases e <;> simp only [Out.rel] at h1
      obtain ⟨rfl, _⟩ := h1
      obtain ⟨r1, r2, r3, r4⟩ := h3.rel.blk r _ hr
      obtain ⟨o1, o2, o3, cur, fz, o4, o5, o6, o7⟩ := r4
      have hge : w.heap.size ≤ ρ'.blk r := by
        rcases h3.owns _ ⟨r, _, hr, rfl, rfl⟩ with h | h
        · exact h
        · exact absurd h (hno _)
      have hne : (allP s).isEmpty = false := by
        cases hq : allP s with
        | nil => exact absurd hq hp
        | cons p l => rfl
      have hnew : NewTo ρ H.next w (.tup [.sl H.next 0 9 0 (allP s).length none, .int .i64 (allE s)]) (.row 46 pieceRow (allP s) .plain) (tr ρ' (.tup [.sl r 0 9 0 (allP s).length none, .int .i64 (allE s)])) w' := by
        refine ⟨⟨ρ'.blk r, ρ'.cap r, ?_, hge, r3, ⟨?_, ?_, ?_, cur, fz, ?_, o5, ?_, ?_⟩⟩, hbelow, rfl, ?_⟩
        · simp only [tr, trL, o1, (set_self ρ H.next (ρ'.blk r) (ρ'.cap r)).1, (set_self ρ H.next (ρ'.blk r) (ρ'.cap r)).2.1, (set_self ρ H.next (ρ'.blk r) (ρ'.cap r)).2.2]
        · exact (set_self ρ H.next _ _).2.1
        · rw [(set_self ρ H.next _ _).2.2]; exact o2
        · rw [(set_self ρ H.next _ _).2.2]; exact o3
        · rw [(set_self ρ H.next _ _).1]; exact o4
        · rw [(set_self ρ H.next _ _).2.2]; exact o6
        · rw [o7, trL_eq, trL_eq]
          apply List.map_congr_left
          intro y hy
          have hd := flat_data pieceRow (allP s)
          rw [List.all_eq_true] at hd
          exact AVal.data_tr (hd y hy) _ _
        · constructor
          · simp [AVal.under, belowL]
          · rfl
      obtain ⟨ρ'', s1, s2, s3⟩ := Step.new hR hnew
      rw [s2]
      exact ⟨.ret (.tup [.sl H.next 0 9 0 (allP s).length none, .int .i64 (allE s)]), _, ρ'', ⟨rfl, s3⟩, hcons hne, s1⟩
  · exact (not_stuck hK).elim
theorem all_sound : GcSound Try.prog 13 gcAll := gcAll_of Try.call13 all_calls
noncomputable def TA : Tabs := TE.addGc 13 gcAll
theorem TAok : TabsOk TA Try.prog := TEok.addGc all_sound
end Go.Proofs.Ytjacnjecggedhaa
namespace Go.Proofs.Ytjacnjecggedhaa
set_option linter.unusedVariables false
set_option linter.unusedSimpArgs false
open Go.RowKit Ev
set_option maxRecDepth 100000 in
theorem w_works24 (K : Out → Prop) : (callC (TA.ctx Try.prog) 400 10 [] ⟨0, []⟩ (fun o _ => K o)
) = (twice (twice (twice (K (Out.ret (AVal.bool true)))))) := by kernel_rfl
end Go.Proofs.Ytjacnjecggedhaa
namespace Go.Proofs.Ytjacnjecggedhaa
set_option linter.unusedVariables false
set_option linter.unusedSimpArgs false
open Go.RowKit Ev
def fcWorks24 : FC := fun args _ => match args with
  | [] => some (true, .bool true)
  | _ => none
set_option maxRecDepth 100000 in
theorem works_sound24 : FcSound Try.prog 10 fcWorks24 := by
  refine fc_pure TAok.ctx (n := 400) Try.call10 (fun args H v h => ?_)
  unfold fcWorks24 at h
  split at h <;> cases h
  refine ⟨rfl, rfl, Eq.mpr (w_works24 _) ?_⟩
  simp only [twice_iff, and_self]
noncomputable def TF : Tabs := (TA.addFc 10 fcWorks24)
theorem TFok : TabsOk TF Try.prog := (TAok.addFc works_sound24)
end Go.Proofs.Ytjacnjecggedhaa
namespace Go.Proofs.Ytjacnjecggedhaa
set_option linter.unusedVariables false
set_option linter.unusedSimpArgs false
open Go.RowKit Ev
noncomputable abbrev fillB : Code := bodyC Try.f9
def oddB (p : PieceR) (last again : Bool) (n : Int) : ABlk := .cells 57 [.bool p.st, .bool p.en, .int .i64 p.id, .int .i64 p.total, .int .i64 p.typ, .int .i64 p.k, .str p.lb, .str p.data, .str p.sum, .bool last, .bool again, .int .i64 n]
def oddA (sp : Int) : List AVal := [.iface 55 (.ptr 0 0 0 0), .int .u64 0, .int .i64 7, .int .i64 sp]
noncomputable abbrev fillI : Code := codeAt [true, false] fillB
def pOut : List Bool := [true, false, true, true, true, true, true, false, true, false, false]
noncomputable abbrev fillO : Code := codeAt [true, false, true, true, true, true, true, false, true, false, false] fillB
noncomputable abbrev fillL : Code := codeAt [true, false, true, true, true, true, true, false, true, false, false, true, false, false, false, false] fillB
def oE0 (sp : Int) : Env := [(3, .int .i64 sp), (4, .ptr 1 0 0 0), (5, .ptr 2 0 0 0), (6, .ptr 3 0 0 0)]
def oH0 (p : PieceR) (last again : Bool) (fst n : Int) : List (Nat × ABlk) := [(0, oddB p last again n), (1, .cells 65 [.iface 55 (.ptr 0 0 0 0)]), (2, .cells 33 [.int .u64 fst]), (3, .cells 3 [.int .i64 7])]
def oE (s : AVal) (r : Env) : Env := (4, .ptr 1 0 0 0) :: (5, .ptr 2 0 0 0) :: (6, .ptr 3 0 0 0) :: (10, .ptr 4 0 0 0) :: (11, s) :: (12, .func 16 [] [.ptr 1 0 0 0, .ptr 2 0 0 0, .ptr 3 0 0 0]) :: r
def o13 : Env := [(13, .int .u64 9)]
def o14 (sm : Bool) : Env := [(13, .int .u64 9), (14, .bool sm)]
def fldB (v : AVal) (sp : Int) (beg : Bool) (k : Int) : ABlk := .cells 70 [v, .int .i64 sp, .bool beg, .int .i64 k, .int .i64 0, .str []]
def bRow (L : List UInt8) : ABlk := .row 5 byteRow L .plain
def sRow (S : List Int) : ABlk := .row 33 (intRow .u64) S .plain
def oSl (b n : Nat) : AVal := .sl b 0 1 0 n none
structure OddS where
  p : PieceR
  last : Bool
  again : Bool
  sp : Int
def o00 (o : OddS) (n : Int) (r : Env) : Env × AHeap := (oE .nils r, ⟨5, oH0 o.p o.last o.again 0 n ++ [(4, fldB .nils o.sp false 0)]⟩)
def o10 (o : OddS) (n k : Int) (beg : Bool) (L : List UInt8) (r : Env) : Env × AHeap := (oE .nils r, ⟨6, oH0 o.p o.last o.again 0 n ++ [(4, fldB (oSl 5 L.length) o.sp beg k), (5, bRow L)]⟩)
def o11 (o : OddS) (n k : Int) (beg : Bool) (L : List UInt8) (S : List Int) (r : Env) : Env × AHeap := (oE (oSl 5 S.length) r, ⟨7, oH0 o.p o.last o.again 0 n ++ [(4, fldB (oSl 6 L.length) o.sp beg k), (5, sRow S), (6, bRow L)]⟩)
def ts13 : AExit → List Nat := fun _ => [4, 5, 6, 10, 11, 12, 13]
def ts14 : AExit → List Nat := fun _ => [4, 5, 6, 10, 11, 12, 13, 14]
def tsI : AExit → List Nat := fun _ => [4, 5, 6, 10, 11, 12]
def ts89 : AExit → List Nat := fun _ => [8, 9]
def tsA : AExit → List Nat := fun x => match x with
  | .ret => [8, 9]
  | _ => [3, 4, 5, 6]
def qRet (R Q : AExit → Env → AHeap → Prop) : AExit → Env → AHeap → Prop := fun x E H => match x with
  | .ret => R .ret E H
  | x => Q x E H
def ts0 : AExit → List Nat := fun _ => [3, 4, 5, 6]
theorem fillO_eq : fillO = .seq (seqL fillO) (.seq (.block 1 (.block 2 (.loop fillL))) (seqR (seqR fillO))) := by kernel_rfl
theorem fillB_eq : fillB = .seq (codeAt [false] fillB) (.scope fillI) := by kernel_rfl
theorem fillI_eq : fillI = .seq (seqL fillI) (seqR fillI) := by kernel_rfl
theorem fillT_eq : tailN 4 (seqR fillI) = .seq (.seq (seqL (seqL (tailN 5 fillI))) (.block 0 (.loop fillO))) (seqR (tailN 5 fillI)) := by kernel_rfl
end Go.Proofs.Ytjacnjecggedhaa
namespace Go.Proofs.Ytjacnjecggedhaa
set_option linter.unusedVariables false
set_option linter.unusedSimpArgs false
open Go.RowKit Ev
theorem obl_int {n : Int} {A : Prop} (h : -9223372036854775808 ≤ n ∧ n ≤ 9223372036854775807) (hA : A) : obl (inI64 n) A := obl_iff.2 ⟨inI64_iff.2 h, hA⟩
noncomputable def TX0 : Tabs := symT TF 8
theorem TX0ok : TabsOk TX0 Try.prog := symT_ok TFok _
noncomputable abbrev ofB : Code := bodyC Try.f8
noncomputable abbrev ofR : Code := codeAt [true, true, false, true, false, false] ofB
def noPack : PackR := ⟨0, 0, 0, [], 0⟩
def srcB (a b : AVal) : ABlk := .cells 29 [a, b]
def cRow (cs : List CutR) : ABlk := .row 48 cutRow cs .plain
def dRow (ds : List BoolR) : ABlk := .row 4 boolRow ds .plain
def pRow (hs : List PackR) (md : RowMd) : ABlk := .row 51 packRow hs md
def ofE (n : Nat) (i : Int) : Env := [(0, .sl 0 0 5 0 n none), (3, .ptr 1 0 0 0), (4, .int .i64 i)]
def of0 (hs : List PackR) (md : RowMd) (i : Int) : Env × AHeap := (ofE hs.length i, ⟨2, [(0, pRow hs md), (1, srcB .nils .nils)]⟩)
def of1 (hs : List PackR) (md : RowMd) (i : Int) (cs : List CutR) (ds : List BoolR) : Env × AHeap := (ofE hs.length i, ⟨4, [(0, pRow hs md), (1, srcB (.sl 2 0 6 0 cs.length none) (.sl 3 0 1 0 ds.length none)), (2, cRow cs), (3, dRow ds)]⟩)
def tsP2 : AExit → List Nat := fun _ => [2]
def tsOf : AExit → List Nat := fun _ => [0, 3, 4]
end Go.Proofs.Ytjacnjecggedhaa
namespace Go.Proofs.Ytjacnjecggedhaa
set_option linter.unusedVariables false
set_option linter.unusedSimpArgs false
open Go.RowKit Ev
set_option maxRecDepth 100000 in
theorem w_of_pre (hs : List PackR) (md : RowMd) (It : Env → AHeap → Prop) (Q : AExit → Env → AHeap → Prop) : (wpN (TX0.ctx Try.prog) 2 400 8 1 ofB (env0 [.sl 0 0 5 0 hs.length none] 0) ⟨1, [(0, pRow hs md)]⟩ (fun E H => canonK 1 [0, 3] E H It) Q
) = (It [(0, AVal.sl 0 0 5 0 hs.length none), (3, AVal.ptr 1 0 0 0)] (AHeap.mk 2 [(0, ABlk.row 51 packRow hs md), (1, ABlk.cells 29 [AVal.nils, AVal.nils])])) := by kernel_rfl
set_option maxRecDepth 100000 in
theorem w_of_0 (hs : List PackR) (md : RowMd) (i : Int) (Q : AExit → Env → AHeap → Prop) : (wpC (TX0.ctx Try.prog) 400 8 1 ofR (of0 hs md i).1 (of0 hs md i).2 (canQ 1 tsOf Q)
) = (branch (decide (i < (↑hs.length : Int))) (branch (decide (i < (30 : Int))) (obl (decide ((0 : Int) ≤ i ∧ i < (↑hs.length : Int))) (obl (decide (0 + i.toNat < hs.length)) (obl (decide ((0 : Int) ≤ i ∧
 i < (↑hs.length : Int))) (obl (decide (0 + i.toNat < hs.length)) (obl (decide ((0 : Int) ≤ min (↑(hs.getD (0 + i.toNat) noPack).data.length : Int) (300 : Int) ∧ min (↑(hs.getD (0 + i.toNat)
 noPack).data.length : Int) (300 : Int) ≤ (↑(hs.getD (0 + i.toNat) noPack).data.length : Int))) (obl (decide ((0 : Int) ≤ i ∧ i < (↑hs.length : Int))) (obl (decide (0 + i.toNat < hs.length)) (obl
 (inI64 (hs.getD (0 + i.toNat) noPack).zeros) (obl (decide ((0 : Int) ≤ (hs.getD (0 + i.toNat) noPack).zeros ∧ (0 : Int) < (5000 : Int))) (obl (inI64 ((1 : Int) + (hs.getD (0 + i.toNat) noPack).zeros %
 (5000 : Int))) (obl (decide ((0 : Int) ≤ (1 : Int) + (hs.getD (0 + i.toNat) noPack).zeros % (5000 : Int) ∧ (1 : Int) + (hs.getD (0 + i.toNat) noPack).zeros % (5000 : Int) = (1 : Int) + (hs.getD (0 +
 i.toNat) noPack).zeros % (5000 : Int) ∧ (1 : Int) + (hs.getD (0 + i.toNat) noPack).zeros % (5000 : Int) ≤ (9223372036854775807 : Int) ∧ (1 : Int) * ((1 : Int) + (hs.getD (0 + i.toNat) noPack).zeros %
 (5000 : Int)) ≤ (281474976710656 : Int) ∧ 1 = 1 ∧ 0 < 1)) (obl (decide (0 + ((1 : Int) + (hs.getD (0 + i.toNat) noPack).zeros % (5000 : Int)).toNat ≤ (repN ((1 : Int) + (hs.getD (0 + i.toNat)
 noPack).zeros % (5000 : Int)).toNat (0 : UInt8)).length)) (obl (decide ((↑((List.take (min (↑(hs.getD (0 + i.toNat) noPack).data.length : Int) (300 : Int)).toNat (hs.getD (0 + i.toNat)
 noPack).data).length + (List.take ((1 : Int) + (hs.getD (0 + i.toNat) noPack).zeros % (5000 : Int)).toNat (List.drop 0 (repN ((1 : Int) + (hs.getD (0 + i.toNat) noPack).zeros % (5000 : Int)).toNat (0
 : UInt8)))).length) : Int) ≤ (9223372036854775807 : Int))) (obl (decide ((0 : Int) ≤ i ∧ i < (↑hs.length : Int))) (obl (decide (0 + i.toNat < hs.length)) (obl (decide ((0 : Int) ≤ (hs.getD (0 +
 i.toNat) noPack).pos ∧ (0 : Int) < (4 : Int))) (branch (decide ((hs.getD (0 + i.toNat) noPack).pos % (4 : Int) = (0 : Int))) (obl (decide ((0 : Int) ≤ i ∧ i < (↑hs.length : Int))) (obl (decide (0 +
 i.toNat < hs.length)) (obl (inI64 (hs.getD (0 + i.toNat) noPack).pos) (obl (decide ((0 : Int) ≤ (hs.getD (0 + i.toNat) noPack).pos ∧ (0 : Int) < (↑(List.take (min (↑(hs.getD (0 + i.toNat)
 noPack).data.length : Int) (300 : Int)).toNat (hs.getD (0 + i.toNat) noPack).data ++ List.take ((1 : Int) + (hs.getD (0 + i.toNat) noPack).zeros % (5000 : Int)).toNat (List.drop 0 (repN ((1 : Int) +
 (hs.getD (0 + i.toNat) noPack).zeros % (5000 : Int)).toNat (0 : UInt8)))).length : Int))) (obl (decide ((0 : Int) ≤ i ∧ i < (↑hs.length : Int))) (obl (decide (0 + i.toNat < hs.length)) (obl (decide
 ((0 : Int) ≤ (hs.getD (0 + i.toNat) noPack).cls ∧ (0 : Int) < (3 : Int))) (obl (inI64 ((hs.getD (0 + i.toNat) noPack).cls % (3 : Int))) (obl (inI64 ((2048 : Int) + (hs.getD (0 + i.toNat) noPack).cls %
 (3 : Int))) (obl (decide ((0 : Int) ≤ i ∧ i < (↑hs.length : Int))) (obl (decide (0 + i.toNat < hs.length)) (obl (decide ((0 : Int) ≤ (hs.getD (0 + i.toNat) noPack).lab ∧ (0 : Int) < (3 : Int))) (obl
 (decide (0 + i.toNat < hs.length) && sameV (AVal.int IntKind.u8 (hs.getD (0 + i.toNat) noPack).lab) (AVal.int IntKind.u8 (hs.getD (0 + i.toNat) noPack).lab)) (obl (decide (0 + i.toNat < hs.length) &&
 sameV (AVal.int IntKind.u8 (hs.getD (0 + i.toNat) noPack).cls) (AVal.int IntKind.u8 (hs.getD (0 + i.toNat) noPack).cls)) (obl (decide ((0 : Int) ≤ (hs.getD (0 + i.toNat) noPack).lab % (3 : Int) ∧
 (hs.getD (0 + i.toNat) noPack).lab % (3 : Int) < (3 : Int))) (obl (inI64 (i + (1 : Int))) (Q AExit.normal [(0, AVal.sl 0 0 5 0 hs.length none), (3, AVal.ptr 1 0 0 0), (4, AVal.int IntKind.i64 (i + (1
 : Int)))] (AHeap.mk 4 [(0, ABlk.row 51 packRow hs md), (1, ABlk.cells 29 [AVal.sl 2 0 6 0 1 none, AVal.sl 3 0 1 0 1 none]), (2, ABlk.row 48 cutRow [CutR.mk ((2048 : Int) + (hs.getD (0 + i.toNat)
 noPack).cls % (3 : Int)) ([(1 : Int), (0 : Int), (1 : Int)].getD ((hs.getD (0 + i.toNat) noPack).lab % (3 : Int)).toNat (0 : Int)) ([[(97 : UInt8), (98 : UInt8), (99 : UInt8)], [(97 : UInt8), (98 :
 UInt8), (99 : UInt8), (100 : UInt8), (101 : UInt8), (102 : UInt8)], [(120 : UInt8), (121 : UInt8), (122 : UInt8)]].getD ((hs.getD (0 + i.toNat) noPack).lab % (3 : Int)).toNat []) (List.take (min
 (↑(hs.getD (0 + i.toNat) noPack).data.length : Int) (300 : Int)).toNat (hs.getD (0 + i.toNat) noPack).data ++ List.take ((1 : Int) + (hs.getD (0 + i.toNat) noPack).zeros % (5000 : Int)).toNat
 (List.drop 0 (repN ((1 : Int) + (hs.getD (0 + i.toNat) noPack).zeros % (5000 : Int)).toNat (0 : UInt8)))) ((hs.getD (0 + i.toNat) noPack).pos % (↑(List.take (min (↑(hs.getD (0 + i.toNat)
 noPack).data.length : Int) (300 : Int)).toNat (hs.getD (0 + i.toNat) noPack).data ++ List.take ((1 : Int) + (hs.getD (0 + i.toNat) noPack).zeros % (5000 : Int)).toNat (List.drop 0 (repN ((1 : Int) +
 (hs.getD (0 + i.toNat) noPack).zeros % (5000 : Int)).toNat (0 : UInt8)))).length : Int)) i] RowMd.plain), (3, ABlk.row 4 boolRow [BoolR.mk false] RowMd.plain)])))))))))))))))))) (obl (decide ((0 :
 Int) ≤ i ∧ i < (↑hs.length : Int))) (obl (decide (0 + i.toNat < hs.length)) (obl (decide ((0 : Int) ≤ (hs.getD (0 + i.toNat) noPack).cls ∧ (0 : Int) < (3 : Int))) (obl (inI64 ((hs.getD (0 + i.toNat)
 noPack).cls % (3 : Int))) (obl (inI64 ((2048 : Int) + (hs.getD (0 + i.toNat) noPack).cls % (3 : Int))) (obl (decide ((0 : Int) ≤ i ∧ i < (↑hs.length : Int))) (obl (decide (0 + i.toNat < hs.length))
 (obl (decide ((0 : Int) ≤ (hs.getD (0 + i.toNat) noPack).lab ∧ (0 : Int) < (3 : Int))) (obl (decide (0 + i.toNat < hs.length) && sameV (AVal.int IntKind.u8 (hs.getD (0 + i.toNat) noPack).lab)
 (AVal.int IntKind.u8 (hs.getD (0 + i.toNat) noPack).lab)) (obl (decide (0 + i.toNat < hs.length) && sameV (AVal.int IntKind.u8 (hs.getD (0 + i.toNat) noPack).cls) (AVal.int IntKind.u8 (hs.getD (0 +
 i.toNat) noPack).cls)) (obl (decide ((0 : Int) ≤ (hs.getD (0 + i.toNat) noPack).lab % (3 : Int) ∧ (hs.getD (0 + i.toNat) noPack).lab % (3 : Int) < (3 : Int))) (obl (inI64 (i + (1 : Int))) (Q
 AExit.normal [(0, AVal.sl 0 0 5 0 hs.length none), (3, AVal.ptr 1 0 0 0), (4, AVal.int IntKind.i64 (i + (1 : Int)))] (AHeap.mk 4 [(0, ABlk.row 51 packRow hs md), (1, ABlk.cells 29 [AVal.sl 2 0 6 0 1
 none, AVal.sl 3 0 1 0 1 none]), (2, ABlk.row 48 cutRow [CutR.mk ((2048 : Int) + (hs.getD (0 + i.toNat) noPack).cls % (3 : Int)) ([(1 : Int), (0 : Int), (1 : Int)].getD ((hs.getD (0 + i.toNat)
 noPack).lab % (3 : Int)).toNat (0 : Int)) ([[(97 : UInt8), (98 : UInt8), (99 : UInt8)], [(97 : UInt8), (98 : UInt8), (99 : UInt8), (100 : UInt8), (101 : UInt8), (102 : UInt8)], [(120 : UInt8), (121 :
 UInt8), (122 : UInt8)]].getD ((hs.getD (0 + i.toNat) noPack).lab % (3 : Int)).toNat []) (List.take (min (↑(hs.getD (0 + i.toNat) noPack).data.length : Int) (300 : Int)).toNat (hs.getD (0 + i.toNat)
 noPack).data ++ List.take ((1 : Int) + (hs.getD (0 + i.toNat) noPack).zeros % (5000 : Int)).toNat (List.drop 0 (repN ((1 : Int) + (hs.getD (0 + i.toNat) noPack).zeros % (5000 : Int)).toNat (0 :
 UInt8)))) (0 : Int) i] RowMd.plain), (3, ABlk.row 4 boolRow [BoolR.mk false] RowMd.plain)]))))))))))))))))))))))))))))))) (Q (AExit.exit 0) [(0, AVal.sl 0 0 5 0 hs.length none), (3, AVal.ptr 1 0 0 0),
 (4, AVal.int IntKind.i64 i)] (AHeap.mk 2 [(0, ABlk.row 51 packRow hs md), (1, ABlk.cells 29 [AVal.nils, AVal.nils])]))) (Q (AExit.exit 0) [(0, AVal.sl 0 0 5 0 hs.length none), (3, AVal.ptr 1 0 0 0),
 (4, AVal.int IntKind.i64 i)] (AHeap.mk 2 [(0, ABlk.row 51 packRow hs md), (1, ABlk.cells 29 [AVal.nils, AVal.nils])]))) := by kernel_rfl
set_option maxRecDepth 100000 in
theorem w_of_1 (hs : List PackR) (md : RowMd) (i : Int) (cs : List CutR) (ds : List BoolR) (Q : AExit → Env → AHeap → Prop) : (wpC (TX0.ctx Try.prog) 400 8 1 ofR (of1 hs md i cs ds).1 (of1 hs md i cs ds).2 (canQ 1 tsOf Q)
) = (branch (decide (i < (↑hs.length : Int))) (branch (decide (i < (30 : Int))) (obl (decide ((0 : Int) ≤ i ∧ i < (↑hs.length : Int))) (obl (decide (0 + i.toNat < hs.length)) (obl (decide ((0 : Int) ≤ i ∧
 i < (↑hs.length : Int))) (obl (decide (0 + i.toNat < hs.length)) (obl (decide ((0 : Int) ≤ min (↑(hs.getD (0 + i.toNat) noPack).data.length : Int) (300 : Int) ∧ min (↑(hs.getD (0 + i.toNat)
 noPack).data.length : Int) (300 : Int) ≤ (↑(hs.getD (0 + i.toNat) noPack).data.length : Int))) (obl (decide ((0 : Int) ≤ i ∧ i < (↑hs.length : Int))) (obl (decide (0 + i.toNat < hs.length)) (obl
 (inI64 (hs.getD (0 + i.toNat) noPack).zeros) (obl (decide ((0 : Int) ≤ (hs.getD (0 + i.toNat) noPack).zeros ∧ (0 : Int) < (5000 : Int))) (obl (inI64 ((1 : Int) + (hs.getD (0 + i.toNat) noPack).zeros %
 (5000 : Int))) (obl (decide ((0 : Int) ≤ (1 : Int) + (hs.getD (0 + i.toNat) noPack).zeros % (5000 : Int) ∧ (1 : Int) + (hs.getD (0 + i.toNat) noPack).zeros % (5000 : Int) = (1 : Int) + (hs.getD (0 +
 i.toNat) noPack).zeros % (5000 : Int) ∧ (1 : Int) + (hs.getD (0 + i.toNat) noPack).zeros % (5000 : Int) ≤ (9223372036854775807 : Int) ∧ (1 : Int) * ((1 : Int) + (hs.getD (0 + i.toNat) noPack).zeros %
 (5000 : Int)) ≤ (281474976710656 : Int) ∧ 1 = 1 ∧ 0 < 1)) (obl (decide (0 + ((1 : Int) + (hs.getD (0 + i.toNat) noPack).zeros % (5000 : Int)).toNat ≤ (repN ((1 : Int) + (hs.getD (0 + i.toNat)
 noPack).zeros % (5000 : Int)).toNat (0 : UInt8)).length)) (obl (decide ((↑((List.take (min (↑(hs.getD (0 + i.toNat) noPack).data.length : Int) (300 : Int)).toNat (hs.getD (0 + i.toNat)
 noPack).data).length + (List.take ((1 : Int) + (hs.getD (0 + i.toNat) noPack).zeros % (5000 : Int)).toNat (List.drop 0 (repN ((1 : Int) + (hs.getD (0 + i.toNat) noPack).zeros % (5000 : Int)).toNat (0
 : UInt8)))).length) : Int) ≤ (9223372036854775807 : Int))) (obl (decide ((0 : Int) ≤ i ∧ i < (↑hs.length : Int))) (obl (decide (0 + i.toNat < hs.length)) (obl (decide ((0 : Int) ≤ (hs.getD (0 +
 i.toNat) noPack).pos ∧ (0 : Int) < (4 : Int))) (branch (decide ((hs.getD (0 + i.toNat) noPack).pos % (4 : Int) = (0 : Int))) (obl (decide ((0 : Int) ≤ i ∧ i < (↑hs.length : Int))) (obl (decide (0 +
 i.toNat < hs.length)) (obl (inI64 (hs.getD (0 + i.toNat) noPack).pos) (obl (decide ((0 : Int) ≤ (hs.getD (0 + i.toNat) noPack).pos ∧ (0 : Int) < (↑(List.take (min (↑(hs.getD (0 + i.toNat)
 noPack).data.length : Int) (300 : Int)).toNat (hs.getD (0 + i.toNat) noPack).data ++ List.take ((1 : Int) + (hs.getD (0 + i.toNat) noPack).zeros % (5000 : Int)).toNat (List.drop 0 (repN ((1 : Int) +
 (hs.getD (0 + i.toNat) noPack).zeros % (5000 : Int)).toNat (0 : UInt8)))).length : Int))) (obl (decide ((0 : Int) ≤ i ∧ i < (↑hs.length : Int))) (obl (decide (0 + i.toNat < hs.length)) (obl (decide
 ((0 : Int) ≤ (hs.getD (0 + i.toNat) noPack).cls ∧ (0 : Int) < (3 : Int))) (obl (inI64 ((hs.getD (0 + i.toNat) noPack).cls % (3 : Int))) (obl (inI64 ((2048 : Int) + (hs.getD (0 + i.toNat) noPack).cls %
 (3 : Int))) (obl (decide ((0 : Int) ≤ i ∧ i < (↑hs.length : Int))) (obl (decide (0 + i.toNat < hs.length)) (obl (decide ((0 : Int) ≤ (hs.getD (0 + i.toNat) noPack).lab ∧ (0 : Int) < (3 : Int))) (obl
 (decide (0 + i.toNat < hs.length) && sameV (AVal.int IntKind.u8 (hs.getD (0 + i.toNat) noPack).lab) (AVal.int IntKind.u8 (hs.getD (0 + i.toNat) noPack).lab)) (obl (decide (0 + i.toNat < hs.length) &&
 sameV (AVal.int IntKind.u8 (hs.getD (0 + i.toNat) noPack).cls) (AVal.int IntKind.u8 (hs.getD (0 + i.toNat) noPack).cls)) (obl (true && sameV (AVal.sl 2 0 6 0 cs.length none) (AVal.sl 2 0 6 0 cs.length
 none)) (obl (decide ((0 : Int) ≤ (hs.getD (0 + i.toNat) noPack).lab % (3 : Int) ∧ (hs.getD (0 + i.toNat) noPack).lab % (3 : Int) < (3 : Int))) (obl (true && decide (cs.length = cs.length ∧ 6 = 6 ∧ 6 =
 6 ∧ 0 < 6 ∧ (cs ++ [CutR.mk ((2048 : Int) + (hs.getD (0 + i.toNat) noPack).cls % (3 : Int)) ([(1 : Int), (0 : Int), (1 : Int)].getD ((hs.getD (0 + i.toNat) noPack).lab % (3 : Int)).toNat (0 : Int))
 ([[(97 : UInt8), (98 : UInt8), (99 : UInt8)], [(97 : UInt8), (98 : UInt8), (99 : UInt8), (100 : UInt8), (101 : UInt8), (102 : UInt8)], [(120 : UInt8), (121 : UInt8), (122 : UInt8)]].getD ((hs.getD (0
 + i.toNat) noPack).lab % (3 : Int)).toNat []) (List.take (min (↑(hs.getD (0 + i.toNat) noPack).data.length : Int) (300 : Int)).toNat (hs.getD (0 + i.toNat) noPack).data ++ List.take ((1 : Int) +
 (hs.getD (0 + i.toNat) noPack).zeros % (5000 : Int)).toNat (List.drop 0 (repN ((1 : Int) + (hs.getD (0 + i.toNat) noPack).zeros % (5000 : Int)).toNat (0 : UInt8)))) ((hs.getD (0 + i.toNat) noPack).pos
 % (↑(List.take (min (↑(hs.getD (0 + i.toNat) noPack).data.length : Int) (300 : Int)).toNat (hs.getD (0 + i.toNat) noPack).data ++ List.take ((1 : Int) + (hs.getD (0 + i.toNat) noPack).zeros % (5000 :
 Int)).toNat (List.drop 0 (repN ((1 : Int) + (hs.getD (0 + i.toNat) noPack).zeros % (5000 : Int)).toNat (0 : UInt8)))).length : Int)) i]).length ≤ 9223372036854775807 ∧ (cs ++ [CutR.mk ((2048 : Int) +
 (hs.getD (0 + i.toNat) noPack).cls % (3 : Int)) ([(1 : Int), (0 : Int), (1 : Int)].getD ((hs.getD (0 + i.toNat) noPack).lab % (3 : Int)).toNat (0 : Int)) ([[(97 : UInt8), (98 : UInt8), (99 : UInt8)],
 [(97 : UInt8), (98 : UInt8), (99 : UInt8), (100 : UInt8), (101 : UInt8), (102 : UInt8)], [(120 : UInt8), (121 : UInt8), (122 : UInt8)]].getD ((hs.getD (0 + i.toNat) noPack).lab % (3 : Int)).toNat [])
 (List.take (min (↑(hs.getD (0 + i.toNat) noPack).data.length : Int) (300 : Int)).toNat (hs.getD (0 + i.toNat) noPack).data ++ List.take ((1 : Int) + (hs.getD (0 + i.toNat) noPack).zeros % (5000 :
 Int)).toNat (List.drop 0 (repN ((1 : Int) + (hs.getD (0 + i.toNat) noPack).zeros % (5000 : Int)).toNat (0 : UInt8)))) ((hs.getD (0 + i.toNat) noPack).pos % (↑(List.take (min (↑(hs.getD (0 + i.toNat)
 noPack).data.length : Int) (300 : Int)).toNat (hs.getD (0 + i.toNat) noPack).data ++ List.take ((1 : Int) + (hs.getD (0 + i.toNat) noPack).zeros % (5000 : Int)).toNat (List.drop 0 (repN ((1 : Int) +
 (hs.getD (0 + i.toNat) noPack).zeros % (5000 : Int)).toNat (0 : UInt8)))).length : Int)) i]).length * 64 ≤ 140737488355328)) (obl (true && decide (ds.length = ds.length ∧ 1 = 1 ∧ 1 = 1 ∧ 0 < 1 ∧ (ds
 ++ [BoolR.mk false]).length ≤ 9223372036854775807 ∧ (ds ++ [BoolR.mk false]).length * 1 ≤ 140737488355328)) (obl (inI64 (i + (1 : Int))) (Q AExit.normal [(0, AVal.sl 0 0 5 0 hs.length none), (3,
 AVal.ptr 1 0 0 0), (4, AVal.int IntKind.i64 (i + (1 : Int)))] (AHeap.mk 4 [(0, ABlk.row 51 packRow hs md), (1, ABlk.cells 29 [AVal.sl 2 0 6 0 (cs ++ [CutR.mk ((2048 : Int) + (hs.getD (0 + i.toNat)
 noPack).cls % (3 : Int)) ([(1 : Int), (0 : Int), (1 : Int)].getD ((hs.getD (0 + i.toNat) noPack).lab % (3 : Int)).toNat (0 : Int)) ([[(97 : UInt8), (98 : UInt8), (99 : UInt8)], [(97 : UInt8), (98 :
 UInt8), (99 : UInt8), (100 : UInt8), (101 : UInt8), (102 : UInt8)], [(120 : UInt8), (121 : UInt8), (122 : UInt8)]].getD ((hs.getD (0 + i.toNat) noPack).lab % (3 : Int)).toNat []) (List.take (min
 (↑(hs.getD (0 + i.toNat) noPack).data.length : Int) (300 : Int)).toNat (hs.getD (0 + i.toNat) noPack).data ++ List.take ((1 : Int) + (hs.getD (0 + i.toNat) noPack).zeros % (5000 : Int)).toNat
 (List.drop 0 (repN ((1 : Int) + (hs.getD (0 + i.toNat) noPack).zeros % (5000 : Int)).toNat (0 : UInt8)))) ((hs.getD (0 + i.toNat) noPack).pos % (↑(List.take (min (↑(hs.getD (0 + i.toNat)
 noPack).data.length : Int) (300 : Int)).toNat (hs.getD (0 + i.toNat) noPack).data ++ List.take ((1 : Int) + (hs.getD (0 + i.toNat) noPack).zeros % (5000 : Int)).toNat (List.drop 0 (repN ((1 : Int) +
 (hs.getD (0 + i.toNat) noPack).zeros % (5000 : Int)).toNat (0 : UInt8)))).length : Int)) i]).length none, AVal.sl 3 0 1 0 (ds ++ [BoolR.mk false]).length none]), (2, ABlk.row 48 cutRow (cs ++ [CutR.mk
 ((2048 : Int) + (hs.getD (0 + i.toNat) noPack).cls % (3 : Int)) ([(1 : Int), (0 : Int), (1 : Int)].getD ((hs.getD (0 + i.toNat) noPack).lab % (3 : Int)).toNat (0 : Int)) ([[(97 : UInt8), (98 : UInt8),
 (99 : UInt8)], [(97 : UInt8), (98 : UInt8), (99 : UInt8), (100 : UInt8), (101 : UInt8), (102 : UInt8)], [(120 : UInt8), (121 : UInt8), (122 : UInt8)]].getD ((hs.getD (0 + i.toNat) noPack).lab % (3 :
 Int)).toNat []) (List.take (min (↑(hs.getD (0 + i.toNat) noPack).data.length : Int) (300 : Int)).toNat (hs.getD (0 + i.toNat) noPack).data ++ List.take ((1 : Int) + (hs.getD (0 + i.toNat)
 noPack).zeros % (5000 : Int)).toNat (List.drop 0 (repN ((1 : Int) + (hs.getD (0 + i.toNat) noPack).zeros % (5000 : Int)).toNat (0 : UInt8)))) ((hs.getD (0 + i.toNat) noPack).pos % (↑(List.take (min
 (↑(hs.getD (0 + i.toNat) noPack).data.length : Int) (300 : Int)).toNat (hs.getD (0 + i.toNat) noPack).data ++ List.take ((1 : Int) + (hs.getD (0 + i.toNat) noPack).zeros % (5000 : Int)).toNat
 (List.drop 0 (repN ((1 : Int) + (hs.getD (0 + i.toNat) noPack).zeros % (5000 : Int)).toNat (0 : UInt8)))).length : Int)) i]) RowMd.plain), (3, ABlk.row 4 boolRow (ds ++ [BoolR.mk false])
 RowMd.plain)]))))))))))))))))))))) (obl (decide ((0 : Int) ≤ i ∧ i < (↑hs.length : Int))) (obl (decide (0 + i.toNat < hs.length)) (obl (decide ((0 : Int) ≤ (hs.getD (0 + i.toNat) noPack).cls ∧ (0 :
 Int) < (3 : Int))) (obl (inI64 ((hs.getD (0 + i.toNat) noPack).cls % (3 : Int))) (obl (inI64 ((2048 : Int) + (hs.getD (0 + i.toNat) noPack).cls % (3 : Int))) (obl (decide ((0 : Int) ≤ i ∧ i <
 (↑hs.length : Int))) (obl (decide (0 + i.toNat < hs.length)) (obl (decide ((0 : Int) ≤ (hs.getD (0 + i.toNat) noPack).lab ∧ (0 : Int) < (3 : Int))) (obl (decide (0 + i.toNat < hs.length) && sameV
 (AVal.int IntKind.u8 (hs.getD (0 + i.toNat) noPack).lab) (AVal.int IntKind.u8 (hs.getD (0 + i.toNat) noPack).lab)) (obl (decide (0 + i.toNat < hs.length) && sameV (AVal.int IntKind.u8 (hs.getD (0 +
 i.toNat) noPack).cls) (AVal.int IntKind.u8 (hs.getD (0 + i.toNat) noPack).cls)) (obl (true && sameV (AVal.sl 2 0 6 0 cs.length none) (AVal.sl 2 0 6 0 cs.length none)) (obl (decide ((0 : Int) ≤
 (hs.getD (0 + i.toNat) noPack).lab % (3 : Int) ∧ (hs.getD (0 + i.toNat) noPack).lab % (3 : Int) < (3 : Int))) (obl (true && decide (cs.length = cs.length ∧ 6 = 6 ∧ 6 = 6 ∧ 0 < 6 ∧ (cs ++ [CutR.mk
 ((2048 : Int) + (hs.getD (0 + i.toNat) noPack).cls % (3 : Int)) ([(1 : Int), (0 : Int), (1 : Int)].getD ((hs.getD (0 + i.toNat) noPack).lab % (3 : Int)).toNat (0 : Int)) ([[(97 : UInt8), (98 : UInt8),
 (99 : UInt8)], [(97 : UInt8), (98 : UInt8), (99 : UInt8), (100 : UInt8), (101 : UInt8), (102 : UInt8)], [(120 : UInt8), (121 : UInt8), (122 : UInt8)]].getD ((hs.getD (0 + i.toNat) noPack).lab % (3 :
 Int)).toNat []) (List.take (min (↑(hs.getD (0 + i.toNat) noPack).data.length : Int) (300 : Int)).toNat (hs.getD (0 + i.toNat) noPack).data ++ List.take ((1 : Int) + (hs.getD (0 + i.toNat)
 noPack).zeros % (5000 : Int)).toNat (List.drop 0 (repN ((1 : Int) + (hs.getD (0 + i.toNat) noPack).zeros % (5000 : Int)).toNat (0 : UInt8)))) (0 : Int) i]).length ≤ 9223372036854775807 ∧ (cs ++
 [CutR.mk ((2048 : Int) + (hs.getD (0 + i.toNat) noPack).cls % (3 : Int)) ([(1 : Int), (0 : Int), (1 : Int)].getD ((hs.getD (0 + i.toNat) noPack).lab % (3 : Int)).toNat (0 : Int)) ([[(97 : UInt8), (98
 : UInt8), (99 : UInt8)], [(97 : UInt8), (98 : UInt8), (99 : UInt8), (100 : UInt8), (101 : UInt8), (102 : UInt8)], [(120 : UInt8), (121 : UInt8), (122 : UInt8)]].getD ((hs.getD (0 + i.toNat)
 noPack).lab % (3 : Int)).toNat []) (List.take (min (↑(hs.getD (0 + i.toNat) noPack).data.length : Int) (300 : Int)).toNat (hs.getD (0 + i.toNat) noPack).data ++ List.take ((1 : Int) + (hs.getD (0 +
 i.toNat) noPack).zeros % (5000 : Int)).toNat (List.drop 0 (repN ((1 : Int) + (hs.getD (0 + i.toNat) noPack).zeros % (5000 : Int)).toNat (0 : UInt8)))) (0 : Int) i]).length * 64 ≤ 140737488355328))
 (obl (true && decide (ds.length = ds.length ∧ 1 = 1 ∧ 1 = 1 ∧ 0 < 1 ∧ (ds ++ [BoolR.mk false]).length ≤ 9223372036854775807 ∧ (ds ++ [BoolR.mk false]).length * 1 ≤ 140737488355328)) (obl (inI64 (i +
 (1 : Int))) (Q AExit.normal [(0, AVal.sl 0 0 5 0 hs.length none), (3, AVal.ptr 1 0 0 0), (4, AVal.int IntKind.i64 (i + (1 : Int)))] (AHeap.mk 4 [(0, ABlk.row 51 packRow hs md), (1, ABlk.cells 29
 [AVal.sl 2 0 6 0 (cs ++ [CutR.mk ((2048 : Int) + (hs.getD (0 + i.toNat) noPack).cls % (3 : Int)) ([(1 : Int), (0 : Int), (1 : Int)].getD ((hs.getD (0 + i.toNat) noPack).lab % (3 : Int)).toNat (0 :
 Int)) ([[(97 : UInt8), (98 : UInt8), (99 : UInt8)], [(97 : UInt8), (98 : UInt8), (99 : UInt8), (100 : UInt8), (101 : UInt8), (102 : UInt8)], [(120 : UInt8), (121 : UInt8), (122 : UInt8)]].getD
 ((hs.getD (0 + i.toNat) noPack).lab % (3 : Int)).toNat []) (List.take (min (↑(hs.getD (0 + i.toNat) noPack).data.length : Int) (300 : Int)).toNat (hs.getD (0 + i.toNat) noPack).data ++ List.take ((1 :
 Int) + (hs.getD (0 + i.toNat) noPack).zeros % (5000 : Int)).toNat (List.drop 0 (repN ((1 : Int) + (hs.getD (0 + i.toNat) noPack).zeros % (5000 : Int)).toNat (0 : UInt8)))) (0 : Int) i]).length none,
 AVal.sl 3 0 1 0 (ds ++ [BoolR.mk false]).length none]), (2, ABlk.row 48 cutRow (cs ++ [CutR.mk ((2048 : Int) + (hs.getD (0 + i.toNat) noPack).cls % (3 : Int)) ([(1 : Int), (0 : Int), (1 : Int)].getD
 ((hs.getD (0 + i.toNat) noPack).lab % (3 : Int)).toNat (0 : Int)) ([[(97 : UInt8), (98 : UInt8), (99 : UInt8)], [(97 : UInt8), (98 : UInt8), (99 : UInt8), (100 : UInt8), (101 : UInt8), (102 : UInt8)],
 [(120 : UInt8), (121 : UInt8), (122 : UInt8)]].getD ((hs.getD (0 + i.toNat) noPack).lab % (3 : Int)).toNat []) (List.take (min (↑(hs.getD (0 + i.toNat) noPack).data.length : Int) (300 : Int)).toNat
 (hs.getD (0 + i.toNat) noPack).data ++ List.take ((1 : Int) + (hs.getD (0 + i.toNat) noPack).zeros % (5000 : Int)).toNat (List.drop 0 (repN ((1 : Int) + (hs.getD (0 + i.toNat) noPack).zeros % (5000 :
 Int)).toNat (0 : UInt8)))) (0 : Int) i]) RowMd.plain), (3, ABlk.row 4 boolRow (ds ++ [BoolR.mk false]) RowMd.plain)])))))))))))))))))))))))))))))))))) (Q (AExit.exit 0) [(0, AVal.sl 0 0 5 0 hs.length
 none), (3, AVal.ptr 1 0 0 0), (4, AVal.int IntKind.i64 i)] (AHeap.mk 4 [(0, ABlk.row 51 packRow hs md), (1, ABlk.cells 29 [AVal.sl 2 0 6 0 cs.length none, AVal.sl 3 0 1 0 ds.length none]), (2,
 ABlk.row 48 cutRow cs RowMd.plain), (3, ABlk.row 4 boolRow ds RowMd.plain)]))) (Q (AExit.exit 0) [(0, AVal.sl 0 0 5 0 hs.length none), (3, AVal.ptr 1 0 0 0), (4, AVal.int IntKind.i64 i)] (AHeap.mk 4
 [(0, ABlk.row 51 packRow hs md), (1, ABlk.cells 29 [AVal.sl 2 0 6 0 cs.length none, AVal.sl 3 0 1 0 ds.length none]), (2, ABlk.row 48 cutRow cs RowMd.plain), (3, ABlk.row 4 boolRow ds RowMd.plain)]))) := by kernel_rfl
set_option maxRecDepth 100000 in
theorem w_of_end0 (hs : List PackR) (md : RowMd) (i : Int) (K : Out → AHeap → Prop) : (wpC (TX0.ctx Try.prog) 400 8 1 (seqR (tailN 2 ofB)) (of0 hs md i).1 (of0 hs md i).2 (canQ 1 tsP2 (endA (TX0.ctx Try.prog).P Try.f8 K))
) = (K (Out.ret (AVal.ptr 1 0 0 0)) (AHeap.mk 2 [(0, ABlk.row 51 packRow hs md), (1, ABlk.cells 29 [AVal.nils, AVal.nils])])) := by kernel_rfl
set_option maxRecDepth 100000 in
theorem w_of_end1 (hs : List PackR) (md : RowMd) (i : Int) (cs : List CutR) (ds : List BoolR) (K : Out → AHeap → Prop) : (wpC (TX0.ctx Try.prog) 400 8 1 (seqR (tailN 2 ofB)) (of1 hs md i cs ds).1 (of1 hs md i cs ds).2 (canQ 1 tsP2 (endA (TX0.ctx Try.prog).P Try.f8 K))
) = (K (Out.ret (AVal.ptr 1 0 0 0)) (AHeap.mk 4 [(0, ABlk.row 51 packRow hs md), (1, ABlk.cells 29 [AVal.sl 2 0 6 0 cs.length none, AVal.sl 3 0 1 0 ds.length none]), (2, ABlk.row 48 cutRow cs
 RowMd.plain), (3, ABlk.row 4 boolRow ds RowMd.plain)])) := by kernel_rfl
set_option maxRecDepth 100000 in
theorem w_of_set (hs : List PackR) (md : RowMd) (Q : AExit → Env → AHeap → Prop) : (wpC (TX0.ctx Try.prog) 400 8 1 (seqL (seqL (tailN 2 ofB))) [(0, .sl 0 0 5 0 hs.length none), (3, .ptr 1 0 0 0)] (of0 hs md 0).2 (canQ 1 tsOf Q)
) = (Q AExit.normal [(0, AVal.sl 0 0 5 0 hs.length none), (3, AVal.ptr 1 0 0 0), (4, AVal.int IntKind.i64 (0 : Int))] (AHeap.mk 2 [(0, ABlk.row 51 packRow hs md), (1, ABlk.cells 29 [AVal.nils,
 AVal.nils])])) := by kernel_rfl
end Go.Proofs.Ytjacnjecggedhaa
namespace Go.Proofs.Ytjacnjecggedhaa
set_option linter.unusedVariables false
set_option linter.unusedSimpArgs false
open Go.RowKit Ev
noncomputable def ofD (x : PackR) : List UInt8 := List.take (min (x.data.length : Int) 300).toNat x.data ++ List.take (1 + x.zeros % 5000).toNat (List.drop 0 (repN (1 + x.zeros % 5000).toNat 0))
noncomputable def cutOf (i : Int) (x : PackR) : CutR := ⟨2048 + x.cls % 3, [1, 0, 1].getD (x.lab % 3).toNat 0, [[97, 98, 99], [97, 98, 99, 100, 101, 102], [120, 121, 122]].getD (x.lab % 3).toNat [], ofD x, if x.pos % 4 = 0 then x.pos % ((ofD x).length : Int) else 0, i⟩
noncomputable def ofN (hs : List PackR) (n : Nat) : List CutR := (List.range n).map fun (j : Nat) => cutOf j (hs.getD j noPack)
def dsN (n : Nat) : List BoolR := List.replicate n ⟨false⟩
structure PackOk (x : PackR) : Prop where
  c0 : 0 ≤ x.cls
  c1 : x.cls ≤ 255
  l0 : 0 ≤ x.lab
  l1 : x.lab ≤ 255
  p0 : 0 ≤ x.pos
  p1 : x.pos ≤ 255
  z0 : 0 ≤ x.zeros
  z1 : x.zeros ≤ 65535
theorem ofN_succ (hs : List PackR) (n : Nat) : ofN hs (n + 1) = ofN hs n ++ [cutOf n (hs.getD n noPack)] := by
  unfold ofN; rw [List.range_succ, List.map_append]; rfl
theorem dsN_succ (n : Nat) : dsN (n + 1) = dsN n ++ [⟨false⟩] := List.replicate_succ' ..
theorem ofN_length (hs : List PackR) (n : Nat) : (ofN hs n).length = n := by unfold ofN; simp
theorem dsN_length (n : Nat) : (dsN n).length = n := by unfold dsN; simp
theorem ofD_length {x : PackR} (h : PackOk x) : 1 ≤ (ofD x).length ∧ (ofD x).length ≤ 5300 := by
  have h0 := h.z0
  have hz : 0 ≤ x.zeros % 5000 ∧ x.zeros % 5000 < 5000 := by omega
  unfold ofD
  rw [List.length_append, List.length_take, List.length_take, List.drop_zero, repN_eq, List.length_replicate]
  omega
def pOk (hs : List PackR) : Prop := ∀ x ∈ hs, PackOk x
theorem getD_ok {hs : List PackR} (h : pOk hs) {i : Nat} (hi : i < hs.length) : PackOk (hs.getD i noPack) := by
  rw [List.getD_eq_getElem?_getD, List.getElem?_eq_getElem hi]
  exact h _ (List.getElem_mem hi)
def ofI (hs : List PackR) (md : RowMd) (m : Nat) (E : Env) (H : AHeap) : Prop :=
  ∃ i : Nat, i ≤ hs.length ∧ i ≤ 30 ∧ m = 30 - i ∧ ((i = 0 ∧ E = (of0 hs md i).1 ∧ H = (of0 hs md i).2) ∨ (1 ≤ i ∧ E = (of1 hs md i (ofN hs i) (dsN i)).1 ∧ H = (of1 hs md i (ofN hs i) (dsN i)).2))
def ofF (hs : List PackR) (md : RowMd) : AExit → Env → AHeap → Prop := fun x E H => match x with
  | .exit 0 => ∃ i : Nat, i = min hs.length 30 ∧ ((i = 0 ∧ E = (of0 hs md i).1 ∧ H = (of0 hs md i).2) ∨ (1 ≤ i ∧ E = (of1 hs md i (ofN hs i) (dsN i)).1 ∧ H = (of1 hs md i (ofN hs i) (dsN i)).2))
  | _ => False
theorem ofIn (p : List Bool) : InFn (TX0.ctx Try.prog) 8 (codeAt p ofB) :=
  inFn_at TX0ok.ctx (fn := Try.f8) (by kernel_rfl) (by kernel_rfl) p
abbrev OGd (hs : List PackR) (md : RowMd) (c : Code) (Q : AExit → Env → AHeap → Prop) (E : Env) (H : AHeap) : Prop := Gd (TX0.ctx Try.prog) 8 ⟨1, [(0, pRow hs md)]⟩ c Q E H
set_option maxRecDepth 100000 in
theorem of_loop (hs : List PackR) (md : RowMd) (hp : pOk hs) : ∀ m E H, ofI hs md m E H → OGd hs md (.loop ofR) (ofF hs md) E H := by
  refine Gd.loop (ofI hs md) (fun m E H hI => ?_)
  obtain ⟨i, hi, hi30, hm, h⟩ := hI
  have idx : (0 + (i : Int).toNat) = i := by omega
  have inn : ∀ n : Int, -100000 ≤ n → n ≤ 100000 → inI64 n = true := fun n h1 h2 => inI64_iff.2 ⟨by omega, by omega⟩
  rcases h with ⟨hz, rfl, rfl⟩ | ⟨h1, rfl, rfl⟩
  · refine Gd.walkC TX0ok.ctx 1 tsOf (Nat.le_refl _) (ofIn [true, true, false, true, false, false]) (Eq.mpr (w_of_0 hs md i _) ?_)
    rw [branch_iff]
    refine ⟨fun hl => ?_, fun hl => ⟨i, ?_, .inl ⟨hz, rfl, rfl⟩⟩⟩
    rotate_left
    · have := of_decide_eq_false hl; omega
    rw [branch_iff]
    refine ⟨fun hl2 => ?_, fun hl2 => ⟨i, ?_, .inl ⟨hz, rfl, rfl⟩⟩⟩
    rotate_left
    · have := of_decide_eq_false hl2; omega
    have hl := of_decide_eq_true hl
    have hx := getD_ok hp (i := i) (by omega)
    rw [idx]
    generalize hxe : hs.getD i noPack = x
    have hxe' : hs.getD i noPack = x := hxe
    rw [hxe'] at hx
    have hD : List.take (min (x.data.length : Int) 300).toNat x.data ++ List.take (1 + x.zeros % 5000).toNat (List.drop 0 (repN (1 + x.zeros % 5000).toNat 0)) = ofD x := rfl
    rw [hD]
    have leaf : ∀ c, c = cutOf i x → ∃ m', m' < m ∧ ofI hs md m' (of1 hs md ((i : Int) + 1) [c] [⟨false⟩]).1 (of1 hs md ((i : Int) + 1) [c] [⟨false⟩]).2 := by
      rintro c rfl
      refine ⟨30 - (i + 1), by omega, i + 1, by omega, by omega, rfl, .inr ⟨by omega, ?_, ?_⟩⟩ <;> rw [ofN_succ, dsN_succ, hxe'] <;> subst hz <;> rfl
    have d1 := ofD_length hx
    obtain ⟨c0, c1, l0, l1, p0, p1, z0, z1⟩ := hx
    have r1 : 0 + (1 + x.zeros % 5000).toNat ≤ (repN (1 + x.zeros % 5000).toNat (0 : UInt8)).length := by rw [repN_eq, List.length_replicate]; omega
    have r2 : (((List.take (min (x.data.length : Int) 300).toNat x.data).length + (List.take (1 + x.zeros % 5000).toNat (List.drop 0 (repN (1 + x.zeros % 5000).toNat (0 : UInt8)))).length : Nat) : Int) ≤ 9223372036854775807 := by
      rw [List.length_take, List.length_take, List.drop_zero, repN_eq, List.length_replicate]
      omega
    have s1 : sameV (.int .u8 x.lab) (.int .u8 x.lab) = true := by simp [sameV]
    have s2 : sameV (.int .u8 x.cls) (.int .u8 x.cls) = true := by simp [sameV]
    (repeat (first | refine obl_dec (by omega) ?_ | refine obl_int (by omega) ?_ | refine obl_mk (decide_eq_true r1) ?_ | refine obl_mk (decide_eq_true r2) ?_ | refine obl_and (by omega) s1 ?_ | refine obl_and (by omega) s2 ?_))
    refine br_dec (fun hp4 => ?_) (fun hp4 => ?_)
    · (repeat (first | refine obl_dec (by omega) ?_ | refine obl_int (by omega) ?_ | refine obl_mk (decide_eq_true r1) ?_ | refine obl_mk (decide_eq_true r2) ?_ | refine obl_and (by omega) s1 ?_ | refine obl_and (by omega) s2 ?_))
      exact leaf _ (by unfold cutOf; rw [if_pos hp4])
    · (repeat (first | refine obl_dec (by omega) ?_ | refine obl_int (by omega) ?_ | refine obl_mk (decide_eq_true r1) ?_ | refine obl_mk (decide_eq_true r2) ?_ | refine obl_and (by omega) s1 ?_ | refine obl_and (by omega) s2 ?_))
      exact leaf _ (by unfold cutOf; rw [if_neg hp4])
  · refine Gd.walkC TX0ok.ctx 1 tsOf (Nat.le_refl _) (ofIn [true, true, false, true, false, false]) (Eq.mpr (w_of_1 hs md i (ofN hs i) (dsN i) _) ?_)
    rw [branch_iff]
    refine ⟨fun hl => ?_, fun hl => ⟨i, ?_, .inr ⟨h1, rfl, rfl⟩⟩⟩
    rotate_left
    · have := of_decide_eq_false hl; omega
    rw [branch_iff]
    refine ⟨fun hl2 => ?_, fun hl2 => ⟨i, ?_, .inr ⟨h1, rfl, rfl⟩⟩⟩
    rotate_left
    · have := of_decide_eq_false hl2; omega
    have hl := of_decide_eq_true hl
    have hl3 := of_decide_eq_true hl2
    have hx := getD_ok hp (i := i) (by omega)
    rw [idx]
    generalize hxe : hs.getD i noPack = x
    have hxe' : hs.getD i noPack = x := hxe
    rw [hxe'] at hx
    have hD : List.take (min (x.data.length : Int) 300).toNat x.data ++ List.take (1 + x.zeros % 5000).toNat (List.drop 0 (repN (1 + x.zeros % 5000).toNat 0)) = ofD x := rfl
    rw [hD]
    have leaf : ∀ c, c = cutOf i x → ∃ m', m' < m ∧ ofI hs md m' (of1 hs md ((i : Int) + 1) (ofN hs i ++ [c]) (dsN i ++ [⟨false⟩])).1 (of1 hs md ((i : Int) + 1) (ofN hs i ++ [c]) (dsN i ++ [⟨false⟩])).2 := by
      rintro c rfl
      refine ⟨30 - (i + 1), by omega, i + 1, by omega, by omega, rfl, .inr ⟨by omega, ?_, ?_⟩⟩ <;> rw [ofN_succ, dsN_succ, hxe'] <;> rfl
    have d1 := ofD_length hx
    obtain ⟨c0, c1, l0, l1, p0, p1, z0, z1⟩ := hx
    have r1 : 0 + (1 + x.zeros % 5000).toNat ≤ (repN (1 + x.zeros % 5000).toNat (0 : UInt8)).length := by rw [repN_eq, List.length_replicate]; omega
    have r2 : (((List.take (min (x.data.length : Int) 300).toNat x.data).length + (List.take (1 + x.zeros % 5000).toNat (List.drop 0 (repN (1 + x.zeros % 5000).toNat (0 : UInt8)))).length : Nat) : Int) ≤ 9223372036854775807 := by
      rw [List.length_take, List.length_take, List.drop_zero, repN_eq, List.length_replicate]
      omega
    have n1 := ofN_length hs i
    have n2 := dsN_length i
    have s3 : sameV (.sl 2 0 6 0 (ofN hs i).length none) (.sl 2 0 6 0 (ofN hs i).length none) = true := by simp [sameV]
    have q1 : ∀ c : CutR, (ofN hs i).length = (ofN hs i).length ∧ 6 = 6 ∧ 6 = 6 ∧ 0 < 6 ∧ (ofN hs i ++ [c]).length ≤ 9223372036854775807 ∧ (ofN hs i ++ [c]).length * 64 ≤ 140737488355328 := fun c => ⟨rfl, rfl, rfl, by omega, by rw [List.length_append, n1]; simp only [List.length_cons, List.length_nil]; omega, by rw [List.length_append, n1]; simp only [List.length_cons, List.length_nil]; omega⟩
    have q2 : (dsN i).length = (dsN i).length ∧ 1 = 1 ∧ 1 = 1 ∧ 0 < 1 ∧ (dsN i ++ [(⟨false⟩ : BoolR)]).length ≤ 9223372036854775807 ∧ (dsN i ++ [(⟨false⟩ : BoolR)]).length * 1 ≤ 140737488355328 := ⟨rfl, rfl, rfl, by omega, by rw [List.length_append, n2]; simp only [List.length_cons, List.length_nil]; omega, by rw [List.length_append, n2]; simp only [List.length_cons, List.length_nil]; omega⟩
    have s1 : sameV (.int .u8 x.lab) (.int .u8 x.lab) = true := by simp [sameV]
    have s2 : sameV (.int .u8 x.cls) (.int .u8 x.cls) = true := by simp [sameV]
    (repeat (first | refine obl_dec (by omega) ?_ | refine obl_int (by omega) ?_ | refine obl_mk (decide_eq_true r1) ?_ | refine obl_mk (decide_eq_true r2) ?_ | refine obl_and (by omega) s1 ?_ | refine obl_and (by omega) s2 ?_ | refine obl_tt s3 ?_ | refine obl_tt (decide_eq_true (q1 _)) ?_ | refine obl_tt (decide_eq_true q2) ?_))
    refine br_dec (fun hp4 => ?_) (fun hp4 => ?_)
    · (repeat (first | refine obl_dec (by omega) ?_ | refine obl_int (by omega) ?_ | refine obl_mk (decide_eq_true r1) ?_ | refine obl_mk (decide_eq_true r2) ?_ | refine obl_and (by omega) s1 ?_ | refine obl_and (by omega) s2 ?_ | refine obl_tt s3 ?_ | refine obl_tt (decide_eq_true (q1 _)) ?_ | refine obl_tt (decide_eq_true q2) ?_))
      exact leaf _ (by unfold cutOf; rw [if_pos hp4])
    · (repeat (first | refine obl_dec (by omega) ?_ | refine obl_int (by omega) ?_ | refine obl_mk (decide_eq_true r1) ?_ | refine obl_mk (decide_eq_true r2) ?_ | refine obl_and (by omega) s1 ?_ | refine obl_and (by omega) s2 ?_ | refine obl_tt s3 ?_ | refine obl_tt (decide_eq_true (q1 _)) ?_ | refine obl_tt (decide_eq_true q2) ?_))
      exact leaf _ (by unfold cutOf; rw [if_neg hp4])
def fOf (s : List PackR × RowMd) (K : Out → AHeap → Prop) : Prop := pOk s.1 ∧
  branch (decide (s.1.length = 0)) (K (.ret (.ptr 1 0 0 0)) ⟨2, [(0, pRow s.1 s.2), (1, srcB .nils .nils)]⟩)
    (K (.ret (.ptr 1 0 0 0)) ⟨4, [(0, pRow s.1 s.2), (1, srcB (.sl 2 0 6 0 (ofN s.1 (min s.1.length 30)).length none) (.sl 3 0 1 0 (dsN (min s.1.length 30)).length none)), (2, cRow (ofN s.1 (min s.1.length 30))), (3, dRow (dsN (min s.1.length 30)))]⟩)
theorem ofB_eq : tailN 2 ofB = .seq (.seq (seqL (seqL (tailN 2 ofB))) (.block 0 (.loop ofR))) (seqR (tailN 2 ofB)) := by kernel_rfl
set_option maxRecDepth 100000 in
theorem of_good (hs : List PackR) (md : RowMd) (K : Out → AHeap → Prop) (hK : fOf (hs, md) K) : OGd hs md ofB (endA (TX0.ctx Try.prog).P Try.f8 K) (env0 [.sl 0 0 5 0 hs.length none] 0) ⟨1, [(0, pRow hs md)]⟩ := by
  obtain ⟨hp, hK⟩ := hK
  refine Gd.walkN TX0ok.ctx (base := 1) (Nat.le_refl _) (It := fun E H => canonK 1 [0, 3] E H (fun E H => E = [(0, .sl 0 0 5 0 hs.length none), (3, .ptr 1 0 0 0)] ∧ H = (of0 hs md 0).2)) 2 400 _ _ _ (by kernel_rfl) (ofIn []) (Eq.mpr (w_of_pre hs md _ _) ⟨rfl, rfl⟩) (fun E H h => ?_)
  obtain ⟨E', H', σ, ⟨rfl, rfl⟩, g2, g3, g4, g5, g6⟩ := canonK_ok h
  refine Gd.sub (base := 1) (Nat.le_refl _) g6 ?_ g2 g3 g4 g5
  rw [ofB_eq]
  refine Gd.seq (Gd.seq (Gd.walkC TX0ok.ctx 1 tsOf (Nat.le_refl _) (ofIn [true, true, false, false]) (Eq.mpr (w_of_set hs md _) ?_)))
  refine Gd.block (Gd.mono (of_loop hs md hp 30 _ _ ⟨0, Nat.zero_le _, Nat.zero_le _, rfl, .inl ⟨rfl, rfl, rfl⟩⟩) (fun x E H h => ?_))
  unfold ofF at h
  split at h
  · obtain ⟨i, hi, ⟨hz, rfl, rfl⟩ | ⟨h1, rfl, rfl⟩⟩ := h
    · refine Gd.walkC TX0ok.ctx 1 tsP2 (Nat.le_refl _) (ofIn [true, true, true]) (Eq.mpr (w_of_end0 hs md i K) ?_)
      exact (branch_iff.1 hK).1 (decide_eq_true (by show hs.length = 0; omega))
    · refine Gd.walkC TX0ok.ctx 1 tsP2 (Nat.le_refl _) (ofIn [true, true, true]) (Eq.mpr (w_of_end1 hs md i _ _ K) ?_)
      have := (branch_iff.1 hK).2 (decide_eq_false (by show ¬ hs.length = 0; omega))
      rw [← hi] at this
      exact this
  · exact h.elim
def decOf (args : List AVal) (H : AHeap) : Option (List (Nat × Nat) × (ABlk × Nat)) := match args with
  | [.sl b 0 5 0 n none] => match H.get b with
    | some (.row e T l md) => some ([(0, b)], (.row e T l md, n))
    | _ => none
  | _ => none
theorem decOf_ok : DecOk decOf (fun (s : ABlk × Nat) => [.sl 0 0 5 0 s.2 none]) (fun (s : ABlk × Nat) => ⟨1, [(0, s.1)]⟩) := by
  refine ⟨fun args H σ s h hb hH => ?_⟩
  unfold decOf at h
  split at h
  · rename_i b n
    split at h
    · rename_i e T l md hg
      simp only [Option.some.injEq, Prod.mk.injEq] at h
      obtain ⟨rfl, rfl⟩ := h
      refine ⟨rfl, rfl, fun c x hx => ?_, fun c c' hc hc' hne => ?_, fun c hc => ?_⟩
      · obtain ⟨rfl, hx⟩ := get_one hx
        cases hx
        exact ⟨Nat.one_pos, rfl, hg⟩
      · have h1 : c < 1 := hc
        have h2 : c' < 1 := hc'
        omega
      · have h1 : c < 1 := hc
        obtain rfl : c = 0 := by omega
        exact (hH b _ hg).1
    · cases h
  · cases h
noncomputable def gcOf (hs : List PackR) (md : RowMd) : GC := gcSub decOf (fun (s : ABlk × Nat) => ⟨1, [(0, s.1)]⟩) (fun s K => (s.1 = pRow hs md ∧ s.2 = hs.length) ∧ fOf (hs, md) K)
theorem gcOf_sound (hs : List PackR) (md : RowMd) : GcSound Try.prog 8 (gcOf hs md) := by
  refine gc_sub Try.call8 decOf_ok (fun s k hk ρ w hR hb => ?_)
  obtain ⟨blk, n⟩ := s
  obtain ⟨⟨h1, h2⟩, hk⟩ := hk
  simp only at h1 h2
  subst h1
  subst h2
  exact fn_good TX0ok.ctx (fn := Try.f8) (by kernel_rfl) (by kernel_rfl) (of_good hs md k hk) hR hb
end Go.Proofs.Ytjacnjecggedhaa
namespace Go.Proofs.Ytjacnjecggedhaa
set_option linter.unusedVariables false
set_option linter.unusedSimpArgs false
open Go.RowKit Ev
noncomputable abbrev moB : Code := bodyC Try.f76
noncomputable abbrev moR : Code := codeAt [true, false, true, false, false] moB
def srcH (cs : List CutR) (ds : List BoolR) : List (Nat × ABlk) := [(0, srcB (.sl 1 0 6 0 cs.length none) (.sl 2 0 1 0 ds.length none)), (1, cRow cs), (2, dRow ds)]
def moE (no : Int) : Env := [(0, .ptr 0 0 0 0), (1, .int .u64 no), (2, .int .i64 7)]
def moE8 (no i : Int) : Env := [(0, .ptr 0 0 0 0), (1, .int .u64 no), (2, .int .i64 7), (8, .int .i64 i)]
def tsM : AExit → List Nat := fun x => match x with
  | .ret => [6, 7]
  | _ => [0, 1, 2, 8]
def qRet2 (R Q : AExit → Env → AHeap → Prop) : AExit → Env → AHeap → Prop := fun x E H => match x with
  | .ret => R .ret E H
  | x => Q x E H
end Go.Proofs.Ytjacnjecggedhaa
namespace Go.Proofs.Ytjacnjecggedhaa
set_option linter.unusedVariables false
set_option linter.unusedSimpArgs false
open Go.RowKit Ev
set_option maxRecDepth 100000 in
theorem w_mo_pre (cs : List CutR) (ds : List BoolR) (no : Int) (It : Env → AHeap → Prop) (Q : AExit → Env → AHeap → Prop) : (wpN (TX0.ctx Try.prog) 1 400 76 3 moB (env0 [.ptr 0 0 0 0, .int .u64 no, .int .i64 7] 0) ⟨3, srcH cs ds⟩ (fun E H => canonK 3 [0, 1, 2] E H It) Q
) = (It [(0, AVal.ptr 0 0 0 0), (1, AVal.int IntKind.u64 no), (2, AVal.int IntKind.i64 (7 : Int))] (AHeap.mk 3 [(0, ABlk.cells 29 [AVal.sl 1 0 6 0 cs.length none, AVal.sl 2 0 1 0 ds.length none]), (1,
 ABlk.row 48 cutRow cs RowMd.plain), (2, ABlk.row 4 boolRow ds RowMd.plain)])) := by kernel_rfl
set_option maxRecDepth 100000 in
theorem w_mo_set (cs : List CutR) (ds : List BoolR) (no : Int) (Q : AExit → Env → AHeap → Prop) : (wpC (TX0.ctx Try.prog) 400 76 3 (seqL (seqL (tailN 1 moB))) (moE no) ⟨3, srcH cs ds⟩ (canQ 3 tsM Q)
) = (Q AExit.normal [(0, AVal.ptr 0 0 0 0), (1, AVal.int IntKind.u64 no), (2, AVal.int IntKind.i64 (7 : Int)), (8, AVal.int IntKind.i64 (0 : Int))] (AHeap.mk 3 [(0, ABlk.cells 29 [AVal.sl 1 0 6 0
 cs.length none, AVal.sl 2 0 1 0 ds.length none]), (1, ABlk.row 48 cutRow cs RowMd.plain), (2, ABlk.row 4 boolRow ds RowMd.plain)])) := by kernel_rfl
set_option maxRecDepth 100000 in
theorem w_mo_round (cs : List CutR) (ds : List BoolR) (no : Int) (i : Nat) (K : Out → AHeap → Prop) (Q : AExit → Env → AHeap → Prop) : (wpC (TX0.ctx Try.prog) 400 76 3 moR (moE8 no i) ⟨3, srcH cs ds⟩ (canQ 3 tsM (qRet2 (endA (TX0.ctx Try.prog).P Try.f76 K) Q))
) = (branch (decide ((↑i : Int) < (↑cs.length : Int))) (obl (decide ((0 : Int) ≤ (↑i : Int) ∧ (↑i : Int) < (↑ds.length : Int))) (obl (decide (0 + (↑i : Int).toNat < ds.length)) (branch (!(ds.getD (0 + (↑i
 : Int).toNat) (BoolR.mk false)).b) (branch (decide (no = (0 : Int))) (K (Out.ret (AVal.tup [AVal.int IntKind.u64 (((↑i : Int) % (18446744073709551616 : Int) + (1 : Int)) % (18446744073709551616 :
 Int)), AVal.bool true])) (AHeap.mk 3 [(0, ABlk.cells 29 [AVal.sl 1 0 6 0 cs.length none, AVal.sl 2 0 1 0 ds.length none]), (1, ABlk.row 48 cutRow cs RowMd.plain), (2, ABlk.row 4 boolRow ds
 RowMd.plain)])) (branch (decide (no = ((↑i : Int) % (18446744073709551616 : Int) + (1 : Int)) % (18446744073709551616 : Int))) (K (Out.ret (AVal.tup [AVal.int IntKind.u64 (((↑i : Int) %
 (18446744073709551616 : Int) + (1 : Int)) % (18446744073709551616 : Int)), AVal.bool true])) (AHeap.mk 3 [(0, ABlk.cells 29 [AVal.sl 1 0 6 0 cs.length none, AVal.sl 2 0 1 0 ds.length none]), (1,
 ABlk.row 48 cutRow cs RowMd.plain), (2, ABlk.row 4 boolRow ds RowMd.plain)])) (obl (inI64 ((↑i : Int) + (1 : Int))) (Q AExit.normal [(0, AVal.ptr 0 0 0 0), (1, AVal.int IntKind.u64 no), (2, AVal.int
 IntKind.i64 (7 : Int)), (8, AVal.int IntKind.i64 ((↑i : Int) + (1 : Int)))] (AHeap.mk 3 [(0, ABlk.cells 29 [AVal.sl 1 0 6 0 cs.length none, AVal.sl 2 0 1 0 ds.length none]), (1, ABlk.row 48 cutRow cs
 RowMd.plain), (2, ABlk.row 4 boolRow ds RowMd.plain)]))))) (obl (inI64 ((↑i : Int) + (1 : Int))) (Q AExit.normal [(0, AVal.ptr 0 0 0 0), (1, AVal.int IntKind.u64 no), (2, AVal.int IntKind.i64 (7 :
 Int)), (8, AVal.int IntKind.i64 ((↑i : Int) + (1 : Int)))] (AHeap.mk 3 [(0, ABlk.cells 29 [AVal.sl 1 0 6 0 cs.length none, AVal.sl 2 0 1 0 ds.length none]), (1, ABlk.row 48 cutRow cs RowMd.plain), (2,
 ABlk.row 4 boolRow ds RowMd.plain)])))))) (Q (AExit.exit 0) [(0, AVal.ptr 0 0 0 0), (1, AVal.int IntKind.u64 no), (2, AVal.int IntKind.i64 (7 : Int)), (8, AVal.int IntKind.i64 (↑i : Int))] (AHeap.mk 3
 [(0, ABlk.cells 29 [AVal.sl 1 0 6 0 cs.length none, AVal.sl 2 0 1 0 ds.length none]), (1, ABlk.row 48 cutRow cs RowMd.plain), (2, ABlk.row 4 boolRow ds RowMd.plain)]))) := by kernel_rfl
set_option maxRecDepth 100000 in
theorem w_mo_end (cs : List CutR) (ds : List BoolR) (no i : Int) (K : Out → AHeap → Prop) : (wpC (TX0.ctx Try.prog) 400 76 3 (seqR (tailN 1 moB)) (moE8 no i) ⟨3, srcH cs ds⟩ (canQ 3 tsM (endA (TX0.ctx Try.prog).P Try.f76 K))
) = (K (Out.ret (AVal.tup [AVal.int IntKind.u64 (0 : Int), AVal.bool false])) (AHeap.mk 3 [(0, ABlk.cells 29 [AVal.sl 1 0 6 0 cs.length none, AVal.sl 2 0 1 0 ds.length none]), (1, ABlk.row 48 cutRow cs
 RowMd.plain), (2, ABlk.row 4 boolRow ds RowMd.plain)])) := by kernel_rfl
end Go.Proofs.Ytjacnjecggedhaa
namespace Go.Proofs.Ytjacnjecggedhaa
set_option linter.unusedVariables false
set_option linter.unusedSimpArgs false
open Go.RowKit Ev
def moreR (ds : List BoolR) (no : Int) : Nat → Nat → Option Nat
  | 0, _ => none
  | m + 1, i => if (ds.getD i ⟨false⟩).b = false ∧ (no = 0 ∨ no = (i : Int) + 1) then some i else moreR ds no m (i + 1)
def moreM (ds : List BoolR) (no : Int) : Option Nat := moreR ds no ds.length 0
structure MoreK (cs : List CutR) (ds : List BoolR) (no : Int) (K : Out → AHeap → Prop) : Prop where
  some : ∀ i : Nat, moreM ds no = some i → K (.ret (.tup [.int .u64 ((i : Int) + 1), .bool true])) ⟨3, srcH cs ds⟩
  none : moreM ds no = none → K (.ret (.tup [.int .u64 0, .bool false])) ⟨3, srcH cs ds⟩
theorem moIn (p : List Bool) : InFn (TX0.ctx Try.prog) 76 (codeAt p moB) :=
  inFn_at TX0ok.ctx (fn := Try.f76) (by kernel_rfl) (by kernel_rfl) p
abbrev MGd (cs : List CutR) (ds : List BoolR) (c : Code) (Q : AExit → Env → AHeap → Prop) (E : Env) (H : AHeap) : Prop := Gd (TX0.ctx Try.prog) 76 ⟨3, srcH cs ds⟩ c Q E H
noncomputable abbrev moQ (cs : List CutR) (ds : List BoolR) (no : Int) (K : Out → AHeap → Prop) : AExit → Env → AHeap → Prop := fun x E H => match x with
  | .exit 0 => moreM ds no = none ∧ ∃ i : Int, E = moE8 no i ∧ H = ⟨3, srcH cs ds⟩
  | .ret => endA (TX0.ctx Try.prog).P Try.f76 K .ret E H
  | _ => False
def moI (cs : List CutR) (ds : List BoolR) (no : Int) (m : Nat) (E : Env) (H : AHeap) : Prop :=
  ∃ i : Nat, m = ds.length - i ∧ i ≤ ds.length ∧ moreR ds no (ds.length - i) i = moreM ds no ∧ E = moE8 no i ∧ H = ⟨3, srcH cs ds⟩
set_option maxRecDepth 100000 in
theorem mo_loop (cs : List CutR) (ds : List BoolR) (no : Int) (K : Out → AHeap → Prop) (hK : MoreK cs ds no K) (hl : cs.length = ds.length) (h30 : ds.length ≤ 30) : ∀ m E H, moI cs ds no m E H → MGd cs ds (.loop moR) (moQ cs ds no K) E H := by
  refine Gd.loop (moI cs ds no) (fun m E H hI => ?_)
  obtain ⟨i, hm, hi, hr, rfl, rfl⟩ := hI
  refine Gd.mono (Gd.walkC TX0ok.ctx (Q := qRet2 (endA (TX0.ctx Try.prog).P Try.f76 K) (fun x E H => match x with
    | .normal => ∃ m', m' < m ∧ moI cs ds no m' E H
    | .exit 0 => moreM ds no = none ∧ ∃ i : Int, E = moE8 no i ∧ H = ⟨3, srcH cs ds⟩
    | _ => False)) 3 tsM (Nat.le_refl _) (moIn [true, false, true, false, false]) (Eq.mpr (w_mo_round cs ds no i K _) ?_)) (fun x E H h => ?_)
  rotate_left
  · cases x with
    | normal => exact h
    | ret => exact h
    | panic v => exact h.elim
    | exit j => cases j with
      | zero => exact h
      | succ n => exact h.elim
  have idx : 0 + (i : Int).toNat = i := by omega
  have e1 : (((i : Int) % 18446744073709551616 + 1) % 18446744073709551616) = (i : Int) + 1 := by omega
  rw [idx, e1]
  refine br_dec (fun h => ?_) (fun h => ?_)
  · refine obl_dec (by omega) (obl_dec (by omega) ?_)
    obtain ⟨r, hr'⟩ : ∃ r, ds.length - i = r + 1 := ⟨ds.length - i - 1, by omega⟩
    have hrest : ds.length - (i + 1) = r := by omega
    have hun : moreR ds no (ds.length - i) i = if (ds.getD i ⟨false⟩).b = false ∧ (no = 0 ∨ no = (i : Int) + 1) then some i else moreR ds no (ds.length - (i + 1)) (i + 1) := by
      rw [hr', hrest]; rfl
    have next : ¬ ((ds.getD i ⟨false⟩).b = false ∧ (no = 0 ∨ no = (i : Int) + 1)) → ∃ m', m' < m ∧ moI cs ds no m' (moE8 no ((i : Int) + 1)) ⟨3, srcH cs ds⟩ := fun hn =>
      ⟨ds.length - (i + 1), by omega, i + 1, rfl, by omega, by rw [← hr, hun, if_neg hn], rfl, rfl⟩
    have found : ((ds.getD i ⟨false⟩).b = false ∧ (no = 0 ∨ no = (i : Int) + 1)) → K (.ret (.tup [.int .u64 ((i : Int) + 1), .bool true])) ⟨3, srcH cs ds⟩ := fun hn =>
      hK.some i (by rw [← hr, hun, if_pos hn])
    refine br_mk (fun hb => ?_) (fun hb => ?_)
    · have hb : (ds.getD i ⟨false⟩).b = false := by simpa using hb
      refine br_dec (fun h0 => found ⟨hb, .inl h0⟩) (fun h0 => ?_)
      refine br_dec (fun h1 => found ⟨hb, .inr h1⟩) (fun h1 => ?_)
      exact obl_int (by omega) (next (by rintro ⟨_, h | h⟩ <;> contradiction))
    · have hb : (ds.getD i ⟨false⟩).b = true := by simpa using hb
      exact obl_int (by omega) (next (by rintro ⟨h, _⟩; rw [hb] at h; cases h))
  · refine ⟨?_, (i : Int), rfl, rfl⟩
    have : ds.length - i = 0 := by omega
    rw [← hr, this]; rfl
theorem moB_eq : tailN 1 moB = .seq (.seq (seqL (seqL (tailN 1 moB))) (.block 0 (.loop moR))) (seqR (tailN 1 moB)) := by kernel_rfl
set_option maxRecDepth 100000 in
theorem mo_good (cs : List CutR) (ds : List BoolR) (no : Int) (K : Out → AHeap → Prop) (hK : MoreK cs ds no K) (hl : cs.length = ds.length) (h30 : ds.length ≤ 30) : MGd cs ds moB (endA (TX0.ctx Try.prog).P Try.f76 K) (env0 [.ptr 0 0 0 0, .int .u64 no, .int .i64 7] 0) ⟨3, srcH cs ds⟩ := by
  refine Gd.walkN TX0ok.ctx (base := 3) (Nat.le_refl _) (It := fun E H => canonK 3 [0, 1, 2] E H (fun E H => E = moE no ∧ H = ⟨3, srcH cs ds⟩)) 1 400 _ _ _ (by kernel_rfl) (moIn []) (Eq.mpr (w_mo_pre cs ds no _ _) ⟨rfl, rfl⟩) (fun E H h => ?_)
  obtain ⟨E', H', σ, ⟨rfl, rfl⟩, g2, g3, g4, g5, g6⟩ := canonK_ok h
  refine Gd.sub (base := 3) (Nat.le_refl _) g6 ?_ g2 g3 g4 g5
  rw [moB_eq]
  refine Gd.seq (Gd.seq (Gd.walkC TX0ok.ctx 3 tsM (Nat.le_refl _) (moIn [true, false, false]) (Eq.mpr (w_mo_set cs ds no _) ?_)))
  refine Gd.block (Gd.mono (mo_loop cs ds no K hK hl h30 ds.length _ _ ⟨0, rfl, Nat.zero_le _, rfl, rfl, rfl⟩) (fun x E H h => ?_))
  unfold moQ at h
  split at h
  · obtain ⟨h1, i, rfl, rfl⟩ := h
    exact Gd.walkC TX0ok.ctx 3 tsM (Nat.le_refl _) (moIn [true, true]) (Eq.mpr (w_mo_end cs ds no i K) (hK.none h1))
  · exact h
  · exact h.elim
structure SrcS where
  l : ABlk
  d : ABlk
  n1 : Nat
  n2 : Nat
  no : Int
def decMore (args : List AVal) (H : AHeap) : Option (List (Nat × Nat) × SrcS) := match args with
  | [.ptr b 0 0 0, .int .u64 no, .int .i64 (.ofNat 7)] => match H.get b with
    | some (.cells e [.sl b1 0 6 0 n1 none, .sl b2 0 1 0 n2 none]) => match H.get b1, H.get b2 with
      | some (.row e1 T1 l1 m1), some (.row e2 T2 l2 m2) => match Nat.beq e 29 && !(Nat.beq b1 b2) with
        | true => some ([(0, b), (1, b1), (2, b2)], ⟨.row e1 T1 l1 m1, .row e2 T2 l2 m2, n1, n2, no⟩)
        | false => none
      | _, _ => none
    | _ => none
  | _ => none
def srcC (s : SrcS) : AHeap := ⟨3, [(0, srcB (.sl 1 0 6 0 s.n1 none) (.sl 2 0 1 0 s.n2 none)), (1, s.l), (2, s.d)]⟩
theorem get_three {x y z u : ABlk} {c : Nat} (h : AHeap.get ⟨3, [(0, x), (1, y), (2, z)]⟩ c = some u) : (c = 0 ∧ x.live = some u) ∨ (c = 1 ∧ y.live = some u) ∨ (c = 2 ∧ z.live = some u) := by
  unfold AHeap.get at h
  rw [getB_cons] at h
  by_cases h0 : 0 = c
  · rw [if_pos h0] at h; exact .inl ⟨h0.symm, h⟩
  rw [if_neg h0, getB_cons] at h
  by_cases h1 : 1 = c
  · rw [if_pos h1] at h; exact .inr (.inl ⟨h1.symm, h⟩)
  rw [if_neg h1, getB_cons] at h
  by_cases h2 : 2 = c
  · rw [if_pos h2] at h; exact .inr (.inr ⟨h2.symm, h⟩)
  rw [if_neg h2] at h
  cases h
theorem three_cases {c : Nat} (h : c < 3) : c = 0 ∨ c = 1 ∨ c = 2 := by omega
theorem decMore_ok : DecOk decMore (fun s => [.ptr 0 0 0 0, .int .u64 s.no, .int .i64 7]) srcC := by
  refine ⟨fun args H σ s h hb hH => ?_⟩
  unfold decMore at h
  split at h
  · rename_i b no
    split at h
    · rename_i e b1 n1 b2 n2 hg
      split at h
      · rename_i e1 T1 l1 m1 e2 T2 l2 m2 hg1 hg2
        split at h
        · rename_i hc
          simp only [Bool.and_eq_true, Bool.not_eq_true'] at hc
          have he := nat_beq_eq.1 hc.1
          have hne := nat_beq_ne.1 hc.2
          subst he
          simp only [Option.some.injEq, Prod.mk.injEq] at h
          obtain ⟨rfl, rfl⟩ := h
          have n01 : b ≠ b1 := by rintro rfl; rw [hg] at hg1; cases hg1
          have n02 : b ≠ b2 := by rintro rfl; rw [hg] at hg2; cases hg2
          refine ⟨rfl, rfl, fun c x hx => ?_, fun c c' hc hc' hne' => ?_, fun c hc => ?_⟩
          · rcases get_three hx with ⟨rfl, hx⟩ | ⟨rfl, hx⟩ | ⟨rfl, hx⟩
            · cases hx; exact ⟨(by decide : 0 < 3), rfl, hg⟩
            · cases hx; exact ⟨(by decide : 1 < 3), rfl, hg1⟩
            · cases hx; exact ⟨(by decide : 2 < 3), rfl, hg2⟩
          · rcases three_cases hc with rfl | rfl | rfl <;> rcases three_cases hc' with rfl | rfl | rfl <;> first | exact absurd rfl hne' | exact n01 | exact n02 | exact hne | exact n01.symm | exact n02.symm | exact fun h => hne h.symm
          · rcases three_cases hc with rfl | rfl | rfl
            · exact (hH b _ hg).1
            · exact (hH b1 _ hg1).1
            · exact (hH b2 _ hg2).1
        · cases h
      · cases h
    · cases h
  · cases h
def fMore (s : SrcS) (K : Out → AHeap → Prop) : Prop := ∃ (cs : List CutR) (ds : List BoolR), ((s.l = cRow cs ∧ s.d = dRow ds) ∧ (s.n1 = cs.length ∧ s.n2 = ds.length) ∧ cs.length = ds.length ∧ ds.length ≤ 30) ∧
  (∀ i : Nat, moreM ds s.no = some i → K (.ret (.tup [.int .u64 ((i : Int) + 1), .bool true])) (srcC s)) ∧ (moreM ds s.no = none → K (.ret (.tup [.int .u64 0, .bool false])) (srcC s))
theorem more_sound : GcSound Try.prog 76 (gcSub decMore srcC fMore) := by
  refine gc_sub Try.call76 decMore_ok (fun s k hk ρ w hR hb => ?_)
  obtain ⟨l, d, n1, n2, no⟩ := s
  obtain ⟨cs, ds, ⟨⟨h1, h2⟩, ⟨h3, h4⟩, h5, h6⟩, k1, k2⟩ := hk
  simp only at h1 h2 h3 h4
  subst h1 h2 h3 h4
  exact fn_good TX0ok.ctx (fn := Try.f76) (by kernel_rfl) (by kernel_rfl) (mo_good cs ds no k ⟨k1, k2⟩ h5 h6) hR hb
noncomputable def TX1 : Tabs := TX0.addGc 76 (gcSub decMore srcC fMore)
theorem TX1ok : TabsOk TX1 Try.prog := TX0ok.addGc more_sound
end Go.Proofs.Ytjacnjecggedhaa
namespace Go.Proofs.Ytjacnjecggedhaa
set_option linter.unusedVariables false
set_option linter.unusedSimpArgs false
open Go.RowKit Ev
def dropFc (T : Tabs) (f : Nat) : Tabs := { T with fcs := T.fcs.filter fun p => !(Nat.beq p.1 f) }
theorem dropFc_ok {T : Tabs} {P : Program} (h : TabsOk T P) (f : Nat) : TabsOk (dropFc T f) P := ⟨h.mixed, h.fns, h.rows, fun p hp => h.fcs p (List.mem_filter.1 hp).1, h.gcs, h.lcs, h.op⟩
def gcNextV : GC := fun args H K => match args with
  | [.agg [.int .i64 typ, .int .i64 k, .str b, .str data, .int .i64 at_, .int .i64 id], .agg [.int .i64 lk, .str lb], .int .i64 space, .bool whole] =>
    ∀ R : NextR, nextR typ k b data at_ id lk lb space whole = R → K (.ret (nextT typ data id R)) H
  | _ => False
theorem gcNextV_sound : GcSound Try.prog 78 gcNextV := by
  intro args H K hg ρ w hR ha
  unfold gcNextV at hg
  split at hg
  · rename_i typ k b data at_ id lk lb space whole
    obtain ⟨h1, h2⟩ := next_sound.2 _ H _ (rfl : fcNext [.agg [.int .i64 typ, .int .i64 k, .str b, .str data, .int .i64 at_, .int .i64 id], .agg [.int .i64 lk, .str lb], .int .i64 space, .bool whole] H = some (true, nextT typ data id (nextR typ k b data at_ id lk lb space whole))) ρ w H.next (fun b y hy => (hR.blk b y hy).2) ha
    refine ⟨next_sound.1, h1.mono ?_⟩
    rintro e w' ⟨rfl, hb⟩
    exact ⟨.ret _, H, ρ, ⟨rfl, h2⟩, hg _ rfl, Step.grow hR hb⟩
  · exact hg.elim
noncomputable def TX2 : Tabs := symT ((dropFc TX1 78).addGc 78 gcNextV) 75
theorem TX2ok : TabsOk TX2 Try.prog := symT_ok ((dropFc_ok TX1ok _).addGc gcNextV_sound) _
structure FSt where
  L : List UInt8
  beg : Bool
  k : Nat
  lk : Int
  lb : List UInt8
def fE (s : AVal) (r : Env) : Env := (4, .ptr 3 0 0 0) :: (5, .ptr 4 0 0 0) :: (6, .ptr 5 0 0 0) :: (10, .ptr 6 0 0 0) :: (11, s) :: (12, .func 16 [] [.ptr 3 0 0 0, .ptr 4 0 0 0, .ptr 5 0 0 0]) :: r
def f13 (i : Nat) : Env := [(13, .int .u64 ((i : Int) + 1))]
def f14 (no : Int) (sm : Bool) : Env := [(13, .int .u64 no), (14, .bool sm)]
def srcN (n : Nat) (cs : List CutR) (ds : List BoolR) : List (Nat × ABlk) := [(0, srcB (.sl 1 0 6 0 n none) (.sl 2 0 1 0 n none)), (1, cRow cs), (2, dRow ds)]
def fH0 (n : Nat) (cs : List CutR) (ds : List BoolR) (fv : Int) : List (Nat × ABlk) := srcN n cs ds ++ [(3, .cells 65 [.iface 24 (.ptr 0 0 0 0)]), (4, .cells 33 [.int .u64 fv]), (5, .cells 3 [.int .i64 7])]
def fHx (n : Nat) (cs : List CutR) (ds : List BoolR) (fv : Int) (r : List (Nat × ABlk)) : List (Nat × ABlk) := fH0 n cs ds fv ++ r
def fldS (v : AVal) (sp : Int) (F : FSt) : ABlk := .cells 70 [v, .int .i64 sp, .bool F.beg, .int .i64 (F.k : Int), .int .i64 F.lk, .str F.lb]
def fA (first sp : Int) : List AVal := [.iface 24 (.ptr 0 0 0 0), .int .u64 first, .int .i64 7, .int .i64 sp]
def feE (sp : Int) : Env := [(3, .int .i64 sp), (4, .ptr 3 0 0 0), (5, .ptr 4 0 0 0), (6, .ptr 5 0 0 0)]
def F0 : FSt := ⟨[], false, 0, 0, []⟩
def g00 (n : Nat) (sp : Int) (cs : List CutR) (ds : List BoolR) (fv : Int) (F : FSt) (r : Env) : Env × AHeap := (fE .nils r, ⟨7, fH0 n cs ds fv ++ [(6, fldS .nils sp F)]⟩)
def g10 (n : Nat) (sp : Int) (cs : List CutR) (ds : List BoolR) (fv : Int) (F : FSt) (r : Env) : Env × AHeap := (fE .nils r, ⟨8, fH0 n cs ds fv ++ [(6, fldS (oSl 7 F.L.length) sp F), (7, bRow F.L)]⟩)
def g11 (n : Nat) (sp : Int) (cs : List CutR) (ds : List BoolR) (fv : Int) (F : FSt) (S : List Int) (r : Env) : Env × AHeap := (fE (oSl 7 S.length) r, ⟨9, fH0 n cs ds fv ++ [(6, fldS (oSl 8 F.L.length) sp F), (7, sRow S), (8, bRow F.L)]⟩)
def noCut : CutR := ⟨0, 0, [], [], 0, 0⟩
def idI (i : Nat) : Nat := 0 + (((i : Int) + 1 - 1) % 18446744073709551616).toNat
def cutI (cs : List CutR) (i : Nat) : CutR := cs.getD (0 + (((i : Int) + 1 - 1) % 18446744073709551616).toNat) ⟨0, 0, [], [], 0, 0⟩
def idJ (i : Nat) : Int := ((i : Int) + 1 - 1) % 18446744073709551616
theorem idJ_eq {i : Nat} (h : i < 1000000) : idJ i = (i : Int) := by unfold idJ; omega
theorem idI_eq {i : Nat} (h : i < 1000000) : idI i = i := by unfold idI; omega
theorem cutI_eq {cs : List CutR} {i : Nat} (h : i < 1000000) : cutI cs i = cs.getD i noCut := by
  show cs.getD (idI i) noCut = _
  rw [idI_eq h]
end Go.Proofs.Ytjacnjecggedhaa
namespace Go.Proofs.Ytjacnjecggedhaa
set_option linter.unusedVariables false
set_option linter.unusedSimpArgs false
open Go.RowKit Ev
def memL (lk : Int) (lb : List UInt8) (k : Int) (b : List UInt8) : Int × List UInt8 := if lb ≠ [] ∧ lk = k ∧ lb = b then (3, []) else (k, b)
def memK (lk : Int) (lb : List UInt8) (k : Int) (b : List UInt8) : Int × List UInt8 := if lb ≠ [] ∧ lk = k ∧ lb = b then (lk, lb) else if 0 < lSize k ∧ lOk k b = true then (k, b) else (lk, lb)
def labOf (F : FSt) (c : CutR) : Int × List UInt8 := if c.pos = 0 then memL F.lk F.lb c.k c.lb else (c.k, c.lb)
def memOf (F : FSt) (c : CutR) : Int × List UInt8 := if c.pos = 0 then memK F.lk F.lb c.k c.lb else (F.lk, F.lb)
def stepR (sp : Int) (F : FSt) (c : CutR) : NextR := nextR c.typ c.k c.lb c.data c.pos c.id (labOf F c).1 (labOf F c).2 (sp - (F.L.length : Int)) F.beg
def encR (R : NextR) : List UInt8 := gEnc R.st R.en R.id R.total R.typ R.k R.lb R.data R.sum
def errR (R : NextR) : Int := gErr R.st R.en R.id R.total R.typ R.k R.lb R.data R.sum
structure OkR (sp : Int) (F : FSt) (R : NextR) : Prop where
  err : R.err = 0
  enc : errR R = 0
  len : ((encR R).length : Int) ≤ sp - (F.L.length : Int)
def stepF (F : FSt) (c : CutR) (R : NextR) : FSt := ⟨F.L ++ encR R, F.beg || (R.st && !R.en), F.k + 1, (memOf F c).1, (memOf F c).2⟩
def stepC (c : CutR) (R : NextR) : CutR := ⟨c.typ, R.k2, R.b2, c.data, R.at2, c.id⟩
structure CSm (c : CutR) : Prop where
  d : c.data.length ≤ 5300
  l : c.lb.length ≤ 20
theorem pSum_le (typ k : Int) (b data : List UInt8) : (pSum typ k b data).length ≤ 4 := by
  unfold pSum
  split
  · simp [four]
  · simp
theorem nextR_len (typ k : Int) (b data : List UInt8) (at_ id lk : Int) (lb : List UInt8) (space : Int) (whole : Bool) (R : NextR) (h : nextR typ k b data at_ id lk lb space whole = R) :
    R.lb.length ≤ lb.length ∧ R.data.length ≤ data.length ∧ R.sum.length ≤ 4 ∧ (R.b2 = b ∨ R.b2 = lb) := by
  have hp := pSum_le typ k b data
  subst h
  unfold nextR
  repeat' split
  all_goals (refine ⟨?_, ?_, ?_, ?_⟩ <;> simp only [List.length_nil, List.length_take, List.length_drop, true_or, or_true] <;> omega)
theorem stepR_small {sp : Int} {F : FSt} {c : CutR} {R : NextR} (h : stepR sp F c = R) (hc : CSm c) : R.lb.length + R.data.length + R.sum.length ≤ 9223372036854775000 ∧ CSm (stepC c R) := by
  obtain ⟨h1, h2, h3, h4⟩ := nextR_len _ _ _ _ _ _ _ _ _ _ R h
  have hl : (labOf F c).2.length ≤ c.lb.length := by
    unfold labOf memL
    repeat' split
    all_goals simp
  have d := hc.d
  have l := hc.l
  refine ⟨by omega, ⟨d, ?_⟩⟩
  show R.b2.length ≤ 20
  rcases h4 with h4 | h4 <;> rw [h4] <;> omega
theorem encR_len {R : NextR} (h : errR R = 0) : 2 ≤ (encR R).length := by
  unfold encR gEnc
  unfold errR at h
  rw [if_pos h]
  simp [two]
end Go.Proofs.Ytjacnjecggedhaa
namespace Go.Proofs.Ytjacnjecggedhaa
set_option linter.unusedVariables false
set_option linter.unusedSimpArgs false
open Go.RowKit Ev
set_option maxRecDepth 100000 in
theorem w_fl_00 (n : Nat) (sp : Int) (cs : List CutR) (ds : List BoolR) (fv : Int) (F : FSt) (i : Nat) (Q : AExit → Env → AHeap → Prop) : (wpC (TX2.ctx Try.prog) 400 9 3 fillL (g00 n sp cs ds fv F (f13 i)).1 (g00 n sp cs ds fv F (f13 i)).2 (canQ 3 ts13 Q)
) = (obl (inI64 (sp - (0 : Int))) (twice (branch (decide ((↑n : Int) % (18446744073709551616 : Int) < (↑i : Int) + (1 : Int))) (Q (AExit.exit 0) (fE AVal.nils (f13 i)) (AHeap.mk 7 (fHx n cs ds fv [(6,
 ABlk.cells 70 [AVal.nils, AVal.int IntKind.i64 sp, AVal.bool F.beg, AVal.int IntKind.i64 (↑F.k : Int), AVal.int IntKind.i64 F.lk, AVal.str F.lb])]))) (obl (decide ((0 : Int) ≤ idJ i ∧ idJ i < (↑n :
 Int))) (obl (decide (0 + (idJ i).toNat < ds.length)) (branch (ds.getD (idI i) (BoolR.mk false)).b (Q (AExit.exit 0) (fE AVal.nils (f13 i)) (AHeap.mk 7 (fHx n cs ds fv [(6, ABlk.cells 70 [AVal.nils,
 AVal.int IntKind.i64 sp, AVal.bool F.beg, AVal.int IntKind.i64 (↑F.k : Int), AVal.int IntKind.i64 F.lk, AVal.str F.lb])]))) (obl (decide ((0 : Int) ≤ idJ i ∧ idJ i < (↑n : Int))) (obl (decide (0 +
 (idJ i).toNat < cs.length)) (branch (decide ((cutI cs i).pos = (0 : Int))) (branch (!decide (F.lb = [])) (branch (decide (F.lk = (cutI cs i).k) && (decide (F.lb = (cutI cs i).lb) && true)) (∀ (R :
 NextR), nextR (cutI cs i).typ (cutI cs i).k (cutI cs i).lb (cutI cs i).data (cutI cs i).pos (cutI cs i).id (3 : Int) [] (sp - (0 : Int)) F.beg = R → branch (!decide (R.err = (0 : Int))) (branch
 (!decide (R.err = (0 : Int))) (Q (AExit.exit 0) (fE AVal.nils (f13 i)) (AHeap.mk 7 (fHx n cs ds fv [(6, ABlk.cells 70 [AVal.nils, AVal.int IntKind.i64 sp, AVal.bool F.beg, AVal.int IntKind.i64 (↑F.k :
 Int), AVal.int IntKind.i64 F.lk, AVal.str F.lb])]))) (branch (decide (sp - (0 : Int) < (3 : Int))) (Q (AExit.exit 0) (fE AVal.nils (f13 i)) (AHeap.mk 7 (fHx n cs ds fv [(6, ABlk.cells 70 [AVal.nils,
 AVal.int IntKind.i64 sp, AVal.bool F.beg, AVal.int IntKind.i64 (↑F.k : Int), AVal.int IntKind.i64 F.lk, AVal.str F.lb])]))) (branch (decide ((70000 : Int) ≤ (↑F.k : Int))) (Q (AExit.exit 0) (fE
 AVal.nils (f13 i)) (AHeap.mk 7 (fHx n cs ds fv [(6, ABlk.cells 70 [AVal.nils, AVal.int IntKind.i64 sp, AVal.bool F.beg, AVal.int IntKind.i64 (↑F.k : Int), AVal.int IntKind.i64 F.lk, AVal.str
 F.lb])]))) (obl (inI64 ((↑F.k : Int) + (1 : Int))) (branch F.beg (Q AExit.normal (fE AVal.nils (f13 i)) (AHeap.mk 8 (fHx n cs ds fv [(6, ABlk.cells 70 [AVal.sl 7 0 1 0 3 none, AVal.int IntKind.i64 sp,
 AVal.bool true, AVal.int IntKind.i64 ((↑F.k : Int) + (1 : Int)), AVal.int IntKind.i64 F.lk, AVal.str F.lb]), (7, ABlk.row 5 byteRow [(48 : UInt8), (1 : UInt8), (0 : UInt8)] RowMd.plain)]))) (Q
 AExit.normal (fE AVal.nils (f13 i)) (AHeap.mk 8 (fHx n cs ds fv [(6, ABlk.cells 70 [AVal.sl 7 0 1 0 3 none, AVal.int IntKind.i64 sp, AVal.bool false, AVal.int IntKind.i64 ((↑F.k : Int) + (1 : Int)),
 AVal.int IntKind.i64 F.lk, AVal.str F.lb]), (7, ABlk.row 5 byteRow [(48 : UInt8), (1 : UInt8), (0 : UInt8)] RowMd.plain)])))))))) (obl (decide ((0 : Int) ≤ idJ i ∧ idJ i < (↑n : Int))) (obl (decide (0
 + (idJ i).toNat < cs.length) && true) (obl (decide ((0 : Int) ≤ idJ i ∧ idJ i < (↑n : Int))) (obl (decide (0 + (idJ i).toNat < ds.length) && true) (obl (decide (R.lb.length + R.data.length +
 R.sum.length ≤ 9223372036854775000)) (branch (!decide (gErr R.st R.en R.id R.total R.typ R.k R.lb R.data R.sum = (0 : Int))) (Q (AExit.exit 0) (fE AVal.nils (f13 i)) (AHeap.mk 7 (fHx n (cs.set (idI i)
 (CutR.mk (cutI cs i).typ R.k2 R.b2 (cutI cs i).data R.at2 (cutI cs i).id)) (ds.set (idI i) (BoolR.mk R.en)) fv [(6, ABlk.cells 70 [AVal.nils, AVal.int IntKind.i64 sp, AVal.bool F.beg, AVal.int
 IntKind.i64 (↑F.k : Int), AVal.int IntKind.i64 F.lk, AVal.str F.lb])]))) (branch (decide (sp - (0 : Int) < (↑(gEnc R.st R.en R.id R.total R.typ R.k R.lb R.data R.sum).length : Int))) (Q (AExit.exit 0)
 (fE AVal.nils (f13 i)) (AHeap.mk 7 (fHx n (cs.set (idI i) (CutR.mk (cutI cs i).typ R.k2 R.b2 (cutI cs i).data R.at2 (cutI cs i).id)) (ds.set (idI i) (BoolR.mk R.en)) fv [(6, ABlk.cells 70 [AVal.nils,
 AVal.int IntKind.i64 sp, AVal.bool F.beg, AVal.int IntKind.i64 (↑F.k : Int), AVal.int IntKind.i64 F.lk, AVal.str F.lb])]))) (branch (decide ((70000 : Int) ≤ (↑F.k : Int))) (Q (AExit.exit 0) (fE
 AVal.nils (f13 i)) (AHeap.mk 7 (fHx n (cs.set (idI i) (CutR.mk (cutI cs i).typ R.k2 R.b2 (cutI cs i).data R.at2 (cutI cs i).id)) (ds.set (idI i) (BoolR.mk R.en)) fv [(6, ABlk.cells 70 [AVal.nils,
 AVal.int IntKind.i64 sp, AVal.bool F.beg, AVal.int IntKind.i64 (↑F.k : Int), AVal.int IntKind.i64 F.lk, AVal.str F.lb])]))) (obl (inI64 ((↑F.k : Int) + (1 : Int))) (obl (true && decide (0 < (gEnc R.st
 R.en R.id R.total R.typ R.k R.lb R.data R.sum).length ∧ 1 = 1 ∧ 1 = 1 ∧ 0 < 1 ∧ (gEnc R.st R.en R.id R.total R.typ R.k R.lb R.data R.sum).length ≤ 9223372036854775807 ∧ (gEnc R.st R.en R.id R.total
 R.typ R.k R.lb R.data R.sum).length * 1 ≤ 140737488355328)) (branch F.beg (branch R.en (Q (AExit.exit 2) (fE (AVal.sl 7 0 1 0 1 none) (f13 i)) (AHeap.mk 9 (fHx n (cs.set (idI i) (CutR.mk (cutI cs
 i).typ R.k2 R.b2 (cutI cs i).data R.at2 (cutI cs i).id)) (ds.set (idI i) (BoolR.mk R.en)) fv [(6, ABlk.cells 70 [AVal.sl 8 0 1 0 (gEnc R.st R.en R.id R.total R.typ R.k R.lb R.data R.sum).length none,
 AVal.int IntKind.i64 sp, AVal.bool true, AVal.int IntKind.i64 ((↑F.k : Int) + (1 : Int)), AVal.int IntKind.i64 F.lk, AVal.str F.lb]), (7, ABlk.row 33 (intRow IntKind.u64) [(↑i : Int) + (1 : Int)]
 RowMd.plain), (8, ABlk.row 5 byteRow (gEnc R.st R.en R.id R.total R.typ R.k R.lb R.data R.sum) RowMd.plain)]))) (Q AExit.normal (fE AVal.nils (f13 i)) (AHeap.mk 8 (fHx n (cs.set (idI i) (CutR.mk (cutI
 cs i).typ R.k2 R.b2 (cutI cs i).data R.at2 (cutI cs i).id)) (ds.set (idI i) (BoolR.mk R.en)) fv [(6, ABlk.cells 70 [AVal.sl 7 0 1 0 (gEnc R.st R.en R.id R.total R.typ R.k R.lb R.data R.sum).length
 none, AVal.int IntKind.i64 sp, AVal.bool true, AVal.int IntKind.i64 ((↑F.k : Int) + (1 : Int)), AVal.int IntKind.i64 F.lk, AVal.str F.lb]), (7, ABlk.row 5 byteRow (gEnc R.st R.en R.id R.total R.typ
 R.k R.lb R.data R.sum) RowMd.plain)])))) (branch R.st (branch R.en (Q (AExit.exit 2) (fE (AVal.sl 7 0 1 0 1 none) (f13 i)) (AHeap.mk 9 (fHx n (cs.set (idI i) (CutR.mk (cutI cs i).typ R.k2 R.b2 (cutI
 cs i).data R.at2 (cutI cs i).id)) (ds.set (idI i) (BoolR.mk R.en)) fv [(6, ABlk.cells 70 [AVal.sl 8 0 1 0 (gEnc R.st R.en R.id R.total R.typ R.k R.lb R.data R.sum).length none, AVal.int IntKind.i64
 sp, AVal.bool !R.en, AVal.int IntKind.i64 ((↑F.k : Int) + (1 : Int)), AVal.int IntKind.i64 F.lk, AVal.str F.lb]), (7, ABlk.row 33 (intRow IntKind.u64) [(↑i : Int) + (1 : Int)] RowMd.plain), (8,
 ABlk.row 5 byteRow (gEnc R.st R.en R.id R.total R.typ R.k R.lb R.data R.sum) RowMd.plain)]))) (Q AExit.normal (fE AVal.nils (f13 i)) (AHeap.mk 8 (fHx n (cs.set (idI i) (CutR.mk (cutI cs i).typ R.k2
 R.b2 (cutI cs i).data R.at2 (cutI cs i).id)) (ds.set (idI i) (BoolR.mk R.en)) fv [(6, ABlk.cells 70 [AVal.sl 7 0 1 0 (gEnc R.st R.en R.id R.total R.typ R.k R.lb R.data R.sum).length none, AVal.int
 IntKind.i64 sp, AVal.bool !R.en, AVal.int IntKind.i64 ((↑F.k : Int) + (1 : Int)), AVal.int IntKind.i64 F.lk, AVal.str F.lb]), (7, ABlk.row 5 byteRow (gEnc R.st R.en R.id R.total R.typ R.k R.lb R.data
 R.sum) RowMd.plain)])))) (branch R.en (Q (AExit.exit 2) (fE (AVal.sl 7 0 1 0 1 none) (f13 i)) (AHeap.mk 9 (fHx n (cs.set (idI i) (CutR.mk (cutI cs i).typ R.k2 R.b2 (cutI cs i).data R.at2 (cutI cs
 i).id)) (ds.set (idI i) (BoolR.mk R.en)) fv [(6, ABlk.cells 70 [AVal.sl 8 0 1 0 (gEnc R.st R.en R.id R.total R.typ R.k R.lb R.data R.sum).length none, AVal.int IntKind.i64 sp, AVal.bool false,
 AVal.int IntKind.i64 ((↑F.k : Int) + (1 : Int)), AVal.int IntKind.i64 F.lk, AVal.str F.lb]), (7, ABlk.row 33 (intRow IntKind.u64) [(↑i : Int) + (1 : Int)] RowMd.plain), (8, ABlk.row 5 byteRow (gEnc
 R.st R.en R.id R.total R.typ R.k R.lb R.data R.sum) RowMd.plain)]))) (Q AExit.normal (fE AVal.nils (f13 i)) (AHeap.mk 8 (fHx n (cs.set (idI i) (CutR.mk (cutI cs i).typ R.k2 R.b2 (cutI cs i).data R.at2
 (cutI cs i).id)) (ds.set (idI i) (BoolR.mk R.en)) fv [(6, ABlk.cells 70 [AVal.sl 7 0 1 0 (gEnc R.st R.en R.id R.total R.typ R.k R.lb R.data R.sum).length none, AVal.int IntKind.i64 sp, AVal.bool
 false, AVal.int IntKind.i64 ((↑F.k : Int) + (1 : Int)), AVal.int IntKind.i64 F.lk, AVal.str F.lb]), (7, ABlk.row 5 byteRow (gEnc R.st R.en R.id R.total R.typ R.k R.lb R.data R.sum)
 RowMd.plain)]))))))))))))))))) (branch (decide ((0 : Int) < lSize (cutI cs i).k)) (branch (decide ((if lOk (cutI cs i).k (cutI cs i).lb = true then (0 : Int) else (2 : Int)) = (0 : Int))) (∀ (R :
 NextR), nextR (cutI cs i).typ (cutI cs i).k (cutI cs i).lb (cutI cs i).data (cutI cs i).pos (cutI cs i).id (cutI cs i).k (cutI cs i).lb (sp - (0 : Int)) F.beg = R → branch (!decide (R.err = (0 :
 Int))) (branch (!decide (R.err = (0 : Int))) (Q (AExit.exit 0) (fE AVal.nils (f13 i)) (AHeap.mk 7 (fHx n cs ds fv [(6, ABlk.cells 70 [AVal.nils, AVal.int IntKind.i64 sp, AVal.bool F.beg, AVal.int
 IntKind.i64 (↑F.k : Int), AVal.int IntKind.i64 (cutI cs i).k, AVal.str (cutI cs i).lb])]))) (branch (decide (sp - (0 : Int) < (3 : Int))) (Q (AExit.exit 0) (fE AVal.nils (f13 i)) (AHeap.mk 7 (fHx n cs
 ds fv [(6, ABlk.cells 70 [AVal.nils, AVal.int IntKind.i64 sp, AVal.bool F.beg, AVal.int IntKind.i64 (↑F.k : Int), AVal.int IntKind.i64 (cutI cs i).k, AVal.str (cutI cs i).lb])]))) (branch (decide
 ((70000 : Int) ≤ (↑F.k : Int))) (Q (AExit.exit 0) (fE AVal.nils (f13 i)) (AHeap.mk 7 (fHx n cs ds fv [(6, ABlk.cells 70 [AVal.nils, AVal.int IntKind.i64 sp, AVal.bool F.beg, AVal.int IntKind.i64 (↑F.k
 : Int), AVal.int IntKind.i64 (cutI cs i).k, AVal.str (cutI cs i).lb])]))) (obl (inI64 ((↑F.k : Int) + (1 : Int))) (branch F.beg (Q AExit.normal (fE AVal.nils (f13 i)) (AHeap.mk 8 (fHx n cs ds fv [(6,
 ABlk.cells 70 [AVal.sl 7 0 1 0 3 none, AVal.int IntKind.i64 sp, AVal.bool true, AVal.int IntKind.i64 ((↑F.k : Int) + (1 : Int)), AVal.int IntKind.i64 (cutI cs i).k, AVal.str (cutI cs i).lb]), (7,
 ABlk.row 5 byteRow [(48 : UInt8), (1 : UInt8), (0 : UInt8)] RowMd.plain)]))) (Q AExit.normal (fE AVal.nils (f13 i)) (AHeap.mk 8 (fHx n cs ds fv [(6, ABlk.cells 70 [AVal.sl 7 0 1 0 3 none, AVal.int
 IntKind.i64 sp, AVal.bool false, AVal.int IntKind.i64 ((↑F.k : Int) + (1 : Int)), AVal.int IntKind.i64 (cutI cs i).k, AVal.str (cutI cs i).lb]), (7, ABlk.row 5 byteRow [(48 : UInt8), (1 : UInt8), (0 :
 UInt8)] RowMd.plain)])))))))) (obl (decide ((0 : Int) ≤ idJ i ∧ idJ i < (↑n : Int))) (obl (decide (0 + (idJ i).toNat < cs.length) && true) (obl (decide ((0 : Int) ≤ idJ i ∧ idJ i < (↑n : Int))) (obl
 (decide (0 + (idJ i).toNat < ds.length) && true) (obl (decide (R.lb.length + R.data.length + R.sum.length ≤ 9223372036854775000)) (branch (!decide (gErr R.st R.en R.id R.total R.typ R.k R.lb R.data
 R.sum = (0 : Int))) (Q (AExit.exit 0) (fE AVal.nils (f13 i)) (AHeap.mk 7 (fHx n (cs.set (idI i) (CutR.mk (cutI cs i).typ R.k2 R.b2 (cutI cs i).data R.at2 (cutI cs i).id)) (ds.set (idI i) (BoolR.mk
 R.en)) fv [(6, ABlk.cells 70 [AVal.nils, AVal.int IntKind.i64 sp, AVal.bool F.beg, AVal.int IntKind.i64 (↑F.k : Int), AVal.int IntKind.i64 (cutI cs i).k, AVal.str (cutI cs i).lb])]))) (branch (decide
 (sp - (0 : Int) < (↑(gEnc R.st R.en R.id R.total R.typ R.k R.lb R.data R.sum).length : Int))) (Q (AExit.exit 0) (fE AVal.nils (f13 i)) (AHeap.mk 7 (fHx n (cs.set (idI i) (CutR.mk (cutI cs i).typ R.k2
 R.b2 (cutI cs i).data R.at2 (cutI cs i).id)) (ds.set (idI i) (BoolR.mk R.en)) fv [(6, ABlk.cells 70 [AVal.nils, AVal.int IntKind.i64 sp, AVal.bool F.beg, AVal.int IntKind.i64 (↑F.k : Int), AVal.int
 IntKind.i64 (cutI cs i).k, AVal.str (cutI cs i).lb])]))) (branch (decide ((70000 : Int) ≤ (↑F.k : Int))) (Q (AExit.exit 0) (fE AVal.nils (f13 i)) (AHeap.mk 7 (fHx n (cs.set (idI i) (CutR.mk (cutI cs
 i).typ R.k2 R.b2 (cutI cs i).data R.at2 (cutI cs i).id)) (ds.set (idI i) (BoolR.mk R.en)) fv [(6, ABlk.cells 70 [AVal.nils, AVal.int IntKind.i64 sp, AVal.bool F.beg, AVal.int IntKind.i64 (↑F.k : Int),
 AVal.int IntKind.i64 (cutI cs i).k, AVal.str (cutI cs i).lb])]))) (obl (inI64 ((↑F.k : Int) + (1 : Int))) (obl (true && decide (0 < (gEnc R.st R.en R.id R.total R.typ R.k R.lb R.data R.sum).length ∧ 1
 = 1 ∧ 1 = 1 ∧ 0 < 1 ∧ (gEnc R.st R.en R.id R.total R.typ R.k R.lb R.data R.sum).length ≤ 9223372036854775807 ∧ (gEnc R.st R.en R.id R.total R.typ R.k R.lb R.data R.sum).length * 1 ≤ 140737488355328))
 (branch F.beg (branch R.en (Q (AExit.exit 2) (fE (AVal.sl 7 0 1 0 1 none) (f13 i)) (AHeap.mk 9 (fHx n (cs.set (idI i) (CutR.mk (cutI cs i).typ R.k2 R.b2 (cutI cs i).data R.at2 (cutI cs i).id)) (ds.set
 (idI i) (BoolR.mk R.en)) fv [(6, ABlk.cells 70 [AVal.sl 8 0 1 0 (gEnc R.st R.en R.id R.total R.typ R.k R.lb R.data R.sum).length none, AVal.int IntKind.i64 sp, AVal.bool true, AVal.int IntKind.i64
 ((↑F.k : Int) + (1 : Int)), AVal.int IntKind.i64 (cutI cs i).k, AVal.str (cutI cs i).lb]), (7, ABlk.row 33 (intRow IntKind.u64) [(↑i : Int) + (1 : Int)] RowMd.plain), (8, ABlk.row 5 byteRow (gEnc R.st
 R.en R.id R.total R.typ R.k R.lb R.data R.sum) RowMd.plain)]))) (Q AExit.normal (fE AVal.nils (f13 i)) (AHeap.mk 8 (fHx n (cs.set (idI i) (CutR.mk (cutI cs i).typ R.k2 R.b2 (cutI cs i).data R.at2
 (cutI cs i).id)) (ds.set (idI i) (BoolR.mk R.en)) fv [(6, ABlk.cells 70 [AVal.sl 7 0 1 0 (gEnc R.st R.en R.id R.total R.typ R.k R.lb R.data R.sum).length none, AVal.int IntKind.i64 sp, AVal.bool true,
 AVal.int IntKind.i64 ((↑F.k : Int) + (1 : Int)), AVal.int IntKind.i64 (cutI cs i).k, AVal.str (cutI cs i).lb]), (7, ABlk.row 5 byteRow (gEnc R.st R.en R.id R.total R.typ R.k R.lb R.data R.sum)
 RowMd.plain)])))) (branch R.st (branch R.en (Q (AExit.exit 2) (fE (AVal.sl 7 0 1 0 1 none) (f13 i)) (AHeap.mk 9 (fHx n (cs.set (idI i) (CutR.mk (cutI cs i).typ R.k2 R.b2 (cutI cs i).data R.at2 (cutI
 cs i).id)) (ds.set (idI i) (BoolR.mk R.en)) fv [(6, ABlk.cells 70 [AVal.sl 8 0 1 0 (gEnc R.st R.en R.id R.total R.typ R.k R.lb R.data R.sum).length none, AVal.int IntKind.i64 sp, AVal.bool !R.en,
 AVal.int IntKind.i64 ((↑F.k : Int) + (1 : Int)), AVal.int IntKind.i64 (cutI cs i).k, AVal.str (cutI cs i).lb]), (7, ABlk.row 33 (intRow IntKind.u64) [(↑i : Int) + (1 : Int)] RowMd.plain), (8, ABlk.row
 5 byteRow (gEnc R.st R.en R.id R.total R.typ R.k R.lb R.data R.sum) RowMd.plain)]))) (Q AExit.normal (fE AVal.nils (f13 i)) (AHeap.mk 8 (fHx n (cs.set (idI i) (CutR.mk (cutI cs i).typ R.k2 R.b2 (cutI
 cs i).data R.at2 (cutI cs i).id)) (ds.set (idI i) (BoolR.mk R.en)) fv [(6, ABlk.cells 70 [AVal.sl 7 0 1 0 (gEnc R.st R.en R.id R.total R.typ R.k R.lb R.data R.sum).length none, AVal.int IntKind.i64
 sp, AVal.bool !R.en, AVal.int IntKind.i64 ((↑F.k : Int) + (1 : Int)), AVal.int IntKind.i64 (cutI cs i).k, AVal.str (cutI cs i).lb]), (7, ABlk.row 5 byteRow (gEnc R.st R.en R.id R.total R.typ R.k R.lb
 R.data R.sum) RowMd.plain)])))) (branch R.en (Q (AExit.exit 2) (fE (AVal.sl 7 0 1 0 1 none) (f13 i)) (AHeap.mk 9 (fHx n (cs.set (idI i) (CutR.mk (cutI cs i).typ R.k2 R.b2 (cutI cs i).data R.at2 (cutI
 cs i).id)) (ds.set (idI i) (BoolR.mk R.en)) fv [(6, ABlk.cells 70 [AVal.sl 8 0 1 0 (gEnc R.st R.en R.id R.total R.typ R.k R.lb R.data R.sum).length none, AVal.int IntKind.i64 sp, AVal.bool false,
 AVal.int IntKind.i64 ((↑F.k : Int) + (1 : Int)), AVal.int IntKind.i64 (cutI cs i).k, AVal.str (cutI cs i).lb]), (7, ABlk.row 33 (intRow IntKind.u64) [(↑i : Int) + (1 : Int)] RowMd.plain), (8, ABlk.row
 5 byteRow (gEnc R.st R.en R.id R.total R.typ R.k R.lb R.data R.sum) RowMd.plain)]))) (Q AExit.normal (fE AVal.nils (f13 i)) (AHeap.mk 8 (fHx n (cs.set (idI i) (CutR.mk (cutI cs i).typ R.k2 R.b2 (cutI
 cs i).data R.at2 (cutI cs i).id)) (ds.set (idI i) (BoolR.mk R.en)) fv [(6, ABlk.cells 70 [AVal.sl 7 0 1 0 (gEnc R.st R.en R.id R.total R.typ R.k R.lb R.data R.sum).length none, AVal.int IntKind.i64
 sp, AVal.bool false, AVal.int IntKind.i64 ((↑F.k : Int) + (1 : Int)), AVal.int IntKind.i64 (cutI cs i).k, AVal.str (cutI cs i).lb]), (7, ABlk.row 5 byteRow (gEnc R.st R.en R.id R.total R.typ R.k R.lb
 R.data R.sum) RowMd.plain)]))))))))))))))))) (∀ (R : NextR), nextR (cutI cs i).typ (cutI cs i).k (cutI cs i).lb (cutI cs i).data (cutI cs i).pos (cutI cs i).id (cutI cs i).k (cutI cs i).lb (sp - (0 :
 Int)) F.beg = R → branch (!decide (R.err = (0 : Int))) (branch (!decide (R.err = (0 : Int))) (Q (AExit.exit 0) (fE AVal.nils (f13 i)) (AHeap.mk 7 (fHx n cs ds fv [(6, ABlk.cells 70 [AVal.nils,
 AVal.int IntKind.i64 sp, AVal.bool F.beg, AVal.int IntKind.i64 (↑F.k : Int), AVal.int IntKind.i64 F.lk, AVal.str F.lb])]))) (branch (decide (sp - (0 : Int) < (3 : Int))) (Q (AExit.exit 0) (fE
 AVal.nils (f13 i)) (AHeap.mk 7 (fHx n cs ds fv [(6, ABlk.cells 70 [AVal.nils, AVal.int IntKind.i64 sp, AVal.bool F.beg, AVal.int IntKind.i64 (↑F.k : Int), AVal.int IntKind.i64 F.lk, AVal.str
 F.lb])]))) (branch (decide ((70000 : Int) ≤ (↑F.k : Int))) (Q (AExit.exit 0) (fE AVal.nils (f13 i)) (AHeap.mk 7 (fHx n cs ds fv [(6, ABlk.cells 70 [AVal.nils, AVal.int IntKind.i64 sp, AVal.bool F.beg,
 AVal.int IntKind.i64 (↑F.k : Int), AVal.int IntKind.i64 F.lk, AVal.str F.lb])]))) (obl (inI64 ((↑F.k : Int) + (1 : Int))) (branch F.beg (Q AExit.normal (fE AVal.nils (f13 i)) (AHeap.mk 8 (fHx n cs ds
 fv [(6, ABlk.cells 70 [AVal.sl 7 0 1 0 3 none, AVal.int IntKind.i64 sp, AVal.bool true, AVal.int IntKind.i64 ((↑F.k : Int) + (1 : Int)), AVal.int IntKind.i64 F.lk, AVal.str F.lb]), (7, ABlk.row 5
 byteRow [(48 : UInt8), (1 : UInt8), (0 : UInt8)] RowMd.plain)]))) (Q AExit.normal (fE AVal.nils (f13 i)) (AHeap.mk 8 (fHx n cs ds fv [(6, ABlk.cells 70 [AVal.sl 7 0 1 0 3 none, AVal.int IntKind.i64
 sp, AVal.bool false, AVal.int IntKind.i64 ((↑F.k : Int) + (1 : Int)), AVal.int IntKind.i64 F.lk, AVal.str F.lb]), (7, ABlk.row 5 byteRow [(48 : UInt8), (1 : UInt8), (0 : UInt8)] RowMd.plain)]))))))))
 (obl (decide ((0 : Int) ≤ idJ i ∧ idJ i < (↑n : Int))) (obl (decide (0 + (idJ i).toNat < cs.length) && true) (obl (decide ((0 : Int) ≤ idJ i ∧ idJ i < (↑n : Int))) (obl (decide (0 + (idJ i).toNat <
 ds.length) && true) (obl (decide (R.lb.length + R.data.length + R.sum.length ≤ 9223372036854775000)) (branch (!decide (gErr R.st R.en R.id R.total R.typ R.k R.lb R.data R.sum = (0 : Int))) (Q
 (AExit.exit 0) (fE AVal.nils (f13 i)) (AHeap.mk 7 (fHx n (cs.set (idI i) (CutR.mk (cutI cs i).typ R.k2 R.b2 (cutI cs i).data R.at2 (cutI cs i).id)) (ds.set (idI i) (BoolR.mk R.en)) fv [(6, ABlk.cells
 70 [AVal.nils, AVal.int IntKind.i64 sp, AVal.bool F.beg, AVal.int IntKind.i64 (↑F.k : Int), AVal.int IntKind.i64 F.lk, AVal.str F.lb])]))) (branch (decide (sp - (0 : Int) < (↑(gEnc R.st R.en R.id
 R.total R.typ R.k R.lb R.data R.sum).length : Int))) (Q (AExit.exit 0) (fE AVal.nils (f13 i)) (AHeap.mk 7 (fHx n (cs.set (idI i) (CutR.mk (cutI cs i).typ R.k2 R.b2 (cutI cs i).data R.at2 (cutI cs
 i).id)) (ds.set (idI i) (BoolR.mk R.en)) fv [(6, ABlk.cells 70 [AVal.nils, AVal.int IntKind.i64 sp, AVal.bool F.beg, AVal.int IntKind.i64 (↑F.k : Int), AVal.int IntKind.i64 F.lk, AVal.str F.lb])])))
 (branch (decide ((70000 : Int) ≤ (↑F.k : Int))) (Q (AExit.exit 0) (fE AVal.nils (f13 i)) (AHeap.mk 7 (fHx n (cs.set (idI i) (CutR.mk (cutI cs i).typ R.k2 R.b2 (cutI cs i).data R.at2 (cutI cs i).id))
 (ds.set (idI i) (BoolR.mk R.en)) fv [(6, ABlk.cells 70 [AVal.nils, AVal.int IntKind.i64 sp, AVal.bool F.beg, AVal.int IntKind.i64 (↑F.k : Int), AVal.int IntKind.i64 F.lk, AVal.str F.lb])]))) (obl
 (inI64 ((↑F.k : Int) + (1 : Int))) (obl (true && decide (0 < (gEnc R.st R.en R.id R.total R.typ R.k R.lb R.data R.sum).length ∧ 1 = 1 ∧ 1 = 1 ∧ 0 < 1 ∧ (gEnc R.st R.en R.id R.total R.typ R.k R.lb
 R.data R.sum).length ≤ 9223372036854775807 ∧ (gEnc R.st R.en R.id R.total R.typ R.k R.lb R.data R.sum).length * 1 ≤ 140737488355328)) (branch F.beg (branch R.en (Q (AExit.exit 2) (fE (AVal.sl 7 0 1 0
 1 none) (f13 i)) (AHeap.mk 9 (fHx n (cs.set (idI i) (CutR.mk (cutI cs i).typ R.k2 R.b2 (cutI cs i).data R.at2 (cutI cs i).id)) (ds.set (idI i) (BoolR.mk R.en)) fv [(6, ABlk.cells 70 [AVal.sl 8 0 1 0
 (gEnc R.st R.en R.id R.total R.typ R.k R.lb R.data R.sum).length none, AVal.int IntKind.i64 sp, AVal.bool true, AVal.int IntKind.i64 ((↑F.k : Int) + (1 : Int)), AVal.int IntKind.i64 F.lk, AVal.str
 F.lb]), (7, ABlk.row 33 (intRow IntKind.u64) [(↑i : Int) + (1 : Int)] RowMd.plain), (8, ABlk.row 5 byteRow (gEnc R.st R.en R.id R.total R.typ R.k R.lb R.data R.sum) RowMd.plain)]))) (Q AExit.normal
 (fE AVal.nils (f13 i)) (AHeap.mk 8 (fHx n (cs.set (idI i) (CutR.mk (cutI cs i).typ R.k2 R.b2 (cutI cs i).data R.at2 (cutI cs i).id)) (ds.set (idI i) (BoolR.mk R.en)) fv [(6, ABlk.cells 70 [AVal.sl 7 0
 1 0 (gEnc R.st R.en R.id R.total R.typ R.k R.lb R.data R.sum).length none, AVal.int IntKind.i64 sp, AVal.bool true, AVal.int IntKind.i64 ((↑F.k : Int) + (1 : Int)), AVal.int IntKind.i64 F.lk, AVal.str
 F.lb]), (7, ABlk.row 5 byteRow (gEnc R.st R.en R.id R.total R.typ R.k R.lb R.data R.sum) RowMd.plain)])))) (branch R.st (branch R.en (Q (AExit.exit 2) (fE (AVal.sl 7 0 1 0 1 none) (f13 i)) (AHeap.mk 9
 (fHx n (cs.set (idI i) (CutR.mk (cutI cs i).typ R.k2 R.b2 (cutI cs i).data R.at2 (cutI cs i).id)) (ds.set (idI i) (BoolR.mk R.en)) fv [(6, ABlk.cells 70 [AVal.sl 8 0 1 0 (gEnc R.st R.en R.id R.total
 R.typ R.k R.lb R.data R.sum).length none, AVal.int IntKind.i64 sp, AVal.bool !R.en, AVal.int IntKind.i64 ((↑F.k : Int) + (1 : Int)), AVal.int IntKind.i64 F.lk, AVal.str F.lb]), (7, ABlk.row 33 (intRow
 IntKind.u64) [(↑i : Int) + (1 : Int)] RowMd.plain), (8, ABlk.row 5 byteRow (gEnc R.st R.en R.id R.total R.typ R.k R.lb R.data R.sum) RowMd.plain)]))) (Q AExit.normal (fE AVal.nils (f13 i)) (AHeap.mk 8
 (fHx n (cs.set (idI i) (CutR.mk (cutI cs i).typ R.k2 R.b2 (cutI cs i).data R.at2 (cutI cs i).id)) (ds.set (idI i) (BoolR.mk R.en)) fv [(6, ABlk.cells 70 [AVal.sl 7 0 1 0 (gEnc R.st R.en R.id R.total
 R.typ R.k R.lb R.data R.sum).length none, AVal.int IntKind.i64 sp, AVal.bool !R.en, AVal.int IntKind.i64 ((↑F.k : Int) + (1 : Int)), AVal.int IntKind.i64 F.lk, AVal.str F.lb]), (7, ABlk.row 5 byteRow
 (gEnc R.st R.en R.id R.total R.typ R.k R.lb R.data R.sum) RowMd.plain)])))) (branch R.en (Q (AExit.exit 2) (fE (AVal.sl 7 0 1 0 1 none) (f13 i)) (AHeap.mk 9 (fHx n (cs.set (idI i) (CutR.mk (cutI cs
 i).typ R.k2 R.b2 (cutI cs i).data R.at2 (cutI cs i).id)) (ds.set (idI i) (BoolR.mk R.en)) fv [(6, ABlk.cells 70 [AVal.sl 8 0 1 0 (gEnc R.st R.en R.id R.total R.typ R.k R.lb R.data R.sum).length none,
 AVal.int IntKind.i64 sp, AVal.bool false, AVal.int IntKind.i64 ((↑F.k : Int) + (1 : Int)), AVal.int IntKind.i64 F.lk, AVal.str F.lb]), (7, ABlk.row 33 (intRow IntKind.u64) [(↑i : Int) + (1 : Int)]
 RowMd.plain), (8, ABlk.row 5 byteRow (gEnc R.st R.en R.id R.total R.typ R.k R.lb R.data R.sum) RowMd.plain)]))) (Q AExit.normal (fE AVal.nils (f13 i)) (AHeap.mk 8 (fHx n (cs.set (idI i) (CutR.mk (cutI
 cs i).typ R.k2 R.b2 (cutI cs i).data R.at2 (cutI cs i).id)) (ds.set (idI i) (BoolR.mk R.en)) fv [(6, ABlk.cells 70 [AVal.sl 7 0 1 0 (gEnc R.st R.en R.id R.total R.typ R.k R.lb R.data R.sum).length
 none, AVal.int IntKind.i64 sp, AVal.bool false, AVal.int IntKind.i64 ((↑F.k : Int) + (1 : Int)), AVal.int IntKind.i64 F.lk, AVal.str F.lb]), (7, ABlk.row 5 byteRow (gEnc R.st R.en R.id R.total R.typ
 R.k R.lb R.data R.sum) RowMd.plain)])))))))))))))))))) (∀ (R : NextR), nextR (cutI cs i).typ (cutI cs i).k (cutI cs i).lb (cutI cs i).data (cutI cs i).pos (cutI cs i).id (cutI cs i).k (cutI cs i).lb
 (sp - (0 : Int)) F.beg = R → branch (!decide (R.err = (0 : Int))) (branch (!decide (R.err = (0 : Int))) (Q (AExit.exit 0) (fE AVal.nils (f13 i)) (AHeap.mk 7 (fHx n cs ds fv [(6, ABlk.cells 70
 [AVal.nils, AVal.int IntKind.i64 sp, AVal.bool F.beg, AVal.int IntKind.i64 (↑F.k : Int), AVal.int IntKind.i64 F.lk, AVal.str F.lb])]))) (branch (decide (sp - (0 : Int) < (3 : Int))) (Q (AExit.exit 0)
 (fE AVal.nils (f13 i)) (AHeap.mk 7 (fHx n cs ds fv [(6, ABlk.cells 70 [AVal.nils, AVal.int IntKind.i64 sp, AVal.bool F.beg, AVal.int IntKind.i64 (↑F.k : Int), AVal.int IntKind.i64 F.lk, AVal.str
 F.lb])]))) (branch (decide ((70000 : Int) ≤ (↑F.k : Int))) (Q (AExit.exit 0) (fE AVal.nils (f13 i)) (AHeap.mk 7 (fHx n cs ds fv [(6, ABlk.cells 70 [AVal.nils, AVal.int IntKind.i64 sp, AVal.bool F.beg,
 AVal.int IntKind.i64 (↑F.k : Int), AVal.int IntKind.i64 F.lk, AVal.str F.lb])]))) (obl (inI64 ((↑F.k : Int) + (1 : Int))) (branch F.beg (Q AExit.normal (fE AVal.nils (f13 i)) (AHeap.mk 8 (fHx n cs ds
 fv [(6, ABlk.cells 70 [AVal.sl 7 0 1 0 3 none, AVal.int IntKind.i64 sp, AVal.bool true, AVal.int IntKind.i64 ((↑F.k : Int) + (1 : Int)), AVal.int IntKind.i64 F.lk, AVal.str F.lb]), (7, ABlk.row 5
 byteRow [(48 : UInt8), (1 : UInt8), (0 : UInt8)] RowMd.plain)]))) (Q AExit.normal (fE AVal.nils (f13 i)) (AHeap.mk 8 (fHx n cs ds fv [(6, ABlk.cells 70 [AVal.sl 7 0 1 0 3 none, AVal.int IntKind.i64
 sp, AVal.bool false, AVal.int IntKind.i64 ((↑F.k : Int) + (1 : Int)), AVal.int IntKind.i64 F.lk, AVal.str F.lb]), (7, ABlk.row 5 byteRow [(48 : UInt8), (1 : UInt8), (0 : UInt8)] RowMd.plain)]))))))))
 (obl (decide ((0 : Int) ≤ idJ i ∧ idJ i < (↑n : Int))) (obl (decide (0 + (idJ i).toNat < cs.length) && true) (obl (decide ((0 : Int) ≤ idJ i ∧ idJ i < (↑n : Int))) (obl (decide (0 + (idJ i).toNat <
 ds.length) && true) (obl (decide (R.lb.length + R.data.length + R.sum.length ≤ 9223372036854775000)) (branch (!decide (gErr R.st R.en R.id R.total R.typ R.k R.lb R.data R.sum = (0 : Int))) (Q
 (AExit.exit 0) (fE AVal.nils (f13 i)) (AHeap.mk 7 (fHx n (cs.set (idI i) (CutR.mk (cutI cs i).typ R.k2 R.b2 (cutI cs i).data R.at2 (cutI cs i).id)) (ds.set (idI i) (BoolR.mk R.en)) fv [(6, ABlk.cells
 70 [AVal.nils, AVal.int IntKind.i64 sp, AVal.bool F.beg, AVal.int IntKind.i64 (↑F.k : Int), AVal.int IntKind.i64 F.lk, AVal.str F.lb])]))) (branch (decide (sp - (0 : Int) < (↑(gEnc R.st R.en R.id
 R.total R.typ R.k R.lb R.data R.sum).length : Int))) (Q (AExit.exit 0) (fE AVal.nils (f13 i)) (AHeap.mk 7 (fHx n (cs.set (idI i) (CutR.mk (cutI cs i).typ R.k2 R.b2 (cutI cs i).data R.at2 (cutI cs
 i).id)) (ds.set (idI i) (BoolR.mk R.en)) fv [(6, ABlk.cells 70 [AVal.nils, AVal.int IntKind.i64 sp, AVal.bool F.beg, AVal.int IntKind.i64 (↑F.k : Int), AVal.int IntKind.i64 F.lk, AVal.str F.lb])])))
 (branch (decide ((70000 : Int) ≤ (↑F.k : Int))) (Q (AExit.exit 0) (fE AVal.nils (f13 i)) (AHeap.mk 7 (fHx n (cs.set (idI i) (CutR.mk (cutI cs i).typ R.k2 R.b2 (cutI cs i).data R.at2 (cutI cs i).id))
 (ds.set (idI i) (BoolR.mk R.en)) fv [(6, ABlk.cells 70 [AVal.nils, AVal.int IntKind.i64 sp, AVal.bool F.beg, AVal.int IntKind.i64 (↑F.k : Int), AVal.int IntKind.i64 F.lk, AVal.str F.lb])]))) (obl
 (inI64 ((↑F.k : Int) + (1 : Int))) (obl (true && decide (0 < (gEnc R.st R.en R.id R.total R.typ R.k R.lb R.data R.sum).length ∧ 1 = 1 ∧ 1 = 1 ∧ 0 < 1 ∧ (gEnc R.st R.en R.id R.total R.typ R.k R.lb
 R.data R.sum).length ≤ 9223372036854775807 ∧ (gEnc R.st R.en R.id R.total R.typ R.k R.lb R.data R.sum).length * 1 ≤ 140737488355328)) (branch F.beg (branch R.en (Q (AExit.exit 2) (fE (AVal.sl 7 0 1 0
 1 none) (f13 i)) (AHeap.mk 9 (fHx n (cs.set (idI i) (CutR.mk (cutI cs i).typ R.k2 R.b2 (cutI cs i).data R.at2 (cutI cs i).id)) (ds.set (idI i) (BoolR.mk R.en)) fv [(6, ABlk.cells 70 [AVal.sl 8 0 1 0
 (gEnc R.st R.en R.id R.total R.typ R.k R.lb R.data R.sum).length none, AVal.int IntKind.i64 sp, AVal.bool true, AVal.int IntKind.i64 ((↑F.k : Int) + (1 : Int)), AVal.int IntKind.i64 F.lk, AVal.str
 F.lb]), (7, ABlk.row 33 (intRow IntKind.u64) [(↑i : Int) + (1 : Int)] RowMd.plain), (8, ABlk.row 5 byteRow (gEnc R.st R.en R.id R.total R.typ R.k R.lb R.data R.sum) RowMd.plain)]))) (Q AExit.normal
 (fE AVal.nils (f13 i)) (AHeap.mk 8 (fHx n (cs.set (idI i) (CutR.mk (cutI cs i).typ R.k2 R.b2 (cutI cs i).data R.at2 (cutI cs i).id)) (ds.set (idI i) (BoolR.mk R.en)) fv [(6, ABlk.cells 70 [AVal.sl 7 0
 1 0 (gEnc R.st R.en R.id R.total R.typ R.k R.lb R.data R.sum).length none, AVal.int IntKind.i64 sp, AVal.bool true, AVal.int IntKind.i64 ((↑F.k : Int) + (1 : Int)), AVal.int IntKind.i64 F.lk, AVal.str
 F.lb]), (7, ABlk.row 5 byteRow (gEnc R.st R.en R.id R.total R.typ R.k R.lb R.data R.sum) RowMd.plain)])))) (branch R.st (branch R.en (Q (AExit.exit 2) (fE (AVal.sl 7 0 1 0 1 none) (f13 i)) (AHeap.mk 9
 (fHx n (cs.set (idI i) (CutR.mk (cutI cs i).typ R.k2 R.b2 (cutI cs i).data R.at2 (cutI cs i).id)) (ds.set (idI i) (BoolR.mk R.en)) fv [(6, ABlk.cells 70 [AVal.sl 8 0 1 0 (gEnc R.st R.en R.id R.total
 R.typ R.k R.lb R.data R.sum).length none, AVal.int IntKind.i64 sp, AVal.bool !R.en, AVal.int IntKind.i64 ((↑F.k : Int) + (1 : Int)), AVal.int IntKind.i64 F.lk, AVal.str F.lb]), (7, ABlk.row 33 (intRow
 IntKind.u64) [(↑i : Int) + (1 : Int)] RowMd.plain), (8, ABlk.row 5 byteRow (gEnc R.st R.en R.id R.total R.typ R.k R.lb R.data R.sum) RowMd.plain)]))) (Q AExit.normal (fE AVal.nils (f13 i)) (AHeap.mk 8
 (fHx n (cs.set (idI i) (CutR.mk (cutI cs i).typ R.k2 R.b2 (cutI cs i).data R.at2 (cutI cs i).id)) (ds.set (idI i) (BoolR.mk R.en)) fv [(6, ABlk.cells 70 [AVal.sl 7 0 1 0 (gEnc R.st R.en R.id R.total
 R.typ R.k R.lb R.data R.sum).length none, AVal.int IntKind.i64 sp, AVal.bool !R.en, AVal.int IntKind.i64 ((↑F.k : Int) + (1 : Int)), AVal.int IntKind.i64 F.lk, AVal.str F.lb]), (7, ABlk.row 5 byteRow
 (gEnc R.st R.en R.id R.total R.typ R.k R.lb R.data R.sum) RowMd.plain)])))) (branch R.en (Q (AExit.exit 2) (fE (AVal.sl 7 0 1 0 1 none) (f13 i)) (AHeap.mk 9 (fHx n (cs.set (idI i) (CutR.mk (cutI cs
 i).typ R.k2 R.b2 (cutI cs i).data R.at2 (cutI cs i).id)) (ds.set (idI i) (BoolR.mk R.en)) fv [(6, ABlk.cells 70 [AVal.sl 8 0 1 0 (gEnc R.st R.en R.id R.total R.typ R.k R.lb R.data R.sum).length none,
 AVal.int IntKind.i64 sp, AVal.bool false, AVal.int IntKind.i64 ((↑F.k : Int) + (1 : Int)), AVal.int IntKind.i64 F.lk, AVal.str F.lb]), (7, ABlk.row 33 (intRow IntKind.u64) [(↑i : Int) + (1 : Int)]
 RowMd.plain), (8, ABlk.row 5 byteRow (gEnc R.st R.en R.id R.total R.typ R.k R.lb R.data R.sum) RowMd.plain)]))) (Q AExit.normal (fE AVal.nils (f13 i)) (AHeap.mk 8 (fHx n (cs.set (idI i) (CutR.mk (cutI
 cs i).typ R.k2 R.b2 (cutI cs i).data R.at2 (cutI cs i).id)) (ds.set (idI i) (BoolR.mk R.en)) fv [(6, ABlk.cells 70 [AVal.sl 7 0 1 0 (gEnc R.st R.en R.id R.total R.typ R.k R.lb R.data R.sum).length
 none, AVal.int IntKind.i64 sp, AVal.bool false, AVal.int IntKind.i64 ((↑F.k : Int) + (1 : Int)), AVal.int IntKind.i64 F.lk, AVal.str F.lb]), (7, ABlk.row 5 byteRow (gEnc R.st R.en R.id R.total R.typ
 R.k R.lb R.data R.sum) RowMd.plain)]))))))))))))))))))) (branch (decide ((0 : Int) < lSize (cutI cs i).k)) (branch (decide ((if lOk (cutI cs i).k (cutI cs i).lb = true then (0 : Int) else (2 : Int)) =
 (0 : Int))) (∀ (R : NextR), nextR (cutI cs i).typ (cutI cs i).k (cutI cs i).lb (cutI cs i).data (cutI cs i).pos (cutI cs i).id (cutI cs i).k (cutI cs i).lb (sp - (0 : Int)) F.beg = R → branch (!decide
 (R.err = (0 : Int))) (branch (!decide (R.err = (0 : Int))) (Q (AExit.exit 0) (fE AVal.nils (f13 i)) (AHeap.mk 7 (fHx n cs ds fv [(6, ABlk.cells 70 [AVal.nils, AVal.int IntKind.i64 sp, AVal.bool F.beg,
 AVal.int IntKind.i64 (↑F.k : Int), AVal.int IntKind.i64 (cutI cs i).k, AVal.str (cutI cs i).lb])]))) (branch (decide (sp - (0 : Int) < (3 : Int))) (Q (AExit.exit 0) (fE AVal.nils (f13 i)) (AHeap.mk 7
 (fHx n cs ds fv [(6, ABlk.cells 70 [AVal.nils, AVal.int IntKind.i64 sp, AVal.bool F.beg, AVal.int IntKind.i64 (↑F.k : Int), AVal.int IntKind.i64 (cutI cs i).k, AVal.str (cutI cs i).lb])]))) (branch
 (decide ((70000 : Int) ≤ (↑F.k : Int))) (Q (AExit.exit 0) (fE AVal.nils (f13 i)) (AHeap.mk 7 (fHx n cs ds fv [(6, ABlk.cells 70 [AVal.nils, AVal.int IntKind.i64 sp, AVal.bool F.beg, AVal.int
 IntKind.i64 (↑F.k : Int), AVal.int IntKind.i64 (cutI cs i).k, AVal.str (cutI cs i).lb])]))) (obl (inI64 ((↑F.k : Int) + (1 : Int))) (branch F.beg (Q AExit.normal (fE AVal.nils (f13 i)) (AHeap.mk 8
 (fHx n cs ds fv [(6, ABlk.cells 70 [AVal.sl 7 0 1 0 3 none, AVal.int IntKind.i64 sp, AVal.bool true, AVal.int IntKind.i64 ((↑F.k : Int) + (1 : Int)), AVal.int IntKind.i64 (cutI cs i).k, AVal.str (cutI
 cs i).lb]), (7, ABlk.row 5 byteRow [(48 : UInt8), (1 : UInt8), (0 : UInt8)] RowMd.plain)]))) (Q AExit.normal (fE AVal.nils (f13 i)) (AHeap.mk 8 (fHx n cs ds fv [(6, ABlk.cells 70 [AVal.sl 7 0 1 0 3
 none, AVal.int IntKind.i64 sp, AVal.bool false, AVal.int IntKind.i64 ((↑F.k : Int) + (1 : Int)), AVal.int IntKind.i64 (cutI cs i).k, AVal.str (cutI cs i).lb]), (7, ABlk.row 5 byteRow [(48 : UInt8), (1
 : UInt8), (0 : UInt8)] RowMd.plain)])))))))) (obl (decide ((0 : Int) ≤ idJ i ∧ idJ i < (↑n : Int))) (obl (decide (0 + (idJ i).toNat < cs.length) && true) (obl (decide ((0 : Int) ≤ idJ i ∧ idJ i < (↑n
 : Int))) (obl (decide (0 + (idJ i).toNat < ds.length) && true) (obl (decide (R.lb.length + R.data.length + R.sum.length ≤ 9223372036854775000)) (branch (!decide (gErr R.st R.en R.id R.total R.typ R.k
 R.lb R.data R.sum = (0 : Int))) (Q (AExit.exit 0) (fE AVal.nils (f13 i)) (AHeap.mk 7 (fHx n (cs.set (idI i) (CutR.mk (cutI cs i).typ R.k2 R.b2 (cutI cs i).data R.at2 (cutI cs i).id)) (ds.set (idI i)
 (BoolR.mk R.en)) fv [(6, ABlk.cells 70 [AVal.nils, AVal.int IntKind.i64 sp, AVal.bool F.beg, AVal.int IntKind.i64 (↑F.k : Int), AVal.int IntKind.i64 (cutI cs i).k, AVal.str (cutI cs i).lb])])))
 (branch (decide (sp - (0 : Int) < (↑(gEnc R.st R.en R.id R.total R.typ R.k R.lb R.data R.sum).length : Int))) (Q (AExit.exit 0) (fE AVal.nils (f13 i)) (AHeap.mk 7 (fHx n (cs.set (idI i) (CutR.mk (cutI
 cs i).typ R.k2 R.b2 (cutI cs i).data R.at2 (cutI cs i).id)) (ds.set (idI i) (BoolR.mk R.en)) fv [(6, ABlk.cells 70 [AVal.nils, AVal.int IntKind.i64 sp, AVal.bool F.beg, AVal.int IntKind.i64 (↑F.k :
 Int), AVal.int IntKind.i64 (cutI cs i).k, AVal.str (cutI cs i).lb])]))) (branch (decide ((70000 : Int) ≤ (↑F.k : Int))) (Q (AExit.exit 0) (fE AVal.nils (f13 i)) (AHeap.mk 7 (fHx n (cs.set (idI i)
 (CutR.mk (cutI cs i).typ R.k2 R.b2 (cutI cs i).data R.at2 (cutI cs i).id)) (ds.set (idI i) (BoolR.mk R.en)) fv [(6, ABlk.cells 70 [AVal.nils, AVal.int IntKind.i64 sp, AVal.bool F.beg, AVal.int
 IntKind.i64 (↑F.k : Int), AVal.int IntKind.i64 (cutI cs i).k, AVal.str (cutI cs i).lb])]))) (obl (inI64 ((↑F.k : Int) + (1 : Int))) (obl (true && decide (0 < (gEnc R.st R.en R.id R.total R.typ R.k
 R.lb R.data R.sum).length ∧ 1 = 1 ∧ 1 = 1 ∧ 0 < 1 ∧ (gEnc R.st R.en R.id R.total R.typ R.k R.lb R.data R.sum).length ≤ 9223372036854775807 ∧ (gEnc R.st R.en R.id R.total R.typ R.k R.lb R.data
 R.sum).length * 1 ≤ 140737488355328)) (branch F.beg (branch R.en (Q (AExit.exit 2) (fE (AVal.sl 7 0 1 0 1 none) (f13 i)) (AHeap.mk 9 (fHx n (cs.set (idI i) (CutR.mk (cutI cs i).typ R.k2 R.b2 (cutI cs
 i).data R.at2 (cutI cs i).id)) (ds.set (idI i) (BoolR.mk R.en)) fv [(6, ABlk.cells 70 [AVal.sl 8 0 1 0 (gEnc R.st R.en R.id R.total R.typ R.k R.lb R.data R.sum).length none, AVal.int IntKind.i64 sp,
 AVal.bool true, AVal.int IntKind.i64 ((↑F.k : Int) + (1 : Int)), AVal.int IntKind.i64 (cutI cs i).k, AVal.str (cutI cs i).lb]), (7, ABlk.row 33 (intRow IntKind.u64) [(↑i : Int) + (1 : Int)]
 RowMd.plain), (8, ABlk.row 5 byteRow (gEnc R.st R.en R.id R.total R.typ R.k R.lb R.data R.sum) RowMd.plain)]))) (Q AExit.normal (fE AVal.nils (f13 i)) (AHeap.mk 8 (fHx n (cs.set (idI i) (CutR.mk (cutI
 cs i).typ R.k2 R.b2 (cutI cs i).data R.at2 (cutI cs i).id)) (ds.set (idI i) (BoolR.mk R.en)) fv [(6, ABlk.cells 70 [AVal.sl 7 0 1 0 (gEnc R.st R.en R.id R.total R.typ R.k R.lb R.data R.sum).length
 none, AVal.int IntKind.i64 sp, AVal.bool true, AVal.int IntKind.i64 ((↑F.k : Int) + (1 : Int)), AVal.int IntKind.i64 (cutI cs i).k, AVal.str (cutI cs i).lb]), (7, ABlk.row 5 byteRow (gEnc R.st R.en
 R.id R.total R.typ R.k R.lb R.data R.sum) RowMd.plain)])))) (branch R.st (branch R.en (Q (AExit.exit 2) (fE (AVal.sl 7 0 1 0 1 none) (f13 i)) (AHeap.mk 9 (fHx n (cs.set (idI i) (CutR.mk (cutI cs
 i).typ R.k2 R.b2 (cutI cs i).data R.at2 (cutI cs i).id)) (ds.set (idI i) (BoolR.mk R.en)) fv [(6, ABlk.cells 70 [AVal.sl 8 0 1 0 (gEnc R.st R.en R.id R.total R.typ R.k R.lb R.data R.sum).length none,
 AVal.int IntKind.i64 sp, AVal.bool !R.en, AVal.int IntKind.i64 ((↑F.k : Int) + (1 : Int)), AVal.int IntKind.i64 (cutI cs i).k, AVal.str (cutI cs i).lb]), (7, ABlk.row 33 (intRow IntKind.u64) [(↑i :
 Int) + (1 : Int)] RowMd.plain), (8, ABlk.row 5 byteRow (gEnc R.st R.en R.id R.total R.typ R.k R.lb R.data R.sum) RowMd.plain)]))) (Q AExit.normal (fE AVal.nils (f13 i)) (AHeap.mk 8 (fHx n (cs.set (idI
 i) (CutR.mk (cutI cs i).typ R.k2 R.b2 (cutI cs i).data R.at2 (cutI cs i).id)) (ds.set (idI i) (BoolR.mk R.en)) fv [(6, ABlk.cells 70 [AVal.sl 7 0 1 0 (gEnc R.st R.en R.id R.total R.typ R.k R.lb R.data
 R.sum).length none, AVal.int IntKind.i64 sp, AVal.bool !R.en, AVal.int IntKind.i64 ((↑F.k : Int) + (1 : Int)), AVal.int IntKind.i64 (cutI cs i).k, AVal.str (cutI cs i).lb]), (7, ABlk.row 5 byteRow
 (gEnc R.st R.en R.id R.total R.typ R.k R.lb R.data R.sum) RowMd.plain)])))) (branch R.en (Q (AExit.exit 2) (fE (AVal.sl 7 0 1 0 1 none) (f13 i)) (AHeap.mk 9 (fHx n (cs.set (idI i) (CutR.mk (cutI cs
 i).typ R.k2 R.b2 (cutI cs i).data R.at2 (cutI cs i).id)) (ds.set (idI i) (BoolR.mk R.en)) fv [(6, ABlk.cells 70 [AVal.sl 8 0 1 0 (gEnc R.st R.en R.id R.total R.typ R.k R.lb R.data R.sum).length none,
 AVal.int IntKind.i64 sp, AVal.bool false, AVal.int IntKind.i64 ((↑F.k : Int) + (1 : Int)), AVal.int IntKind.i64 (cutI cs i).k, AVal.str (cutI cs i).lb]), (7, ABlk.row 33 (intRow IntKind.u64) [(↑i :
 Int) + (1 : Int)] RowMd.plain), (8, ABlk.row 5 byteRow (gEnc R.st R.en R.id R.total R.typ R.k R.lb R.data R.sum) RowMd.plain)]))) (Q AExit.normal (fE AVal.nils (f13 i)) (AHeap.mk 8 (fHx n (cs.set (idI
 i) (CutR.mk (cutI cs i).typ R.k2 R.b2 (cutI cs i).data R.at2 (cutI cs i).id)) (ds.set (idI i) (BoolR.mk R.en)) fv [(6, ABlk.cells 70 [AVal.sl 7 0 1 0 (gEnc R.st R.en R.id R.total R.typ R.k R.lb R.data
 R.sum).length none, AVal.int IntKind.i64 sp, AVal.bool false, AVal.int IntKind.i64 ((↑F.k : Int) + (1 : Int)), AVal.int IntKind.i64 (cutI cs i).k, AVal.str (cutI cs i).lb]), (7, ABlk.row 5 byteRow
 (gEnc R.st R.en R.id R.total R.typ R.k R.lb R.data R.sum) RowMd.plain)]))))))))))))))))) (∀ (R : NextR), nextR (cutI cs i).typ (cutI cs i).k (cutI cs i).lb (cutI cs i).data (cutI cs i).pos (cutI cs
 i).id (cutI cs i).k (cutI cs i).lb (sp - (0 : Int)) F.beg = R → branch (!decide (R.err = (0 : Int))) (branch (!decide (R.err = (0 : Int))) (Q (AExit.exit 0) (fE AVal.nils (f13 i)) (AHeap.mk 7 (fHx n
 cs ds fv [(6, ABlk.cells 70 [AVal.nils, AVal.int IntKind.i64 sp, AVal.bool F.beg, AVal.int IntKind.i64 (↑F.k : Int), AVal.int IntKind.i64 F.lk, AVal.str F.lb])]))) (branch (decide (sp - (0 : Int) < (3
 : Int))) (Q (AExit.exit 0) (fE AVal.nils (f13 i)) (AHeap.mk 7 (fHx n cs ds fv [(6, ABlk.cells 70 [AVal.nils, AVal.int IntKind.i64 sp, AVal.bool F.beg, AVal.int IntKind.i64 (↑F.k : Int), AVal.int
 IntKind.i64 F.lk, AVal.str F.lb])]))) (branch (decide ((70000 : Int) ≤ (↑F.k : Int))) (Q (AExit.exit 0) (fE AVal.nils (f13 i)) (AHeap.mk 7 (fHx n cs ds fv [(6, ABlk.cells 70 [AVal.nils, AVal.int
 IntKind.i64 sp, AVal.bool F.beg, AVal.int IntKind.i64 (↑F.k : Int), AVal.int IntKind.i64 F.lk, AVal.str F.lb])]))) (obl (inI64 ((↑F.k : Int) + (1 : Int))) (branch F.beg (Q AExit.normal (fE AVal.nils
 (f13 i)) (AHeap.mk 8 (fHx n cs ds fv [(6, ABlk.cells 70 [AVal.sl 7 0 1 0 3 none, AVal.int IntKind.i64 sp, AVal.bool true, AVal.int IntKind.i64 ((↑F.k : Int) + (1 : Int)), AVal.int IntKind.i64 F.lk,
 AVal.str F.lb]), (7, ABlk.row 5 byteRow [(48 : UInt8), (1 : UInt8), (0 : UInt8)] RowMd.plain)]))) (Q AExit.normal (fE AVal.nils (f13 i)) (AHeap.mk 8 (fHx n cs ds fv [(6, ABlk.cells 70 [AVal.sl 7 0 1 0
 3 none, AVal.int IntKind.i64 sp, AVal.bool false, AVal.int IntKind.i64 ((↑F.k : Int) + (1 : Int)), AVal.int IntKind.i64 F.lk, AVal.str F.lb]), (7, ABlk.row 5 byteRow [(48 : UInt8), (1 : UInt8), (0 :
 UInt8)] RowMd.plain)])))))))) (obl (decide ((0 : Int) ≤ idJ i ∧ idJ i < (↑n : Int))) (obl (decide (0 + (idJ i).toNat < cs.length) && true) (obl (decide ((0 : Int) ≤ idJ i ∧ idJ i < (↑n : Int))) (obl
 (decide (0 + (idJ i).toNat < ds.length) && true) (obl (decide (R.lb.length + R.data.length + R.sum.length ≤ 9223372036854775000)) (branch (!decide (gErr R.st R.en R.id R.total R.typ R.k R.lb R.data
 R.sum = (0 : Int))) (Q (AExit.exit 0) (fE AVal.nils (f13 i)) (AHeap.mk 7 (fHx n (cs.set (idI i) (CutR.mk (cutI cs i).typ R.k2 R.b2 (cutI cs i).data R.at2 (cutI cs i).id)) (ds.set (idI i) (BoolR.mk
 R.en)) fv [(6, ABlk.cells 70 [AVal.nils, AVal.int IntKind.i64 sp, AVal.bool F.beg, AVal.int IntKind.i64 (↑F.k : Int), AVal.int IntKind.i64 F.lk, AVal.str F.lb])]))) (branch (decide (sp - (0 : Int) <
 (↑(gEnc R.st R.en R.id R.total R.typ R.k R.lb R.data R.sum).length : Int))) (Q (AExit.exit 0) (fE AVal.nils (f13 i)) (AHeap.mk 7 (fHx n (cs.set (idI i) (CutR.mk (cutI cs i).typ R.k2 R.b2 (cutI cs
 i).data R.at2 (cutI cs i).id)) (ds.set (idI i) (BoolR.mk R.en)) fv [(6, ABlk.cells 70 [AVal.nils, AVal.int IntKind.i64 sp, AVal.bool F.beg, AVal.int IntKind.i64 (↑F.k : Int), AVal.int IntKind.i64
 F.lk, AVal.str F.lb])]))) (branch (decide ((70000 : Int) ≤ (↑F.k : Int))) (Q (AExit.exit 0) (fE AVal.nils (f13 i)) (AHeap.mk 7 (fHx n (cs.set (idI i) (CutR.mk (cutI cs i).typ R.k2 R.b2 (cutI cs
 i).data R.at2 (cutI cs i).id)) (ds.set (idI i) (BoolR.mk R.en)) fv [(6, ABlk.cells 70 [AVal.nils, AVal.int IntKind.i64 sp, AVal.bool F.beg, AVal.int IntKind.i64 (↑F.k : Int), AVal.int IntKind.i64
 F.lk, AVal.str F.lb])]))) (obl (inI64 ((↑F.k : Int) + (1 : Int))) (obl (true && decide (0 < (gEnc R.st R.en R.id R.total R.typ R.k R.lb R.data R.sum).length ∧ 1 = 1 ∧ 1 = 1 ∧ 0 < 1 ∧ (gEnc R.st R.en
 R.id R.total R.typ R.k R.lb R.data R.sum).length ≤ 9223372036854775807 ∧ (gEnc R.st R.en R.id R.total R.typ R.k R.lb R.data R.sum).length * 1 ≤ 140737488355328)) (branch F.beg (branch R.en (Q
 (AExit.exit 2) (fE (AVal.sl 7 0 1 0 1 none) (f13 i)) (AHeap.mk 9 (fHx n (cs.set (idI i) (CutR.mk (cutI cs i).typ R.k2 R.b2 (cutI cs i).data R.at2 (cutI cs i).id)) (ds.set (idI i) (BoolR.mk R.en)) fv
 [(6, ABlk.cells 70 [AVal.sl 8 0 1 0 (gEnc R.st R.en R.id R.total R.typ R.k R.lb R.data R.sum).length none, AVal.int IntKind.i64 sp, AVal.bool true, AVal.int IntKind.i64 ((↑F.k : Int) + (1 : Int)),
 AVal.int IntKind.i64 F.lk, AVal.str F.lb]), (7, ABlk.row 33 (intRow IntKind.u64) [(↑i : Int) + (1 : Int)] RowMd.plain), (8, ABlk.row 5 byteRow (gEnc R.st R.en R.id R.total R.typ R.k R.lb R.data R.sum)
 RowMd.plain)]))) (Q AExit.normal (fE AVal.nils (f13 i)) (AHeap.mk 8 (fHx n (cs.set (idI i) (CutR.mk (cutI cs i).typ R.k2 R.b2 (cutI cs i).data R.at2 (cutI cs i).id)) (ds.set (idI i) (BoolR.mk R.en))
 fv [(6, ABlk.cells 70 [AVal.sl 7 0 1 0 (gEnc R.st R.en R.id R.total R.typ R.k R.lb R.data R.sum).length none, AVal.int IntKind.i64 sp, AVal.bool true, AVal.int IntKind.i64 ((↑F.k : Int) + (1 : Int)),
 AVal.int IntKind.i64 F.lk, AVal.str F.lb]), (7, ABlk.row 5 byteRow (gEnc R.st R.en R.id R.total R.typ R.k R.lb R.data R.sum) RowMd.plain)])))) (branch R.st (branch R.en (Q (AExit.exit 2) (fE (AVal.sl
 7 0 1 0 1 none) (f13 i)) (AHeap.mk 9 (fHx n (cs.set (idI i) (CutR.mk (cutI cs i).typ R.k2 R.b2 (cutI cs i).data R.at2 (cutI cs i).id)) (ds.set (idI i) (BoolR.mk R.en)) fv [(6, ABlk.cells 70 [AVal.sl 8
 0 1 0 (gEnc R.st R.en R.id R.total R.typ R.k R.lb R.data R.sum).length none, AVal.int IntKind.i64 sp, AVal.bool !R.en, AVal.int IntKind.i64 ((↑F.k : Int) + (1 : Int)), AVal.int IntKind.i64 F.lk,
 AVal.str F.lb]), (7, ABlk.row 33 (intRow IntKind.u64) [(↑i : Int) + (1 : Int)] RowMd.plain), (8, ABlk.row 5 byteRow (gEnc R.st R.en R.id R.total R.typ R.k R.lb R.data R.sum) RowMd.plain)]))) (Q
 AExit.normal (fE AVal.nils (f13 i)) (AHeap.mk 8 (fHx n (cs.set (idI i) (CutR.mk (cutI cs i).typ R.k2 R.b2 (cutI cs i).data R.at2 (cutI cs i).id)) (ds.set (idI i) (BoolR.mk R.en)) fv [(6, ABlk.cells 70
 [AVal.sl 7 0 1 0 (gEnc R.st R.en R.id R.total R.typ R.k R.lb R.data R.sum).length none, AVal.int IntKind.i64 sp, AVal.bool !R.en, AVal.int IntKind.i64 ((↑F.k : Int) + (1 : Int)), AVal.int IntKind.i64
 F.lk, AVal.str F.lb]), (7, ABlk.row 5 byteRow (gEnc R.st R.en R.id R.total R.typ R.k R.lb R.data R.sum) RowMd.plain)])))) (branch R.en (Q (AExit.exit 2) (fE (AVal.sl 7 0 1 0 1 none) (f13 i)) (AHeap.mk
 9 (fHx n (cs.set (idI i) (CutR.mk (cutI cs i).typ R.k2 R.b2 (cutI cs i).data R.at2 (cutI cs i).id)) (ds.set (idI i) (BoolR.mk R.en)) fv [(6, ABlk.cells 70 [AVal.sl 8 0 1 0 (gEnc R.st R.en R.id R.total
 R.typ R.k R.lb R.data R.sum).length none, AVal.int IntKind.i64 sp, AVal.bool false, AVal.int IntKind.i64 ((↑F.k : Int) + (1 : Int)), AVal.int IntKind.i64 F.lk, AVal.str F.lb]), (7, ABlk.row 33 (intRow
 IntKind.u64) [(↑i : Int) + (1 : Int)] RowMd.plain), (8, ABlk.row 5 byteRow (gEnc R.st R.en R.id R.total R.typ R.k R.lb R.data R.sum) RowMd.plain)]))) (Q AExit.normal (fE AVal.nils (f13 i)) (AHeap.mk 8
 (fHx n (cs.set (idI i) (CutR.mk (cutI cs i).typ R.k2 R.b2 (cutI cs i).data R.at2 (cutI cs i).id)) (ds.set (idI i) (BoolR.mk R.en)) fv [(6, ABlk.cells 70 [AVal.sl 7 0 1 0 (gEnc R.st R.en R.id R.total
 R.typ R.k R.lb R.data R.sum).length none, AVal.int IntKind.i64 sp, AVal.bool false, AVal.int IntKind.i64 ((↑F.k : Int) + (1 : Int)), AVal.int IntKind.i64 F.lk, AVal.str F.lb]), (7, ABlk.row 5 byteRow
 (gEnc R.st R.en R.id R.total R.typ R.k R.lb R.data R.sum) RowMd.plain)])))))))))))))))))) (∀ (R : NextR), nextR (cutI cs i).typ (cutI cs i).k (cutI cs i).lb (cutI cs i).data (cutI cs i).pos (cutI cs
 i).id (cutI cs i).k (cutI cs i).lb (sp - (0 : Int)) F.beg = R → branch (!decide (R.err = (0 : Int))) (branch (!decide (R.err = (0 : Int))) (Q (AExit.exit 0) (fE AVal.nils (f13 i)) (AHeap.mk 7 (fHx n
 cs ds fv [(6, ABlk.cells 70 [AVal.nils, AVal.int IntKind.i64 sp, AVal.bool F.beg, AVal.int IntKind.i64 (↑F.k : Int), AVal.int IntKind.i64 F.lk, AVal.str F.lb])]))) (branch (decide (sp - (0 : Int) < (3
 : Int))) (Q (AExit.exit 0) (fE AVal.nils (f13 i)) (AHeap.mk 7 (fHx n cs ds fv [(6, ABlk.cells 70 [AVal.nils, AVal.int IntKind.i64 sp, AVal.bool F.beg, AVal.int IntKind.i64 (↑F.k : Int), AVal.int
 IntKind.i64 F.lk, AVal.str F.lb])]))) (branch (decide ((70000 : Int) ≤ (↑F.k : Int))) (Q (AExit.exit 0) (fE AVal.nils (f13 i)) (AHeap.mk 7 (fHx n cs ds fv [(6, ABlk.cells 70 [AVal.nils, AVal.int
 IntKind.i64 sp, AVal.bool F.beg, AVal.int IntKind.i64 (↑F.k : Int), AVal.int IntKind.i64 F.lk, AVal.str F.lb])]))) (obl (inI64 ((↑F.k : Int) + (1 : Int))) (branch F.beg (Q AExit.normal (fE AVal.nils
 (f13 i)) (AHeap.mk 8 (fHx n cs ds fv [(6, ABlk.cells 70 [AVal.sl 7 0 1 0 3 none, AVal.int IntKind.i64 sp, AVal.bool true, AVal.int IntKind.i64 ((↑F.k : Int) + (1 : Int)), AVal.int IntKind.i64 F.lk,
 AVal.str F.lb]), (7, ABlk.row 5 byteRow [(48 : UInt8), (1 : UInt8), (0 : UInt8)] RowMd.plain)]))) (Q AExit.normal (fE AVal.nils (f13 i)) (AHeap.mk 8 (fHx n cs ds fv [(6, ABlk.cells 70 [AVal.sl 7 0 1 0
 3 none, AVal.int IntKind.i64 sp, AVal.bool false, AVal.int IntKind.i64 ((↑F.k : Int) + (1 : Int)), AVal.int IntKind.i64 F.lk, AVal.str F.lb]), (7, ABlk.row 5 byteRow [(48 : UInt8), (1 : UInt8), (0 :
 UInt8)] RowMd.plain)])))))))) (obl (decide ((0 : Int) ≤ idJ i ∧ idJ i < (↑n : Int))) (obl (decide (0 + (idJ i).toNat < cs.length) && true) (obl (decide ((0 : Int) ≤ idJ i ∧ idJ i < (↑n : Int))) (obl
 (decide (0 + (idJ i).toNat < ds.length) && true) (obl (decide (R.lb.length + R.data.length + R.sum.length ≤ 9223372036854775000)) (branch (!decide (gErr R.st R.en R.id R.total R.typ R.k R.lb R.data
 R.sum = (0 : Int))) (Q (AExit.exit 0) (fE AVal.nils (f13 i)) (AHeap.mk 7 (fHx n (cs.set (idI i) (CutR.mk (cutI cs i).typ R.k2 R.b2 (cutI cs i).data R.at2 (cutI cs i).id)) (ds.set (idI i) (BoolR.mk
 R.en)) fv [(6, ABlk.cells 70 [AVal.nils, AVal.int IntKind.i64 sp, AVal.bool F.beg, AVal.int IntKind.i64 (↑F.k : Int), AVal.int IntKind.i64 F.lk, AVal.str F.lb])]))) (branch (decide (sp - (0 : Int) <
 (↑(gEnc R.st R.en R.id R.total R.typ R.k R.lb R.data R.sum).length : Int))) (Q (AExit.exit 0) (fE AVal.nils (f13 i)) (AHeap.mk 7 (fHx n (cs.set (idI i) (CutR.mk (cutI cs i).typ R.k2 R.b2 (cutI cs
 i).data R.at2 (cutI cs i).id)) (ds.set (idI i) (BoolR.mk R.en)) fv [(6, ABlk.cells 70 [AVal.nils, AVal.int IntKind.i64 sp, AVal.bool F.beg, AVal.int IntKind.i64 (↑F.k : Int), AVal.int IntKind.i64
 F.lk, AVal.str F.lb])]))) (branch (decide ((70000 : Int) ≤ (↑F.k : Int))) (Q (AExit.exit 0) (fE AVal.nils (f13 i)) (AHeap.mk 7 (fHx n (cs.set (idI i) (CutR.mk (cutI cs i).typ R.k2 R.b2 (cutI cs
 i).data R.at2 (cutI cs i).id)) (ds.set (idI i) (BoolR.mk R.en)) fv [(6, ABlk.cells 70 [AVal.nils, AVal.int IntKind.i64 sp, AVal.bool F.beg, AVal.int IntKind.i64 (↑F.k : Int), AVal.int IntKind.i64
 F.lk, AVal.str F.lb])]))) (obl (inI64 ((↑F.k : Int) + (1 : Int))) (obl (true && decide (0 < (gEnc R.st R.en R.id R.total R.typ R.k R.lb R.data R.sum).length ∧ 1 = 1 ∧ 1 = 1 ∧ 0 < 1 ∧ (gEnc R.st R.en
 R.id R.total R.typ R.k R.lb R.data R.sum).length ≤ 9223372036854775807 ∧ (gEnc R.st R.en R.id R.total R.typ R.k R.lb R.data R.sum).length * 1 ≤ 140737488355328)) (branch F.beg (branch R.en (Q
 (AExit.exit 2) (fE (AVal.sl 7 0 1 0 1 none) (f13 i)) (AHeap.mk 9 (fHx n (cs.set (idI i) (CutR.mk (cutI cs i).typ R.k2 R.b2 (cutI cs i).data R.at2 (cutI cs i).id)) (ds.set (idI i) (BoolR.mk R.en)) fv
 [(6, ABlk.cells 70 [AVal.sl 8 0 1 0 (gEnc R.st R.en R.id R.total R.typ R.k R.lb R.data R.sum).length none, AVal.int IntKind.i64 sp, AVal.bool true, AVal.int IntKind.i64 ((↑F.k : Int) + (1 : Int)),
 AVal.int IntKind.i64 F.lk, AVal.str F.lb]), (7, ABlk.row 33 (intRow IntKind.u64) [(↑i : Int) + (1 : Int)] RowMd.plain), (8, ABlk.row 5 byteRow (gEnc R.st R.en R.id R.total R.typ R.k R.lb R.data R.sum)
 RowMd.plain)]))) (Q AExit.normal (fE AVal.nils (f13 i)) (AHeap.mk 8 (fHx n (cs.set (idI i) (CutR.mk (cutI cs i).typ R.k2 R.b2 (cutI cs i).data R.at2 (cutI cs i).id)) (ds.set (idI i) (BoolR.mk R.en))
 fv [(6, ABlk.cells 70 [AVal.sl 7 0 1 0 (gEnc R.st R.en R.id R.total R.typ R.k R.lb R.data R.sum).length none, AVal.int IntKind.i64 sp, AVal.bool true, AVal.int IntKind.i64 ((↑F.k : Int) + (1 : Int)),
 AVal.int IntKind.i64 F.lk, AVal.str F.lb]), (7, ABlk.row 5 byteRow (gEnc R.st R.en R.id R.total R.typ R.k R.lb R.data R.sum) RowMd.plain)])))) (branch R.st (branch R.en (Q (AExit.exit 2) (fE (AVal.sl
 7 0 1 0 1 none) (f13 i)) (AHeap.mk 9 (fHx n (cs.set (idI i) (CutR.mk (cutI cs i).typ R.k2 R.b2 (cutI cs i).data R.at2 (cutI cs i).id)) (ds.set (idI i) (BoolR.mk R.en)) fv [(6, ABlk.cells 70 [AVal.sl 8
 0 1 0 (gEnc R.st R.en R.id R.total R.typ R.k R.lb R.data R.sum).length none, AVal.int IntKind.i64 sp, AVal.bool !R.en, AVal.int IntKind.i64 ((↑F.k : Int) + (1 : Int)), AVal.int IntKind.i64 F.lk,
 AVal.str F.lb]), (7, ABlk.row 33 (intRow IntKind.u64) [(↑i : Int) + (1 : Int)] RowMd.plain), (8, ABlk.row 5 byteRow (gEnc R.st R.en R.id R.total R.typ R.k R.lb R.data R.sum) RowMd.plain)]))) (Q
 AExit.normal (fE AVal.nils (f13 i)) (AHeap.mk 8 (fHx n (cs.set (idI i) (CutR.mk (cutI cs i).typ R.k2 R.b2 (cutI cs i).data R.at2 (cutI cs i).id)) (ds.set (idI i) (BoolR.mk R.en)) fv [(6, ABlk.cells 70
 [AVal.sl 7 0 1 0 (gEnc R.st R.en R.id R.total R.typ R.k R.lb R.data R.sum).length none, AVal.int IntKind.i64 sp, AVal.bool !R.en, AVal.int IntKind.i64 ((↑F.k : Int) + (1 : Int)), AVal.int IntKind.i64
 F.lk, AVal.str F.lb]), (7, ABlk.row 5 byteRow (gEnc R.st R.en R.id R.total R.typ R.k R.lb R.data R.sum) RowMd.plain)])))) (branch R.en (Q (AExit.exit 2) (fE (AVal.sl 7 0 1 0 1 none) (f13 i)) (AHeap.mk
 9 (fHx n (cs.set (idI i) (CutR.mk (cutI cs i).typ R.k2 R.b2 (cutI cs i).data R.at2 (cutI cs i).id)) (ds.set (idI i) (BoolR.mk R.en)) fv [(6, ABlk.cells 70 [AVal.sl 8 0 1 0 (gEnc R.st R.en R.id R.total
 R.typ R.k R.lb R.data R.sum).length none, AVal.int IntKind.i64 sp, AVal.bool false, AVal.int IntKind.i64 ((↑F.k : Int) + (1 : Int)), AVal.int IntKind.i64 F.lk, AVal.str F.lb]), (7, ABlk.row 33 (intRow
 IntKind.u64) [(↑i : Int) + (1 : Int)] RowMd.plain), (8, ABlk.row 5 byteRow (gEnc R.st R.en R.id R.total R.typ R.k R.lb R.data R.sum) RowMd.plain)]))) (Q AExit.normal (fE AVal.nils (f13 i)) (AHeap.mk 8
 (fHx n (cs.set (idI i) (CutR.mk (cutI cs i).typ R.k2 R.b2 (cutI cs i).data R.at2 (cutI cs i).id)) (ds.set (idI i) (BoolR.mk R.en)) fv [(6, ABlk.cells 70 [AVal.sl 7 0 1 0 (gEnc R.st R.en R.id R.total
 R.typ R.k R.lb R.data R.sum).length none, AVal.int IntKind.i64 sp, AVal.bool false, AVal.int IntKind.i64 ((↑F.k : Int) + (1 : Int)), AVal.int IntKind.i64 F.lk, AVal.str F.lb]), (7, ABlk.row 5 byteRow
 (gEnc R.st R.en R.id R.total R.typ R.k R.lb R.data R.sum) RowMd.plain)]))))))))))))))))))) (∀ (R : NextR), nextR (cutI cs i).typ (cutI cs i).k (cutI cs i).lb (cutI cs i).data (cutI cs i).pos (cutI cs
 i).id (cutI cs i).k (cutI cs i).lb (sp - (0 : Int)) F.beg = R → branch (!decide (R.err = (0 : Int))) (branch (!decide (R.err = (0 : Int))) (Q (AExit.exit 0) (fE AVal.nils (f13 i)) (AHeap.mk 7 (fHx n
 cs ds fv [(6, ABlk.cells 70 [AVal.nils, AVal.int IntKind.i64 sp, AVal.bool F.beg, AVal.int IntKind.i64 (↑F.k : Int), AVal.int IntKind.i64 F.lk, AVal.str F.lb])]))) (branch (decide (sp - (0 : Int) < (3
 : Int))) (Q (AExit.exit 0) (fE AVal.nils (f13 i)) (AHeap.mk 7 (fHx n cs ds fv [(6, ABlk.cells 70 [AVal.nils, AVal.int IntKind.i64 sp, AVal.bool F.beg, AVal.int IntKind.i64 (↑F.k : Int), AVal.int
 IntKind.i64 F.lk, AVal.str F.lb])]))) (branch (decide ((70000 : Int) ≤ (↑F.k : Int))) (Q (AExit.exit 0) (fE AVal.nils (f13 i)) (AHeap.mk 7 (fHx n cs ds fv [(6, ABlk.cells 70 [AVal.nils, AVal.int
 IntKind.i64 sp, AVal.bool F.beg, AVal.int IntKind.i64 (↑F.k : Int), AVal.int IntKind.i64 F.lk, AVal.str F.lb])]))) (obl (inI64 ((↑F.k : Int) + (1 : Int))) (branch F.beg (Q AExit.normal (fE AVal.nils
 (f13 i)) (AHeap.mk 8 (fHx n cs ds fv [(6, ABlk.cells 70 [AVal.sl 7 0 1 0 3 none, AVal.int IntKind.i64 sp, AVal.bool true, AVal.int IntKind.i64 ((↑F.k : Int) + (1 : Int)), AVal.int IntKind.i64 F.lk,
 AVal.str F.lb]), (7, ABlk.row 5 byteRow [(48 : UInt8), (1 : UInt8), (0 : UInt8)] RowMd.plain)]))) (Q AExit.normal (fE AVal.nils (f13 i)) (AHeap.mk 8 (fHx n cs ds fv [(6, ABlk.cells 70 [AVal.sl 7 0 1 0
 3 none, AVal.int IntKind.i64 sp, AVal.bool false, AVal.int IntKind.i64 ((↑F.k : Int) + (1 : Int)), AVal.int IntKind.i64 F.lk, AVal.str F.lb]), (7, ABlk.row 5 byteRow [(48 : UInt8), (1 : UInt8), (0 :
 UInt8)] RowMd.plain)])))))))) (obl (decide ((0 : Int) ≤ idJ i ∧ idJ i < (↑n : Int))) (obl (decide (0 + (idJ i).toNat < cs.length) && true) (obl (decide ((0 : Int) ≤ idJ i ∧ idJ i < (↑n : Int))) (obl
 (decide (0 + (idJ i).toNat < ds.length) && true) (obl (decide (R.lb.length + R.data.length + R.sum.length ≤ 9223372036854775000)) (branch (!decide (gErr R.st R.en R.id R.total R.typ R.k R.lb R.data
 R.sum = (0 : Int))) (Q (AExit.exit 0) (fE AVal.nils (f13 i)) (AHeap.mk 7 (fHx n (cs.set (idI i) (CutR.mk (cutI cs i).typ R.k2 R.b2 (cutI cs i).data R.at2 (cutI cs i).id)) (ds.set (idI i) (BoolR.mk
 R.en)) fv [(6, ABlk.cells 70 [AVal.nils, AVal.int IntKind.i64 sp, AVal.bool F.beg, AVal.int IntKind.i64 (↑F.k : Int), AVal.int IntKind.i64 F.lk, AVal.str F.lb])]))) (branch (decide (sp - (0 : Int) <
 (↑(gEnc R.st R.en R.id R.total R.typ R.k R.lb R.data R.sum).length : Int))) (Q (AExit.exit 0) (fE AVal.nils (f13 i)) (AHeap.mk 7 (fHx n (cs.set (idI i) (CutR.mk (cutI cs i).typ R.k2 R.b2 (cutI cs
 i).data R.at2 (cutI cs i).id)) (ds.set (idI i) (BoolR.mk R.en)) fv [(6, ABlk.cells 70 [AVal.nils, AVal.int IntKind.i64 sp, AVal.bool F.beg, AVal.int IntKind.i64 (↑F.k : Int), AVal.int IntKind.i64
 F.lk, AVal.str F.lb])]))) (branch (decide ((70000 : Int) ≤ (↑F.k : Int))) (Q (AExit.exit 0) (fE AVal.nils (f13 i)) (AHeap.mk 7 (fHx n (cs.set (idI i) (CutR.mk (cutI cs i).typ R.k2 R.b2 (cutI cs
 i).data R.at2 (cutI cs i).id)) (ds.set (idI i) (BoolR.mk R.en)) fv [(6, ABlk.cells 70 [AVal.nils, AVal.int IntKind.i64 sp, AVal.bool F.beg, AVal.int IntKind.i64 (↑F.k : Int), AVal.int IntKind.i64
 F.lk, AVal.str F.lb])]))) (obl (inI64 ((↑F.k : Int) + (1 : Int))) (obl (true && decide (0 < (gEnc R.st R.en R.id R.total R.typ R.k R.lb R.data R.sum).length ∧ 1 = 1 ∧ 1 = 1 ∧ 0 < 1 ∧ (gEnc R.st R.en
 R.id R.total R.typ R.k R.lb R.data R.sum).length ≤ 9223372036854775807 ∧ (gEnc R.st R.en R.id R.total R.typ R.k R.lb R.data R.sum).length * 1 ≤ 140737488355328)) (branch F.beg (branch R.en (Q
 (AExit.exit 2) (fE (AVal.sl 7 0 1 0 1 none) (f13 i)) (AHeap.mk 9 (fHx n (cs.set (idI i) (CutR.mk (cutI cs i).typ R.k2 R.b2 (cutI cs i).data R.at2 (cutI cs i).id)) (ds.set (idI i) (BoolR.mk R.en)) fv
 [(6, ABlk.cells 70 [AVal.sl 8 0 1 0 (gEnc R.st R.en R.id R.total R.typ R.k R.lb R.data R.sum).length none, AVal.int IntKind.i64 sp, AVal.bool true, AVal.int IntKind.i64 ((↑F.k : Int) + (1 : Int)),
 AVal.int IntKind.i64 F.lk, AVal.str F.lb]), (7, ABlk.row 33 (intRow IntKind.u64) [(↑i : Int) + (1 : Int)] RowMd.plain), (8, ABlk.row 5 byteRow (gEnc R.st R.en R.id R.total R.typ R.k R.lb R.data R.sum)
 RowMd.plain)]))) (Q AExit.normal (fE AVal.nils (f13 i)) (AHeap.mk 8 (fHx n (cs.set (idI i) (CutR.mk (cutI cs i).typ R.k2 R.b2 (cutI cs i).data R.at2 (cutI cs i).id)) (ds.set (idI i) (BoolR.mk R.en))
 fv [(6, ABlk.cells 70 [AVal.sl 7 0 1 0 (gEnc R.st R.en R.id R.total R.typ R.k R.lb R.data R.sum).length none, AVal.int IntKind.i64 sp, AVal.bool true, AVal.int IntKind.i64 ((↑F.k : Int) + (1 : Int)),
 AVal.int IntKind.i64 F.lk, AVal.str F.lb]), (7, ABlk.row 5 byteRow (gEnc R.st R.en R.id R.total R.typ R.k R.lb R.data R.sum) RowMd.plain)])))) (branch R.st (branch R.en (Q (AExit.exit 2) (fE (AVal.sl
 7 0 1 0 1 none) (f13 i)) (AHeap.mk 9 (fHx n (cs.set (idI i) (CutR.mk (cutI cs i).typ R.k2 R.b2 (cutI cs i).data R.at2 (cutI cs i).id)) (ds.set (idI i) (BoolR.mk R.en)) fv [(6, ABlk.cells 70 [AVal.sl 8
 0 1 0 (gEnc R.st R.en R.id R.total R.typ R.k R.lb R.data R.sum).length none, AVal.int IntKind.i64 sp, AVal.bool !R.en, AVal.int IntKind.i64 ((↑F.k : Int) + (1 : Int)), AVal.int IntKind.i64 F.lk,
 AVal.str F.lb]), (7, ABlk.row 33 (intRow IntKind.u64) [(↑i : Int) + (1 : Int)] RowMd.plain), (8, ABlk.row 5 byteRow (gEnc R.st R.en R.id R.total R.typ R.k R.lb R.data R.sum) RowMd.plain)]))) (Q
 AExit.normal (fE AVal.nils (f13 i)) (AHeap.mk 8 (fHx n (cs.set (idI i) (CutR.mk (cutI cs i).typ R.k2 R.b2 (cutI cs i).data R.at2 (cutI cs i).id)) (ds.set (idI i) (BoolR.mk R.en)) fv [(6, ABlk.cells 70
 [AVal.sl 7 0 1 0 (gEnc R.st R.en R.id R.total R.typ R.k R.lb R.data R.sum).length none, AVal.int IntKind.i64 sp, AVal.bool !R.en, AVal.int IntKind.i64 ((↑F.k : Int) + (1 : Int)), AVal.int IntKind.i64
 F.lk, AVal.str F.lb]), (7, ABlk.row 5 byteRow (gEnc R.st R.en R.id R.total R.typ R.k R.lb R.data R.sum) RowMd.plain)])))) (branch R.en (Q (AExit.exit 2) (fE (AVal.sl 7 0 1 0 1 none) (f13 i)) (AHeap.mk
 9 (fHx n (cs.set (idI i) (CutR.mk (cutI cs i).typ R.k2 R.b2 (cutI cs i).data R.at2 (cutI cs i).id)) (ds.set (idI i) (BoolR.mk R.en)) fv [(6, ABlk.cells 70 [AVal.sl 8 0 1 0 (gEnc R.st R.en R.id R.total
 R.typ R.k R.lb R.data R.sum).length none, AVal.int IntKind.i64 sp, AVal.bool false, AVal.int IntKind.i64 ((↑F.k : Int) + (1 : Int)), AVal.int IntKind.i64 F.lk, AVal.str F.lb]), (7, ABlk.row 33 (intRow
 IntKind.u64) [(↑i : Int) + (1 : Int)] RowMd.plain), (8, ABlk.row 5 byteRow (gEnc R.st R.en R.id R.total R.typ R.k R.lb R.data R.sum) RowMd.plain)]))) (Q AExit.normal (fE AVal.nils (f13 i)) (AHeap.mk 8
 (fHx n (cs.set (idI i) (CutR.mk (cutI cs i).typ R.k2 R.b2 (cutI cs i).data R.at2 (cutI cs i).id)) (ds.set (idI i) (BoolR.mk R.en)) fv [(6, ABlk.cells 70 [AVal.sl 7 0 1 0 (gEnc R.st R.en R.id R.total
 R.typ R.k R.lb R.data R.sum).length none, AVal.int IntKind.i64 sp, AVal.bool false, AVal.int IntKind.i64 ((↑F.k : Int) + (1 : Int)), AVal.int IntKind.i64 F.lk, AVal.str F.lb]), (7, ABlk.row 5 byteRow
 (gEnc R.st R.en R.id R.total R.typ R.k R.lb R.data R.sum) RowMd.plain)])))))))))))))))))))))))))) := by kernel_rfl
end Go.Proofs.Ytjacnjecggedhaa
namespace Go.Proofs.Ytjacnjecggedhaa
set_option linter.unusedVariables false
set_option linter.unusedSimpArgs false
open Go.RowKit Ev
set_option maxRecDepth 100000 in
theorem g_00 (H0 : AHeap) (hH0 : H0.next ≤ 3) (n : Nat) (sp : Int) (cs : List CutR) (ds : List BoolR) (fv : Int) (F : FSt) (i : Nat) (Q : AExit → Env → AHeap → Prop)
    (hn : i < n) (hcs : cs.length = n) (hds : ds.length = n) (hn30 : n ≤ 30) (hd : (ds.getD i ⟨false⟩).b = false) (hsp : sp ≤ 7300) (hL : (F.L.length : Int) ≤ sp) (hk : 2 * F.k ≤ F.L.length) (hc : CSm (cs.getD i noCut)) (hF : F.L = [])
    (hfail : ∀ (cs' : List CutR) (ds' : List BoolR) (F' : FSt), F'.L = F.L → ¬ OkR sp F (stepR sp F (cs.getD i noCut)) → Q (.exit 0) (g00 n sp cs' ds' fv F' (f13 i)).1 (g00 n sp cs' ds' fv F' (f13 i)).2)
    (hlast : ∀ (R : NextR) (F' : FSt), stepR sp F (cs.getD i noCut) = R → OkR sp F R → R.en = true → F' = stepF F (cs.getD i noCut) R → Q (.exit 2) (g11 n sp (cs.set i (stepC (cs.getD i noCut) R)) (ds.set i ⟨R.en⟩) fv F' [(i : Int) + 1] (f13 i)).1 (g11 n sp (cs.set i (stepC (cs.getD i noCut) R)) (ds.set i ⟨R.en⟩) fv F' [(i : Int) + 1] (f13 i)).2)
    (hnorm : ∀ (R : NextR) (F' : FSt), stepR sp F (cs.getD i noCut) = R → OkR sp F R → R.en = false → F' = stepF F (cs.getD i noCut) R → Q .normal (g10 n sp (cs.set i (stepC (cs.getD i noCut) R)) (ds.set i ⟨R.en⟩) fv F' (f13 i)).1 (g10 n sp (cs.set i (stepC (cs.getD i noCut) R)) (ds.set i ⟨R.en⟩) fv F' (f13 i)).2) :
    Gd (TX2.ctx Try.prog) 9 H0 fillL Q (g00 n sp cs ds fv F (f13 i)).1 (g00 n sp cs ds fv F (f13 i)).2 := by
  refine Gd.walkC TX2ok.ctx 3 ts13 hH0 (inFn_at TX2ok.ctx (fn := Try.f9) (by kernel_rfl) (by kernel_rfl) [true, false, true, true, true, true, true, false, true, false, false, true, false, false, false, false]) (Eq.mpr (w_fl_00 n sp cs ds fv F i _) ?_)
  have idx : 0 + (i : Int).toNat = i := by omega
  have hi6 : i < 1000000 := by omega
  rw [idJ_eq hi6, idx, cutI_eq hi6, idI_eq hi6]
  have e0 : sp - (F.L.length : Int) = sp - 0 := by rw [hF]; rfl
  refine obl_int (by omega) ((twice_iff _).2 ?_)
  refine br_dec (fun h => absurd h (by omega)) (fun _ => ?_)
  refine obl_dec (by omega) (obl_dec (by omega) ?_)
  refine br_mk (fun h => by rw [hd] at h; cases h) (fun _ => ?_)
  refine obl_dec (by omega) (obl_dec (by omega) ?_)
  generalize hce : cs.getD i noCut = c
  have hce' : cs.getD i noCut = c := hce
  rw [hce'] at hc
  simp only [hce'] at hlast hnorm hfail
  refine br_dec (fun hp => ?_) (fun hp => ?_)
  · refine br_mk (fun hb0 => ?_) (fun hb0 => ?_)
    · have hb0 : F.lb ≠ [] := by simpa using hb0
      refine br_mk (fun hq => ?_) (fun hq => ?_)
      · have hq : F.lk = c.k ∧ F.lb = c.lb := by simpa using hq
        intro R hR
        have q : labOf F c = (3, []) := by unfold labOf memL; rw [if_pos hp, if_pos ⟨hb0, hq.1, hq.2⟩]
        have hM : memOf F c = (F.lk, F.lb) := by unfold memOf memK; rw [if_pos hp, if_pos ⟨hb0, hq.1, hq.2⟩]
        have hR' : stepR sp F c = R := by unfold stepR; rw [q, e0]; exact hR
        have hsm := stepR_small hR' hc
        refine br_mk (fun he => br_mk (fun _ => hfail cs ds ⟨F.L, F.beg, F.k, F.lk, F.lb⟩ rfl (fun hk => by rw [hR'] at hk; rw [hk.err] at he; cases he)) (fun h2 => by rw [he] at h2; cases h2)) (fun he => ?_)
        have he : R.err = 0 := by simpa using he
        refine obl_dec (by omega) (obl_and (by omega) rfl (obl_dec (by omega) (obl_and (by omega) rfl (obl_dec hsm.1 ?_))))
        refine br_mk (fun hg => hfail (cs.set i (stepC c R)) (ds.set i ⟨R.en⟩) ⟨F.L, F.beg, F.k, F.lk, F.lb⟩ rfl (fun hk => by rw [hR'] at hk; have h0 : (!decide (errR R = 0)) = true := hg; rw [hk.enc] at h0; cases h0)) (fun hg => ?_)
        have hg : errR R = 0 := by simpa [errR] using hg
        refine br_dec (fun hs => hfail (cs.set i (stepC c R)) (ds.set i ⟨R.en⟩) ⟨F.L, F.beg, F.k, F.lk, F.lb⟩ rfl (fun hk => by rw [hR'] at hk; have h0 : sp - 0 < ((encR R).length : Int) := hs; have h1 := hk.len; rw [e0] at h1; omega)) (fun hs => ?_)
        have hs : ¬ (sp - (F.L.length : Int) < ((encR R).length : Int)) := by rw [e0]; exact hs
        have hok : OkR sp F R := ⟨he, hg, by omega⟩
        have t2 := encR_len hg
        refine br_dec (fun h => absurd h (by omega)) (fun _ => ?_)
        have q0 : 0 < (encR R).length := by omega
        have q1 : (encR R).length ≤ 9223372036854775807 := by omega
        have q2 : (encR R).length * 1 ≤ 140737488355328 := by omega
        refine obl_int (by omega) (obl_tt (decide_eq_true ⟨q0, rfl, rfl, Nat.one_pos, q1, q2⟩) ?_)
        refine br_mk (fun hb => br_mk (fun h => hlast R ⟨encR R, true, F.k + 1, F.lk, F.lb⟩ hR' hok h (by unfold stepF; rw [hM, hb, hF]; rfl)) (fun h => hnorm R ⟨encR R, true, F.k + 1, F.lk, F.lb⟩ hR' hok h (by unfold stepF; rw [hM, hb, hF]; rfl))) (fun hb => br_mk (fun hst => br_mk (fun h => hlast R ⟨encR R, !R.en, F.k + 1, F.lk, F.lb⟩ hR' hok h (by unfold stepF; rw [hM, hb, hst, hF]; rfl)) (fun h => hnorm R ⟨encR R, !R.en, F.k + 1, F.lk, F.lb⟩ hR' hok h (by unfold stepF; rw [hM, hb, hst, hF]; rfl))) (fun hst => br_mk (fun h => hlast R ⟨encR R, false, F.k + 1, F.lk, F.lb⟩ hR' hok h (by unfold stepF; rw [hM, hb, hst, hF]; rfl)) (fun h => hnorm R ⟨encR R, false, F.k + 1, F.lk, F.lb⟩ hR' hok h (by unfold stepF; rw [hM, hb, hst, hF]; rfl))))
      · have hne : ¬ (F.lb ≠ [] ∧ F.lk = c.k ∧ F.lb = c.lb) := by rintro ⟨_, h1, h2⟩; rw [decide_eq_true h1, decide_eq_true h2] at hq; cases hq
        refine br_dec (fun hs0 => br_dec (fun ho => ?_) (fun ho => ?_)) (fun hs0 => ?_)
        · have ho : lOk c.k c.lb = true := by by_cases h : lOk c.k c.lb = true; exact h; rw [if_neg h] at ho; exact absurd ho (by decide)
          intro R hR
          have q : labOf F c = (c.k, c.lb) := by unfold labOf memL; rw [if_pos hp, if_neg hne]
          have hM : memOf F c = (c.k, c.lb) := by unfold memOf memK; rw [if_pos hp, if_neg hne, if_pos ⟨hs0, ho⟩]
          have hR' : stepR sp F c = R := by unfold stepR; rw [q, e0]; exact hR
          have hsm := stepR_small hR' hc
          refine br_mk (fun he => br_mk (fun _ => hfail cs ds ⟨F.L, F.beg, F.k, c.k, c.lb⟩ rfl (fun hk => by rw [hR'] at hk; rw [hk.err] at he; cases he)) (fun h2 => by rw [he] at h2; cases h2)) (fun he => ?_)
          have he : R.err = 0 := by simpa using he
          refine obl_dec (by omega) (obl_and (by omega) rfl (obl_dec (by omega) (obl_and (by omega) rfl (obl_dec hsm.1 ?_))))
          refine br_mk (fun hg => hfail (cs.set i (stepC c R)) (ds.set i ⟨R.en⟩) ⟨F.L, F.beg, F.k, c.k, c.lb⟩ rfl (fun hk => by rw [hR'] at hk; have h0 : (!decide (errR R = 0)) = true := hg; rw [hk.enc] at h0; cases h0)) (fun hg => ?_)
          have hg : errR R = 0 := by simpa [errR] using hg
          refine br_dec (fun hs => hfail (cs.set i (stepC c R)) (ds.set i ⟨R.en⟩) ⟨F.L, F.beg, F.k, c.k, c.lb⟩ rfl (fun hk => by rw [hR'] at hk; have h0 : sp - 0 < ((encR R).length : Int) := hs; have h1 := hk.len; rw [e0] at h1; omega)) (fun hs => ?_)
          have hs : ¬ (sp - (F.L.length : Int) < ((encR R).length : Int)) := by rw [e0]; exact hs
          have hok : OkR sp F R := ⟨he, hg, by omega⟩
          have t2 := encR_len hg
          refine br_dec (fun h => absurd h (by omega)) (fun _ => ?_)
          have q0 : 0 < (encR R).length := by omega
          have q1 : (encR R).length ≤ 9223372036854775807 := by omega
          have q2 : (encR R).length * 1 ≤ 140737488355328 := by omega
          refine obl_int (by omega) (obl_tt (decide_eq_true ⟨q0, rfl, rfl, Nat.one_pos, q1, q2⟩) ?_)
          refine br_mk (fun hb => br_mk (fun h => hlast R ⟨encR R, true, F.k + 1, c.k, c.lb⟩ hR' hok h (by unfold stepF; rw [hM, hb, hF]; rfl)) (fun h => hnorm R ⟨encR R, true, F.k + 1, c.k, c.lb⟩ hR' hok h (by unfold stepF; rw [hM, hb, hF]; rfl))) (fun hb => br_mk (fun hst => br_mk (fun h => hlast R ⟨encR R, !R.en, F.k + 1, c.k, c.lb⟩ hR' hok h (by unfold stepF; rw [hM, hb, hst, hF]; rfl)) (fun h => hnorm R ⟨encR R, !R.en, F.k + 1, c.k, c.lb⟩ hR' hok h (by unfold stepF; rw [hM, hb, hst, hF]; rfl))) (fun hst => br_mk (fun h => hlast R ⟨encR R, false, F.k + 1, c.k, c.lb⟩ hR' hok h (by unfold stepF; rw [hM, hb, hst, hF]; rfl)) (fun h => hnorm R ⟨encR R, false, F.k + 1, c.k, c.lb⟩ hR' hok h (by unfold stepF; rw [hM, hb, hst, hF]; rfl))))
        · have ho : ¬ lOk c.k c.lb = true := fun h => by rw [if_pos h] at ho; exact ho rfl
          intro R hR
          have q : labOf F c = (c.k, c.lb) := by unfold labOf memL; rw [if_pos hp, if_neg hne]
          have hM : memOf F c = (F.lk, F.lb) := by unfold memOf memK; rw [if_pos hp, if_neg hne, if_neg (fun h => ho h.2)]
          have hR' : stepR sp F c = R := by unfold stepR; rw [q, e0]; exact hR
          have hsm := stepR_small hR' hc
          refine br_mk (fun he => br_mk (fun _ => hfail cs ds ⟨F.L, F.beg, F.k, F.lk, F.lb⟩ rfl (fun hk => by rw [hR'] at hk; rw [hk.err] at he; cases he)) (fun h2 => by rw [he] at h2; cases h2)) (fun he => ?_)
          have he : R.err = 0 := by simpa using he
          refine obl_dec (by omega) (obl_and (by omega) rfl (obl_dec (by omega) (obl_and (by omega) rfl (obl_dec hsm.1 ?_))))
          refine br_mk (fun hg => hfail (cs.set i (stepC c R)) (ds.set i ⟨R.en⟩) ⟨F.L, F.beg, F.k, F.lk, F.lb⟩ rfl (fun hk => by rw [hR'] at hk; have h0 : (!decide (errR R = 0)) = true := hg; rw [hk.enc] at h0; cases h0)) (fun hg => ?_)
          have hg : errR R = 0 := by simpa [errR] using hg
          refine br_dec (fun hs => hfail (cs.set i (stepC c R)) (ds.set i ⟨R.en⟩) ⟨F.L, F.beg, F.k, F.lk, F.lb⟩ rfl (fun hk => by rw [hR'] at hk; have h0 : sp - 0 < ((encR R).length : Int) := hs; have h1 := hk.len; rw [e0] at h1; omega)) (fun hs => ?_)
          have hs : ¬ (sp - (F.L.length : Int) < ((encR R).length : Int)) := by rw [e0]; exact hs
          have hok : OkR sp F R := ⟨he, hg, by omega⟩
          have t2 := encR_len hg
          refine br_dec (fun h => absurd h (by omega)) (fun _ => ?_)
          have q0 : 0 < (encR R).length := by omega
          have q1 : (encR R).length ≤ 9223372036854775807 := by omega
          have q2 : (encR R).length * 1 ≤ 140737488355328 := by omega
          refine obl_int (by omega) (obl_tt (decide_eq_true ⟨q0, rfl, rfl, Nat.one_pos, q1, q2⟩) ?_)
          refine br_mk (fun hb => br_mk (fun h => hlast R ⟨encR R, true, F.k + 1, F.lk, F.lb⟩ hR' hok h (by unfold stepF; rw [hM, hb, hF]; rfl)) (fun h => hnorm R ⟨encR R, true, F.k + 1, F.lk, F.lb⟩ hR' hok h (by unfold stepF; rw [hM, hb, hF]; rfl))) (fun hb => br_mk (fun hst => br_mk (fun h => hlast R ⟨encR R, !R.en, F.k + 1, F.lk, F.lb⟩ hR' hok h (by unfold stepF; rw [hM, hb, hst, hF]; rfl)) (fun h => hnorm R ⟨encR R, !R.en, F.k + 1, F.lk, F.lb⟩ hR' hok h (by unfold stepF; rw [hM, hb, hst, hF]; rfl))) (fun hst => br_mk (fun h => hlast R ⟨encR R, false, F.k + 1, F.lk, F.lb⟩ hR' hok h (by unfold stepF; rw [hM, hb, hst, hF]; rfl)) (fun h => hnorm R ⟨encR R, false, F.k + 1, F.lk, F.lb⟩ hR' hok h (by unfold stepF; rw [hM, hb, hst, hF]; rfl))))
        · skip
          intro R hR
          have q : labOf F c = (c.k, c.lb) := by unfold labOf memL; rw [if_pos hp, if_neg hne]
          have hM : memOf F c = (F.lk, F.lb) := by unfold memOf memK; rw [if_pos hp, if_neg hne, if_neg (fun h => hs0 h.1)]
          have hR' : stepR sp F c = R := by unfold stepR; rw [q, e0]; exact hR
          have hsm := stepR_small hR' hc
          refine br_mk (fun he => br_mk (fun _ => hfail cs ds ⟨F.L, F.beg, F.k, F.lk, F.lb⟩ rfl (fun hk => by rw [hR'] at hk; rw [hk.err] at he; cases he)) (fun h2 => by rw [he] at h2; cases h2)) (fun he => ?_)
          have he : R.err = 0 := by simpa using he
          refine obl_dec (by omega) (obl_and (by omega) rfl (obl_dec (by omega) (obl_and (by omega) rfl (obl_dec hsm.1 ?_))))
          refine br_mk (fun hg => hfail (cs.set i (stepC c R)) (ds.set i ⟨R.en⟩) ⟨F.L, F.beg, F.k, F.lk, F.lb⟩ rfl (fun hk => by rw [hR'] at hk; have h0 : (!decide (errR R = 0)) = true := hg; rw [hk.enc] at h0; cases h0)) (fun hg => ?_)
          have hg : errR R = 0 := by simpa [errR] using hg
          refine br_dec (fun hs => hfail (cs.set i (stepC c R)) (ds.set i ⟨R.en⟩) ⟨F.L, F.beg, F.k, F.lk, F.lb⟩ rfl (fun hk => by rw [hR'] at hk; have h0 : sp - 0 < ((encR R).length : Int) := hs; have h1 := hk.len; rw [e0] at h1; omega)) (fun hs => ?_)
          have hs : ¬ (sp - (F.L.length : Int) < ((encR R).length : Int)) := by rw [e0]; exact hs
          have hok : OkR sp F R := ⟨he, hg, by omega⟩
          have t2 := encR_len hg
          refine br_dec (fun h => absurd h (by omega)) (fun _ => ?_)
          have q0 : 0 < (encR R).length := by omega
          have q1 : (encR R).length ≤ 9223372036854775807 := by omega
          have q2 : (encR R).length * 1 ≤ 140737488355328 := by omega
          refine obl_int (by omega) (obl_tt (decide_eq_true ⟨q0, rfl, rfl, Nat.one_pos, q1, q2⟩) ?_)
          refine br_mk (fun hb => br_mk (fun h => hlast R ⟨encR R, true, F.k + 1, F.lk, F.lb⟩ hR' hok h (by unfold stepF; rw [hM, hb, hF]; rfl)) (fun h => hnorm R ⟨encR R, true, F.k + 1, F.lk, F.lb⟩ hR' hok h (by unfold stepF; rw [hM, hb, hF]; rfl))) (fun hb => br_mk (fun hst => br_mk (fun h => hlast R ⟨encR R, !R.en, F.k + 1, F.lk, F.lb⟩ hR' hok h (by unfold stepF; rw [hM, hb, hst, hF]; rfl)) (fun h => hnorm R ⟨encR R, !R.en, F.k + 1, F.lk, F.lb⟩ hR' hok h (by unfold stepF; rw [hM, hb, hst, hF]; rfl))) (fun hst => br_mk (fun h => hlast R ⟨encR R, false, F.k + 1, F.lk, F.lb⟩ hR' hok h (by unfold stepF; rw [hM, hb, hst, hF]; rfl)) (fun h => hnorm R ⟨encR R, false, F.k + 1, F.lk, F.lb⟩ hR' hok h (by unfold stepF; rw [hM, hb, hst, hF]; rfl))))
    · have hb0 : F.lb = [] := by simpa using hb0
      have hne : ¬ (F.lb ≠ [] ∧ F.lk = c.k ∧ F.lb = c.lb) := fun h => h.1 hb0
      refine br_dec (fun hs0 => br_dec (fun ho => ?_) (fun ho => ?_)) (fun hs0 => ?_)
      · have ho : lOk c.k c.lb = true := by by_cases h : lOk c.k c.lb = true; exact h; rw [if_neg h] at ho; exact absurd ho (by decide)
        intro R hR
        have q : labOf F c = (c.k, c.lb) := by unfold labOf memL; rw [if_pos hp, if_neg hne]
        have hM : memOf F c = (c.k, c.lb) := by unfold memOf memK; rw [if_pos hp, if_neg hne, if_pos ⟨hs0, ho⟩]
        have hR' : stepR sp F c = R := by unfold stepR; rw [q, e0]; exact hR
        have hsm := stepR_small hR' hc
        refine br_mk (fun he => br_mk (fun _ => hfail cs ds ⟨F.L, F.beg, F.k, c.k, c.lb⟩ rfl (fun hk => by rw [hR'] at hk; rw [hk.err] at he; cases he)) (fun h2 => by rw [he] at h2; cases h2)) (fun he => ?_)
        have he : R.err = 0 := by simpa using he
        refine obl_dec (by omega) (obl_and (by omega) rfl (obl_dec (by omega) (obl_and (by omega) rfl (obl_dec hsm.1 ?_))))
        refine br_mk (fun hg => hfail (cs.set i (stepC c R)) (ds.set i ⟨R.en⟩) ⟨F.L, F.beg, F.k, c.k, c.lb⟩ rfl (fun hk => by rw [hR'] at hk; have h0 : (!decide (errR R = 0)) = true := hg; rw [hk.enc] at h0; cases h0)) (fun hg => ?_)
        have hg : errR R = 0 := by simpa [errR] using hg
        refine br_dec (fun hs => hfail (cs.set i (stepC c R)) (ds.set i ⟨R.en⟩) ⟨F.L, F.beg, F.k, c.k, c.lb⟩ rfl (fun hk => by rw [hR'] at hk; have h0 : sp - 0 < ((encR R).length : Int) := hs; have h1 := hk.len; rw [e0] at h1; omega)) (fun hs => ?_)
        have hs : ¬ (sp - (F.L.length : Int) < ((encR R).length : Int)) := by rw [e0]; exact hs
        have hok : OkR sp F R := ⟨he, hg, by omega⟩
        have t2 := encR_len hg
        refine br_dec (fun h => absurd h (by omega)) (fun _ => ?_)
        have q0 : 0 < (encR R).length := by omega
        have q1 : (encR R).length ≤ 9223372036854775807 := by omega
        have q2 : (encR R).length * 1 ≤ 140737488355328 := by omega
        refine obl_int (by omega) (obl_tt (decide_eq_true ⟨q0, rfl, rfl, Nat.one_pos, q1, q2⟩) ?_)
        refine br_mk (fun hb => br_mk (fun h => hlast R ⟨encR R, true, F.k + 1, c.k, c.lb⟩ hR' hok h (by unfold stepF; rw [hM, hb, hF]; rfl)) (fun h => hnorm R ⟨encR R, true, F.k + 1, c.k, c.lb⟩ hR' hok h (by unfold stepF; rw [hM, hb, hF]; rfl))) (fun hb => br_mk (fun hst => br_mk (fun h => hlast R ⟨encR R, !R.en, F.k + 1, c.k, c.lb⟩ hR' hok h (by unfold stepF; rw [hM, hb, hst, hF]; rfl)) (fun h => hnorm R ⟨encR R, !R.en, F.k + 1, c.k, c.lb⟩ hR' hok h (by unfold stepF; rw [hM, hb, hst, hF]; rfl))) (fun hst => br_mk (fun h => hlast R ⟨encR R, false, F.k + 1, c.k, c.lb⟩ hR' hok h (by unfold stepF; rw [hM, hb, hst, hF]; rfl)) (fun h => hnorm R ⟨encR R, false, F.k + 1, c.k, c.lb⟩ hR' hok h (by unfold stepF; rw [hM, hb, hst, hF]; rfl))))
      · have ho : ¬ lOk c.k c.lb = true := fun h => by rw [if_pos h] at ho; exact ho rfl
        intro R hR
        have q : labOf F c = (c.k, c.lb) := by unfold labOf memL; rw [if_pos hp, if_neg hne]
        have hM : memOf F c = (F.lk, F.lb) := by unfold memOf memK; rw [if_pos hp, if_neg hne, if_neg (fun h => ho h.2)]
        have hR' : stepR sp F c = R := by unfold stepR; rw [q, e0]; exact hR
        have hsm := stepR_small hR' hc
        refine br_mk (fun he => br_mk (fun _ => hfail cs ds ⟨F.L, F.beg, F.k, F.lk, F.lb⟩ rfl (fun hk => by rw [hR'] at hk; rw [hk.err] at he; cases he)) (fun h2 => by rw [he] at h2; cases h2)) (fun he => ?_)
        have he : R.err = 0 := by simpa using he
        refine obl_dec (by omega) (obl_and (by omega) rfl (obl_dec (by omega) (obl_and (by omega) rfl (obl_dec hsm.1 ?_))))
        refine br_mk (fun hg => hfail (cs.set i (stepC c R)) (ds.set i ⟨R.en⟩) ⟨F.L, F.beg, F.k, F.lk, F.lb⟩ rfl (fun hk => by rw [hR'] at hk; have h0 : (!decide (errR R = 0)) = true := hg; rw [hk.enc] at h0; cases h0)) (fun hg => ?_)
        have hg : errR R = 0 := by simpa [errR] using hg
        refine br_dec (fun hs => hfail (cs.set i (stepC c R)) (ds.set i ⟨R.en⟩) ⟨F.L, F.beg, F.k, F.lk, F.lb⟩ rfl (fun hk => by rw [hR'] at hk; have h0 : sp - 0 < ((encR R).length : Int) := hs; have h1 := hk.len; rw [e0] at h1; omega)) (fun hs => ?_)
        have hs : ¬ (sp - (F.L.length : Int) < ((encR R).length : Int)) := by rw [e0]; exact hs
        have hok : OkR sp F R := ⟨he, hg, by omega⟩
        have t2 := encR_len hg
        refine br_dec (fun h => absurd h (by omega)) (fun _ => ?_)
        have q0 : 0 < (encR R).length := by omega
        have q1 : (encR R).length ≤ 9223372036854775807 := by omega
        have q2 : (encR R).length * 1 ≤ 140737488355328 := by omega
        refine obl_int (by omega) (obl_tt (decide_eq_true ⟨q0, rfl, rfl, Nat.one_pos, q1, q2⟩) ?_)
        refine br_mk (fun hb => br_mk (fun h => hlast R ⟨encR R, true, F.k + 1, F.lk, F.lb⟩ hR' hok h (by unfold stepF; rw [hM, hb, hF]; rfl)) (fun h => hnorm R ⟨encR R, true, F.k + 1, F.lk, F.lb⟩ hR' hok h (by unfold stepF; rw [hM, hb, hF]; rfl))) (fun hb => br_mk (fun hst => br_mk (fun h => hlast R ⟨encR R, !R.en, F.k + 1, F.lk, F.lb⟩ hR' hok h (by unfold stepF; rw [hM, hb, hst, hF]; rfl)) (fun h => hnorm R ⟨encR R, !R.en, F.k + 1, F.lk, F.lb⟩ hR' hok h (by unfold stepF; rw [hM, hb, hst, hF]; rfl))) (fun hst => br_mk (fun h => hlast R ⟨encR R, false, F.k + 1, F.lk, F.lb⟩ hR' hok h (by unfold stepF; rw [hM, hb, hst, hF]; rfl)) (fun h => hnorm R ⟨encR R, false, F.k + 1, F.lk, F.lb⟩ hR' hok h (by unfold stepF; rw [hM, hb, hst, hF]; rfl))))
      · skip
        intro R hR
        have q : labOf F c = (c.k, c.lb) := by unfold labOf memL; rw [if_pos hp, if_neg hne]
        have hM : memOf F c = (F.lk, F.lb) := by unfold memOf memK; rw [if_pos hp, if_neg hne, if_neg (fun h => hs0 h.1)]
        have hR' : stepR sp F c = R := by unfold stepR; rw [q, e0]; exact hR
        have hsm := stepR_small hR' hc
        refine br_mk (fun he => br_mk (fun _ => hfail cs ds ⟨F.L, F.beg, F.k, F.lk, F.lb⟩ rfl (fun hk => by rw [hR'] at hk; rw [hk.err] at he; cases he)) (fun h2 => by rw [he] at h2; cases h2)) (fun he => ?_)
        have he : R.err = 0 := by simpa using he
        refine obl_dec (by omega) (obl_and (by omega) rfl (obl_dec (by omega) (obl_and (by omega) rfl (obl_dec hsm.1 ?_))))
        refine br_mk (fun hg => hfail (cs.set i (stepC c R)) (ds.set i ⟨R.en⟩) ⟨F.L, F.beg, F.k, F.lk, F.lb⟩ rfl (fun hk => by rw [hR'] at hk; have h0 : (!decide (errR R = 0)) = true := hg; rw [hk.enc] at h0; cases h0)) (fun hg => ?_)
        have hg : errR R = 0 := by simpa [errR] using hg
        refine br_dec (fun hs => hfail (cs.set i (stepC c R)) (ds.set i ⟨R.en⟩) ⟨F.L, F.beg, F.k, F.lk, F.lb⟩ rfl (fun hk => by rw [hR'] at hk; have h0 : sp - 0 < ((encR R).length : Int) := hs; have h1 := hk.len; rw [e0] at h1; omega)) (fun hs => ?_)
        have hs : ¬ (sp - (F.L.length : Int) < ((encR R).length : Int)) := by rw [e0]; exact hs
        have hok : OkR sp F R := ⟨he, hg, by omega⟩
        have t2 := encR_len hg
        refine br_dec (fun h => absurd h (by omega)) (fun _ => ?_)
        have q0 : 0 < (encR R).length := by omega
        have q1 : (encR R).length ≤ 9223372036854775807 := by omega
        have q2 : (encR R).length * 1 ≤ 140737488355328 := by omega
        refine obl_int (by omega) (obl_tt (decide_eq_true ⟨q0, rfl, rfl, Nat.one_pos, q1, q2⟩) ?_)
        refine br_mk (fun hb => br_mk (fun h => hlast R ⟨encR R, true, F.k + 1, F.lk, F.lb⟩ hR' hok h (by unfold stepF; rw [hM, hb, hF]; rfl)) (fun h => hnorm R ⟨encR R, true, F.k + 1, F.lk, F.lb⟩ hR' hok h (by unfold stepF; rw [hM, hb, hF]; rfl))) (fun hb => br_mk (fun hst => br_mk (fun h => hlast R ⟨encR R, !R.en, F.k + 1, F.lk, F.lb⟩ hR' hok h (by unfold stepF; rw [hM, hb, hst, hF]; rfl)) (fun h => hnorm R ⟨encR R, !R.en, F.k + 1, F.lk, F.lb⟩ hR' hok h (by unfold stepF; rw [hM, hb, hst, hF]; rfl))) (fun hst => br_mk (fun h => hlast R ⟨encR R, false, F.k + 1, F.lk, F.lb⟩ hR' hok h (by unfold stepF; rw [hM, hb, hst, hF]; rfl)) (fun h => hnorm R ⟨encR R, false, F.k + 1, F.lk, F.lb⟩ hR' hok h (by unfold stepF; rw [hM, hb, hst, hF]; rfl))))
  · skip
    intro R hR
    have q : labOf F c = (c.k, c.lb) := by unfold labOf; rw [if_neg hp]
    have hM : memOf F c = (F.lk, F.lb) := by unfold memOf; rw [if_neg hp]
    have hR' : stepR sp F c = R := by unfold stepR; rw [q, e0]; exact hR
    have hsm := stepR_small hR' hc
    refine br_mk (fun he => br_mk (fun _ => hfail cs ds ⟨F.L, F.beg, F.k, F.lk, F.lb⟩ rfl (fun hk => by rw [hR'] at hk; rw [hk.err] at he; cases he)) (fun h2 => by rw [he] at h2; cases h2)) (fun he => ?_)
    have he : R.err = 0 := by simpa using he
    refine obl_dec (by omega) (obl_and (by omega) rfl (obl_dec (by omega) (obl_and (by omega) rfl (obl_dec hsm.1 ?_))))
    refine br_mk (fun hg => hfail (cs.set i (stepC c R)) (ds.set i ⟨R.en⟩) ⟨F.L, F.beg, F.k, F.lk, F.lb⟩ rfl (fun hk => by rw [hR'] at hk; have h0 : (!decide (errR R = 0)) = true := hg; rw [hk.enc] at h0; cases h0)) (fun hg => ?_)
    have hg : errR R = 0 := by simpa [errR] using hg
    refine br_dec (fun hs => hfail (cs.set i (stepC c R)) (ds.set i ⟨R.en⟩) ⟨F.L, F.beg, F.k, F.lk, F.lb⟩ rfl (fun hk => by rw [hR'] at hk; have h0 : sp - 0 < ((encR R).length : Int) := hs; have h1 := hk.len; rw [e0] at h1; omega)) (fun hs => ?_)
    have hs : ¬ (sp - (F.L.length : Int) < ((encR R).length : Int)) := by rw [e0]; exact hs
    have hok : OkR sp F R := ⟨he, hg, by omega⟩
    have t2 := encR_len hg
    refine br_dec (fun h => absurd h (by omega)) (fun _ => ?_)
    have q0 : 0 < (encR R).length := by omega
    have q1 : (encR R).length ≤ 9223372036854775807 := by omega
    have q2 : (encR R).length * 1 ≤ 140737488355328 := by omega
    refine obl_int (by omega) (obl_tt (decide_eq_true ⟨q0, rfl, rfl, Nat.one_pos, q1, q2⟩) ?_)
    refine br_mk (fun hb => br_mk (fun h => hlast R ⟨encR R, true, F.k + 1, F.lk, F.lb⟩ hR' hok h (by unfold stepF; rw [hM, hb, hF]; rfl)) (fun h => hnorm R ⟨encR R, true, F.k + 1, F.lk, F.lb⟩ hR' hok h (by unfold stepF; rw [hM, hb, hF]; rfl))) (fun hb => br_mk (fun hst => br_mk (fun h => hlast R ⟨encR R, !R.en, F.k + 1, F.lk, F.lb⟩ hR' hok h (by unfold stepF; rw [hM, hb, hst, hF]; rfl)) (fun h => hnorm R ⟨encR R, !R.en, F.k + 1, F.lk, F.lb⟩ hR' hok h (by unfold stepF; rw [hM, hb, hst, hF]; rfl))) (fun hst => br_mk (fun h => hlast R ⟨encR R, false, F.k + 1, F.lk, F.lb⟩ hR' hok h (by unfold stepF; rw [hM, hb, hst, hF]; rfl)) (fun h => hnorm R ⟨encR R, false, F.k + 1, F.lk, F.lb⟩ hR' hok h (by unfold stepF; rw [hM, hb, hst, hF]; rfl))))
end Go.Proofs.Ytjacnjecggedhaa
namespace Go.Proofs.Ytjacnjecggedhaa
set_option linter.unusedVariables false
set_option linter.unusedSimpArgs false
open Go.RowKit Ev
set_option maxRecDepth 100000 in
theorem w_fl_10 (n : Nat) (sp : Int) (cs : List CutR) (ds : List BoolR) (fv : Int) (F : FSt) (i : Nat) (Q : AExit → Env → AHeap → Prop) : (wpC (TX2.ctx Try.prog) 400 9 3 fillL (g10 n sp cs ds fv F (f13 i)).1 (g10 n sp cs ds fv F (f13 i)).2 (canQ 3 ts13 Q)
) = (obl (inI64 (sp - (↑F.L.length : Int))) (twice (branch (decide ((↑n : Int) % (18446744073709551616 : Int) < (↑i : Int) + (1 : Int))) (Q (AExit.exit 0) (fE AVal.nils (f13 i)) (AHeap.mk 8 (fHx n cs ds
 fv [(6, ABlk.cells 70 [AVal.sl 7 0 1 0 F.L.length none, AVal.int IntKind.i64 sp, AVal.bool F.beg, AVal.int IntKind.i64 (↑F.k : Int), AVal.int IntKind.i64 F.lk, AVal.str F.lb]), (7, ABlk.row 5 byteRow
 F.L RowMd.plain)]))) (obl (decide ((0 : Int) ≤ idJ i ∧ idJ i < (↑n : Int))) (obl (decide (0 + (idJ i).toNat < ds.length)) (branch (ds.getD (idI i) (BoolR.mk false)).b (Q (AExit.exit 0) (fE AVal.nils
 (f13 i)) (AHeap.mk 8 (fHx n cs ds fv [(6, ABlk.cells 70 [AVal.sl 7 0 1 0 F.L.length none, AVal.int IntKind.i64 sp, AVal.bool F.beg, AVal.int IntKind.i64 (↑F.k : Int), AVal.int IntKind.i64 F.lk,
 AVal.str F.lb]), (7, ABlk.row 5 byteRow F.L RowMd.plain)]))) (obl (decide ((0 : Int) ≤ idJ i ∧ idJ i < (↑n : Int))) (obl (decide (0 + (idJ i).toNat < cs.length)) (branch (decide ((cutI cs i).pos = (0
 : Int))) (branch (!decide (F.lb = [])) (branch (decide (F.lk = (cutI cs i).k) && (decide (F.lb = (cutI cs i).lb) && true)) (∀ (R : NextR), nextR (cutI cs i).typ (cutI cs i).k (cutI cs i).lb (cutI cs
 i).data (cutI cs i).pos (cutI cs i).id (3 : Int) [] (sp - (↑F.L.length : Int)) F.beg = R → branch (!decide (R.err = (0 : Int))) (branch (!decide (R.err = (0 : Int))) (Q (AExit.exit 0) (fE AVal.nils
 (f13 i)) (AHeap.mk 8 (fHx n cs ds fv [(6, ABlk.cells 70 [AVal.sl 7 0 1 0 F.L.length none, AVal.int IntKind.i64 sp, AVal.bool F.beg, AVal.int IntKind.i64 (↑F.k : Int), AVal.int IntKind.i64 F.lk,
 AVal.str F.lb]), (7, ABlk.row 5 byteRow F.L RowMd.plain)]))) (branch (decide (sp - (↑F.L.length : Int) < (3 : Int))) (Q (AExit.exit 0) (fE AVal.nils (f13 i)) (AHeap.mk 8 (fHx n cs ds fv [(6,
 ABlk.cells 70 [AVal.sl 7 0 1 0 F.L.length none, AVal.int IntKind.i64 sp, AVal.bool F.beg, AVal.int IntKind.i64 (↑F.k : Int), AVal.int IntKind.i64 F.lk, AVal.str F.lb]), (7, ABlk.row 5 byteRow F.L
 RowMd.plain)]))) (branch (decide ((70000 : Int) ≤ (↑F.k : Int))) (Q (AExit.exit 0) (fE AVal.nils (f13 i)) (AHeap.mk 8 (fHx n cs ds fv [(6, ABlk.cells 70 [AVal.sl 7 0 1 0 F.L.length none, AVal.int
 IntKind.i64 sp, AVal.bool F.beg, AVal.int IntKind.i64 (↑F.k : Int), AVal.int IntKind.i64 F.lk, AVal.str F.lb]), (7, ABlk.row 5 byteRow F.L RowMd.plain)]))) (obl (inI64 ((↑F.k : Int) + (1 : Int))) (obl
 (true && decide (F.L.length = F.L.length ∧ 1 = 1 ∧ 1 = 1 ∧ 0 < 1 ∧ (F.L ++ [(48 : UInt8), (1 : UInt8), (0 : UInt8)]).length ≤ 9223372036854775807 ∧ (F.L ++ [(48 : UInt8), (1 : UInt8), (0 :
 UInt8)]).length * 1 ≤ 140737488355328)) (branch F.beg (Q AExit.normal (fE AVal.nils (f13 i)) (AHeap.mk 8 (fHx n cs ds fv [(6, ABlk.cells 70 [AVal.sl 7 0 1 0 (F.L ++ [(48 : UInt8), (1 : UInt8), (0 :
 UInt8)]).length none, AVal.int IntKind.i64 sp, AVal.bool true, AVal.int IntKind.i64 ((↑F.k : Int) + (1 : Int)), AVal.int IntKind.i64 F.lk, AVal.str F.lb]), (7, ABlk.row 5 byteRow (F.L ++ [(48 :
 UInt8), (1 : UInt8), (0 : UInt8)]) RowMd.plain)]))) (Q AExit.normal (fE AVal.nils (f13 i)) (AHeap.mk 8 (fHx n cs ds fv [(6, ABlk.cells 70 [AVal.sl 7 0 1 0 (F.L ++ [(48 : UInt8), (1 : UInt8), (0 :
 UInt8)]).length none, AVal.int IntKind.i64 sp, AVal.bool false, AVal.int IntKind.i64 ((↑F.k : Int) + (1 : Int)), AVal.int IntKind.i64 F.lk, AVal.str F.lb]), (7, ABlk.row 5 byteRow (F.L ++ [(48 :
 UInt8), (1 : UInt8), (0 : UInt8)]) RowMd.plain)]))))))))) (obl (decide ((0 : Int) ≤ idJ i ∧ idJ i < (↑n : Int))) (obl (decide (0 + (idJ i).toNat < cs.length) && true) (obl (decide ((0 : Int) ≤ idJ i ∧
 idJ i < (↑n : Int))) (obl (decide (0 + (idJ i).toNat < ds.length) && true) (obl (decide (R.lb.length + R.data.length + R.sum.length ≤ 9223372036854775000)) (branch (!decide (gErr R.st R.en R.id
 R.total R.typ R.k R.lb R.data R.sum = (0 : Int))) (Q (AExit.exit 0) (fE AVal.nils (f13 i)) (AHeap.mk 8 (fHx n (cs.set (idI i) (CutR.mk (cutI cs i).typ R.k2 R.b2 (cutI cs i).data R.at2 (cutI cs i).id))
 (ds.set (idI i) (BoolR.mk R.en)) fv [(6, ABlk.cells 70 [AVal.sl 7 0 1 0 F.L.length none, AVal.int IntKind.i64 sp, AVal.bool F.beg, AVal.int IntKind.i64 (↑F.k : Int), AVal.int IntKind.i64 F.lk,
 AVal.str F.lb]), (7, ABlk.row 5 byteRow F.L RowMd.plain)]))) (branch (decide (sp - (↑F.L.length : Int) < (↑(gEnc R.st R.en R.id R.total R.typ R.k R.lb R.data R.sum).length : Int))) (Q (AExit.exit 0)
 (fE AVal.nils (f13 i)) (AHeap.mk 8 (fHx n (cs.set (idI i) (CutR.mk (cutI cs i).typ R.k2 R.b2 (cutI cs i).data R.at2 (cutI cs i).id)) (ds.set (idI i) (BoolR.mk R.en)) fv [(6, ABlk.cells 70 [AVal.sl 7 0
 1 0 F.L.length none, AVal.int IntKind.i64 sp, AVal.bool F.beg, AVal.int IntKind.i64 (↑F.k : Int), AVal.int IntKind.i64 F.lk, AVal.str F.lb]), (7, ABlk.row 5 byteRow F.L RowMd.plain)]))) (branch
 (decide ((70000 : Int) ≤ (↑F.k : Int))) (Q (AExit.exit 0) (fE AVal.nils (f13 i)) (AHeap.mk 8 (fHx n (cs.set (idI i) (CutR.mk (cutI cs i).typ R.k2 R.b2 (cutI cs i).data R.at2 (cutI cs i).id)) (ds.set
 (idI i) (BoolR.mk R.en)) fv [(6, ABlk.cells 70 [AVal.sl 7 0 1 0 F.L.length none, AVal.int IntKind.i64 sp, AVal.bool F.beg, AVal.int IntKind.i64 (↑F.k : Int), AVal.int IntKind.i64 F.lk, AVal.str
 F.lb]), (7, ABlk.row 5 byteRow F.L RowMd.plain)]))) (obl (inI64 ((↑F.k : Int) + (1 : Int))) (obl (true && decide (F.L.length = F.L.length ∧ 1 = 1 ∧ 1 = 1 ∧ 0 < 1 ∧ (F.L ++ gEnc R.st R.en R.id R.total
 R.typ R.k R.lb R.data R.sum).length ≤ 9223372036854775807 ∧ (F.L ++ gEnc R.st R.en R.id R.total R.typ R.k R.lb R.data R.sum).length * 1 ≤ 140737488355328)) (branch F.beg (branch R.en (Q (AExit.exit 2)
 (fE (AVal.sl 7 0 1 0 1 none) (f13 i)) (AHeap.mk 9 (fHx n (cs.set (idI i) (CutR.mk (cutI cs i).typ R.k2 R.b2 (cutI cs i).data R.at2 (cutI cs i).id)) (ds.set (idI i) (BoolR.mk R.en)) fv [(6, ABlk.cells
 70 [AVal.sl 8 0 1 0 (F.L ++ gEnc R.st R.en R.id R.total R.typ R.k R.lb R.data R.sum).length none, AVal.int IntKind.i64 sp, AVal.bool true, AVal.int IntKind.i64 ((↑F.k : Int) + (1 : Int)), AVal.int
 IntKind.i64 F.lk, AVal.str F.lb]), (7, ABlk.row 33 (intRow IntKind.u64) [(↑i : Int) + (1 : Int)] RowMd.plain), (8, ABlk.row 5 byteRow (F.L ++ gEnc R.st R.en R.id R.total R.typ R.k R.lb R.data R.sum)
 RowMd.plain)]))) (Q AExit.normal (fE AVal.nils (f13 i)) (AHeap.mk 8 (fHx n (cs.set (idI i) (CutR.mk (cutI cs i).typ R.k2 R.b2 (cutI cs i).data R.at2 (cutI cs i).id)) (ds.set (idI i) (BoolR.mk R.en))
 fv [(6, ABlk.cells 70 [AVal.sl 7 0 1 0 (F.L ++ gEnc R.st R.en R.id R.total R.typ R.k R.lb R.data R.sum).length none, AVal.int IntKind.i64 sp, AVal.bool true, AVal.int IntKind.i64 ((↑F.k : Int) + (1 :
 Int)), AVal.int IntKind.i64 F.lk, AVal.str F.lb]), (7, ABlk.row 5 byteRow (F.L ++ gEnc R.st R.en R.id R.total R.typ R.k R.lb R.data R.sum) RowMd.plain)])))) (branch R.st (branch R.en (Q (AExit.exit 2)
 (fE (AVal.sl 7 0 1 0 1 none) (f13 i)) (AHeap.mk 9 (fHx n (cs.set (idI i) (CutR.mk (cutI cs i).typ R.k2 R.b2 (cutI cs i).data R.at2 (cutI cs i).id)) (ds.set (idI i) (BoolR.mk R.en)) fv [(6, ABlk.cells
 70 [AVal.sl 8 0 1 0 (F.L ++ gEnc R.st R.en R.id R.total R.typ R.k R.lb R.data R.sum).length none, AVal.int IntKind.i64 sp, AVal.bool !R.en, AVal.int IntKind.i64 ((↑F.k : Int) + (1 : Int)), AVal.int
 IntKind.i64 F.lk, AVal.str F.lb]), (7, ABlk.row 33 (intRow IntKind.u64) [(↑i : Int) + (1 : Int)] RowMd.plain), (8, ABlk.row 5 byteRow (F.L ++ gEnc R.st R.en R.id R.total R.typ R.k R.lb R.data R.sum)
 RowMd.plain)]))) (Q AExit.normal (fE AVal.nils (f13 i)) (AHeap.mk 8 (fHx n (cs.set (idI i) (CutR.mk (cutI cs i).typ R.k2 R.b2 (cutI cs i).data R.at2 (cutI cs i).id)) (ds.set (idI i) (BoolR.mk R.en))
 fv [(6, ABlk.cells 70 [AVal.sl 7 0 1 0 (F.L ++ gEnc R.st R.en R.id R.total R.typ R.k R.lb R.data R.sum).length none, AVal.int IntKind.i64 sp, AVal.bool !R.en, AVal.int IntKind.i64 ((↑F.k : Int) + (1 :
 Int)), AVal.int IntKind.i64 F.lk, AVal.str F.lb]), (7, ABlk.row 5 byteRow (F.L ++ gEnc R.st R.en R.id R.total R.typ R.k R.lb R.data R.sum) RowMd.plain)])))) (branch R.en (Q (AExit.exit 2) (fE (AVal.sl
 7 0 1 0 1 none) (f13 i)) (AHeap.mk 9 (fHx n (cs.set (idI i) (CutR.mk (cutI cs i).typ R.k2 R.b2 (cutI cs i).data R.at2 (cutI cs i).id)) (ds.set (idI i) (BoolR.mk R.en)) fv [(6, ABlk.cells 70 [AVal.sl 8
 0 1 0 (F.L ++ gEnc R.st R.en R.id R.total R.typ R.k R.lb R.data R.sum).length none, AVal.int IntKind.i64 sp, AVal.bool false, AVal.int IntKind.i64 ((↑F.k : Int) + (1 : Int)), AVal.int IntKind.i64
 F.lk, AVal.str F.lb]), (7, ABlk.row 33 (intRow IntKind.u64) [(↑i : Int) + (1 : Int)] RowMd.plain), (8, ABlk.row 5 byteRow (F.L ++ gEnc R.st R.en R.id R.total R.typ R.k R.lb R.data R.sum)
 RowMd.plain)]))) (Q AExit.normal (fE AVal.nils (f13 i)) (AHeap.mk 8 (fHx n (cs.set (idI i) (CutR.mk (cutI cs i).typ R.k2 R.b2 (cutI cs i).data R.at2 (cutI cs i).id)) (ds.set (idI i) (BoolR.mk R.en))
 fv [(6, ABlk.cells 70 [AVal.sl 7 0 1 0 (F.L ++ gEnc R.st R.en R.id R.total R.typ R.k R.lb R.data R.sum).length none, AVal.int IntKind.i64 sp, AVal.bool false, AVal.int IntKind.i64 ((↑F.k : Int) + (1 :
 Int)), AVal.int IntKind.i64 F.lk, AVal.str F.lb]), (7, ABlk.row 5 byteRow (F.L ++ gEnc R.st R.en R.id R.total R.typ R.k R.lb R.data R.sum) RowMd.plain)]))))))))))))))))) (branch (decide ((0 : Int) <
 lSize (cutI cs i).k)) (branch (decide ((if lOk (cutI cs i).k (cutI cs i).lb = true then (0 : Int) else (2 : Int)) = (0 : Int))) (∀ (R : NextR), nextR (cutI cs i).typ (cutI cs i).k (cutI cs i).lb (cutI
 cs i).data (cutI cs i).pos (cutI cs i).id (cutI cs i).k (cutI cs i).lb (sp - (↑F.L.length : Int)) F.beg = R → branch (!decide (R.err = (0 : Int))) (branch (!decide (R.err = (0 : Int))) (Q (AExit.exit
 0) (fE AVal.nils (f13 i)) (AHeap.mk 8 (fHx n cs ds fv [(6, ABlk.cells 70 [AVal.sl 7 0 1 0 F.L.length none, AVal.int IntKind.i64 sp, AVal.bool F.beg, AVal.int IntKind.i64 (↑F.k : Int), AVal.int
 IntKind.i64 (cutI cs i).k, AVal.str (cutI cs i).lb]), (7, ABlk.row 5 byteRow F.L RowMd.plain)]))) (branch (decide (sp - (↑F.L.length : Int) < (3 : Int))) (Q (AExit.exit 0) (fE AVal.nils (f13 i))
 (AHeap.mk 8 (fHx n cs ds fv [(6, ABlk.cells 70 [AVal.sl 7 0 1 0 F.L.length none, AVal.int IntKind.i64 sp, AVal.bool F.beg, AVal.int IntKind.i64 (↑F.k : Int), AVal.int IntKind.i64 (cutI cs i).k,
 AVal.str (cutI cs i).lb]), (7, ABlk.row 5 byteRow F.L RowMd.plain)]))) (branch (decide ((70000 : Int) ≤ (↑F.k : Int))) (Q (AExit.exit 0) (fE AVal.nils (f13 i)) (AHeap.mk 8 (fHx n cs ds fv [(6,
 ABlk.cells 70 [AVal.sl 7 0 1 0 F.L.length none, AVal.int IntKind.i64 sp, AVal.bool F.beg, AVal.int IntKind.i64 (↑F.k : Int), AVal.int IntKind.i64 (cutI cs i).k, AVal.str (cutI cs i).lb]), (7, ABlk.row
 5 byteRow F.L RowMd.plain)]))) (obl (inI64 ((↑F.k : Int) + (1 : Int))) (obl (true && decide (F.L.length = F.L.length ∧ 1 = 1 ∧ 1 = 1 ∧ 0 < 1 ∧ (F.L ++ [(48 : UInt8), (1 : UInt8), (0 : UInt8)]).length
 ≤ 9223372036854775807 ∧ (F.L ++ [(48 : UInt8), (1 : UInt8), (0 : UInt8)]).length * 1 ≤ 140737488355328)) (branch F.beg (Q AExit.normal (fE AVal.nils (f13 i)) (AHeap.mk 8 (fHx n cs ds fv [(6,
 ABlk.cells 70 [AVal.sl 7 0 1 0 (F.L ++ [(48 : UInt8), (1 : UInt8), (0 : UInt8)]).length none, AVal.int IntKind.i64 sp, AVal.bool true, AVal.int IntKind.i64 ((↑F.k : Int) + (1 : Int)), AVal.int
 IntKind.i64 (cutI cs i).k, AVal.str (cutI cs i).lb]), (7, ABlk.row 5 byteRow (F.L ++ [(48 : UInt8), (1 : UInt8), (0 : UInt8)]) RowMd.plain)]))) (Q AExit.normal (fE AVal.nils (f13 i)) (AHeap.mk 8 (fHx
 n cs ds fv [(6, ABlk.cells 70 [AVal.sl 7 0 1 0 (F.L ++ [(48 : UInt8), (1 : UInt8), (0 : UInt8)]).length none, AVal.int IntKind.i64 sp, AVal.bool false, AVal.int IntKind.i64 ((↑F.k : Int) + (1 : Int)),
 AVal.int IntKind.i64 (cutI cs i).k, AVal.str (cutI cs i).lb]), (7, ABlk.row 5 byteRow (F.L ++ [(48 : UInt8), (1 : UInt8), (0 : UInt8)]) RowMd.plain)]))))))))) (obl (decide ((0 : Int) ≤ idJ i ∧ idJ i <
 (↑n : Int))) (obl (decide (0 + (idJ i).toNat < cs.length) && true) (obl (decide ((0 : Int) ≤ idJ i ∧ idJ i < (↑n : Int))) (obl (decide (0 + (idJ i).toNat < ds.length) && true) (obl (decide
 (R.lb.length + R.data.length + R.sum.length ≤ 9223372036854775000)) (branch (!decide (gErr R.st R.en R.id R.total R.typ R.k R.lb R.data R.sum = (0 : Int))) (Q (AExit.exit 0) (fE AVal.nils (f13 i))
 (AHeap.mk 8 (fHx n (cs.set (idI i) (CutR.mk (cutI cs i).typ R.k2 R.b2 (cutI cs i).data R.at2 (cutI cs i).id)) (ds.set (idI i) (BoolR.mk R.en)) fv [(6, ABlk.cells 70 [AVal.sl 7 0 1 0 F.L.length none,
 AVal.int IntKind.i64 sp, AVal.bool F.beg, AVal.int IntKind.i64 (↑F.k : Int), AVal.int IntKind.i64 (cutI cs i).k, AVal.str (cutI cs i).lb]), (7, ABlk.row 5 byteRow F.L RowMd.plain)]))) (branch (decide
 (sp - (↑F.L.length : Int) < (↑(gEnc R.st R.en R.id R.total R.typ R.k R.lb R.data R.sum).length : Int))) (Q (AExit.exit 0) (fE AVal.nils (f13 i)) (AHeap.mk 8 (fHx n (cs.set (idI i) (CutR.mk (cutI cs
 i).typ R.k2 R.b2 (cutI cs i).data R.at2 (cutI cs i).id)) (ds.set (idI i) (BoolR.mk R.en)) fv [(6, ABlk.cells 70 [AVal.sl 7 0 1 0 F.L.length none, AVal.int IntKind.i64 sp, AVal.bool F.beg, AVal.int
 IntKind.i64 (↑F.k : Int), AVal.int IntKind.i64 (cutI cs i).k, AVal.str (cutI cs i).lb]), (7, ABlk.row 5 byteRow F.L RowMd.plain)]))) (branch (decide ((70000 : Int) ≤ (↑F.k : Int))) (Q (AExit.exit 0)
 (fE AVal.nils (f13 i)) (AHeap.mk 8 (fHx n (cs.set (idI i) (CutR.mk (cutI cs i).typ R.k2 R.b2 (cutI cs i).data R.at2 (cutI cs i).id)) (ds.set (idI i) (BoolR.mk R.en)) fv [(6, ABlk.cells 70 [AVal.sl 7 0
 1 0 F.L.length none, AVal.int IntKind.i64 sp, AVal.bool F.beg, AVal.int IntKind.i64 (↑F.k : Int), AVal.int IntKind.i64 (cutI cs i).k, AVal.str (cutI cs i).lb]), (7, ABlk.row 5 byteRow F.L
 RowMd.plain)]))) (obl (inI64 ((↑F.k : Int) + (1 : Int))) (obl (true && decide (F.L.length = F.L.length ∧ 1 = 1 ∧ 1 = 1 ∧ 0 < 1 ∧ (F.L ++ gEnc R.st R.en R.id R.total R.typ R.k R.lb R.data R.sum).length
 ≤ 9223372036854775807 ∧ (F.L ++ gEnc R.st R.en R.id R.total R.typ R.k R.lb R.data R.sum).length * 1 ≤ 140737488355328)) (branch F.beg (branch R.en (Q (AExit.exit 2) (fE (AVal.sl 7 0 1 0 1 none) (f13
 i)) (AHeap.mk 9 (fHx n (cs.set (idI i) (CutR.mk (cutI cs i).typ R.k2 R.b2 (cutI cs i).data R.at2 (cutI cs i).id)) (ds.set (idI i) (BoolR.mk R.en)) fv [(6, ABlk.cells 70 [AVal.sl 8 0 1 0 (F.L ++ gEnc
 R.st R.en R.id R.total R.typ R.k R.lb R.data R.sum).length none, AVal.int IntKind.i64 sp, AVal.bool true, AVal.int IntKind.i64 ((↑F.k : Int) + (1 : Int)), AVal.int IntKind.i64 (cutI cs i).k, AVal.str
 (cutI cs i).lb]), (7, ABlk.row 33 (intRow IntKind.u64) [(↑i : Int) + (1 : Int)] RowMd.plain), (8, ABlk.row 5 byteRow (F.L ++ gEnc R.st R.en R.id R.total R.typ R.k R.lb R.data R.sum) RowMd.plain)])))
 (Q AExit.normal (fE AVal.nils (f13 i)) (AHeap.mk 8 (fHx n (cs.set (idI i) (CutR.mk (cutI cs i).typ R.k2 R.b2 (cutI cs i).data R.at2 (cutI cs i).id)) (ds.set (idI i) (BoolR.mk R.en)) fv [(6, ABlk.cells
 70 [AVal.sl 7 0 1 0 (F.L ++ gEnc R.st R.en R.id R.total R.typ R.k R.lb R.data R.sum).length none, AVal.int IntKind.i64 sp, AVal.bool true, AVal.int IntKind.i64 ((↑F.k : Int) + (1 : Int)), AVal.int
 IntKind.i64 (cutI cs i).k, AVal.str (cutI cs i).lb]), (7, ABlk.row 5 byteRow (F.L ++ gEnc R.st R.en R.id R.total R.typ R.k R.lb R.data R.sum) RowMd.plain)])))) (branch R.st (branch R.en (Q (AExit.exit
 2) (fE (AVal.sl 7 0 1 0 1 none) (f13 i)) (AHeap.mk 9 (fHx n (cs.set (idI i) (CutR.mk (cutI cs i).typ R.k2 R.b2 (cutI cs i).data R.at2 (cutI cs i).id)) (ds.set (idI i) (BoolR.mk R.en)) fv [(6,
 ABlk.cells 70 [AVal.sl 8 0 1 0 (F.L ++ gEnc R.st R.en R.id R.total R.typ R.k R.lb R.data R.sum).length none, AVal.int IntKind.i64 sp, AVal.bool !R.en, AVal.int IntKind.i64 ((↑F.k : Int) + (1 : Int)),
 AVal.int IntKind.i64 (cutI cs i).k, AVal.str (cutI cs i).lb]), (7, ABlk.row 33 (intRow IntKind.u64) [(↑i : Int) + (1 : Int)] RowMd.plain), (8, ABlk.row 5 byteRow (F.L ++ gEnc R.st R.en R.id R.total
 R.typ R.k R.lb R.data R.sum) RowMd.plain)]))) (Q AExit.normal (fE AVal.nils (f13 i)) (AHeap.mk 8 (fHx n (cs.set (idI i) (CutR.mk (cutI cs i).typ R.k2 R.b2 (cutI cs i).data R.at2 (cutI cs i).id))
 (ds.set (idI i) (BoolR.mk R.en)) fv [(6, ABlk.cells 70 [AVal.sl 7 0 1 0 (F.L ++ gEnc R.st R.en R.id R.total R.typ R.k R.lb R.data R.sum).length none, AVal.int IntKind.i64 sp, AVal.bool !R.en, AVal.int
 IntKind.i64 ((↑F.k : Int) + (1 : Int)), AVal.int IntKind.i64 (cutI cs i).k, AVal.str (cutI cs i).lb]), (7, ABlk.row 5 byteRow (F.L ++ gEnc R.st R.en R.id R.total R.typ R.k R.lb R.data R.sum)
 RowMd.plain)])))) (branch R.en (Q (AExit.exit 2) (fE (AVal.sl 7 0 1 0 1 none) (f13 i)) (AHeap.mk 9 (fHx n (cs.set (idI i) (CutR.mk (cutI cs i).typ R.k2 R.b2 (cutI cs i).data R.at2 (cutI cs i).id))
 (ds.set (idI i) (BoolR.mk R.en)) fv [(6, ABlk.cells 70 [AVal.sl 8 0 1 0 (F.L ++ gEnc R.st R.en R.id R.total R.typ R.k R.lb R.data R.sum).length none, AVal.int IntKind.i64 sp, AVal.bool false, AVal.int
 IntKind.i64 ((↑F.k : Int) + (1 : Int)), AVal.int IntKind.i64 (cutI cs i).k, AVal.str (cutI cs i).lb]), (7, ABlk.row 33 (intRow IntKind.u64) [(↑i : Int) + (1 : Int)] RowMd.plain), (8, ABlk.row 5
 byteRow (F.L ++ gEnc R.st R.en R.id R.total R.typ R.k R.lb R.data R.sum) RowMd.plain)]))) (Q AExit.normal (fE AVal.nils (f13 i)) (AHeap.mk 8 (fHx n (cs.set (idI i) (CutR.mk (cutI cs i).typ R.k2 R.b2
 (cutI cs i).data R.at2 (cutI cs i).id)) (ds.set (idI i) (BoolR.mk R.en)) fv [(6, ABlk.cells 70 [AVal.sl 7 0 1 0 (F.L ++ gEnc R.st R.en R.id R.total R.typ R.k R.lb R.data R.sum).length none, AVal.int
 IntKind.i64 sp, AVal.bool false, AVal.int IntKind.i64 ((↑F.k : Int) + (1 : Int)), AVal.int IntKind.i64 (cutI cs i).k, AVal.str (cutI cs i).lb]), (7, ABlk.row 5 byteRow (F.L ++ gEnc R.st R.en R.id
 R.total R.typ R.k R.lb R.data R.sum) RowMd.plain)]))))))))))))))))) (∀ (R : NextR), nextR (cutI cs i).typ (cutI cs i).k (cutI cs i).lb (cutI cs i).data (cutI cs i).pos (cutI cs i).id (cutI cs i).k
 (cutI cs i).lb (sp - (↑F.L.length : Int)) F.beg = R → branch (!decide (R.err = (0 : Int))) (branch (!decide (R.err = (0 : Int))) (Q (AExit.exit 0) (fE AVal.nils (f13 i)) (AHeap.mk 8 (fHx n cs ds fv
 [(6, ABlk.cells 70 [AVal.sl 7 0 1 0 F.L.length none, AVal.int IntKind.i64 sp, AVal.bool F.beg, AVal.int IntKind.i64 (↑F.k : Int), AVal.int IntKind.i64 F.lk, AVal.str F.lb]), (7, ABlk.row 5 byteRow F.L
 RowMd.plain)]))) (branch (decide (sp - (↑F.L.length : Int) < (3 : Int))) (Q (AExit.exit 0) (fE AVal.nils (f13 i)) (AHeap.mk 8 (fHx n cs ds fv [(6, ABlk.cells 70 [AVal.sl 7 0 1 0 F.L.length none,
 AVal.int IntKind.i64 sp, AVal.bool F.beg, AVal.int IntKind.i64 (↑F.k : Int), AVal.int IntKind.i64 F.lk, AVal.str F.lb]), (7, ABlk.row 5 byteRow F.L RowMd.plain)]))) (branch (decide ((70000 : Int) ≤
 (↑F.k : Int))) (Q (AExit.exit 0) (fE AVal.nils (f13 i)) (AHeap.mk 8 (fHx n cs ds fv [(6, ABlk.cells 70 [AVal.sl 7 0 1 0 F.L.length none, AVal.int IntKind.i64 sp, AVal.bool F.beg, AVal.int IntKind.i64
 (↑F.k : Int), AVal.int IntKind.i64 F.lk, AVal.str F.lb]), (7, ABlk.row 5 byteRow F.L RowMd.plain)]))) (obl (inI64 ((↑F.k : Int) + (1 : Int))) (obl (true && decide (F.L.length = F.L.length ∧ 1 = 1 ∧ 1
 = 1 ∧ 0 < 1 ∧ (F.L ++ [(48 : UInt8), (1 : UInt8), (0 : UInt8)]).length ≤ 9223372036854775807 ∧ (F.L ++ [(48 : UInt8), (1 : UInt8), (0 : UInt8)]).length * 1 ≤ 140737488355328)) (branch F.beg (Q
 AExit.normal (fE AVal.nils (f13 i)) (AHeap.mk 8 (fHx n cs ds fv [(6, ABlk.cells 70 [AVal.sl 7 0 1 0 (F.L ++ [(48 : UInt8), (1 : UInt8), (0 : UInt8)]).length none, AVal.int IntKind.i64 sp, AVal.bool
 true, AVal.int IntKind.i64 ((↑F.k : Int) + (1 : Int)), AVal.int IntKind.i64 F.lk, AVal.str F.lb]), (7, ABlk.row 5 byteRow (F.L ++ [(48 : UInt8), (1 : UInt8), (0 : UInt8)]) RowMd.plain)]))) (Q
 AExit.normal (fE AVal.nils (f13 i)) (AHeap.mk 8 (fHx n cs ds fv [(6, ABlk.cells 70 [AVal.sl 7 0 1 0 (F.L ++ [(48 : UInt8), (1 : UInt8), (0 : UInt8)]).length none, AVal.int IntKind.i64 sp, AVal.bool
 false, AVal.int IntKind.i64 ((↑F.k : Int) + (1 : Int)), AVal.int IntKind.i64 F.lk, AVal.str F.lb]), (7, ABlk.row 5 byteRow (F.L ++ [(48 : UInt8), (1 : UInt8), (0 : UInt8)]) RowMd.plain)]))))))))) (obl
 (decide ((0 : Int) ≤ idJ i ∧ idJ i < (↑n : Int))) (obl (decide (0 + (idJ i).toNat < cs.length) && true) (obl (decide ((0 : Int) ≤ idJ i ∧ idJ i < (↑n : Int))) (obl (decide (0 + (idJ i).toNat <
 ds.length) && true) (obl (decide (R.lb.length + R.data.length + R.sum.length ≤ 9223372036854775000)) (branch (!decide (gErr R.st R.en R.id R.total R.typ R.k R.lb R.data R.sum = (0 : Int))) (Q
 (AExit.exit 0) (fE AVal.nils (f13 i)) (AHeap.mk 8 (fHx n (cs.set (idI i) (CutR.mk (cutI cs i).typ R.k2 R.b2 (cutI cs i).data R.at2 (cutI cs i).id)) (ds.set (idI i) (BoolR.mk R.en)) fv [(6, ABlk.cells
 70 [AVal.sl 7 0 1 0 F.L.length none, AVal.int IntKind.i64 sp, AVal.bool F.beg, AVal.int IntKind.i64 (↑F.k : Int), AVal.int IntKind.i64 F.lk, AVal.str F.lb]), (7, ABlk.row 5 byteRow F.L
 RowMd.plain)]))) (branch (decide (sp - (↑F.L.length : Int) < (↑(gEnc R.st R.en R.id R.total R.typ R.k R.lb R.data R.sum).length : Int))) (Q (AExit.exit 0) (fE AVal.nils (f13 i)) (AHeap.mk 8 (fHx n
 (cs.set (idI i) (CutR.mk (cutI cs i).typ R.k2 R.b2 (cutI cs i).data R.at2 (cutI cs i).id)) (ds.set (idI i) (BoolR.mk R.en)) fv [(6, ABlk.cells 70 [AVal.sl 7 0 1 0 F.L.length none, AVal.int IntKind.i64
 sp, AVal.bool F.beg, AVal.int IntKind.i64 (↑F.k : Int), AVal.int IntKind.i64 F.lk, AVal.str F.lb]), (7, ABlk.row 5 byteRow F.L RowMd.plain)]))) (branch (decide ((70000 : Int) ≤ (↑F.k : Int))) (Q
 (AExit.exit 0) (fE AVal.nils (f13 i)) (AHeap.mk 8 (fHx n (cs.set (idI i) (CutR.mk (cutI cs i).typ R.k2 R.b2 (cutI cs i).data R.at2 (cutI cs i).id)) (ds.set (idI i) (BoolR.mk R.en)) fv [(6, ABlk.cells
 70 [AVal.sl 7 0 1 0 F.L.length none, AVal.int IntKind.i64 sp, AVal.bool F.beg, AVal.int IntKind.i64 (↑F.k : Int), AVal.int IntKind.i64 F.lk, AVal.str F.lb]), (7, ABlk.row 5 byteRow F.L
 RowMd.plain)]))) (obl (inI64 ((↑F.k : Int) + (1 : Int))) (obl (true && decide (F.L.length = F.L.length ∧ 1 = 1 ∧ 1 = 1 ∧ 0 < 1 ∧ (F.L ++ gEnc R.st R.en R.id R.total R.typ R.k R.lb R.data R.sum).length
 ≤ 9223372036854775807 ∧ (F.L ++ gEnc R.st R.en R.id R.total R.typ R.k R.lb R.data R.sum).length * 1 ≤ 140737488355328)) (branch F.beg (branch R.en (Q (AExit.exit 2) (fE (AVal.sl 7 0 1 0 1 none) (f13
 i)) (AHeap.mk 9 (fHx n (cs.set (idI i) (CutR.mk (cutI cs i).typ R.k2 R.b2 (cutI cs i).data R.at2 (cutI cs i).id)) (ds.set (idI i) (BoolR.mk R.en)) fv [(6, ABlk.cells 70 [AVal.sl 8 0 1 0 (F.L ++ gEnc
 R.st R.en R.id R.total R.typ R.k R.lb R.data R.sum).length none, AVal.int IntKind.i64 sp, AVal.bool true, AVal.int IntKind.i64 ((↑F.k : Int) + (1 : Int)), AVal.int IntKind.i64 F.lk, AVal.str F.lb]),
 (7, ABlk.row 33 (intRow IntKind.u64) [(↑i : Int) + (1 : Int)] RowMd.plain), (8, ABlk.row 5 byteRow (F.L ++ gEnc R.st R.en R.id R.total R.typ R.k R.lb R.data R.sum) RowMd.plain)]))) (Q AExit.normal (fE
 AVal.nils (f13 i)) (AHeap.mk 8 (fHx n (cs.set (idI i) (CutR.mk (cutI cs i).typ R.k2 R.b2 (cutI cs i).data R.at2 (cutI cs i).id)) (ds.set (idI i) (BoolR.mk R.en)) fv [(6, ABlk.cells 70 [AVal.sl 7 0 1 0
 (F.L ++ gEnc R.st R.en R.id R.total R.typ R.k R.lb R.data R.sum).length none, AVal.int IntKind.i64 sp, AVal.bool true, AVal.int IntKind.i64 ((↑F.k : Int) + (1 : Int)), AVal.int IntKind.i64 F.lk,
 AVal.str F.lb]), (7, ABlk.row 5 byteRow (F.L ++ gEnc R.st R.en R.id R.total R.typ R.k R.lb R.data R.sum) RowMd.plain)])))) (branch R.st (branch R.en (Q (AExit.exit 2) (fE (AVal.sl 7 0 1 0 1 none) (f13
 i)) (AHeap.mk 9 (fHx n (cs.set (idI i) (CutR.mk (cutI cs i).typ R.k2 R.b2 (cutI cs i).data R.at2 (cutI cs i).id)) (ds.set (idI i) (BoolR.mk R.en)) fv [(6, ABlk.cells 70 [AVal.sl 8 0 1 0 (F.L ++ gEnc
 R.st R.en R.id R.total R.typ R.k R.lb R.data R.sum).length none, AVal.int IntKind.i64 sp, AVal.bool !R.en, AVal.int IntKind.i64 ((↑F.k : Int) + (1 : Int)), AVal.int IntKind.i64 F.lk, AVal.str F.lb]),
 (7, ABlk.row 33 (intRow IntKind.u64) [(↑i : Int) + (1 : Int)] RowMd.plain), (8, ABlk.row 5 byteRow (F.L ++ gEnc R.st R.en R.id R.total R.typ R.k R.lb R.data R.sum) RowMd.plain)]))) (Q AExit.normal (fE
 AVal.nils (f13 i)) (AHeap.mk 8 (fHx n (cs.set (idI i) (CutR.mk (cutI cs i).typ R.k2 R.b2 (cutI cs i).data R.at2 (cutI cs i).id)) (ds.set (idI i) (BoolR.mk R.en)) fv [(6, ABlk.cells 70 [AVal.sl 7 0 1 0
 (F.L ++ gEnc R.st R.en R.id R.total R.typ R.k R.lb R.data R.sum).length none, AVal.int IntKind.i64 sp, AVal.bool !R.en, AVal.int IntKind.i64 ((↑F.k : Int) + (1 : Int)), AVal.int IntKind.i64 F.lk,
 AVal.str F.lb]), (7, ABlk.row 5 byteRow (F.L ++ gEnc R.st R.en R.id R.total R.typ R.k R.lb R.data R.sum) RowMd.plain)])))) (branch R.en (Q (AExit.exit 2) (fE (AVal.sl 7 0 1 0 1 none) (f13 i))
 (AHeap.mk 9 (fHx n (cs.set (idI i) (CutR.mk (cutI cs i).typ R.k2 R.b2 (cutI cs i).data R.at2 (cutI cs i).id)) (ds.set (idI i) (BoolR.mk R.en)) fv [(6, ABlk.cells 70 [AVal.sl 8 0 1 0 (F.L ++ gEnc R.st
 R.en R.id R.total R.typ R.k R.lb R.data R.sum).length none, AVal.int IntKind.i64 sp, AVal.bool false, AVal.int IntKind.i64 ((↑F.k : Int) + (1 : Int)), AVal.int IntKind.i64 F.lk, AVal.str F.lb]), (7,
 ABlk.row 33 (intRow IntKind.u64) [(↑i : Int) + (1 : Int)] RowMd.plain), (8, ABlk.row 5 byteRow (F.L ++ gEnc R.st R.en R.id R.total R.typ R.k R.lb R.data R.sum) RowMd.plain)]))) (Q AExit.normal (fE
 AVal.nils (f13 i)) (AHeap.mk 8 (fHx n (cs.set (idI i) (CutR.mk (cutI cs i).typ R.k2 R.b2 (cutI cs i).data R.at2 (cutI cs i).id)) (ds.set (idI i) (BoolR.mk R.en)) fv [(6, ABlk.cells 70 [AVal.sl 7 0 1 0
 (F.L ++ gEnc R.st R.en R.id R.total R.typ R.k R.lb R.data R.sum).length none, AVal.int IntKind.i64 sp, AVal.bool false, AVal.int IntKind.i64 ((↑F.k : Int) + (1 : Int)), AVal.int IntKind.i64 F.lk,
 AVal.str F.lb]), (7, ABlk.row 5 byteRow (F.L ++ gEnc R.st R.en R.id R.total R.typ R.k R.lb R.data R.sum) RowMd.plain)])))))))))))))))))) (∀ (R : NextR), nextR (cutI cs i).typ (cutI cs i).k (cutI cs
 i).lb (cutI cs i).data (cutI cs i).pos (cutI cs i).id (cutI cs i).k (cutI cs i).lb (sp - (↑F.L.length : Int)) F.beg = R → branch (!decide (R.err = (0 : Int))) (branch (!decide (R.err = (0 : Int))) (Q
 (AExit.exit 0) (fE AVal.nils (f13 i)) (AHeap.mk 8 (fHx n cs ds fv [(6, ABlk.cells 70 [AVal.sl 7 0 1 0 F.L.length none, AVal.int IntKind.i64 sp, AVal.bool F.beg, AVal.int IntKind.i64 (↑F.k : Int),
 AVal.int IntKind.i64 F.lk, AVal.str F.lb]), (7, ABlk.row 5 byteRow F.L RowMd.plain)]))) (branch (decide (sp - (↑F.L.length : Int) < (3 : Int))) (Q (AExit.exit 0) (fE AVal.nils (f13 i)) (AHeap.mk 8
 (fHx n cs ds fv [(6, ABlk.cells 70 [AVal.sl 7 0 1 0 F.L.length none, AVal.int IntKind.i64 sp, AVal.bool F.beg, AVal.int IntKind.i64 (↑F.k : Int), AVal.int IntKind.i64 F.lk, AVal.str F.lb]), (7,
 ABlk.row 5 byteRow F.L RowMd.plain)]))) (branch (decide ((70000 : Int) ≤ (↑F.k : Int))) (Q (AExit.exit 0) (fE AVal.nils (f13 i)) (AHeap.mk 8 (fHx n cs ds fv [(6, ABlk.cells 70 [AVal.sl 7 0 1 0
 F.L.length none, AVal.int IntKind.i64 sp, AVal.bool F.beg, AVal.int IntKind.i64 (↑F.k : Int), AVal.int IntKind.i64 F.lk, AVal.str F.lb]), (7, ABlk.row 5 byteRow F.L RowMd.plain)]))) (obl (inI64 ((↑F.k
 : Int) + (1 : Int))) (obl (true && decide (F.L.length = F.L.length ∧ 1 = 1 ∧ 1 = 1 ∧ 0 < 1 ∧ (F.L ++ [(48 : UInt8), (1 : UInt8), (0 : UInt8)]).length ≤ 9223372036854775807 ∧ (F.L ++ [(48 : UInt8), (1
 : UInt8), (0 : UInt8)]).length * 1 ≤ 140737488355328)) (branch F.beg (Q AExit.normal (fE AVal.nils (f13 i)) (AHeap.mk 8 (fHx n cs ds fv [(6, ABlk.cells 70 [AVal.sl 7 0 1 0 (F.L ++ [(48 : UInt8), (1 :
 UInt8), (0 : UInt8)]).length none, AVal.int IntKind.i64 sp, AVal.bool true, AVal.int IntKind.i64 ((↑F.k : Int) + (1 : Int)), AVal.int IntKind.i64 F.lk, AVal.str F.lb]), (7, ABlk.row 5 byteRow (F.L ++
 [(48 : UInt8), (1 : UInt8), (0 : UInt8)]) RowMd.plain)]))) (Q AExit.normal (fE AVal.nils (f13 i)) (AHeap.mk 8 (fHx n cs ds fv [(6, ABlk.cells 70 [AVal.sl 7 0 1 0 (F.L ++ [(48 : UInt8), (1 : UInt8), (0
 : UInt8)]).length none, AVal.int IntKind.i64 sp, AVal.bool false, AVal.int IntKind.i64 ((↑F.k : Int) + (1 : Int)), AVal.int IntKind.i64 F.lk, AVal.str F.lb]), (7, ABlk.row 5 byteRow (F.L ++ [(48 :
 UInt8), (1 : UInt8), (0 : UInt8)]) RowMd.plain)]))))))))) (obl (decide ((0 : Int) ≤ idJ i ∧ idJ i < (↑n : Int))) (obl (decide (0 + (idJ i).toNat < cs.length) && true) (obl (decide ((0 : Int) ≤ idJ i ∧
 idJ i < (↑n : Int))) (obl (decide (0 + (idJ i).toNat < ds.length) && true) (obl (decide (R.lb.length + R.data.length + R.sum.length ≤ 9223372036854775000)) (branch (!decide (gErr R.st R.en R.id
 R.total R.typ R.k R.lb R.data R.sum = (0 : Int))) (Q (AExit.exit 0) (fE AVal.nils (f13 i)) (AHeap.mk 8 (fHx n (cs.set (idI i) (CutR.mk (cutI cs i).typ R.k2 R.b2 (cutI cs i).data R.at2 (cutI cs i).id))
 (ds.set (idI i) (BoolR.mk R.en)) fv [(6, ABlk.cells 70 [AVal.sl 7 0 1 0 F.L.length none, AVal.int IntKind.i64 sp, AVal.bool F.beg, AVal.int IntKind.i64 (↑F.k : Int), AVal.int IntKind.i64 F.lk,
 AVal.str F.lb]), (7, ABlk.row 5 byteRow F.L RowMd.plain)]))) (branch (decide (sp - (↑F.L.length : Int) < (↑(gEnc R.st R.en R.id R.total R.typ R.k R.lb R.data R.sum).length : Int))) (Q (AExit.exit 0)
 (fE AVal.nils (f13 i)) (AHeap.mk 8 (fHx n (cs.set (idI i) (CutR.mk (cutI cs i).typ R.k2 R.b2 (cutI cs i).data R.at2 (cutI cs i).id)) (ds.set (idI i) (BoolR.mk R.en)) fv [(6, ABlk.cells 70 [AVal.sl 7 0
 1 0 F.L.length none, AVal.int IntKind.i64 sp, AVal.bool F.beg, AVal.int IntKind.i64 (↑F.k : Int), AVal.int IntKind.i64 F.lk, AVal.str F.lb]), (7, ABlk.row 5 byteRow F.L RowMd.plain)]))) (branch
 (decide ((70000 : Int) ≤ (↑F.k : Int))) (Q (AExit.exit 0) (fE AVal.nils (f13 i)) (AHeap.mk 8 (fHx n (cs.set (idI i) (CutR.mk (cutI cs i).typ R.k2 R.b2 (cutI cs i).data R.at2 (cutI cs i).id)) (ds.set
 (idI i) (BoolR.mk R.en)) fv [(6, ABlk.cells 70 [AVal.sl 7 0 1 0 F.L.length none, AVal.int IntKind.i64 sp, AVal.bool F.beg, AVal.int IntKind.i64 (↑F.k : Int), AVal.int IntKind.i64 F.lk, AVal.str
 F.lb]), (7, ABlk.row 5 byteRow F.L RowMd.plain)]))) (obl (inI64 ((↑F.k : Int) + (1 : Int))) (obl (true && decide (F.L.length = F.L.length ∧ 1 = 1 ∧ 1 = 1 ∧ 0 < 1 ∧ (F.L ++ gEnc R.st R.en R.id R.total
 R.typ R.k R.lb R.data R.sum).length ≤ 9223372036854775807 ∧ (F.L ++ gEnc R.st R.en R.id R.total R.typ R.k R.lb R.data R.sum).length * 1 ≤ 140737488355328)) (branch F.beg (branch R.en (Q (AExit.exit 2)
 (fE (AVal.sl 7 0 1 0 1 none) (f13 i)) (AHeap.mk 9 (fHx n (cs.set (idI i) (CutR.mk (cutI cs i).typ R.k2 R.b2 (cutI cs i).data R.at2 (cutI cs i).id)) (ds.set (idI i) (BoolR.mk R.en)) fv [(6, ABlk.cells
 70 [AVal.sl 8 0 1 0 (F.L ++ gEnc R.st R.en R.id R.total R.typ R.k R.lb R.data R.sum).length none, AVal.int IntKind.i64 sp, AVal.bool true, AVal.int IntKind.i64 ((↑F.k : Int) + (1 : Int)), AVal.int
 IntKind.i64 F.lk, AVal.str F.lb]), (7, ABlk.row 33 (intRow IntKind.u64) [(↑i : Int) + (1 : Int)] RowMd.plain), (8, ABlk.row 5 byteRow (F.L ++ gEnc R.st R.en R.id R.total R.typ R.k R.lb R.data R.sum)
 RowMd.plain)]))) (Q AExit.normal (fE AVal.nils (f13 i)) (AHeap.mk 8 (fHx n (cs.set (idI i) (CutR.mk (cutI cs i).typ R.k2 R.b2 (cutI cs i).data R.at2 (cutI cs i).id)) (ds.set (idI i) (BoolR.mk R.en))
 fv [(6, ABlk.cells 70 [AVal.sl 7 0 1 0 (F.L ++ gEnc R.st R.en R.id R.total R.typ R.k R.lb R.data R.sum).length none, AVal.int IntKind.i64 sp, AVal.bool true, AVal.int IntKind.i64 ((↑F.k : Int) + (1 :
 Int)), AVal.int IntKind.i64 F.lk, AVal.str F.lb]), (7, ABlk.row 5 byteRow (F.L ++ gEnc R.st R.en R.id R.total R.typ R.k R.lb R.data R.sum) RowMd.plain)])))) (branch R.st (branch R.en (Q (AExit.exit 2)
 (fE (AVal.sl 7 0 1 0 1 none) (f13 i)) (AHeap.mk 9 (fHx n (cs.set (idI i) (CutR.mk (cutI cs i).typ R.k2 R.b2 (cutI cs i).data R.at2 (cutI cs i).id)) (ds.set (idI i) (BoolR.mk R.en)) fv [(6, ABlk.cells
 70 [AVal.sl 8 0 1 0 (F.L ++ gEnc R.st R.en R.id R.total R.typ R.k R.lb R.data R.sum).length none, AVal.int IntKind.i64 sp, AVal.bool !R.en, AVal.int IntKind.i64 ((↑F.k : Int) + (1 : Int)), AVal.int
 IntKind.i64 F.lk, AVal.str F.lb]), (7, ABlk.row 33 (intRow IntKind.u64) [(↑i : Int) + (1 : Int)] RowMd.plain), (8, ABlk.row 5 byteRow (F.L ++ gEnc R.st R.en R.id R.total R.typ R.k R.lb R.data R.sum)
 RowMd.plain)]))) (Q AExit.normal (fE AVal.nils (f13 i)) (AHeap.mk 8 (fHx n (cs.set (idI i) (CutR.mk (cutI cs i).typ R.k2 R.b2 (cutI cs i).data R.at2 (cutI cs i).id)) (ds.set (idI i) (BoolR.mk R.en))
 fv [(6, ABlk.cells 70 [AVal.sl 7 0 1 0 (F.L ++ gEnc R.st R.en R.id R.total R.typ R.k R.lb R.data R.sum).length none, AVal.int IntKind.i64 sp, AVal.bool !R.en, AVal.int IntKind.i64 ((↑F.k : Int) + (1 :
 Int)), AVal.int IntKind.i64 F.lk, AVal.str F.lb]), (7, ABlk.row 5 byteRow (F.L ++ gEnc R.st R.en R.id R.total R.typ R.k R.lb R.data R.sum) RowMd.plain)])))) (branch R.en (Q (AExit.exit 2) (fE (AVal.sl
 7 0 1 0 1 none) (f13 i)) (AHeap.mk 9 (fHx n (cs.set (idI i) (CutR.mk (cutI cs i).typ R.k2 R.b2 (cutI cs i).data R.at2 (cutI cs i).id)) (ds.set (idI i) (BoolR.mk R.en)) fv [(6, ABlk.cells 70 [AVal.sl 8
 0 1 0 (F.L ++ gEnc R.st R.en R.id R.total R.typ R.k R.lb R.data R.sum).length none, AVal.int IntKind.i64 sp, AVal.bool false, AVal.int IntKind.i64 ((↑F.k : Int) + (1 : Int)), AVal.int IntKind.i64
 F.lk, AVal.str F.lb]), (7, ABlk.row 33 (intRow IntKind.u64) [(↑i : Int) + (1 : Int)] RowMd.plain), (8, ABlk.row 5 byteRow (F.L ++ gEnc R.st R.en R.id R.total R.typ R.k R.lb R.data R.sum)
 RowMd.plain)]))) (Q AExit.normal (fE AVal.nils (f13 i)) (AHeap.mk 8 (fHx n (cs.set (idI i) (CutR.mk (cutI cs i).typ R.k2 R.b2 (cutI cs i).data R.at2 (cutI cs i).id)) (ds.set (idI i) (BoolR.mk R.en))
 fv [(6, ABlk.cells 70 [AVal.sl 7 0 1 0 (F.L ++ gEnc R.st R.en R.id R.total R.typ R.k R.lb R.data R.sum).length none, AVal.int IntKind.i64 sp, AVal.bool false, AVal.int IntKind.i64 ((↑F.k : Int) + (1 :
 Int)), AVal.int IntKind.i64 F.lk, AVal.str F.lb]), (7, ABlk.row 5 byteRow (F.L ++ gEnc R.st R.en R.id R.total R.typ R.k R.lb R.data R.sum) RowMd.plain)]))))))))))))))))))) (branch (decide ((0 : Int) <
 lSize (cutI cs i).k)) (branch (decide ((if lOk (cutI cs i).k (cutI cs i).lb = true then (0 : Int) else (2 : Int)) = (0 : Int))) (∀ (R : NextR), nextR (cutI cs i).typ (cutI cs i).k (cutI cs i).lb (cutI
 cs i).data (cutI cs i).pos (cutI cs i).id (cutI cs i).k (cutI cs i).lb (sp - (↑F.L.length : Int)) F.beg = R → branch (!decide (R.err = (0 : Int))) (branch (!decide (R.err = (0 : Int))) (Q (AExit.exit
 0) (fE AVal.nils (f13 i)) (AHeap.mk 8 (fHx n cs ds fv [(6, ABlk.cells 70 [AVal.sl 7 0 1 0 F.L.length none, AVal.int IntKind.i64 sp, AVal.bool F.beg, AVal.int IntKind.i64 (↑F.k : Int), AVal.int
 IntKind.i64 (cutI cs i).k, AVal.str (cutI cs i).lb]), (7, ABlk.row 5 byteRow F.L RowMd.plain)]))) (branch (decide (sp - (↑F.L.length : Int) < (3 : Int))) (Q (AExit.exit 0) (fE AVal.nils (f13 i))
 (AHeap.mk 8 (fHx n cs ds fv [(6, ABlk.cells 70 [AVal.sl 7 0 1 0 F.L.length none, AVal.int IntKind.i64 sp, AVal.bool F.beg, AVal.int IntKind.i64 (↑F.k : Int), AVal.int IntKind.i64 (cutI cs i).k,
 AVal.str (cutI cs i).lb]), (7, ABlk.row 5 byteRow F.L RowMd.plain)]))) (branch (decide ((70000 : Int) ≤ (↑F.k : Int))) (Q (AExit.exit 0) (fE AVal.nils (f13 i)) (AHeap.mk 8 (fHx n cs ds fv [(6,
 ABlk.cells 70 [AVal.sl 7 0 1 0 F.L.length none, AVal.int IntKind.i64 sp, AVal.bool F.beg, AVal.int IntKind.i64 (↑F.k : Int), AVal.int IntKind.i64 (cutI cs i).k, AVal.str (cutI cs i).lb]), (7, ABlk.row
 5 byteRow F.L RowMd.plain)]))) (obl (inI64 ((↑F.k : Int) + (1 : Int))) (obl (true && decide (F.L.length = F.L.length ∧ 1 = 1 ∧ 1 = 1 ∧ 0 < 1 ∧ (F.L ++ [(48 : UInt8), (1 : UInt8), (0 : UInt8)]).length
 ≤ 9223372036854775807 ∧ (F.L ++ [(48 : UInt8), (1 : UInt8), (0 : UInt8)]).length * 1 ≤ 140737488355328)) (branch F.beg (Q AExit.normal (fE AVal.nils (f13 i)) (AHeap.mk 8 (fHx n cs ds fv [(6,
 ABlk.cells 70 [AVal.sl 7 0 1 0 (F.L ++ [(48 : UInt8), (1 : UInt8), (0 : UInt8)]).length none, AVal.int IntKind.i64 sp, AVal.bool true, AVal.int IntKind.i64 ((↑F.k : Int) + (1 : Int)), AVal.int
 IntKind.i64 (cutI cs i).k, AVal.str (cutI cs i).lb]), (7, ABlk.row 5 byteRow (F.L ++ [(48 : UInt8), (1 : UInt8), (0 : UInt8)]) RowMd.plain)]))) (Q AExit.normal (fE AVal.nils (f13 i)) (AHeap.mk 8 (fHx
 n cs ds fv [(6, ABlk.cells 70 [AVal.sl 7 0 1 0 (F.L ++ [(48 : UInt8), (1 : UInt8), (0 : UInt8)]).length none, AVal.int IntKind.i64 sp, AVal.bool false, AVal.int IntKind.i64 ((↑F.k : Int) + (1 : Int)),
 AVal.int IntKind.i64 (cutI cs i).k, AVal.str (cutI cs i).lb]), (7, ABlk.row 5 byteRow (F.L ++ [(48 : UInt8), (1 : UInt8), (0 : UInt8)]) RowMd.plain)]))))))))) (obl (decide ((0 : Int) ≤ idJ i ∧ idJ i <
 (↑n : Int))) (obl (decide (0 + (idJ i).toNat < cs.length) && true) (obl (decide ((0 : Int) ≤ idJ i ∧ idJ i < (↑n : Int))) (obl (decide (0 + (idJ i).toNat < ds.length) && true) (obl (decide
 (R.lb.length + R.data.length + R.sum.length ≤ 9223372036854775000)) (branch (!decide (gErr R.st R.en R.id R.total R.typ R.k R.lb R.data R.sum = (0 : Int))) (Q (AExit.exit 0) (fE AVal.nils (f13 i))
 (AHeap.mk 8 (fHx n (cs.set (idI i) (CutR.mk (cutI cs i).typ R.k2 R.b2 (cutI cs i).data R.at2 (cutI cs i).id)) (ds.set (idI i) (BoolR.mk R.en)) fv [(6, ABlk.cells 70 [AVal.sl 7 0 1 0 F.L.length none,
 AVal.int IntKind.i64 sp, AVal.bool F.beg, AVal.int IntKind.i64 (↑F.k : Int), AVal.int IntKind.i64 (cutI cs i).k, AVal.str (cutI cs i).lb]), (7, ABlk.row 5 byteRow F.L RowMd.plain)]))) (branch (decide
 (sp - (↑F.L.length : Int) < (↑(gEnc R.st R.en R.id R.total R.typ R.k R.lb R.data R.sum).length : Int))) (Q (AExit.exit 0) (fE AVal.nils (f13 i)) (AHeap.mk 8 (fHx n (cs.set (idI i) (CutR.mk (cutI cs
 i).typ R.k2 R.b2 (cutI cs i).data R.at2 (cutI cs i).id)) (ds.set (idI i) (BoolR.mk R.en)) fv [(6, ABlk.cells 70 [AVal.sl 7 0 1 0 F.L.length none, AVal.int IntKind.i64 sp, AVal.bool F.beg, AVal.int
 IntKind.i64 (↑F.k : Int), AVal.int IntKind.i64 (cutI cs i).k, AVal.str (cutI cs i).lb]), (7, ABlk.row 5 byteRow F.L RowMd.plain)]))) (branch (decide ((70000 : Int) ≤ (↑F.k : Int))) (Q (AExit.exit 0)
 (fE AVal.nils (f13 i)) (AHeap.mk 8 (fHx n (cs.set (idI i) (CutR.mk (cutI cs i).typ R.k2 R.b2 (cutI cs i).data R.at2 (cutI cs i).id)) (ds.set (idI i) (BoolR.mk R.en)) fv [(6, ABlk.cells 70 [AVal.sl 7 0
 1 0 F.L.length none, AVal.int IntKind.i64 sp, AVal.bool F.beg, AVal.int IntKind.i64 (↑F.k : Int), AVal.int IntKind.i64 (cutI cs i).k, AVal.str (cutI cs i).lb]), (7, ABlk.row 5 byteRow F.L
 RowMd.plain)]))) (obl (inI64 ((↑F.k : Int) + (1 : Int))) (obl (true && decide (F.L.length = F.L.length ∧ 1 = 1 ∧ 1 = 1 ∧ 0 < 1 ∧ (F.L ++ gEnc R.st R.en R.id R.total R.typ R.k R.lb R.data R.sum).length
 ≤ 9223372036854775807 ∧ (F.L ++ gEnc R.st R.en R.id R.total R.typ R.k R.lb R.data R.sum).length * 1 ≤ 140737488355328)) (branch F.beg (branch R.en (Q (AExit.exit 2) (fE (AVal.sl 7 0 1 0 1 none) (f13
 i)) (AHeap.mk 9 (fHx n (cs.set (idI i) (CutR.mk (cutI cs i).typ R.k2 R.b2 (cutI cs i).data R.at2 (cutI cs i).id)) (ds.set (idI i) (BoolR.mk R.en)) fv [(6, ABlk.cells 70 [AVal.sl 8 0 1 0 (F.L ++ gEnc
 R.st R.en R.id R.total R.typ R.k R.lb R.data R.sum).length none, AVal.int IntKind.i64 sp, AVal.bool true, AVal.int IntKind.i64 ((↑F.k : Int) + (1 : Int)), AVal.int IntKind.i64 (cutI cs i).k, AVal.str
 (cutI cs i).lb]), (7, ABlk.row 33 (intRow IntKind.u64) [(↑i : Int) + (1 : Int)] RowMd.plain), (8, ABlk.row 5 byteRow (F.L ++ gEnc R.st R.en R.id R.total R.typ R.k R.lb R.data R.sum) RowMd.plain)])))
 (Q AExit.normal (fE AVal.nils (f13 i)) (AHeap.mk 8 (fHx n (cs.set (idI i) (CutR.mk (cutI cs i).typ R.k2 R.b2 (cutI cs i).data R.at2 (cutI cs i).id)) (ds.set (idI i) (BoolR.mk R.en)) fv [(6, ABlk.cells
 70 [AVal.sl 7 0 1 0 (F.L ++ gEnc R.st R.en R.id R.total R.typ R.k R.lb R.data R.sum).length none, AVal.int IntKind.i64 sp, AVal.bool true, AVal.int IntKind.i64 ((↑F.k : Int) + (1 : Int)), AVal.int
 IntKind.i64 (cutI cs i).k, AVal.str (cutI cs i).lb]), (7, ABlk.row 5 byteRow (F.L ++ gEnc R.st R.en R.id R.total R.typ R.k R.lb R.data R.sum) RowMd.plain)])))) (branch R.st (branch R.en (Q (AExit.exit
 2) (fE (AVal.sl 7 0 1 0 1 none) (f13 i)) (AHeap.mk 9 (fHx n (cs.set (idI i) (CutR.mk (cutI cs i).typ R.k2 R.b2 (cutI cs i).data R.at2 (cutI cs i).id)) (ds.set (idI i) (BoolR.mk R.en)) fv [(6,
 ABlk.cells 70 [AVal.sl 8 0 1 0 (F.L ++ gEnc R.st R.en R.id R.total R.typ R.k R.lb R.data R.sum).length none, AVal.int IntKind.i64 sp, AVal.bool !R.en, AVal.int IntKind.i64 ((↑F.k : Int) + (1 : Int)),
 AVal.int IntKind.i64 (cutI cs i).k, AVal.str (cutI cs i).lb]), (7, ABlk.row 33 (intRow IntKind.u64) [(↑i : Int) + (1 : Int)] RowMd.plain), (8, ABlk.row 5 byteRow (F.L ++ gEnc R.st R.en R.id R.total
 R.typ R.k R.lb R.data R.sum) RowMd.plain)]))) (Q AExit.normal (fE AVal.nils (f13 i)) (AHeap.mk 8 (fHx n (cs.set (idI i) (CutR.mk (cutI cs i).typ R.k2 R.b2 (cutI cs i).data R.at2 (cutI cs i).id))
 (ds.set (idI i) (BoolR.mk R.en)) fv [(6, ABlk.cells 70 [AVal.sl 7 0 1 0 (F.L ++ gEnc R.st R.en R.id R.total R.typ R.k R.lb R.data R.sum).length none, AVal.int IntKind.i64 sp, AVal.bool !R.en, AVal.int
 IntKind.i64 ((↑F.k : Int) + (1 : Int)), AVal.int IntKind.i64 (cutI cs i).k, AVal.str (cutI cs i).lb]), (7, ABlk.row 5 byteRow (F.L ++ gEnc R.st R.en R.id R.total R.typ R.k R.lb R.data R.sum)
 RowMd.plain)])))) (branch R.en (Q (AExit.exit 2) (fE (AVal.sl 7 0 1 0 1 none) (f13 i)) (AHeap.mk 9 (fHx n (cs.set (idI i) (CutR.mk (cutI cs i).typ R.k2 R.b2 (cutI cs i).data R.at2 (cutI cs i).id))
 (ds.set (idI i) (BoolR.mk R.en)) fv [(6, ABlk.cells 70 [AVal.sl 8 0 1 0 (F.L ++ gEnc R.st R.en R.id R.total R.typ R.k R.lb R.data R.sum).length none, AVal.int IntKind.i64 sp, AVal.bool false, AVal.int
 IntKind.i64 ((↑F.k : Int) + (1 : Int)), AVal.int IntKind.i64 (cutI cs i).k, AVal.str (cutI cs i).lb]), (7, ABlk.row 33 (intRow IntKind.u64) [(↑i : Int) + (1 : Int)] RowMd.plain), (8, ABlk.row 5
 byteRow (F.L ++ gEnc R.st R.en R.id R.total R.typ R.k R.lb R.data R.sum) RowMd.plain)]))) (Q AExit.normal (fE AVal.nils (f13 i)) (AHeap.mk 8 (fHx n (cs.set (idI i) (CutR.mk (cutI cs i).typ R.k2 R.b2
 (cutI cs i).data R.at2 (cutI cs i).id)) (ds.set (idI i) (BoolR.mk R.en)) fv [(6, ABlk.cells 70 [AVal.sl 7 0 1 0 (F.L ++ gEnc R.st R.en R.id R.total R.typ R.k R.lb R.data R.sum).length none, AVal.int
 IntKind.i64 sp, AVal.bool false, AVal.int IntKind.i64 ((↑F.k : Int) + (1 : Int)), AVal.int IntKind.i64 (cutI cs i).k, AVal.str (cutI cs i).lb]), (7, ABlk.row 5 byteRow (F.L ++ gEnc R.st R.en R.id
 R.total R.typ R.k R.lb R.data R.sum) RowMd.plain)]))))))))))))))))) (∀ (R : NextR), nextR (cutI cs i).typ (cutI cs i).k (cutI cs i).lb (cutI cs i).data (cutI cs i).pos (cutI cs i).id (cutI cs i).k
 (cutI cs i).lb (sp - (↑F.L.length : Int)) F.beg = R → branch (!decide (R.err = (0 : Int))) (branch (!decide (R.err = (0 : Int))) (Q (AExit.exit 0) (fE AVal.nils (f13 i)) (AHeap.mk 8 (fHx n cs ds fv
 [(6, ABlk.cells 70 [AVal.sl 7 0 1 0 F.L.length none, AVal.int IntKind.i64 sp, AVal.bool F.beg, AVal.int IntKind.i64 (↑F.k : Int), AVal.int IntKind.i64 F.lk, AVal.str F.lb]), (7, ABlk.row 5 byteRow F.L
 RowMd.plain)]))) (branch (decide (sp - (↑F.L.length : Int) < (3 : Int))) (Q (AExit.exit 0) (fE AVal.nils (f13 i)) (AHeap.mk 8 (fHx n cs ds fv [(6, ABlk.cells 70 [AVal.sl 7 0 1 0 F.L.length none,
 AVal.int IntKind.i64 sp, AVal.bool F.beg, AVal.int IntKind.i64 (↑F.k : Int), AVal.int IntKind.i64 F.lk, AVal.str F.lb]), (7, ABlk.row 5 byteRow F.L RowMd.plain)]))) (branch (decide ((70000 : Int) ≤
 (↑F.k : Int))) (Q (AExit.exit 0) (fE AVal.nils (f13 i)) (AHeap.mk 8 (fHx n cs ds fv [(6, ABlk.cells 70 [AVal.sl 7 0 1 0 F.L.length none, AVal.int IntKind.i64 sp, AVal.bool F.beg, AVal.int IntKind.i64
 (↑F.k : Int), AVal.int IntKind.i64 F.lk, AVal.str F.lb]), (7, ABlk.row 5 byteRow F.L RowMd.plain)]))) (obl (inI64 ((↑F.k : Int) + (1 : Int))) (obl (true && decide (F.L.length = F.L.length ∧ 1 = 1 ∧ 1
 = 1 ∧ 0 < 1 ∧ (F.L ++ [(48 : UInt8), (1 : UInt8), (0 : UInt8)]).length ≤ 9223372036854775807 ∧ (F.L ++ [(48 : UInt8), (1 : UInt8), (0 : UInt8)]).length * 1 ≤ 140737488355328)) (branch F.beg (Q
 AExit.normal (fE AVal.nils (f13 i)) (AHeap.mk 8 (fHx n cs ds fv [(6, ABlk.cells 70 [AVal.sl 7 0 1 0 (F.L ++ [(48 : UInt8), (1 : UInt8), (0 : UInt8)]).length none, AVal.int IntKind.i64 sp, AVal.bool
 true, AVal.int IntKind.i64 ((↑F.k : Int) + (1 : Int)), AVal.int IntKind.i64 F.lk, AVal.str F.lb]), (7, ABlk.row 5 byteRow (F.L ++ [(48 : UInt8), (1 : UInt8), (0 : UInt8)]) RowMd.plain)]))) (Q
 AExit.normal (fE AVal.nils (f13 i)) (AHeap.mk 8 (fHx n cs ds fv [(6, ABlk.cells 70 [AVal.sl 7 0 1 0 (F.L ++ [(48 : UInt8), (1 : UInt8), (0 : UInt8)]).length none, AVal.int IntKind.i64 sp, AVal.bool
 false, AVal.int IntKind.i64 ((↑F.k : Int) + (1 : Int)), AVal.int IntKind.i64 F.lk, AVal.str F.lb]), (7, ABlk.row 5 byteRow (F.L ++ [(48 : UInt8), (1 : UInt8), (0 : UInt8)]) RowMd.plain)]))))))))) (obl
 (decide ((0 : Int) ≤ idJ i ∧ idJ i < (↑n : Int))) (obl (decide (0 + (idJ i).toNat < cs.length) && true) (obl (decide ((0 : Int) ≤ idJ i ∧ idJ i < (↑n : Int))) (obl (decide (0 + (idJ i).toNat <
 ds.length) && true) (obl (decide (R.lb.length + R.data.length + R.sum.length ≤ 9223372036854775000)) (branch (!decide (gErr R.st R.en R.id R.total R.typ R.k R.lb R.data R.sum = (0 : Int))) (Q
 (AExit.exit 0) (fE AVal.nils (f13 i)) (AHeap.mk 8 (fHx n (cs.set (idI i) (CutR.mk (cutI cs i).typ R.k2 R.b2 (cutI cs i).data R.at2 (cutI cs i).id)) (ds.set (idI i) (BoolR.mk R.en)) fv [(6, ABlk.cells
 70 [AVal.sl 7 0 1 0 F.L.length none, AVal.int IntKind.i64 sp, AVal.bool F.beg, AVal.int IntKind.i64 (↑F.k : Int), AVal.int IntKind.i64 F.lk, AVal.str F.lb]), (7, ABlk.row 5 byteRow F.L
 RowMd.plain)]))) (branch (decide (sp - (↑F.L.length : Int) < (↑(gEnc R.st R.en R.id R.total R.typ R.k R.lb R.data R.sum).length : Int))) (Q (AExit.exit 0) (fE AVal.nils (f13 i)) (AHeap.mk 8 (fHx n
 (cs.set (idI i) (CutR.mk (cutI cs i).typ R.k2 R.b2 (cutI cs i).data R.at2 (cutI cs i).id)) (ds.set (idI i) (BoolR.mk R.en)) fv [(6, ABlk.cells 70 [AVal.sl 7 0 1 0 F.L.length none, AVal.int IntKind.i64
 sp, AVal.bool F.beg, AVal.int IntKind.i64 (↑F.k : Int), AVal.int IntKind.i64 F.lk, AVal.str F.lb]), (7, ABlk.row 5 byteRow F.L RowMd.plain)]))) (branch (decide ((70000 : Int) ≤ (↑F.k : Int))) (Q
 (AExit.exit 0) (fE AVal.nils (f13 i)) (AHeap.mk 8 (fHx n (cs.set (idI i) (CutR.mk (cutI cs i).typ R.k2 R.b2 (cutI cs i).data R.at2 (cutI cs i).id)) (ds.set (idI i) (BoolR.mk R.en)) fv [(6, ABlk.cells
 70 [AVal.sl 7 0 1 0 F.L.length none, AVal.int IntKind.i64 sp, AVal.bool F.beg, AVal.int IntKind.i64 (↑F.k : Int), AVal.int IntKind.i64 F.lk, AVal.str F.lb]), (7, ABlk.row 5 byteRow F.L
 RowMd.plain)]))) (obl (inI64 ((↑F.k : Int) + (1 : Int))) (obl (true && decide (F.L.length = F.L.length ∧ 1 = 1 ∧ 1 = 1 ∧ 0 < 1 ∧ (F.L ++ gEnc R.st R.en R.id R.total R.typ R.k R.lb R.data R.sum).length
 ≤ 9223372036854775807 ∧ (F.L ++ gEnc R.st R.en R.id R.total R.typ R.k R.lb R.data R.sum).length * 1 ≤ 140737488355328)) (branch F.beg (branch R.en (Q (AExit.exit 2) (fE (AVal.sl 7 0 1 0 1 none) (f13
 i)) (AHeap.mk 9 (fHx n (cs.set (idI i) (CutR.mk (cutI cs i).typ R.k2 R.b2 (cutI cs i).data R.at2 (cutI cs i).id)) (ds.set (idI i) (BoolR.mk R.en)) fv [(6, ABlk.cells 70 [AVal.sl 8 0 1 0 (F.L ++ gEnc
 R.st R.en R.id R.total R.typ R.k R.lb R.data R.sum).length none, AVal.int IntKind.i64 sp, AVal.bool true, AVal.int IntKind.i64 ((↑F.k : Int) + (1 : Int)), AVal.int IntKind.i64 F.lk, AVal.str F.lb]),
 (7, ABlk.row 33 (intRow IntKind.u64) [(↑i : Int) + (1 : Int)] RowMd.plain), (8, ABlk.row 5 byteRow (F.L ++ gEnc R.st R.en R.id R.total R.typ R.k R.lb R.data R.sum) RowMd.plain)]))) (Q AExit.normal (fE
 AVal.nils (f13 i)) (AHeap.mk 8 (fHx n (cs.set (idI i) (CutR.mk (cutI cs i).typ R.k2 R.b2 (cutI cs i).data R.at2 (cutI cs i).id)) (ds.set (idI i) (BoolR.mk R.en)) fv [(6, ABlk.cells 70 [AVal.sl 7 0 1 0
 (F.L ++ gEnc R.st R.en R.id R.total R.typ R.k R.lb R.data R.sum).length none, AVal.int IntKind.i64 sp, AVal.bool true, AVal.int IntKind.i64 ((↑F.k : Int) + (1 : Int)), AVal.int IntKind.i64 F.lk,
 AVal.str F.lb]), (7, ABlk.row 5 byteRow (F.L ++ gEnc R.st R.en R.id R.total R.typ R.k R.lb R.data R.sum) RowMd.plain)])))) (branch R.st (branch R.en (Q (AExit.exit 2) (fE (AVal.sl 7 0 1 0 1 none) (f13
 i)) (AHeap.mk 9 (fHx n (cs.set (idI i) (CutR.mk (cutI cs i).typ R.k2 R.b2 (cutI cs i).data R.at2 (cutI cs i).id)) (ds.set (idI i) (BoolR.mk R.en)) fv [(6, ABlk.cells 70 [AVal.sl 8 0 1 0 (F.L ++ gEnc
 R.st R.en R.id R.total R.typ R.k R.lb R.data R.sum).length none, AVal.int IntKind.i64 sp, AVal.bool !R.en, AVal.int IntKind.i64 ((↑F.k : Int) + (1 : Int)), AVal.int IntKind.i64 F.lk, AVal.str F.lb]),
 (7, ABlk.row 33 (intRow IntKind.u64) [(↑i : Int) + (1 : Int)] RowMd.plain), (8, ABlk.row 5 byteRow (F.L ++ gEnc R.st R.en R.id R.total R.typ R.k R.lb R.data R.sum) RowMd.plain)]))) (Q AExit.normal (fE
 AVal.nils (f13 i)) (AHeap.mk 8 (fHx n (cs.set (idI i) (CutR.mk (cutI cs i).typ R.k2 R.b2 (cutI cs i).data R.at2 (cutI cs i).id)) (ds.set (idI i) (BoolR.mk R.en)) fv [(6, ABlk.cells 70 [AVal.sl 7 0 1 0
 (F.L ++ gEnc R.st R.en R.id R.total R.typ R.k R.lb R.data R.sum).length none, AVal.int IntKind.i64 sp, AVal.bool !R.en, AVal.int IntKind.i64 ((↑F.k : Int) + (1 : Int)), AVal.int IntKind.i64 F.lk,
 AVal.str F.lb]), (7, ABlk.row 5 byteRow (F.L ++ gEnc R.st R.en R.id R.total R.typ R.k R.lb R.data R.sum) RowMd.plain)])))) (branch R.en (Q (AExit.exit 2) (fE (AVal.sl 7 0 1 0 1 none) (f13 i))
 (AHeap.mk 9 (fHx n (cs.set (idI i) (CutR.mk (cutI cs i).typ R.k2 R.b2 (cutI cs i).data R.at2 (cutI cs i).id)) (ds.set (idI i) (BoolR.mk R.en)) fv [(6, ABlk.cells 70 [AVal.sl 8 0 1 0 (F.L ++ gEnc R.st
 R.en R.id R.total R.typ R.k R.lb R.data R.sum).length none, AVal.int IntKind.i64 sp, AVal.bool false, AVal.int IntKind.i64 ((↑F.k : Int) + (1 : Int)), AVal.int IntKind.i64 F.lk, AVal.str F.lb]), (7,
 ABlk.row 33 (intRow IntKind.u64) [(↑i : Int) + (1 : Int)] RowMd.plain), (8, ABlk.row 5 byteRow (F.L ++ gEnc R.st R.en R.id R.total R.typ R.k R.lb R.data R.sum) RowMd.plain)]))) (Q AExit.normal (fE
 AVal.nils (f13 i)) (AHeap.mk 8 (fHx n (cs.set (idI i) (CutR.mk (cutI cs i).typ R.k2 R.b2 (cutI cs i).data R.at2 (cutI cs i).id)) (ds.set (idI i) (BoolR.mk R.en)) fv [(6, ABlk.cells 70 [AVal.sl 7 0 1 0
 (F.L ++ gEnc R.st R.en R.id R.total R.typ R.k R.lb R.data R.sum).length none, AVal.int IntKind.i64 sp, AVal.bool false, AVal.int IntKind.i64 ((↑F.k : Int) + (1 : Int)), AVal.int IntKind.i64 F.lk,
 AVal.str F.lb]), (7, ABlk.row 5 byteRow (F.L ++ gEnc R.st R.en R.id R.total R.typ R.k R.lb R.data R.sum) RowMd.plain)])))))))))))))))))) (∀ (R : NextR), nextR (cutI cs i).typ (cutI cs i).k (cutI cs
 i).lb (cutI cs i).data (cutI cs i).pos (cutI cs i).id (cutI cs i).k (cutI cs i).lb (sp - (↑F.L.length : Int)) F.beg = R → branch (!decide (R.err = (0 : Int))) (branch (!decide (R.err = (0 : Int))) (Q
 (AExit.exit 0) (fE AVal.nils (f13 i)) (AHeap.mk 8 (fHx n cs ds fv [(6, ABlk.cells 70 [AVal.sl 7 0 1 0 F.L.length none, AVal.int IntKind.i64 sp, AVal.bool F.beg, AVal.int IntKind.i64 (↑F.k : Int),
 AVal.int IntKind.i64 F.lk, AVal.str F.lb]), (7, ABlk.row 5 byteRow F.L RowMd.plain)]))) (branch (decide (sp - (↑F.L.length : Int) < (3 : Int))) (Q (AExit.exit 0) (fE AVal.nils (f13 i)) (AHeap.mk 8
 (fHx n cs ds fv [(6, ABlk.cells 70 [AVal.sl 7 0 1 0 F.L.length none, AVal.int IntKind.i64 sp, AVal.bool F.beg, AVal.int IntKind.i64 (↑F.k : Int), AVal.int IntKind.i64 F.lk, AVal.str F.lb]), (7,
 ABlk.row 5 byteRow F.L RowMd.plain)]))) (branch (decide ((70000 : Int) ≤ (↑F.k : Int))) (Q (AExit.exit 0) (fE AVal.nils (f13 i)) (AHeap.mk 8 (fHx n cs ds fv [(6, ABlk.cells 70 [AVal.sl 7 0 1 0
 F.L.length none, AVal.int IntKind.i64 sp, AVal.bool F.beg, AVal.int IntKind.i64 (↑F.k : Int), AVal.int IntKind.i64 F.lk, AVal.str F.lb]), (7, ABlk.row 5 byteRow F.L RowMd.plain)]))) (obl (inI64 ((↑F.k
 : Int) + (1 : Int))) (obl (true && decide (F.L.length = F.L.length ∧ 1 = 1 ∧ 1 = 1 ∧ 0 < 1 ∧ (F.L ++ [(48 : UInt8), (1 : UInt8), (0 : UInt8)]).length ≤ 9223372036854775807 ∧ (F.L ++ [(48 : UInt8), (1
 : UInt8), (0 : UInt8)]).length * 1 ≤ 140737488355328)) (branch F.beg (Q AExit.normal (fE AVal.nils (f13 i)) (AHeap.mk 8 (fHx n cs ds fv [(6, ABlk.cells 70 [AVal.sl 7 0 1 0 (F.L ++ [(48 : UInt8), (1 :
 UInt8), (0 : UInt8)]).length none, AVal.int IntKind.i64 sp, AVal.bool true, AVal.int IntKind.i64 ((↑F.k : Int) + (1 : Int)), AVal.int IntKind.i64 F.lk, AVal.str F.lb]), (7, ABlk.row 5 byteRow (F.L ++
 [(48 : UInt8), (1 : UInt8), (0 : UInt8)]) RowMd.plain)]))) (Q AExit.normal (fE AVal.nils (f13 i)) (AHeap.mk 8 (fHx n cs ds fv [(6, ABlk.cells 70 [AVal.sl 7 0 1 0 (F.L ++ [(48 : UInt8), (1 : UInt8), (0
 : UInt8)]).length none, AVal.int IntKind.i64 sp, AVal.bool false, AVal.int IntKind.i64 ((↑F.k : Int) + (1 : Int)), AVal.int IntKind.i64 F.lk, AVal.str F.lb]), (7, ABlk.row 5 byteRow (F.L ++ [(48 :
 UInt8), (1 : UInt8), (0 : UInt8)]) RowMd.plain)]))))))))) (obl (decide ((0 : Int) ≤ idJ i ∧ idJ i < (↑n : Int))) (obl (decide (0 + (idJ i).toNat < cs.length) && true) (obl (decide ((0 : Int) ≤ idJ i ∧
 idJ i < (↑n : Int))) (obl (decide (0 + (idJ i).toNat < ds.length) && true) (obl (decide (R.lb.length + R.data.length + R.sum.length ≤ 9223372036854775000)) (branch (!decide (gErr R.st R.en R.id
 R.total R.typ R.k R.lb R.data R.sum = (0 : Int))) (Q (AExit.exit 0) (fE AVal.nils (f13 i)) (AHeap.mk 8 (fHx n (cs.set (idI i) (CutR.mk (cutI cs i).typ R.k2 R.b2 (cutI cs i).data R.at2 (cutI cs i).id))
 (ds.set (idI i) (BoolR.mk R.en)) fv [(6, ABlk.cells 70 [AVal.sl 7 0 1 0 F.L.length none, AVal.int IntKind.i64 sp, AVal.bool F.beg, AVal.int IntKind.i64 (↑F.k : Int), AVal.int IntKind.i64 F.lk,
 AVal.str F.lb]), (7, ABlk.row 5 byteRow F.L RowMd.plain)]))) (branch (decide (sp - (↑F.L.length : Int) < (↑(gEnc R.st R.en R.id R.total R.typ R.k R.lb R.data R.sum).length : Int))) (Q (AExit.exit 0)
 (fE AVal.nils (f13 i)) (AHeap.mk 8 (fHx n (cs.set (idI i) (CutR.mk (cutI cs i).typ R.k2 R.b2 (cutI cs i).data R.at2 (cutI cs i).id)) (ds.set (idI i) (BoolR.mk R.en)) fv [(6, ABlk.cells 70 [AVal.sl 7 0
 1 0 F.L.length none, AVal.int IntKind.i64 sp, AVal.bool F.beg, AVal.int IntKind.i64 (↑F.k : Int), AVal.int IntKind.i64 F.lk, AVal.str F.lb]), (7, ABlk.row 5 byteRow F.L RowMd.plain)]))) (branch
 (decide ((70000 : Int) ≤ (↑F.k : Int))) (Q (AExit.exit 0) (fE AVal.nils (f13 i)) (AHeap.mk 8 (fHx n (cs.set (idI i) (CutR.mk (cutI cs i).typ R.k2 R.b2 (cutI cs i).data R.at2 (cutI cs i).id)) (ds.set
 (idI i) (BoolR.mk R.en)) fv [(6, ABlk.cells 70 [AVal.sl 7 0 1 0 F.L.length none, AVal.int IntKind.i64 sp, AVal.bool F.beg, AVal.int IntKind.i64 (↑F.k : Int), AVal.int IntKind.i64 F.lk, AVal.str
 F.lb]), (7, ABlk.row 5 byteRow F.L RowMd.plain)]))) (obl (inI64 ((↑F.k : Int) + (1 : Int))) (obl (true && decide (F.L.length = F.L.length ∧ 1 = 1 ∧ 1 = 1 ∧ 0 < 1 ∧ (F.L ++ gEnc R.st R.en R.id R.total
 R.typ R.k R.lb R.data R.sum).length ≤ 9223372036854775807 ∧ (F.L ++ gEnc R.st R.en R.id R.total R.typ R.k R.lb R.data R.sum).length * 1 ≤ 140737488355328)) (branch F.beg (branch R.en (Q (AExit.exit 2)
 (fE (AVal.sl 7 0 1 0 1 none) (f13 i)) (AHeap.mk 9 (fHx n (cs.set (idI i) (CutR.mk (cutI cs i).typ R.k2 R.b2 (cutI cs i).data R.at2 (cutI cs i).id)) (ds.set (idI i) (BoolR.mk R.en)) fv [(6, ABlk.cells
 70 [AVal.sl 8 0 1 0 (F.L ++ gEnc R.st R.en R.id R.total R.typ R.k R.lb R.data R.sum).length none, AVal.int IntKind.i64 sp, AVal.bool true, AVal.int IntKind.i64 ((↑F.k : Int) + (1 : Int)), AVal.int
 IntKind.i64 F.lk, AVal.str F.lb]), (7, ABlk.row 33 (intRow IntKind.u64) [(↑i : Int) + (1 : Int)] RowMd.plain), (8, ABlk.row 5 byteRow (F.L ++ gEnc R.st R.en R.id R.total R.typ R.k R.lb R.data R.sum)
 RowMd.plain)]))) (Q AExit.normal (fE AVal.nils (f13 i)) (AHeap.mk 8 (fHx n (cs.set (idI i) (CutR.mk (cutI cs i).typ R.k2 R.b2 (cutI cs i).data R.at2 (cutI cs i).id)) (ds.set (idI i) (BoolR.mk R.en))
 fv [(6, ABlk.cells 70 [AVal.sl 7 0 1 0 (F.L ++ gEnc R.st R.en R.id R.total R.typ R.k R.lb R.data R.sum).length none, AVal.int IntKind.i64 sp, AVal.bool true, AVal.int IntKind.i64 ((↑F.k : Int) + (1 :
 Int)), AVal.int IntKind.i64 F.lk, AVal.str F.lb]), (7, ABlk.row 5 byteRow (F.L ++ gEnc R.st R.en R.id R.total R.typ R.k R.lb R.data R.sum) RowMd.plain)])))) (branch R.st (branch R.en (Q (AExit.exit 2)
 (fE (AVal.sl 7 0 1 0 1 none) (f13 i)) (AHeap.mk 9 (fHx n (cs.set (idI i) (CutR.mk (cutI cs i).typ R.k2 R.b2 (cutI cs i).data R.at2 (cutI cs i).id)) (ds.set (idI i) (BoolR.mk R.en)) fv [(6, ABlk.cells
 70 [AVal.sl 8 0 1 0 (F.L ++ gEnc R.st R.en R.id R.total R.typ R.k R.lb R.data R.sum).length none, AVal.int IntKind.i64 sp, AVal.bool !R.en, AVal.int IntKind.i64 ((↑F.k : Int) + (1 : Int)), AVal.int
 IntKind.i64 F.lk, AVal.str F.lb]), (7, ABlk.row 33 (intRow IntKind.u64) [(↑i : Int) + (1 : Int)] RowMd.plain), (8, ABlk.row 5 byteRow (F.L ++ gEnc R.st R.en R.id R.total R.typ R.k R.lb R.data R.sum)
 RowMd.plain)]))) (Q AExit.normal (fE AVal.nils (f13 i)) (AHeap.mk 8 (fHx n (cs.set (idI i) (CutR.mk (cutI cs i).typ R.k2 R.b2 (cutI cs i).data R.at2 (cutI cs i).id)) (ds.set (idI i) (BoolR.mk R.en))
 fv [(6, ABlk.cells 70 [AVal.sl 7 0 1 0 (F.L ++ gEnc R.st R.en R.id R.total R.typ R.k R.lb R.data R.sum).length none, AVal.int IntKind.i64 sp, AVal.bool !R.en, AVal.int IntKind.i64 ((↑F.k : Int) + (1 :
 Int)), AVal.int IntKind.i64 F.lk, AVal.str F.lb]), (7, ABlk.row 5 byteRow (F.L ++ gEnc R.st R.en R.id R.total R.typ R.k R.lb R.data R.sum) RowMd.plain)])))) (branch R.en (Q (AExit.exit 2) (fE (AVal.sl
 7 0 1 0 1 none) (f13 i)) (AHeap.mk 9 (fHx n (cs.set (idI i) (CutR.mk (cutI cs i).typ R.k2 R.b2 (cutI cs i).data R.at2 (cutI cs i).id)) (ds.set (idI i) (BoolR.mk R.en)) fv [(6, ABlk.cells 70 [AVal.sl 8
 0 1 0 (F.L ++ gEnc R.st R.en R.id R.total R.typ R.k R.lb R.data R.sum).length none, AVal.int IntKind.i64 sp, AVal.bool false, AVal.int IntKind.i64 ((↑F.k : Int) + (1 : Int)), AVal.int IntKind.i64
 F.lk, AVal.str F.lb]), (7, ABlk.row 33 (intRow IntKind.u64) [(↑i : Int) + (1 : Int)] RowMd.plain), (8, ABlk.row 5 byteRow (F.L ++ gEnc R.st R.en R.id R.total R.typ R.k R.lb R.data R.sum)
 RowMd.plain)]))) (Q AExit.normal (fE AVal.nils (f13 i)) (AHeap.mk 8 (fHx n (cs.set (idI i) (CutR.mk (cutI cs i).typ R.k2 R.b2 (cutI cs i).data R.at2 (cutI cs i).id)) (ds.set (idI i) (BoolR.mk R.en))
 fv [(6, ABlk.cells 70 [AVal.sl 7 0 1 0 (F.L ++ gEnc R.st R.en R.id R.total R.typ R.k R.lb R.data R.sum).length none, AVal.int IntKind.i64 sp, AVal.bool false, AVal.int IntKind.i64 ((↑F.k : Int) + (1 :
 Int)), AVal.int IntKind.i64 F.lk, AVal.str F.lb]), (7, ABlk.row 5 byteRow (F.L ++ gEnc R.st R.en R.id R.total R.typ R.k R.lb R.data R.sum) RowMd.plain)]))))))))))))))))))) (∀ (R : NextR), nextR (cutI
 cs i).typ (cutI cs i).k (cutI cs i).lb (cutI cs i).data (cutI cs i).pos (cutI cs i).id (cutI cs i).k (cutI cs i).lb (sp - (↑F.L.length : Int)) F.beg = R → branch (!decide (R.err = (0 : Int))) (branch
 (!decide (R.err = (0 : Int))) (Q (AExit.exit 0) (fE AVal.nils (f13 i)) (AHeap.mk 8 (fHx n cs ds fv [(6, ABlk.cells 70 [AVal.sl 7 0 1 0 F.L.length none, AVal.int IntKind.i64 sp, AVal.bool F.beg,
 AVal.int IntKind.i64 (↑F.k : Int), AVal.int IntKind.i64 F.lk, AVal.str F.lb]), (7, ABlk.row 5 byteRow F.L RowMd.plain)]))) (branch (decide (sp - (↑F.L.length : Int) < (3 : Int))) (Q (AExit.exit 0) (fE
 AVal.nils (f13 i)) (AHeap.mk 8 (fHx n cs ds fv [(6, ABlk.cells 70 [AVal.sl 7 0 1 0 F.L.length none, AVal.int IntKind.i64 sp, AVal.bool F.beg, AVal.int IntKind.i64 (↑F.k : Int), AVal.int IntKind.i64
 F.lk, AVal.str F.lb]), (7, ABlk.row 5 byteRow F.L RowMd.plain)]))) (branch (decide ((70000 : Int) ≤ (↑F.k : Int))) (Q (AExit.exit 0) (fE AVal.nils (f13 i)) (AHeap.mk 8 (fHx n cs ds fv [(6, ABlk.cells
 70 [AVal.sl 7 0 1 0 F.L.length none, AVal.int IntKind.i64 sp, AVal.bool F.beg, AVal.int IntKind.i64 (↑F.k : Int), AVal.int IntKind.i64 F.lk, AVal.str F.lb]), (7, ABlk.row 5 byteRow F.L
 RowMd.plain)]))) (obl (inI64 ((↑F.k : Int) + (1 : Int))) (obl (true && decide (F.L.length = F.L.length ∧ 1 = 1 ∧ 1 = 1 ∧ 0 < 1 ∧ (F.L ++ [(48 : UInt8), (1 : UInt8), (0 : UInt8)]).length ≤
 9223372036854775807 ∧ (F.L ++ [(48 : UInt8), (1 : UInt8), (0 : UInt8)]).length * 1 ≤ 140737488355328)) (branch F.beg (Q AExit.normal (fE AVal.nils (f13 i)) (AHeap.mk 8 (fHx n cs ds fv [(6, ABlk.cells
 70 [AVal.sl 7 0 1 0 (F.L ++ [(48 : UInt8), (1 : UInt8), (0 : UInt8)]).length none, AVal.int IntKind.i64 sp, AVal.bool true, AVal.int IntKind.i64 ((↑F.k : Int) + (1 : Int)), AVal.int IntKind.i64 F.lk,
 AVal.str F.lb]), (7, ABlk.row 5 byteRow (F.L ++ [(48 : UInt8), (1 : UInt8), (0 : UInt8)]) RowMd.plain)]))) (Q AExit.normal (fE AVal.nils (f13 i)) (AHeap.mk 8 (fHx n cs ds fv [(6, ABlk.cells 70
 [AVal.sl 7 0 1 0 (F.L ++ [(48 : UInt8), (1 : UInt8), (0 : UInt8)]).length none, AVal.int IntKind.i64 sp, AVal.bool false, AVal.int IntKind.i64 ((↑F.k : Int) + (1 : Int)), AVal.int IntKind.i64 F.lk,
 AVal.str F.lb]), (7, ABlk.row 5 byteRow (F.L ++ [(48 : UInt8), (1 : UInt8), (0 : UInt8)]) RowMd.plain)]))))))))) (obl (decide ((0 : Int) ≤ idJ i ∧ idJ i < (↑n : Int))) (obl (decide (0 + (idJ i).toNat
 < cs.length) && true) (obl (decide ((0 : Int) ≤ idJ i ∧ idJ i < (↑n : Int))) (obl (decide (0 + (idJ i).toNat < ds.length) && true) (obl (decide (R.lb.length + R.data.length + R.sum.length ≤
 9223372036854775000)) (branch (!decide (gErr R.st R.en R.id R.total R.typ R.k R.lb R.data R.sum = (0 : Int))) (Q (AExit.exit 0) (fE AVal.nils (f13 i)) (AHeap.mk 8 (fHx n (cs.set (idI i) (CutR.mk (cutI
 cs i).typ R.k2 R.b2 (cutI cs i).data R.at2 (cutI cs i).id)) (ds.set (idI i) (BoolR.mk R.en)) fv [(6, ABlk.cells 70 [AVal.sl 7 0 1 0 F.L.length none, AVal.int IntKind.i64 sp, AVal.bool F.beg, AVal.int
 IntKind.i64 (↑F.k : Int), AVal.int IntKind.i64 F.lk, AVal.str F.lb]), (7, ABlk.row 5 byteRow F.L RowMd.plain)]))) (branch (decide (sp - (↑F.L.length : Int) < (↑(gEnc R.st R.en R.id R.total R.typ R.k
 R.lb R.data R.sum).length : Int))) (Q (AExit.exit 0) (fE AVal.nils (f13 i)) (AHeap.mk 8 (fHx n (cs.set (idI i) (CutR.mk (cutI cs i).typ R.k2 R.b2 (cutI cs i).data R.at2 (cutI cs i).id)) (ds.set (idI
 i) (BoolR.mk R.en)) fv [(6, ABlk.cells 70 [AVal.sl 7 0 1 0 F.L.length none, AVal.int IntKind.i64 sp, AVal.bool F.beg, AVal.int IntKind.i64 (↑F.k : Int), AVal.int IntKind.i64 F.lk, AVal.str F.lb]), (7,
 ABlk.row 5 byteRow F.L RowMd.plain)]))) (branch (decide ((70000 : Int) ≤ (↑F.k : Int))) (Q (AExit.exit 0) (fE AVal.nils (f13 i)) (AHeap.mk 8 (fHx n (cs.set (idI i) (CutR.mk (cutI cs i).typ R.k2 R.b2
 (cutI cs i).data R.at2 (cutI cs i).id)) (ds.set (idI i) (BoolR.mk R.en)) fv [(6, ABlk.cells 70 [AVal.sl 7 0 1 0 F.L.length none, AVal.int IntKind.i64 sp, AVal.bool F.beg, AVal.int IntKind.i64 (↑F.k :
 Int), AVal.int IntKind.i64 F.lk, AVal.str F.lb]), (7, ABlk.row 5 byteRow F.L RowMd.plain)]))) (obl (inI64 ((↑F.k : Int) + (1 : Int))) (obl (true && decide (F.L.length = F.L.length ∧ 1 = 1 ∧ 1 = 1 ∧ 0
 < 1 ∧ (F.L ++ gEnc R.st R.en R.id R.total R.typ R.k R.lb R.data R.sum).length ≤ 9223372036854775807 ∧ (F.L ++ gEnc R.st R.en R.id R.total R.typ R.k R.lb R.data R.sum).length * 1 ≤ 140737488355328))
 (branch F.beg (branch R.en (Q (AExit.exit 2) (fE (AVal.sl 7 0 1 0 1 none) (f13 i)) (AHeap.mk 9 (fHx n (cs.set (idI i) (CutR.mk (cutI cs i).typ R.k2 R.b2 (cutI cs i).data R.at2 (cutI cs i).id)) (ds.set
 (idI i) (BoolR.mk R.en)) fv [(6, ABlk.cells 70 [AVal.sl 8 0 1 0 (F.L ++ gEnc R.st R.en R.id R.total R.typ R.k R.lb R.data R.sum).length none, AVal.int IntKind.i64 sp, AVal.bool true, AVal.int
 IntKind.i64 ((↑F.k : Int) + (1 : Int)), AVal.int IntKind.i64 F.lk, AVal.str F.lb]), (7, ABlk.row 33 (intRow IntKind.u64) [(↑i : Int) + (1 : Int)] RowMd.plain), (8, ABlk.row 5 byteRow (F.L ++ gEnc R.st
 R.en R.id R.total R.typ R.k R.lb R.data R.sum) RowMd.plain)]))) (Q AExit.normal (fE AVal.nils (f13 i)) (AHeap.mk 8 (fHx n (cs.set (idI i) (CutR.mk (cutI cs i).typ R.k2 R.b2 (cutI cs i).data R.at2
 (cutI cs i).id)) (ds.set (idI i) (BoolR.mk R.en)) fv [(6, ABlk.cells 70 [AVal.sl 7 0 1 0 (F.L ++ gEnc R.st R.en R.id R.total R.typ R.k R.lb R.data R.sum).length none, AVal.int IntKind.i64 sp,
 AVal.bool true, AVal.int IntKind.i64 ((↑F.k : Int) + (1 : Int)), AVal.int IntKind.i64 F.lk, AVal.str F.lb]), (7, ABlk.row 5 byteRow (F.L ++ gEnc R.st R.en R.id R.total R.typ R.k R.lb R.data R.sum)
 RowMd.plain)])))) (branch R.st (branch R.en (Q (AExit.exit 2) (fE (AVal.sl 7 0 1 0 1 none) (f13 i)) (AHeap.mk 9 (fHx n (cs.set (idI i) (CutR.mk (cutI cs i).typ R.k2 R.b2 (cutI cs i).data R.at2 (cutI
 cs i).id)) (ds.set (idI i) (BoolR.mk R.en)) fv [(6, ABlk.cells 70 [AVal.sl 8 0 1 0 (F.L ++ gEnc R.st R.en R.id R.total R.typ R.k R.lb R.data R.sum).length none, AVal.int IntKind.i64 sp, AVal.bool
 !R.en, AVal.int IntKind.i64 ((↑F.k : Int) + (1 : Int)), AVal.int IntKind.i64 F.lk, AVal.str F.lb]), (7, ABlk.row 33 (intRow IntKind.u64) [(↑i : Int) + (1 : Int)] RowMd.plain), (8, ABlk.row 5 byteRow
 (F.L ++ gEnc R.st R.en R.id R.total R.typ R.k R.lb R.data R.sum) RowMd.plain)]))) (Q AExit.normal (fE AVal.nils (f13 i)) (AHeap.mk 8 (fHx n (cs.set (idI i) (CutR.mk (cutI cs i).typ R.k2 R.b2 (cutI cs
 i).data R.at2 (cutI cs i).id)) (ds.set (idI i) (BoolR.mk R.en)) fv [(6, ABlk.cells 70 [AVal.sl 7 0 1 0 (F.L ++ gEnc R.st R.en R.id R.total R.typ R.k R.lb R.data R.sum).length none, AVal.int
 IntKind.i64 sp, AVal.bool !R.en, AVal.int IntKind.i64 ((↑F.k : Int) + (1 : Int)), AVal.int IntKind.i64 F.lk, AVal.str F.lb]), (7, ABlk.row 5 byteRow (F.L ++ gEnc R.st R.en R.id R.total R.typ R.k R.lb
 R.data R.sum) RowMd.plain)])))) (branch R.en (Q (AExit.exit 2) (fE (AVal.sl 7 0 1 0 1 none) (f13 i)) (AHeap.mk 9 (fHx n (cs.set (idI i) (CutR.mk (cutI cs i).typ R.k2 R.b2 (cutI cs i).data R.at2 (cutI
 cs i).id)) (ds.set (idI i) (BoolR.mk R.en)) fv [(6, ABlk.cells 70 [AVal.sl 8 0 1 0 (F.L ++ gEnc R.st R.en R.id R.total R.typ R.k R.lb R.data R.sum).length none, AVal.int IntKind.i64 sp, AVal.bool
 false, AVal.int IntKind.i64 ((↑F.k : Int) + (1 : Int)), AVal.int IntKind.i64 F.lk, AVal.str F.lb]), (7, ABlk.row 33 (intRow IntKind.u64) [(↑i : Int) + (1 : Int)] RowMd.plain), (8, ABlk.row 5 byteRow
 (F.L ++ gEnc R.st R.en R.id R.total R.typ R.k R.lb R.data R.sum) RowMd.plain)]))) (Q AExit.normal (fE AVal.nils (f13 i)) (AHeap.mk 8 (fHx n (cs.set (idI i) (CutR.mk (cutI cs i).typ R.k2 R.b2 (cutI cs
 i).data R.at2 (cutI cs i).id)) (ds.set (idI i) (BoolR.mk R.en)) fv [(6, ABlk.cells 70 [AVal.sl 7 0 1 0 (F.L ++ gEnc R.st R.en R.id R.total R.typ R.k R.lb R.data R.sum).length none, AVal.int
 IntKind.i64 sp, AVal.bool false, AVal.int IntKind.i64 ((↑F.k : Int) + (1 : Int)), AVal.int IntKind.i64 F.lk, AVal.str F.lb]), (7, ABlk.row 5 byteRow (F.L ++ gEnc R.st R.en R.id R.total R.typ R.k R.lb
 R.data R.sum) RowMd.plain)])))))))))))))))))))))))))) := by kernel_rfl
end Go.Proofs.Ytjacnjecggedhaa
