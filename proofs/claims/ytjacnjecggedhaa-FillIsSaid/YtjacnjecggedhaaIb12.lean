/-
  Texts for RowFillIs: of the reckoner, walks, contracts and plain laws that its row stands on.
-/
import Derived.Test.YtjacnjecggedhaaIb10
import Derived.Test.YtjacnjecggedhaaIb11
import Derived.Test.YtjacnjecggedhaaIb4
namespace Go.Proofs.Ytjacnjecggedhaa
set_option linter.unusedVariables false
set_option linter.unusedSimpArgs false
open Go.RowKit Ev
set_option maxRecDepth 100000 in
theorem w_allpre (s : List UInt8) (KK : Env → AHeap → Prop) : (wpC (TE.ctx Try.prog) 60 13 0 (seqL (bodyC Try.f13)) (env0 [.str s] 0) ⟨0, []⟩ (fun x E H => match x with | .normal => wpC (TE.ctx Try.prog) 60 13 0 (seqL (seqR (bodyC Try.f13))) E H (fun x E H => match x with | .normal => wpC (TE.ctx Try.prog) 60 13 0 (seqL (seqL (seqR (seqR (bodyC Try.f13))))) E H (fun x E H => match x with | .normal => KK E H | _ => False) | _ => False) | _ => False)
) =  (KK [(8, AVal.func 27 [] [AVal.ptr 3 0 0 0]), (7, AVal.str s), (4, AVal.ptr 2 0 0 0), (3, AVal.ptr 1 0 0 0), (2, AVal.ptr 0 0 0 0), (0, AVal.str s)] (AHeap.mk 4 [(3, ABlk.cells 9 [AVal.str s]), (2,
 ABlk.cells 39 [AVal.nils]), (1, ABlk.cells 40 [AVal.int IntKind.i64 (0 : Int)]), (0, ABlk.cells 39 [AVal.nils])])) := by kernel_rfl
end Go.Proofs.Ytjacnjecggedhaa
namespace Go.Proofs.Ytjacnjecggedhaa
set_option linter.unusedVariables false
set_option linter.unusedSimpArgs false
open Go.RowKit Ev
set_option maxRecDepth 100000 in
theorem w_allround_nil (s0 s : List UInt8) (QQ : AExit → Env → AHeap → Option Code → Prop) : (wpY (TE.ctx Try.prog) 4 (roundA (TE.ctx Try.prog) 60 13 ((8, .func 27 [] [.ptr 3 0 0 0]) :: (7, .str s0) :: (4, .ptr 2 0 0 0) :: (3, .ptr 1 0 0 0) :: (2, .ptr 0 0 0 0) :: (0, .str s0) :: []) [9, 10] (rfAssign (blkC (seqR (seqL (seqR (seqR (bodyC Try.f13))))))) (rfBody (blkC (seqR (seqL (seqR (seqR (bodyC Try.f13)))))))) 60 27 (lpC (blkC (bodyC Try.f27))) [(0, .yld 4), (1, .ptr 3 0 0 0)] ⟨6, [(3, .cells 9 [.str s]), (2, .cells 39 [.nils]), (1, .cells 40 [.int .i64 0]), (0, .cells 39 [.nils])]⟩ none QQ
) =  (obl (decide (s.length ≤ 9223372036854775000)) (branch (decide ((dec s).e = (5 : Int))) (QQ AExit.ret [(24, AVal.bool true), (23, AVal.tup []), (21, AVal.bool true), (22, AVal.tup []), (21, AVal.bool
 true), (21, AVal.bool true), (20, AVal.bool true), (19, AVal.tup []), (14, AVal.bool true), (18, AVal.tup []), (14, AVal.bool true), (17, AVal.tup []), (14, AVal.bool true), (16, AVal.tup []), (14,
 AVal.bool true), (15, AVal.tup []), (14, AVal.bool true), (14, AVal.bool (decide ((dec s).e = (5 : Int)))), (13, AVal.bool (decide ((dec s).e = (5 : Int)))), (12, AVal.int IntKind.i64 (dec s).e), (5,
 AVal.int IntKind.i64 (dec s).e), (4, AVal.int IntKind.i64 (dec s).n), (3, AVal.ptr 6 0 0 0), (11, AVal.int IntKind.i64 (dec s).e), (10, AVal.int IntKind.i64 (dec s).n), (9, AVal.agg [AVal.bool (dec
 s).p.st, AVal.bool (dec s).p.en, AVal.int IntKind.i64 (dec s).p.id, AVal.int IntKind.i64 (dec s).p.total, AVal.int IntKind.i64 (dec s).p.typ, AVal.int IntKind.i64 (dec s).p.k, AVal.str (dec s).p.lb,
 AVal.str (dec s).p.data, AVal.str (dec s).p.sum]), (6, AVal.tup [AVal.agg [AVal.bool (dec s).p.st, AVal.bool (dec s).p.en, AVal.int IntKind.i64 (dec s).p.id, AVal.int IntKind.i64 (dec s).p.total,
 AVal.int IntKind.i64 (dec s).p.typ, AVal.int IntKind.i64 (dec s).p.k, AVal.str (dec s).p.lb, AVal.str (dec s).p.data, AVal.str (dec s).p.sum], AVal.int IntKind.i64 (dec s).n, AVal.int IntKind.i64 (dec
 s).e]), (8, AVal.tup [AVal.agg [AVal.bool (dec s).p.st, AVal.bool (dec s).p.en, AVal.int IntKind.i64 (dec s).p.id, AVal.int IntKind.i64 (dec s).p.total, AVal.int IntKind.i64 (dec s).p.typ, AVal.int
 IntKind.i64 (dec s).p.k, AVal.str (dec s).p.lb, AVal.str (dec s).p.data, AVal.str (dec s).p.sum], AVal.int IntKind.i64 (dec s).n, AVal.int IntKind.i64 (dec s).e]), (7, AVal.str s), (0, AVal.yld 4),
 (1, AVal.ptr 3 0 0 0)] (AHeap.mk 7 [(6, ABlk.cells 46 [AVal.bool (dec s).p.st, AVal.bool (dec s).p.en, AVal.int IntKind.i64 (dec s).p.id, AVal.int IntKind.i64 (dec s).p.total, AVal.int IntKind.i64
 (dec s).p.typ, AVal.int IntKind.i64 (dec s).p.k, AVal.str (dec s).p.lb, AVal.str (dec s).p.data, AVal.str (dec s).p.sum]), (6, ABlk.cells 46 [AVal.bool false, AVal.bool false, AVal.int IntKind.i64 (0
 : Int), AVal.int IntKind.i64 (0 : Int), AVal.int IntKind.i64 (0 : Int), AVal.int IntKind.i64 (0 : Int), AVal.str [], AVal.str [], AVal.str []]), (3, ABlk.cells 9 [AVal.str s]), (2, ABlk.cells 39
 [AVal.nils]), (1, ABlk.cells 40 [AVal.int IntKind.i64 (0 : Int)]), (0, ABlk.cells 39 [AVal.nils])]) none) (branch (!decide ((dec s).e = (0 : Int))) (QQ AExit.ret [(24, AVal.bool true), (23, AVal.tup
 []), (21, AVal.bool true), (22, AVal.tup []), (21, AVal.bool true), (21, AVal.bool true), (20, AVal.bool true), (19, AVal.bool true), (14, AVal.bool false), (18, AVal.bool false), (14, AVal.bool
 false), (17, AVal.int IntKind.i64 (dec s).e), (14, AVal.bool false), (16, AVal.agg [AVal.bool (dec s).p.st, AVal.bool (dec s).p.en, AVal.int IntKind.i64 (dec s).p.id, AVal.int IntKind.i64 (dec
 s).p.total, AVal.int IntKind.i64 (dec s).p.typ, AVal.int IntKind.i64 (dec s).p.k, AVal.str (dec s).p.lb, AVal.str (dec s).p.data, AVal.str (dec s).p.sum]), (14, AVal.bool false), (15, AVal.yld 4),
 (14, AVal.bool false), (14, AVal.bool (decide ((dec s).e = (5 : Int)))), (13, AVal.bool (decide ((dec s).e = (5 : Int)))), (12, AVal.int IntKind.i64 (dec s).e), (5, AVal.int IntKind.i64 (dec s).e),
 (4, AVal.int IntKind.i64 (dec s).n), (3, AVal.ptr 6 0 0 0), (11, AVal.int IntKind.i64 (dec s).e), (10, AVal.int IntKind.i64 (dec s).n), (9, AVal.agg [AVal.bool (dec s).p.st, AVal.bool (dec s).p.en,
 AVal.int IntKind.i64 (dec s).p.id, AVal.int IntKind.i64 (dec s).p.total, AVal.int IntKind.i64 (dec s).p.typ, AVal.int IntKind.i64 (dec s).p.k, AVal.str (dec s).p.lb, AVal.str (dec s).p.data, AVal.str
 (dec s).p.sum]), (6, AVal.tup [AVal.agg [AVal.bool (dec s).p.st, AVal.bool (dec s).p.en, AVal.int IntKind.i64 (dec s).p.id, AVal.int IntKind.i64 (dec s).p.total, AVal.int IntKind.i64 (dec s).p.typ,
 AVal.int IntKind.i64 (dec s).p.k, AVal.str (dec s).p.lb, AVal.str (dec s).p.data, AVal.str (dec s).p.sum], AVal.int IntKind.i64 (dec s).n, AVal.int IntKind.i64 (dec s).e]), (8, AVal.tup [AVal.agg
 [AVal.bool (dec s).p.st, AVal.bool (dec s).p.en, AVal.int IntKind.i64 (dec s).p.id, AVal.int IntKind.i64 (dec s).p.total, AVal.int IntKind.i64 (dec s).p.typ, AVal.int IntKind.i64 (dec s).p.k, AVal.str
 (dec s).p.lb, AVal.str (dec s).p.data, AVal.str (dec s).p.sum], AVal.int IntKind.i64 (dec s).n, AVal.int IntKind.i64 (dec s).e]), (7, AVal.str s), (0, AVal.yld 4), (1, AVal.ptr 3 0 0 0)] (AHeap.mk 8
 [(1, ABlk.cells 40 [AVal.int IntKind.i64 (dec s).e]), (0, ABlk.cells 39 [AVal.nils]), (7, ABlk.cells 46 [AVal.bool (dec s).p.st, AVal.bool (dec s).p.en, AVal.int IntKind.i64 (dec s).p.id, AVal.int
 IntKind.i64 (dec s).p.total, AVal.int IntKind.i64 (dec s).p.typ, AVal.int IntKind.i64 (dec s).p.k, AVal.str (dec s).p.lb, AVal.str (dec s).p.data, AVal.str (dec s).p.sum]), (7, ABlk.cells 46
 [AVal.bool false, AVal.bool false, AVal.int IntKind.i64 (0 : Int), AVal.int IntKind.i64 (0 : Int), AVal.int IntKind.i64 (0 : Int), AVal.int IntKind.i64 (0 : Int), AVal.str [], AVal.str [], AVal.str
 []]), (6, ABlk.cells 46 [AVal.bool (dec s).p.st, AVal.bool (dec s).p.en, AVal.int IntKind.i64 (dec s).p.id, AVal.int IntKind.i64 (dec s).p.total, AVal.int IntKind.i64 (dec s).p.typ, AVal.int
 IntKind.i64 (dec s).p.k, AVal.str (dec s).p.lb, AVal.str (dec s).p.data, AVal.str (dec s).p.sum]), (6, ABlk.cells 46 [AVal.bool false, AVal.bool false, AVal.int IntKind.i64 (0 : Int), AVal.int
 IntKind.i64 (0 : Int), AVal.int IntKind.i64 (0 : Int), AVal.int IntKind.i64 (0 : Int), AVal.str [], AVal.str [], AVal.str []]), (3, ABlk.cells 9 [AVal.str s]), (2, ABlk.cells 39 [AVal.nils]), (1,
 ABlk.cells 40 [AVal.int IntKind.i64 (0 : Int)]), (0, ABlk.cells 39 [AVal.nils])]) (some Code.ret)) (branch (!decide ((dec s).e = (0 : Int))) (QQ AExit.ret [(24, AVal.bool !decide ((dec s).e = (0 :
 Int))), (23, AVal.bool !decide ((dec s).e = (0 : Int))), (21, AVal.bool false), (22, AVal.int IntKind.i64 (dec s).e), (21, AVal.bool false), (21, AVal.bool false), (20, AVal.bool false), (19,
 AVal.bool false), (14, AVal.bool false), (18, AVal.bool true), (14, AVal.bool false), (17, AVal.int IntKind.i64 (dec s).e), (14, AVal.bool false), (16, AVal.agg [AVal.bool (dec s).p.st, AVal.bool (dec
 s).p.en, AVal.int IntKind.i64 (dec s).p.id, AVal.int IntKind.i64 (dec s).p.total, AVal.int IntKind.i64 (dec s).p.typ, AVal.int IntKind.i64 (dec s).p.k, AVal.str (dec s).p.lb, AVal.str (dec s).p.data,
 AVal.str (dec s).p.sum]), (14, AVal.bool false), (15, AVal.yld 4), (14, AVal.bool false), (14, AVal.bool (decide ((dec s).e = (5 : Int)))), (13, AVal.bool (decide ((dec s).e = (5 : Int)))), (12,
 AVal.int IntKind.i64 (dec s).e), (5, AVal.int IntKind.i64 (dec s).e), (4, AVal.int IntKind.i64 (dec s).n), (3, AVal.ptr 6 0 0 0), (11, AVal.int IntKind.i64 (dec s).e), (10, AVal.int IntKind.i64 (dec
 s).n), (9, AVal.agg [AVal.bool (dec s).p.st, AVal.bool (dec s).p.en, AVal.int IntKind.i64 (dec s).p.id, AVal.int IntKind.i64 (dec s).p.total, AVal.int IntKind.i64 (dec s).p.typ, AVal.int IntKind.i64
 (dec s).p.k, AVal.str (dec s).p.lb, AVal.str (dec s).p.data, AVal.str (dec s).p.sum]), (6, AVal.tup [AVal.agg [AVal.bool (dec s).p.st, AVal.bool (dec s).p.en, AVal.int IntKind.i64 (dec s).p.id,
 AVal.int IntKind.i64 (dec s).p.total, AVal.int IntKind.i64 (dec s).p.typ, AVal.int IntKind.i64 (dec s).p.k, AVal.str (dec s).p.lb, AVal.str (dec s).p.data, AVal.str (dec s).p.sum], AVal.int
 IntKind.i64 (dec s).n, AVal.int IntKind.i64 (dec s).e]), (8, AVal.tup [AVal.agg [AVal.bool (dec s).p.st, AVal.bool (dec s).p.en, AVal.int IntKind.i64 (dec s).p.id, AVal.int IntKind.i64 (dec
 s).p.total, AVal.int IntKind.i64 (dec s).p.typ, AVal.int IntKind.i64 (dec s).p.k, AVal.str (dec s).p.lb, AVal.str (dec s).p.data, AVal.str (dec s).p.sum], AVal.int IntKind.i64 (dec s).n, AVal.int
 IntKind.i64 (dec s).e]), (7, AVal.str s), (0, AVal.yld 4), (1, AVal.ptr 3 0 0 0)] (AHeap.mk 10 [(2, ABlk.cells 39 [AVal.sl 9 0 9 0 1 none]), (9, ABlk.row 46 pieceRow [PieceR.mk (dec s).p.st (dec
 s).p.en (dec s).p.id (dec s).p.total (dec s).p.typ (dec s).p.k (dec s).p.lb (dec s).p.data (dec s).p.sum] RowMd.plain), (8, ABlk.cells 46 [AVal.bool (dec s).p.st, AVal.bool (dec s).p.en, AVal.int
 IntKind.i64 (dec s).p.id, AVal.int IntKind.i64 (dec s).p.total, AVal.int IntKind.i64 (dec s).p.typ, AVal.int IntKind.i64 (dec s).p.k, AVal.str (dec s).p.lb, AVal.str (dec s).p.data, AVal.str (dec
 s).p.sum]), (7, ABlk.cells 46 [AVal.bool (dec s).p.st, AVal.bool (dec s).p.en, AVal.int IntKind.i64 (dec s).p.id, AVal.int IntKind.i64 (dec s).p.total, AVal.int IntKind.i64 (dec s).p.typ, AVal.int
 IntKind.i64 (dec s).p.k, AVal.str (dec s).p.lb, AVal.str (dec s).p.data, AVal.str (dec s).p.sum]), (7, ABlk.cells 46 [AVal.bool false, AVal.bool false, AVal.int IntKind.i64 (0 : Int), AVal.int
 IntKind.i64 (0 : Int), AVal.int IntKind.i64 (0 : Int), AVal.int IntKind.i64 (0 : Int), AVal.str [], AVal.str [], AVal.str []]), (6, ABlk.cells 46 [AVal.bool (dec s).p.st, AVal.bool (dec s).p.en,
 AVal.int IntKind.i64 (dec s).p.id, AVal.int IntKind.i64 (dec s).p.total, AVal.int IntKind.i64 (dec s).p.typ, AVal.int IntKind.i64 (dec s).p.k, AVal.str (dec s).p.lb, AVal.str (dec s).p.data, AVal.str
 (dec s).p.sum]), (6, ABlk.cells 46 [AVal.bool false, AVal.bool false, AVal.int IntKind.i64 (0 : Int), AVal.int IntKind.i64 (0 : Int), AVal.int IntKind.i64 (0 : Int), AVal.int IntKind.i64 (0 : Int),
 AVal.str [], AVal.str [], AVal.str []]), (3, ABlk.cells 9 [AVal.str s]), (2, ABlk.cells 39 [AVal.nils]), (1, ABlk.cells 40 [AVal.int IntKind.i64 (0 : Int)]), (0, ABlk.cells 39 [AVal.nils])]) none)
 (obl (decide ((0 : Int) ≤ (dec s).n ∧ (dec s).n ≤ (↑s.length : Int))) (QQ AExit.normal [(27, AVal.str (List.drop (dec s).n.toNat s)), (26, AVal.int IntKind.i64 (dec s).n), (25, AVal.str s), (24,
 AVal.bool !decide ((dec s).e = (0 : Int))), (23, AVal.bool !decide ((dec s).e = (0 : Int))), (21, AVal.bool false), (22, AVal.int IntKind.i64 (dec s).e), (21, AVal.bool false), (21, AVal.bool false),
 (20, AVal.bool false), (19, AVal.bool false), (14, AVal.bool false), (18, AVal.bool true), (14, AVal.bool false), (17, AVal.int IntKind.i64 (dec s).e), (14, AVal.bool false), (16, AVal.agg [AVal.bool
 (dec s).p.st, AVal.bool (dec s).p.en, AVal.int IntKind.i64 (dec s).p.id, AVal.int IntKind.i64 (dec s).p.total, AVal.int IntKind.i64 (dec s).p.typ, AVal.int IntKind.i64 (dec s).p.k, AVal.str (dec
 s).p.lb, AVal.str (dec s).p.data, AVal.str (dec s).p.sum]), (14, AVal.bool false), (15, AVal.yld 4), (14, AVal.bool false), (14, AVal.bool (decide ((dec s).e = (5 : Int)))), (13, AVal.bool (decide
 ((dec s).e = (5 : Int)))), (12, AVal.int IntKind.i64 (dec s).e), (5, AVal.int IntKind.i64 (dec s).e), (4, AVal.int IntKind.i64 (dec s).n), (3, AVal.ptr 6 0 0 0), (11, AVal.int IntKind.i64 (dec s).e),
 (10, AVal.int IntKind.i64 (dec s).n), (9, AVal.agg [AVal.bool (dec s).p.st, AVal.bool (dec s).p.en, AVal.int IntKind.i64 (dec s).p.id, AVal.int IntKind.i64 (dec s).p.total, AVal.int IntKind.i64 (dec
 s).p.typ, AVal.int IntKind.i64 (dec s).p.k, AVal.str (dec s).p.lb, AVal.str (dec s).p.data, AVal.str (dec s).p.sum]), (6, AVal.tup [AVal.agg [AVal.bool (dec s).p.st, AVal.bool (dec s).p.en, AVal.int
 IntKind.i64 (dec s).p.id, AVal.int IntKind.i64 (dec s).p.total, AVal.int IntKind.i64 (dec s).p.typ, AVal.int IntKind.i64 (dec s).p.k, AVal.str (dec s).p.lb, AVal.str (dec s).p.data, AVal.str (dec
 s).p.sum], AVal.int IntKind.i64 (dec s).n, AVal.int IntKind.i64 (dec s).e]), (8, AVal.tup [AVal.agg [AVal.bool (dec s).p.st, AVal.bool (dec s).p.en, AVal.int IntKind.i64 (dec s).p.id, AVal.int
 IntKind.i64 (dec s).p.total, AVal.int IntKind.i64 (dec s).p.typ, AVal.int IntKind.i64 (dec s).p.k, AVal.str (dec s).p.lb, AVal.str (dec s).p.data, AVal.str (dec s).p.sum], AVal.int IntKind.i64 (dec
 s).n, AVal.int IntKind.i64 (dec s).e]), (7, AVal.str s), (0, AVal.yld 4), (1, AVal.ptr 3 0 0 0)] (AHeap.mk 10 [(3, ABlk.cells 9 [AVal.str (List.drop (dec s).n.toNat s)]), (2, ABlk.cells 39 [AVal.sl 9
 0 9 0 1 none]), (9, ABlk.row 46 pieceRow [PieceR.mk (dec s).p.st (dec s).p.en (dec s).p.id (dec s).p.total (dec s).p.typ (dec s).p.k (dec s).p.lb (dec s).p.data (dec s).p.sum] RowMd.plain), (8,
 ABlk.cells 46 [AVal.bool (dec s).p.st, AVal.bool (dec s).p.en, AVal.int IntKind.i64 (dec s).p.id, AVal.int IntKind.i64 (dec s).p.total, AVal.int IntKind.i64 (dec s).p.typ, AVal.int IntKind.i64 (dec
 s).p.k, AVal.str (dec s).p.lb, AVal.str (dec s).p.data, AVal.str (dec s).p.sum]), (7, ABlk.cells 46 [AVal.bool (dec s).p.st, AVal.bool (dec s).p.en, AVal.int IntKind.i64 (dec s).p.id, AVal.int
 IntKind.i64 (dec s).p.total, AVal.int IntKind.i64 (dec s).p.typ, AVal.int IntKind.i64 (dec s).p.k, AVal.str (dec s).p.lb, AVal.str (dec s).p.data, AVal.str (dec s).p.sum]), (7, ABlk.cells 46
 [AVal.bool false, AVal.bool false, AVal.int IntKind.i64 (0 : Int), AVal.int IntKind.i64 (0 : Int), AVal.int IntKind.i64 (0 : Int), AVal.int IntKind.i64 (0 : Int), AVal.str [], AVal.str [], AVal.str
 []]), (6, ABlk.cells 46 [AVal.bool (dec s).p.st, AVal.bool (dec s).p.en, AVal.int IntKind.i64 (dec s).p.id, AVal.int IntKind.i64 (dec s).p.total, AVal.int IntKind.i64 (dec s).p.typ, AVal.int
 IntKind.i64 (dec s).p.k, AVal.str (dec s).p.lb, AVal.str (dec s).p.data, AVal.str (dec s).p.sum]), (6, ABlk.cells 46 [AVal.bool false, AVal.bool false, AVal.int IntKind.i64 (0 : Int), AVal.int
 IntKind.i64 (0 : Int), AVal.int IntKind.i64 (0 : Int), AVal.int IntKind.i64 (0 : Int), AVal.str [], AVal.str [], AVal.str []]), (3, ABlk.cells 9 [AVal.str s]), (2, ABlk.cells 39 [AVal.nils]), (1,
 ABlk.cells 40 [AVal.int IntKind.i64 (0 : Int)]), (0, ABlk.cells 39 [AVal.nils])]) none)))))) := by kernel_rfl
set_option maxRecDepth 100000 in
theorem w_allround_cons (s0 s : List UInt8) (acc : List PieceR) (QQ : AExit → Env → AHeap → Option Code → Prop) : (wpY (TE.ctx Try.prog) 4 (roundA (TE.ctx Try.prog) 60 13 ((8, .func 27 [] [.ptr 3 0 0 0]) :: (7, .str s0) :: (4, .ptr 2 0 0 0) :: (3, .ptr 1 0 0 0) :: (2, .ptr 0 0 0 0) :: (0, .str s0) :: []) [9, 10] (rfAssign (blkC (seqR (seqL (seqR (seqR (bodyC Try.f13))))))) (rfBody (blkC (seqR (seqL (seqR (seqR (bodyC Try.f13)))))))) 60 27 (lpC (blkC (bodyC Try.f27))) [(0, .yld 4), (1, .ptr 3 0 0 0)] ⟨6, [(5, .row 46 pieceRow acc .plain), (3, .cells 9 [.str s]), (2, .cells 39 [.sl 5 0 9 0 acc.length none]), (1, .cells 40 [.int .i64 0]), (0, .cells 39 [.nils])]⟩ none QQ
) =  (obl (decide (s.length ≤ 9223372036854775000)) (branch (decide ((dec s).e = (5 : Int))) (QQ AExit.ret [(24, AVal.bool true), (23, AVal.tup []), (21, AVal.bool true), (22, AVal.tup []), (21, AVal.bool
 true), (21, AVal.bool true), (20, AVal.bool true), (19, AVal.tup []), (14, AVal.bool true), (18, AVal.tup []), (14, AVal.bool true), (17, AVal.tup []), (14, AVal.bool true), (16, AVal.tup []), (14,
 AVal.bool true), (15, AVal.tup []), (14, AVal.bool true), (14, AVal.bool (decide ((dec s).e = (5 : Int)))), (13, AVal.bool (decide ((dec s).e = (5 : Int)))), (12, AVal.int IntKind.i64 (dec s).e), (5,
 AVal.int IntKind.i64 (dec s).e), (4, AVal.int IntKind.i64 (dec s).n), (3, AVal.ptr 6 0 0 0), (11, AVal.int IntKind.i64 (dec s).e), (10, AVal.int IntKind.i64 (dec s).n), (9, AVal.agg [AVal.bool (dec
 s).p.st, AVal.bool (dec s).p.en, AVal.int IntKind.i64 (dec s).p.id, AVal.int IntKind.i64 (dec s).p.total, AVal.int IntKind.i64 (dec s).p.typ, AVal.int IntKind.i64 (dec s).p.k, AVal.str (dec s).p.lb,
 AVal.str (dec s).p.data, AVal.str (dec s).p.sum]), (6, AVal.tup [AVal.agg [AVal.bool (dec s).p.st, AVal.bool (dec s).p.en, AVal.int IntKind.i64 (dec s).p.id, AVal.int IntKind.i64 (dec s).p.total,
 AVal.int IntKind.i64 (dec s).p.typ, AVal.int IntKind.i64 (dec s).p.k, AVal.str (dec s).p.lb, AVal.str (dec s).p.data, AVal.str (dec s).p.sum], AVal.int IntKind.i64 (dec s).n, AVal.int IntKind.i64 (dec
 s).e]), (8, AVal.tup [AVal.agg [AVal.bool (dec s).p.st, AVal.bool (dec s).p.en, AVal.int IntKind.i64 (dec s).p.id, AVal.int IntKind.i64 (dec s).p.total, AVal.int IntKind.i64 (dec s).p.typ, AVal.int
 IntKind.i64 (dec s).p.k, AVal.str (dec s).p.lb, AVal.str (dec s).p.data, AVal.str (dec s).p.sum], AVal.int IntKind.i64 (dec s).n, AVal.int IntKind.i64 (dec s).e]), (7, AVal.str s), (0, AVal.yld 4),
 (1, AVal.ptr 3 0 0 0)] (AHeap.mk 7 [(6, ABlk.cells 46 [AVal.bool (dec s).p.st, AVal.bool (dec s).p.en, AVal.int IntKind.i64 (dec s).p.id, AVal.int IntKind.i64 (dec s).p.total, AVal.int IntKind.i64
 (dec s).p.typ, AVal.int IntKind.i64 (dec s).p.k, AVal.str (dec s).p.lb, AVal.str (dec s).p.data, AVal.str (dec s).p.sum]), (6, ABlk.cells 46 [AVal.bool false, AVal.bool false, AVal.int IntKind.i64 (0
 : Int), AVal.int IntKind.i64 (0 : Int), AVal.int IntKind.i64 (0 : Int), AVal.int IntKind.i64 (0 : Int), AVal.str [], AVal.str [], AVal.str []]), (5, ABlk.row 46 pieceRow acc RowMd.plain), (3,
 ABlk.cells 9 [AVal.str s]), (2, ABlk.cells 39 [AVal.sl 5 0 9 0 acc.length none]), (1, ABlk.cells 40 [AVal.int IntKind.i64 (0 : Int)]), (0, ABlk.cells 39 [AVal.nils])]) none) (branch (!decide ((dec
 s).e = (0 : Int))) (QQ AExit.ret [(24, AVal.bool true), (23, AVal.tup []), (21, AVal.bool true), (22, AVal.tup []), (21, AVal.bool true), (21, AVal.bool true), (20, AVal.bool true), (19, AVal.bool
 true), (14, AVal.bool false), (18, AVal.bool false), (14, AVal.bool false), (17, AVal.int IntKind.i64 (dec s).e), (14, AVal.bool false), (16, AVal.agg [AVal.bool (dec s).p.st, AVal.bool (dec s).p.en,
 AVal.int IntKind.i64 (dec s).p.id, AVal.int IntKind.i64 (dec s).p.total, AVal.int IntKind.i64 (dec s).p.typ, AVal.int IntKind.i64 (dec s).p.k, AVal.str (dec s).p.lb, AVal.str (dec s).p.data, AVal.str
 (dec s).p.sum]), (14, AVal.bool false), (15, AVal.yld 4), (14, AVal.bool false), (14, AVal.bool (decide ((dec s).e = (5 : Int)))), (13, AVal.bool (decide ((dec s).e = (5 : Int)))), (12, AVal.int
 IntKind.i64 (dec s).e), (5, AVal.int IntKind.i64 (dec s).e), (4, AVal.int IntKind.i64 (dec s).n), (3, AVal.ptr 6 0 0 0), (11, AVal.int IntKind.i64 (dec s).e), (10, AVal.int IntKind.i64 (dec s).n), (9,
 AVal.agg [AVal.bool (dec s).p.st, AVal.bool (dec s).p.en, AVal.int IntKind.i64 (dec s).p.id, AVal.int IntKind.i64 (dec s).p.total, AVal.int IntKind.i64 (dec s).p.typ, AVal.int IntKind.i64 (dec s).p.k,
 AVal.str (dec s).p.lb, AVal.str (dec s).p.data, AVal.str (dec s).p.sum]), (6, AVal.tup [AVal.agg [AVal.bool (dec s).p.st, AVal.bool (dec s).p.en, AVal.int IntKind.i64 (dec s).p.id, AVal.int
 IntKind.i64 (dec s).p.total, AVal.int IntKind.i64 (dec s).p.typ, AVal.int IntKind.i64 (dec s).p.k, AVal.str (dec s).p.lb, AVal.str (dec s).p.data, AVal.str (dec s).p.sum], AVal.int IntKind.i64 (dec
 s).n, AVal.int IntKind.i64 (dec s).e]), (8, AVal.tup [AVal.agg [AVal.bool (dec s).p.st, AVal.bool (dec s).p.en, AVal.int IntKind.i64 (dec s).p.id, AVal.int IntKind.i64 (dec s).p.total, AVal.int
 IntKind.i64 (dec s).p.typ, AVal.int IntKind.i64 (dec s).p.k, AVal.str (dec s).p.lb, AVal.str (dec s).p.data, AVal.str (dec s).p.sum], AVal.int IntKind.i64 (dec s).n, AVal.int IntKind.i64 (dec s).e]),
 (7, AVal.str s), (0, AVal.yld 4), (1, AVal.ptr 3 0 0 0)] (AHeap.mk 8 [(1, ABlk.cells 40 [AVal.int IntKind.i64 (dec s).e]), (0, ABlk.cells 39 [AVal.sl 5 0 9 0 acc.length none]), (7, ABlk.cells 46
 [AVal.bool (dec s).p.st, AVal.bool (dec s).p.en, AVal.int IntKind.i64 (dec s).p.id, AVal.int IntKind.i64 (dec s).p.total, AVal.int IntKind.i64 (dec s).p.typ, AVal.int IntKind.i64 (dec s).p.k, AVal.str
 (dec s).p.lb, AVal.str (dec s).p.data, AVal.str (dec s).p.sum]), (7, ABlk.cells 46 [AVal.bool false, AVal.bool false, AVal.int IntKind.i64 (0 : Int), AVal.int IntKind.i64 (0 : Int), AVal.int
 IntKind.i64 (0 : Int), AVal.int IntKind.i64 (0 : Int), AVal.str [], AVal.str [], AVal.str []]), (6, ABlk.cells 46 [AVal.bool (dec s).p.st, AVal.bool (dec s).p.en, AVal.int IntKind.i64 (dec s).p.id,
 AVal.int IntKind.i64 (dec s).p.total, AVal.int IntKind.i64 (dec s).p.typ, AVal.int IntKind.i64 (dec s).p.k, AVal.str (dec s).p.lb, AVal.str (dec s).p.data, AVal.str (dec s).p.sum]), (6, ABlk.cells 46
 [AVal.bool false, AVal.bool false, AVal.int IntKind.i64 (0 : Int), AVal.int IntKind.i64 (0 : Int), AVal.int IntKind.i64 (0 : Int), AVal.int IntKind.i64 (0 : Int), AVal.str [], AVal.str [], AVal.str
 []]), (5, ABlk.row 46 pieceRow acc RowMd.plain), (3, ABlk.cells 9 [AVal.str s]), (2, ABlk.cells 39 [AVal.sl 5 0 9 0 acc.length none]), (1, ABlk.cells 40 [AVal.int IntKind.i64 (0 : Int)]), (0,
 ABlk.cells 39 [AVal.nils])]) (some Code.ret)) (obl (true && decide (acc.length = acc.length ∧ 9 = 9 ∧ 9 = 9 ∧ 0 < 9 ∧ (acc ++ [PieceR.mk (dec s).p.st (dec s).p.en (dec s).p.id (dec s).p.total (dec
 s).p.typ (dec s).p.k (dec s).p.lb (dec s).p.data (dec s).p.sum]).length ≤ 9223372036854775807 ∧ (acc ++ [PieceR.mk (dec s).p.st (dec s).p.en (dec s).p.id (dec s).p.total (dec s).p.typ (dec s).p.k (dec
 s).p.lb (dec s).p.data (dec s).p.sum]).length * 88 ≤ 140737488355328)) (branch (!decide ((dec s).e = (0 : Int))) (QQ AExit.ret [(24, AVal.bool !decide ((dec s).e = (0 : Int))), (23, AVal.bool !decide
 ((dec s).e = (0 : Int))), (21, AVal.bool false), (22, AVal.int IntKind.i64 (dec s).e), (21, AVal.bool false), (21, AVal.bool false), (20, AVal.bool false), (19, AVal.bool false), (14, AVal.bool
 false), (18, AVal.bool true), (14, AVal.bool false), (17, AVal.int IntKind.i64 (dec s).e), (14, AVal.bool false), (16, AVal.agg [AVal.bool (dec s).p.st, AVal.bool (dec s).p.en, AVal.int IntKind.i64
 (dec s).p.id, AVal.int IntKind.i64 (dec s).p.total, AVal.int IntKind.i64 (dec s).p.typ, AVal.int IntKind.i64 (dec s).p.k, AVal.str (dec s).p.lb, AVal.str (dec s).p.data, AVal.str (dec s).p.sum]), (14,
 AVal.bool false), (15, AVal.yld 4), (14, AVal.bool false), (14, AVal.bool (decide ((dec s).e = (5 : Int)))), (13, AVal.bool (decide ((dec s).e = (5 : Int)))), (12, AVal.int IntKind.i64 (dec s).e), (5,
 AVal.int IntKind.i64 (dec s).e), (4, AVal.int IntKind.i64 (dec s).n), (3, AVal.ptr 6 0 0 0), (11, AVal.int IntKind.i64 (dec s).e), (10, AVal.int IntKind.i64 (dec s).n), (9, AVal.agg [AVal.bool (dec
 s).p.st, AVal.bool (dec s).p.en, AVal.int IntKind.i64 (dec s).p.id, AVal.int IntKind.i64 (dec s).p.total, AVal.int IntKind.i64 (dec s).p.typ, AVal.int IntKind.i64 (dec s).p.k, AVal.str (dec s).p.lb,
 AVal.str (dec s).p.data, AVal.str (dec s).p.sum]), (6, AVal.tup [AVal.agg [AVal.bool (dec s).p.st, AVal.bool (dec s).p.en, AVal.int IntKind.i64 (dec s).p.id, AVal.int IntKind.i64 (dec s).p.total,
 AVal.int IntKind.i64 (dec s).p.typ, AVal.int IntKind.i64 (dec s).p.k, AVal.str (dec s).p.lb, AVal.str (dec s).p.data, AVal.str (dec s).p.sum], AVal.int IntKind.i64 (dec s).n, AVal.int IntKind.i64 (dec
 s).e]), (8, AVal.tup [AVal.agg [AVal.bool (dec s).p.st, AVal.bool (dec s).p.en, AVal.int IntKind.i64 (dec s).p.id, AVal.int IntKind.i64 (dec s).p.total, AVal.int IntKind.i64 (dec s).p.typ, AVal.int
 IntKind.i64 (dec s).p.k, AVal.str (dec s).p.lb, AVal.str (dec s).p.data, AVal.str (dec s).p.sum], AVal.int IntKind.i64 (dec s).n, AVal.int IntKind.i64 (dec s).e]), (7, AVal.str s), (0, AVal.yld 4),
 (1, AVal.ptr 3 0 0 0)] (AHeap.mk 10 [(2, ABlk.cells 39 [AVal.sl 9 0 9 0 (acc ++ [PieceR.mk (dec s).p.st (dec s).p.en (dec s).p.id (dec s).p.total (dec s).p.typ (dec s).p.k (dec s).p.lb (dec s).p.data
 (dec s).p.sum]).length none]), (9, ABlk.row 46 pieceRow (acc ++ [PieceR.mk (dec s).p.st (dec s).p.en (dec s).p.id (dec s).p.total (dec s).p.typ (dec s).p.k (dec s).p.lb (dec s).p.data (dec s).p.sum])
 RowMd.plain), (5, ABlk.dead), (8, ABlk.cells 46 [AVal.bool (dec s).p.st, AVal.bool (dec s).p.en, AVal.int IntKind.i64 (dec s).p.id, AVal.int IntKind.i64 (dec s).p.total, AVal.int IntKind.i64 (dec
 s).p.typ, AVal.int IntKind.i64 (dec s).p.k, AVal.str (dec s).p.lb, AVal.str (dec s).p.data, AVal.str (dec s).p.sum]), (7, ABlk.cells 46 [AVal.bool (dec s).p.st, AVal.bool (dec s).p.en, AVal.int
 IntKind.i64 (dec s).p.id, AVal.int IntKind.i64 (dec s).p.total, AVal.int IntKind.i64 (dec s).p.typ, AVal.int IntKind.i64 (dec s).p.k, AVal.str (dec s).p.lb, AVal.str (dec s).p.data, AVal.str (dec
 s).p.sum]), (7, ABlk.cells 46 [AVal.bool false, AVal.bool false, AVal.int IntKind.i64 (0 : Int), AVal.int IntKind.i64 (0 : Int), AVal.int IntKind.i64 (0 : Int), AVal.int IntKind.i64 (0 : Int),
 AVal.str [], AVal.str [], AVal.str []]), (6, ABlk.cells 46 [AVal.bool (dec s).p.st, AVal.bool (dec s).p.en, AVal.int IntKind.i64 (dec s).p.id, AVal.int IntKind.i64 (dec s).p.total, AVal.int
 IntKind.i64 (dec s).p.typ, AVal.int IntKind.i64 (dec s).p.k, AVal.str (dec s).p.lb, AVal.str (dec s).p.data, AVal.str (dec s).p.sum]), (6, ABlk.cells 46 [AVal.bool false, AVal.bool false, AVal.int
 IntKind.i64 (0 : Int), AVal.int IntKind.i64 (0 : Int), AVal.int IntKind.i64 (0 : Int), AVal.int IntKind.i64 (0 : Int), AVal.str [], AVal.str [], AVal.str []]), (5, ABlk.row 46 pieceRow acc
 RowMd.plain), (3, ABlk.cells 9 [AVal.str s]), (2, ABlk.cells 39 [AVal.sl 5 0 9 0 acc.length none]), (1, ABlk.cells 40 [AVal.int IntKind.i64 (0 : Int)]), (0, ABlk.cells 39 [AVal.nils])]) none) (obl
 (decide ((0 : Int) ≤ (dec s).n ∧ (dec s).n ≤ (↑s.length : Int))) (QQ AExit.normal [(27, AVal.str (List.drop (dec s).n.toNat s)), (26, AVal.int IntKind.i64 (dec s).n), (25, AVal.str s), (24, AVal.bool
 !decide ((dec s).e = (0 : Int))), (23, AVal.bool !decide ((dec s).e = (0 : Int))), (21, AVal.bool false), (22, AVal.int IntKind.i64 (dec s).e), (21, AVal.bool false), (21, AVal.bool false), (20,
 AVal.bool false), (19, AVal.bool false), (14, AVal.bool false), (18, AVal.bool true), (14, AVal.bool false), (17, AVal.int IntKind.i64 (dec s).e), (14, AVal.bool false), (16, AVal.agg [AVal.bool (dec
 s).p.st, AVal.bool (dec s).p.en, AVal.int IntKind.i64 (dec s).p.id, AVal.int IntKind.i64 (dec s).p.total, AVal.int IntKind.i64 (dec s).p.typ, AVal.int IntKind.i64 (dec s).p.k, AVal.str (dec s).p.lb,
 AVal.str (dec s).p.data, AVal.str (dec s).p.sum]), (14, AVal.bool false), (15, AVal.yld 4), (14, AVal.bool false), (14, AVal.bool (decide ((dec s).e = (5 : Int)))), (13, AVal.bool (decide ((dec s).e =
 (5 : Int)))), (12, AVal.int IntKind.i64 (dec s).e), (5, AVal.int IntKind.i64 (dec s).e), (4, AVal.int IntKind.i64 (dec s).n), (3, AVal.ptr 6 0 0 0), (11, AVal.int IntKind.i64 (dec s).e), (10, AVal.int
 IntKind.i64 (dec s).n), (9, AVal.agg [AVal.bool (dec s).p.st, AVal.bool (dec s).p.en, AVal.int IntKind.i64 (dec s).p.id, AVal.int IntKind.i64 (dec s).p.total, AVal.int IntKind.i64 (dec s).p.typ,
 AVal.int IntKind.i64 (dec s).p.k, AVal.str (dec s).p.lb, AVal.str (dec s).p.data, AVal.str (dec s).p.sum]), (6, AVal.tup [AVal.agg [AVal.bool (dec s).p.st, AVal.bool (dec s).p.en, AVal.int IntKind.i64
 (dec s).p.id, AVal.int IntKind.i64 (dec s).p.total, AVal.int IntKind.i64 (dec s).p.typ, AVal.int IntKind.i64 (dec s).p.k, AVal.str (dec s).p.lb, AVal.str (dec s).p.data, AVal.str (dec s).p.sum],
 AVal.int IntKind.i64 (dec s).n, AVal.int IntKind.i64 (dec s).e]), (8, AVal.tup [AVal.agg [AVal.bool (dec s).p.st, AVal.bool (dec s).p.en, AVal.int IntKind.i64 (dec s).p.id, AVal.int IntKind.i64 (dec
 s).p.total, AVal.int IntKind.i64 (dec s).p.typ, AVal.int IntKind.i64 (dec s).p.k, AVal.str (dec s).p.lb, AVal.str (dec s).p.data, AVal.str (dec s).p.sum], AVal.int IntKind.i64 (dec s).n, AVal.int
 IntKind.i64 (dec s).e]), (7, AVal.str s), (0, AVal.yld 4), (1, AVal.ptr 3 0 0 0)] (AHeap.mk 10 [(3, ABlk.cells 9 [AVal.str (List.drop (dec s).n.toNat s)]), (2, ABlk.cells 39 [AVal.sl 9 0 9 0 (acc ++
 [PieceR.mk (dec s).p.st (dec s).p.en (dec s).p.id (dec s).p.total (dec s).p.typ (dec s).p.k (dec s).p.lb (dec s).p.data (dec s).p.sum]).length none]), (9, ABlk.row 46 pieceRow (acc ++ [PieceR.mk (dec
 s).p.st (dec s).p.en (dec s).p.id (dec s).p.total (dec s).p.typ (dec s).p.k (dec s).p.lb (dec s).p.data (dec s).p.sum]) RowMd.plain), (5, ABlk.dead), (8, ABlk.cells 46 [AVal.bool (dec s).p.st,
 AVal.bool (dec s).p.en, AVal.int IntKind.i64 (dec s).p.id, AVal.int IntKind.i64 (dec s).p.total, AVal.int IntKind.i64 (dec s).p.typ, AVal.int IntKind.i64 (dec s).p.k, AVal.str (dec s).p.lb, AVal.str
 (dec s).p.data, AVal.str (dec s).p.sum]), (7, ABlk.cells 46 [AVal.bool (dec s).p.st, AVal.bool (dec s).p.en, AVal.int IntKind.i64 (dec s).p.id, AVal.int IntKind.i64 (dec s).p.total, AVal.int
 IntKind.i64 (dec s).p.typ, AVal.int IntKind.i64 (dec s).p.k, AVal.str (dec s).p.lb, AVal.str (dec s).p.data, AVal.str (dec s).p.sum]), (7, ABlk.cells 46 [AVal.bool false, AVal.bool false, AVal.int
 IntKind.i64 (0 : Int), AVal.int IntKind.i64 (0 : Int), AVal.int IntKind.i64 (0 : Int), AVal.int IntKind.i64 (0 : Int), AVal.str [], AVal.str [], AVal.str []]), (6, ABlk.cells 46 [AVal.bool (dec
 s).p.st, AVal.bool (dec s).p.en, AVal.int IntKind.i64 (dec s).p.id, AVal.int IntKind.i64 (dec s).p.total, AVal.int IntKind.i64 (dec s).p.typ, AVal.int IntKind.i64 (dec s).p.k, AVal.str (dec s).p.lb,
 AVal.str (dec s).p.data, AVal.str (dec s).p.sum]), (6, ABlk.cells 46 [AVal.bool false, AVal.bool false, AVal.int IntKind.i64 (0 : Int), AVal.int IntKind.i64 (0 : Int), AVal.int IntKind.i64 (0 : Int),
 AVal.int IntKind.i64 (0 : Int), AVal.str [], AVal.str [], AVal.str []]), (5, ABlk.row 46 pieceRow acc RowMd.plain), (3, ABlk.cells 9 [AVal.str s]), (2, ABlk.cells 39 [AVal.sl 5 0 9 0 acc.length
 none]), (1, ABlk.cells 40 [AVal.int IntKind.i64 (0 : Int)]), (0, ABlk.cells 39 [AVal.nils])]) none))))))) := by kernel_rfl
end Go.Proofs.Ytjacnjecggedhaa
namespace Go.Proofs.Ytjacnjecggedhaa
set_option linter.unusedVariables false
set_option linter.unusedSimpArgs false
open Go.RowKit Ev
set_option maxRecDepth 100000 in
theorem w_allpost_nil (s0 : List UInt8) (g1 g2 g3 : ABlk) (K : Out → AHeap → Prop) : (wpC (TE.ctx Try.prog) 60 13 7 (seqR (seqR (seqR (bodyC Try.f13)))) ((8, .func 27 [] [.ptr 3 0 0 0]) :: (7, .str s0) :: (4, .ptr 2 0 0 0) :: (3, .ptr 1 0 0 0) :: (2, .ptr 0 0 0 0) :: (0, .str s0) :: []) ⟨7, (6, g1) :: (6, g2) :: (3, g3) :: (2, .cells 39 [.nils]) :: (1, .cells 40 [.int .i64 0]) :: (0, .cells 39 [.nils]) :: []⟩ (endN (TE.ctx Try.prog) Try.f13 K)
) =  (K (Out.ret (AVal.tup [AVal.nils, AVal.int IntKind.i64 (0 : Int)])) (AHeap.mk 7 [(1, ABlk.cells 40 [AVal.int IntKind.i64 (0 : Int)]), (0, ABlk.cells 39 [AVal.nils]), (6, g1), (6, g2), (3, g3), (2,
 ABlk.cells 39 [AVal.nils]), (1, ABlk.cells 40 [AVal.int IntKind.i64 (0 : Int)]), (0, ABlk.cells 39 [AVal.nils])])) := by kernel_rfl
set_option maxRecDepth 100000 in
theorem w_allerr_nil (s0 : List UInt8) (e : Int) (g1 g2 g3 g4 g5 g6 g7 g8 : ABlk) (K : Out → AHeap → Prop) : (endA (TE.ctx Try.prog).P Try.f13 K .ret ((8, .func 27 [] [.ptr 3 0 0 0]) :: (7, .str s0) :: (4, .ptr 2 0 0 0) :: (3, .ptr 1 0 0 0) :: (2, .ptr 0 0 0 0) :: (0, .str s0) :: []) ⟨8, (1, .cells 40 [.int .i64 e]) :: (0, .cells 39 [.nils]) :: (7, g1) :: (7, g2) :: (6, g3) :: (6, g4) :: (3, g5) :: (2, g6) :: (1, g7) :: (0, g8) :: []⟩
) =  (K (Out.ret (AVal.tup [AVal.nils, AVal.int IntKind.i64 e])) (AHeap.mk 8 [(1, ABlk.cells 40 [AVal.int IntKind.i64 e]), (0, ABlk.cells 39 [AVal.nils]), (7, g1), (7, g2), (6, g3), (6, g4), (3, g5), (2,
 g6), (1, g7), (0, g8)])) := by kernel_rfl
set_option maxRecDepth 100000 in
theorem w_allpost_cons (s0 : List UInt8) (acc : List PieceR) (g1 g2 g3 : ABlk) (K : Out → AHeap → Prop) : (wpC (TE.ctx Try.prog) 60 13 7 (seqR (seqR (seqR (bodyC Try.f13)))) ((8, .func 27 [] [.ptr 3 0 0 0]) :: (7, .str s0) :: (4, .ptr 2 0 0 0) :: (3, .ptr 1 0 0 0) :: (2, .ptr 0 0 0 0) :: (0, .str s0) :: []) ⟨7, (6, g1) :: (6, g2) :: (5, .row 46 pieceRow acc .plain) :: (3, g3) :: (2, .cells 39 [.sl 5 0 9 0 acc.length none]) :: (1, .cells 40 [.int .i64 0]) :: (0, .cells 39 [.nils]) :: []⟩ (endN (TE.ctx Try.prog) Try.f13 K)
) =  (K (Out.ret (AVal.tup [AVal.sl 5 0 9 0 acc.length none, AVal.int IntKind.i64 (0 : Int)])) (AHeap.mk 7 [(1, ABlk.cells 40 [AVal.int IntKind.i64 (0 : Int)]), (0, ABlk.cells 39 [AVal.sl 5 0 9 0
 acc.length none]), (6, g1), (6, g2), (5, ABlk.row 46 pieceRow acc RowMd.plain), (3, g3), (2, ABlk.cells 39 [AVal.sl 5 0 9 0 acc.length none]), (1, ABlk.cells 40 [AVal.int IntKind.i64 (0 : Int)]), (0,
 ABlk.cells 39 [AVal.nils])])) := by kernel_rfl
set_option maxRecDepth 100000 in
theorem w_allerr_cons (s0 : List UInt8) (e : Int) (acc : List PieceR) (g1 g2 g3 g4 g5 g6 g7 g8 : ABlk) (K : Out → AHeap → Prop) : (endA (TE.ctx Try.prog).P Try.f13 K .ret ((8, .func 27 [] [.ptr 3 0 0 0]) :: (7, .str s0) :: (4, .ptr 2 0 0 0) :: (3, .ptr 1 0 0 0) :: (2, .ptr 0 0 0 0) :: (0, .str s0) :: []) ⟨8, (1, .cells 40 [.int .i64 e]) :: (0, .cells 39 [.sl 5 0 9 0 acc.length none]) :: (7, g1) :: (7, g2) :: (6, g3) :: (6, g4) :: (5, .row 46 pieceRow acc .plain) :: (3, g5) :: (2, g6) :: (1, g7) :: (0, g8) :: []⟩
) =  (K (Out.ret (AVal.tup [AVal.sl 5 0 9 0 acc.length none, AVal.int IntKind.i64 e])) (AHeap.mk 8 [(1, ABlk.cells 40 [AVal.int IntKind.i64 e]), (0, ABlk.cells 39 [AVal.sl 5 0 9 0 acc.length none]), (7,
 g1), (7, g2), (6, g3), (6, g4), (5, ABlk.row 46 pieceRow acc RowMd.plain), (3, g5), (2, g6), (1, g7), (0, g8)])) := by kernel_rfl
end Go.Proofs.Ytjacnjecggedhaa
namespace Go.Proofs.Ytjacnjecggedhaa
set_option linter.unusedVariables false
set_option linter.unusedSimpArgs false
open Go.RowKit Ev
def allL : Nat → List UInt8 → List PieceR × Int
  | 0, _ => ([], 0)
  | n + 1, s => if (dec s).e = 5 then ([], 0) else if (dec s).e = 0 then ((dec s).p :: (allL n (s.drop (dec s).n.toNat)).1, (allL n (s.drop (dec s).n.toNat)).2) else ([], (dec s).e)
def allP (s : List UInt8) : List PieceR := (allL (s.length + 1) s).1
def allE (s : List UInt8) : Int := (allL (s.length + 1) s).2
theorem allL_more : ∀ (n m : Nat) (s : List UInt8), s.length < n → s.length < m → allL n s = allL m s
  | 0, _, s, h, _ => by omega
  | _ + 1, 0, s, _, h => by omega
  | n + 1, m + 1, s, h1, h2 => by
    unfold allL
    split
    · rfl
    · split
      · rename_i h0
        obtain ⟨_, g2, g3, _⟩ := dec_again h0
        have hl : (s.drop (dec s).n.toNat).length < n ∧ (s.drop (dec s).n.toNat).length < m := by
          rw [List.length_drop]; omega
        rw [allL_more n m _ hl.1 hl.2]
      · rfl
theorem all_5 {s : List UInt8} (h : (dec s).e = 5) : allP s = [] ∧ allE s = 0 := by
  unfold allP allE allL
  rw [if_pos h]
  exact ⟨rfl, rfl⟩
theorem all_4 {s : List UInt8} (h : (dec s).e ≠ 5) (h0 : (dec s).e ≠ 0) : allP s = [] ∧ allE s = (dec s).e := by
  unfold allP allE allL
  rw [if_neg h, if_neg h0]
  exact ⟨rfl, rfl⟩
theorem all_0 {s : List UInt8} (h0 : (dec s).e = 0) : allP s = (dec s).p :: allP (s.drop (dec s).n.toNat) ∧ allE s = allE (s.drop (dec s).n.toNat) := by
  obtain ⟨_, g2, g3, _⟩ := dec_again h0
  have hl : (s.drop (dec s).n.toNat).length < s.length := by rw [List.length_drop]; omega
  have e := allL_more s.length ((s.drop (dec s).n.toNat).length + 1) _ hl (Nat.lt_succ_self _)
  have e1 : allP s = (dec s).p :: (allL s.length (s.drop (dec s).n.toNat)).1 := by
    show (allL (s.length + 1) s).1 = _
    rw [allL, if_neg (by omega), if_pos h0]
  have e2 : allE s = (allL s.length (s.drop (dec s).n.toNat)).2 := by
    show (allL (s.length + 1) s).2 = _
    rw [allL, if_neg (by omega), if_pos h0]
  rw [e1, e2, e]
  exact ⟨rfl, rfl⟩
noncomputable def gcAll : GC := fun args H K => match args with
  | [.str s] => obl (decide (s.length ≤ 1000000000)) <| branch (allP s).isEmpty (K (.ret (.tup [.nils, .int .i64 (allE s)])) H) (forceK H.next fun id => forceH (H.new (.row 46 pieceRow (allP s) .plain)) (K (.ret (.tup [.sl id 0 9 0 (allP s).length none, .int .i64 (allE s)]))))
  | _ => Stuck 60 []
def kAll (s : List UInt8) : Out → AHeap → Prop := fun out H => match allP s with
  | [] => out = .ret (.tup [.nils, .int .i64 (allE s)])
  | _ => ∃ r, out = .ret (.tup [.sl r 0 9 0 (allP s).length none, .int .i64 (allE s)]) ∧ H.get r = some (.row 46 pieceRow (allP s) .plain)
theorem kAll_nil {s : List UInt8} {H : AHeap} {e : Int} (h : allP s = []) (he : allE s = e) : kAll s (.ret (.tup [.nils, .int .i64 e])) H := by
  unfold kAll; rw [h, he]
theorem kAll_cons {s : List UInt8} {H : AHeap} {r : Nat} {p : PieceR} {l : List PieceR} {e : Int} (h : allP s = p :: l) (he : allE s = e) (hr : H.get r = some (.row 46 pieceRow (p :: l) .plain)) : kAll s (.ret (.tup [.sl r 0 9 0 (p :: l).length none, .int .i64 e])) H := by
  unfold kAll; rw [h, he]; exact ⟨r, rfl, hr⟩
def stAll (x : List UInt8 × List PieceR) : Env × AHeap := ([(0, .yld 4), (1, .ptr 3 0 0 0)], match x.2 with
  | [] => ⟨6, [(3, .cells 9 [.str x.1]), (2, .cells 39 [.nils]), (1, .cells 40 [.int .i64 0]), (0, .cells 39 [.nils])]⟩
  | p :: l => ⟨6, [(5, .row 46 pieceRow (p :: l) .plain), (3, .cells 9 [.str x.1]), (2, .cells 39 [.sl 5 0 9 0 (p :: l).length none]), (1, .cells 40 [.int .i64 0]), (0, .cells 39 [.nils])]⟩)
def tAll (s0 : List UInt8) (x : List UInt8 × List PieceR) : Prop := s0.length ≤ 1000000000 ∧ x.2 ++ allP x.1 = allP s0 ∧ allE x.1 = allE s0 ∧ x.1.length + 2 * x.2.length ≤ s0.length
def envAll (s0 : List UInt8) : Env := (8, .func 27 [] [.ptr 3 0 0 0]) :: (7, .str s0) :: (4, .ptr 2 0 0 0) :: (3, .ptr 1 0 0 0) :: (2, .ptr 0 0 0 0) :: (0, .str s0) :: []
noncomputable abbrev rfAll : Code := blkC (seqR (seqL (seqR (seqR (bodyC Try.f13)))))
noncomputable abbrev postAll : Code := seqR (seqR (seqR (bodyC Try.f13)))
def qAll (s0 : List UInt8) : AExit → Env → AHeap → Option Code → Prop := fun x _ H' pd => (x = .normal ∨ x = .ret) ∧ behindRF (TE.ctx Try.prog) 60 13 Try.f13 postAll (envAll s0) (kAll s0) H' pd
theorem q_none {s0 : List UInt8} {E : Env} {H : AHeap} (h : wpC (TE.ctx Try.prog) 60 13 H.next postAll (envAll s0) H (endN (TE.ctx Try.prog) Try.f13 (kAll s0))) : qAll s0 .ret E H none := ⟨.inr rfl, h⟩
theorem q_err {s0 : List UInt8} {E : Env} {H : AHeap} (h : endA (TE.ctx Try.prog).P Try.f13 (kAll s0) .ret (envAll s0) H) : qAll s0 .ret E H (some .ret) := ⟨.inr rfl, h⟩
theorem all_done {s0 s : List UInt8} {acc : List PieceR} (h : tAll s0 (s, acc)) (hp : allP s = []) : allP s0 = acc := by
  have := h.2.1
  rw [hp, List.append_nil] at this
  exact this.symm
set_option maxRecDepth 100000 in
theorem all_round (s0 : List UInt8) : ∀ x, tAll s0 x → wpY (TE.ctx Try.prog) 4 (roundA (TE.ctx Try.prog) 60 13 (envAll s0) [9, 10] (rfAssign rfAll) (rfBody rfAll)) 60 27 (lpC (blkC (bodyC Try.f27))) (stAll x).1 (stAll x).2 none (RoundY 5 stAll (fun x => x.1.length) (tAll s0) x (qAll s0)) := by
  rintro ⟨s, acc⟩ hT
  have hT' := hT
  obtain ⟨t0, t1, t2, t3⟩ := hT'
  simp only at t1 t2 t3
  have next : (dec s).e = 0 → tAll s0 (s.drop (dec s).n.toNat, acc ++ [(dec s).p]) ∧ (s.drop (dec s).n.toNat).length < s.length := by
    intro h0
    obtain ⟨_, g2, g3, _⟩ := dec_again h0
    obtain ⟨a1, a2⟩ := all_0 h0
    refine ⟨⟨t0, ?_, ?_, ?_⟩, ?_⟩
    · simp only; rw [← t1, a1]; simp
    · simp only; rw [← t2, a2]
    · simp only [List.length_drop, List.length_append, List.length_cons, List.length_nil]; omega
    · rw [List.length_drop]; omega
  cases acc with
  | nil =>
    refine Eq.mpr (w_allround_nil s0 s _) ?_
    simp only [obl_iff, branch_iff, decide_eq_true_eq, decide_eq_false_iff_not, Bool.not_eq_true', Bool.not_eq_false', Bool.and_eq_true, true_and]
    simp only [List.length_nil] at t3
    refine ⟨by omega, fun h5 => ?_, fun h5 => ⟨fun h4 => ?_, fun h4 => ?_⟩⟩
    · obtain ⟨a1, a2⟩ := all_5 h5
      show qAll s0 .ret [] _ none
      apply q_none
      refine (Eq.mpr (w_allpost_nil s0 _ _ _ (kAll s0)) ?_)
      exact kAll_nil (all_done hT a1) (t2.symm.trans a2)
    · obtain ⟨a1, a2⟩ := all_4 h5 h4
      show qAll s0 .ret [] _ (some .ret)
      apply q_err
      refine (Eq.mpr (w_allerr_nil s0 _ _ _ _ _ _ _ _ _ (kAll s0)) ?_)
      exact kAll_nil (all_done hT a1) (t2.symm.trans a2)
    · obtain ⟨n1, n2⟩ := next h4
      obtain ⟨_, g2, g3, _⟩ := dec_again h4
      refine ⟨fun h => absurd h4 h, fun _ => ⟨⟨by omega, by omega⟩, rfl, (_, [(dec s).p]), [(5, 9)], n2, n1, by decide, by kernel_rfl, ?_, ?_⟩⟩
      · exact subER_cons rfl rfl rfl (subER_cons rfl rfl rfl subER_nil)
      · exact subHR_cons rfl rfl rfl rfl (subHR_cons rfl rfl rfl rfl (subHR_cons rfl rfl rfl rfl (subHR_cons rfl rfl rfl rfl (subHR_cons rfl rfl rfl rfl subHR_nil))))
  | cons p l =>
    refine Eq.mpr (w_allround_cons s0 s (p :: l) _) ?_
    simp only [obl_iff, branch_iff, decide_eq_true_eq, decide_eq_false_iff_not, Bool.not_eq_true', Bool.not_eq_false', Bool.and_eq_true, true_and]
    simp only [List.length_cons] at t3
    refine ⟨by omega, fun h5 => ?_, fun h5 => ⟨fun h4 => ?_, fun h4 => ?_⟩⟩
    · obtain ⟨a1, a2⟩ := all_5 h5
      show qAll s0 .ret [] _ none
      apply q_none
      refine (Eq.mpr (w_allpost_cons s0 (p :: l) _ _ _ (kAll s0)) ?_)
      exact kAll_cons (r := 5) (all_done hT a1) (t2.symm.trans a2) rfl
    · obtain ⟨a1, a2⟩ := all_4 h5 h4
      show qAll s0 .ret [] _ (some .ret)
      apply q_err
      refine (Eq.mpr (w_allerr_cons s0 _ (p :: l) _ _ _ _ _ _ _ _ (kAll s0)) ?_)
      exact kAll_cons (r := 5) (all_done hT a1) (t2.symm.trans a2) rfl
    · obtain ⟨n1, n2⟩ := next h4
      obtain ⟨_, g2, g3, _⟩ := dec_again h4
      refine ⟨?_, fun h => absurd h4 h, fun _ => ⟨⟨by omega, by omega⟩, rfl, (_, p :: (l ++ [(dec s).p])), [(5, 9)], n2, n1, by decide, by kernel_rfl, ?_, ?_⟩⟩
      · simp only [List.length_cons, List.length_append, List.length_nil]
        (repeat' apply And.intro) <;> first | omega | rfl | decide
      · exact subER_cons rfl rfl rfl (subER_cons rfl rfl rfl subER_nil)
      · exact subHR_cons rfl rfl rfl rfl (subHR_cons rfl rfl rfl rfl (subHR_cons rfl rfl rfl rfl (subHR_cons rfl rfl rfl rfl (subHR_cons rfl rfl rfl rfl subHR_nil))))
end Go.Proofs.Ytjacnjecggedhaa
namespace Go.Proofs.Ytjacnjecggedhaa
set_option linter.unusedVariables false
set_option linter.unusedSimpArgs false
open Go.RowKit Ev
theorem pieces_code : bodyC Try.f27 = .block 0 (.loop (lpC (blkC (bodyC Try.f27)))) := by kernel_rfl
def itAll (s0 : List UInt8) : Env → AHeap → List AVal → Prop := fun E H cs => s0.length ≤ 1000000000 ∧ E = envAll s0 ∧ cs = [.ptr 3 0 0 0] ∧ H = ⟨4, [(3, .cells 9 [.str s0]), (2, .cells 39 [.nils]), (1, .cells 40 [.int .i64 0]), (0, .cells 39 [.nils])]⟩
theorem all_it (s0 : List UInt8) : ∀ E H cs, itAll s0 E H cs → ∀ ρ0 w0 At ρ a w, YOk (TE.ctx Try.prog) H.next (roundA (TE.ctx Try.prog) 60 13 E [9, 10] (rfAssign rfAll) (rfBody rfAll)) ρ0 ⟨H.next + 1, H.bs⟩ w0 At → AtKeeps At → Step ρ0 ⟨H.next + 1, H.bs⟩ w0 ρ ⟨H.next + 1, H.bs⟩ w → RelE ρ (H.next + 1) (env0 (.yld H.next :: cs) 0) a → a.defers = [] → Try.f27.ntmps ≤ a.tmps.size → At none w →
      (bodyC Try.f27).wp (TE.ctx Try.prog).P (LiftY ρ0 ⟨H.next + 1, H.bs⟩ w0 a.tmps.size At (fun x _ H' pd => (x = .normal ∨ x = .ret) ∧ behindRF (TE.ctx Try.prog) 60 13 Try.f13 postAll E (kAll s0) H' pd)) a w := by
  rintro E H cs ⟨hl, rfl, rfl, rfl⟩ ρ0 w0 At ρ a w hY hAt hS hE hd hN hat
  have hT : tAll s0 (s0, []) := ⟨hl, by simp, rfl, by simp⟩
  have hS6 : Step ρ0 ⟨5, [(3, .cells 9 [.str s0]), (2, .cells 39 [.nils]), (1, .cells 40 [.int .i64 0]), (0, .cells 39 [.nils])]⟩ w0 (ρ.set 5 0 0) (stAll (s0, [])).2 w := by
    have h1 := hS.rel.more 0 0
    refine ⟨hS.agree.trans (Rho.set_agree ρ 5 0 0) (Nat.le_refl _), Nat.le_succ _, h1, hS.os, hS.tape, hS.output, hS.size, hS.old, fun g hg => ?_⟩
    obtain ⟨b, x, hx, ho, rfl⟩ := hg
    have hb := (hS.rel.blk b x hx).1
    have e : (ρ.set 5 0 0).blk b = ρ.blk b := (Rho.set_agree ρ 5 0 0 b hb).1
    rw [e]
    exact hS.owns _ ⟨b, x, hx, ho, rfl⟩
  have hE6 : RelE (ρ.set 5 0 0) (stAll (s0, [])).2.next (stAll (s0, [])).1 a := hE.step (Rho.set_agree ρ 5 0 0) (Nat.le_succ _)
  rw [pieces_code]
  have hrun := loopY_sound TEok.ctx hY hAt hN (g := 27) (n := 60) (c := lpC (blkC (bodyC Try.f27))) (by kernel_rfl) (by kernel_rfl) (base := 5) stAll (Nat.le_refl _) (fun x => by obtain ⟨s, acc⟩ := x; cases acc <;> exact (by decide : 5 ≤ 6)) (fun x => x.1.length) (tAll s0) (qAll s0)
    (fun x hx => ⟨_, fun _ _ _ _ h => h, all_round s0 x hx⟩) (s0, []) hT _ a w hS6 hE6 hd rfl hat
  refine wp_block (wp_mono hrun ?_)
  rintro e a' w' ⟨x', E', H', ρ', pd, q1, q2, q3, q4, q5, q6, q7⟩
  have q2' := q2
  obtain ⟨q8, q9⟩ := q2
  cases x' with
  | normal => cases e <;> simp only [AExit.rel] at q1; exact ⟨.normal, E', H', ρ', pd, trivial, q2', q3, q4, q5, q6, q7⟩
  | ret => cases e <;> simp only [AExit.rel] at q1; exact ⟨.ret, E', H', ρ', pd, trivial, q2', q3, q4, q5, q6, q7⟩
  | exit i => rcases q8 with h | h <;> cases h
  | panic v => rcases q8 with h | h <;> cases h
set_option maxRecDepth 100000 in
theorem all_walk (s0 : List UInt8) (hl : s0.length ≤ 1000000000) : wpRF (TE.ctx Try.prog) 60 13 27 8 (seqL (bodyC Try.f13)) (seqL (seqR (bodyC Try.f13))) (seqL (seqL (seqR (seqR (bodyC Try.f13))))) (itAll s0) [.str s0] ⟨0, []⟩ := by
  refine Eq.mpr (w_allpre s0 (fun E H => match getE E 8 with
    | some (.func g' [] cs) => match Nat.beq g' 27 with
      | true => forceH H fun H => itAll s0 E H cs
      | false => False
    | _ => False)) ?_
  exact ⟨hl, rfl, rfl, rfl⟩
set_option maxRecDepth 100000 in
theorem all_calls (s0 : List UInt8) (hl : s0.length ≤ 1000000000) (ρ : Rho) (w : World) : Calls Try.prog 13 (trL ρ [.str s0]).toArray w fun e w' => ∃ out H' ρ', Out.rel ρ' H'.next out e ∧ kAll s0 out H' ∧ Step ρ ⟨0, []⟩ w ρ' H' w' :=
  wpRF_sound TEok.ctx (bid := 0) (ps := [9, 10]) (fn := Try.f13) (gn := Try.f27) (assign := rfAssign rfAll) (body := rfBody rfAll) (post := postAll) (by kernel_rfl) (by kernel_rfl) (by kernel_rfl) rfl
    ⟨by simp [show (TE.ctx Try.prog).lcs = fun _ _ => none from rfl], by simp [show (TE.ctx Try.prog).lcs = fun _ _ => none from rfl], by kernel_rfl, by kernel_rfl, by kernel_rfl, by kernel_rfl, by decide⟩ (by kernel_rfl) (all_it s0) (all_walk s0 hl) (rel_nil ρ w) rfl
theorem gcAll_of {f : Nat} (he : ∀ vs w, (callFunc f vs).run Try.prog w = .ok (.enter f vs) w) (hc : ∀ s : List UInt8, s.length ≤ 1000000000 → ∀ ρ w, Calls Try.prog f (trL ρ [.str s]).toArray w fun e w' => ∃ out H' ρ', Out.rel ρ' H'.next out e ∧ kAll s out H' ∧ Step ρ ⟨0, []⟩ w ρ' H' w') : GcSound Try.prog f gcAll := by
  intro args H K hK ρ w hR hargs
  refine ⟨he, ?_⟩
  unfold gcAll at hK
  split at hK
  · rename_i s
    simp only [obl_iff, branch_iff, decide_eq_true_eq, forceK_eq, forceH_eq] at hK
    obtain ⟨hl, hnil, hcons⟩ := hK
    refine (hc s hl ρ w).mono ?_
    rintro e w' ⟨out, H', ρ', h1, h2, h3⟩
    have hno : ∀ g, ¬ Owns ρ ⟨0, []⟩ g := by
      rintro g ⟨b, x, hx, _⟩
      simp [AHeap.get, getB] at hx
    have hbelow : Below w.heap.size w w' := h3.below (Nat.le_refl _) (fun g hg => absurd hg (hno g))
    unfold kAll at h2
    split at h2
    · rename_i hp
      subst h2
      cases e <;> simp only [Out.rel] at h1
      obtain ⟨rfl, _⟩ := h1
      refine ⟨.ret (.tup [.nils, .int .i64 (allE s)]), H, ρ, ⟨rfl, rfl⟩, hnil (by rw [hp]; rfl), Step.grow hR hbelow⟩
    · rename_i hp
      obtain ⟨r, rfl, hr⟩ := h2
      cases e <;> simp only [Out.rel] at h1
      obtain ⟨rfl, _⟩ := h1
      obtain ⟨r1, r2, r3, r4⟩ := h3.rel.blk r _ hr
      obtain ⟨o1, o2, o3, cur, fz, o4, o5, o6, o7⟩ := r4
      have hge : w.heap.size ≤ ρ'.blk r := by
        rcases h3.owns _ ⟨r, _, hr, rfl, rfl⟩ with h | h
        · exact h
        · exact absurd h (hno _)
      have hne : (allP s).isEmpty = false := by
        cases hq : allP s with
        | nil => exact absurd hq hp
        | cons p l => rfl
      have hnew : NewTo ρ H.next w (.tup [.sl H.next 0 9 0 (allP s).length none, .int .i64 (allE s)]) (.row 46 pieceRow (allP s) .plain) (tr ρ' (.tup [.sl r 0 9 0 (allP s).length none, .int .i64 (allE s)])) w' := by
        refine ⟨⟨ρ'.blk r, ρ'.cap r, ?_, hge, r3, ⟨?_, ?_, ?_, cur, fz, ?_, o5, ?_, ?_⟩⟩, hbelow, rfl, ?_⟩
        · simp only [tr, trL, o1, (set_self ρ H.next (ρ'.blk r) (ρ'.cap r)).1, (set_self ρ H.next (ρ'.blk r) (ρ'.cap r)).2.1, (set_self ρ H.next (ρ'.blk r) (ρ'.cap r)).2.2]
        · exact (set_self ρ H.next _ _).2.1
        · rw [(set_self ρ H.next _ _).2.2]; exact o2
        · rw [(set_self ρ H.next _ _).2.2]; exact o3
        · rw [(set_self ρ H.next _ _).1]; exact o4
        · rw [(set_self ρ H.next _ _).2.2]; exact o6
        · rw [o7, trL_eq, trL_eq]
          apply List.map_congr_left
          intro y hy
          have hd := flat_data pieceRow (allP s)
          rw [List.all_eq_true] at hd
          exact AVal.data_tr (hd y hy) _ _
        · constructor
          · simp [AVal.under, belowL]
          · rfl
      obtain ⟨ρ'', s1, s2, s3⟩ := Step.new hR hnew
      rw [s2]
      exact ⟨.ret (.tup [.sl H.next 0 9 0 (allP s).length none, .int .i64 (allE s)]), _, ρ'', ⟨rfl, s3⟩, hcons hne, s1⟩
  · exact (not_stuck hK).elim
theorem all_sound : GcSound Try.prog 13 gcAll := gcAll_of Try.call13 all_calls
noncomputable def TA : Tabs := TE.addGc 13 gcAll
theorem TAok : TabsOk TA Try.prog := TEok.addGc all_sound
end Go.Proofs.Ytjacnjecggedhaa
namespace Go.Proofs.Ytjacnjecggedhaa
set_option linter.unusedVariables false
set_option linter.unusedSimpArgs false
open Go.RowKit Ev
set_option maxRecDepth 100000 in
theorem w_works24 (K : Out → Prop) : (callC (TA.ctx Try.prog) 400 10 [] ⟨0, []⟩ (fun o _ => K o)
) =  (twice (twice (twice (K (Out.ret (AVal.bool true)))))) := by kernel_rfl
end Go.Proofs.Ytjacnjecggedhaa
namespace Go.Proofs.Ytjacnjecggedhaa
set_option linter.unusedVariables false
set_option linter.unusedSimpArgs false
open Go.RowKit Ev
def fcWorks24 : FC := fun args _ => match args with
  | [] => some (true, .bool true)
  | _ => none
set_option maxRecDepth 100000 in
theorem works_sound24 : FcSound Try.prog 10 fcWorks24 := by
  refine fc_pure TAok.ctx (n := 400) Try.call10 (fun args H v h => ?_)
  unfold fcWorks24 at h
  split at h <;> cases h
  refine ⟨rfl, rfl, Eq.mpr (w_works24 _) ?_⟩
  simp only [twice_iff, and_self]
noncomputable def TF : Tabs := (TA.addFc 10 fcWorks24)
theorem TFok : TabsOk TF Try.prog := (TAok.addFc works_sound24)
end Go.Proofs.Ytjacnjecggedhaa
namespace Go.Proofs.Ytjacnjecggedhaa
set_option linter.unusedVariables false
set_option linter.unusedSimpArgs false
open Go.RowKit Ev
set_option maxRecDepth 100000 in
theorem w_rmay11 (typ k at_ id : Int) (b data : List UInt8) (K : Out → Prop) : (callC (TF.ctx Try.prog) 100 34 [.agg [.int .i64 typ, .int .i64 k, .str b, .str data, .int .i64 at_, .int .i64 id]] ⟨0, []⟩ (fun o _ => K o)
) =  (branch (decide ((0 : Int) ≤ typ)) (branch (decide (typ ≤ (65535 : Int))) (branch (lOk k b) (branch (decide ((1 : Int) ≤ (↑data.length : Int))) (branch (decide ((↑data.length : Int) ≤ (65519 : Int)))
 (branch (decide ((0 : Int) ≤ at_)) (branch (decide (at_ < (↑data.length : Int))) (branch (decide ((0 : Int) ≤ id)) (K (Out.ret (AVal.bool (decide (id < (256 : Int)))))) (K (Out.ret (AVal.bool
 false)))) (K (Out.ret (AVal.bool false)))) (K (Out.ret (AVal.bool false)))) (K (Out.ret (AVal.bool false)))) (K (Out.ret (AVal.bool false)))) (K (Out.ret (AVal.bool false)))) (K (Out.ret (AVal.bool
 false)))) (K (Out.ret (AVal.bool false)))) := by kernel_rfl
end Go.Proofs.Ytjacnjecggedhaa
namespace Go.Proofs.Ytjacnjecggedhaa
set_option linter.unusedVariables false
set_option linter.unusedSimpArgs false
open Go.RowKit Ev
theorem rmay11_sound : FcSound Try.prog 34 fcMayC := by
  refine fc_pure TFok.ctx (n := 100) Try.call34 (fun args H v h => ?_)
  unfold fcMayC at h
  split at h <;> cases h
  rename_i typ k b data at_ id
  refine ⟨rfl, rfl, ?_⟩
  rw [w_rmay11]
  have no : ¬ (0 ≤ typ ∧ typ ≤ 65535 ∧ lOk k b = true ∧ 0 ≤ at_ ∧ at_ < (data.length : Int) ∧ (data.length : Int) ≤ 65519 ∧ 0 ≤ id ∧ id < 256) → Out.ret (.bool false) = Out.ret (.bool (cMay typ k b data at_ id)) := fun h => by
    unfold cMay; rw [decide_eq_false h]
  refine br_dec (fun h1 => br_dec (fun h2 => br_mk (fun h3 => br_dec (fun h4 => br_dec (fun h5 => br_dec (fun h6 => br_dec (fun h7 => br_dec (fun h8 => ?_) ?_) ?_) ?_) ?_) ?_) ?_) ?_) ?_
  · by_cases h9 : id < 256
    · unfold cMay; rw [decide_eq_true h9, decide_eq_true ⟨h1, h2, h3, h6, h7, h5, h8, h9⟩]
    · rw [decide_eq_false h9]; exact no (fun h => h9 h.2.2.2.2.2.2.2)
  all_goals intro hn; refine no ?_; rintro ⟨a1, a2, a3, a4, a5, a6, a7, a8⟩
  · exact hn a7
  · exact hn a5
  · exact hn a4
  · exact hn a6
  · exact hn (by omega)
  · rw [a3] at hn; cases hn
  · exact hn a2
  · exact hn a1
noncomputable def TQ0 : Tabs := (TF.addFc 34 fcMayC)
theorem TQ0ok : TabsOk TQ0 Try.prog := (TFok.addFc rmay11_sound)
end Go.Proofs.Ytjacnjecggedhaa
namespace Go.Proofs.Ytjacnjecggedhaa
set_option linter.unusedVariables false
set_option linter.unusedSimpArgs false
open Go.RowKit Ev
set_option maxRecDepth 100000 in
theorem w_rnext (typ k at_ id lk space : Int) (b data lb : List UInt8) (whole : Bool) (K : Out → Prop) : (callC (TQ0.ctx Try.prog) 100 23 [.agg [.int .i64 typ, .int .i64 k, .str b, .str data, .int .i64 at_, .int .i64 id], .agg [.int .i64 lk, .str lb], .int .i64 space, .bool whole] ⟨0, []⟩ (fun o _ => K o)
) =  (branch (!cMay typ k b data at_ id) (K (Out.ret (AVal.tup [AVal.agg [AVal.bool false, AVal.bool false, AVal.int IntKind.i64 (0 : Int), AVal.int IntKind.i64 (0 : Int), AVal.int IntKind.i64 (0 : Int),
 AVal.int IntKind.i64 (0 : Int), AVal.str [], AVal.str [], AVal.str []], AVal.agg [AVal.int IntKind.i64 typ, AVal.int IntKind.i64 k, AVal.str b, AVal.str data, AVal.int IntKind.i64 at_, AVal.int
 IntKind.i64 id], AVal.int IntKind.i64 (2 : Int)]))) (branch (!lOk lk lb) (K (Out.ret (AVal.tup [AVal.agg [AVal.bool false, AVal.bool false, AVal.int IntKind.i64 (0 : Int), AVal.int IntKind.i64 (0 :
 Int), AVal.int IntKind.i64 (0 : Int), AVal.int IntKind.i64 (0 : Int), AVal.str [], AVal.str [], AVal.str []], AVal.agg [AVal.int IntKind.i64 typ, AVal.int IntKind.i64 k, AVal.str b, AVal.str data,
 AVal.int IntKind.i64 at_, AVal.int IntKind.i64 id], AVal.int IntKind.i64 (2 : Int)]))) (branch (decide (at_ = (0 : Int))) (branch (!(decide (lk = k) && (decide (lb = b) && true))) (branch (!decide (lk
 = (3 : Int))) (K (Out.ret (AVal.tup [AVal.agg [AVal.bool false, AVal.bool false, AVal.int IntKind.i64 (0 : Int), AVal.int IntKind.i64 (0 : Int), AVal.int IntKind.i64 (0 : Int), AVal.int IntKind.i64 (0
 : Int), AVal.str [], AVal.str [], AVal.str []], AVal.agg [AVal.int IntKind.i64 typ, AVal.int IntKind.i64 k, AVal.str b, AVal.str data, AVal.int IntKind.i64 at_, AVal.int IntKind.i64 id], AVal.int
 IntKind.i64 (2 : Int)]))) (branch (decide (at_ = (0 : Int))) (obl (inI64 ((4 : Int) + lSize lk)) (obl (inI64 ((4 : Int) + lSize lk + (↑data.length : Int))) (branch (decide ((4 : Int) + lSize lk +
 (↑data.length : Int) ≤ max (0 : Int) (min space (4097 : Int)))) (K (Out.ret (AVal.tup [AVal.agg [AVal.bool true, AVal.bool true, AVal.int IntKind.i64 (0 : Int), AVal.int IntKind.i64 (0 : Int),
 AVal.int IntKind.i64 typ, AVal.int IntKind.i64 lk, AVal.str lb, AVal.str data, AVal.str []], AVal.agg [AVal.int IntKind.i64 typ, AVal.int IntKind.i64 k, AVal.str b, AVal.str data, AVal.int IntKind.i64
 (↑data.length : Int), AVal.int IntKind.i64 id], AVal.int IntKind.i64 (0 : Int)]))) (obl (inI64 (max (0 : Int) (min space (4097 : Int)) - (7 : Int))) (obl (inI64 (max (0 : Int) (min space (4097 : Int))
 - (7 : Int) - lSize lk)) (obl (inI64 ((↑data.length : Int) - (1 : Int))) (branch whole (K (Out.ret (AVal.tup [AVal.agg [AVal.bool false, AVal.bool false, AVal.int IntKind.i64 (0 : Int), AVal.int
 IntKind.i64 (0 : Int), AVal.int IntKind.i64 (0 : Int), AVal.int IntKind.i64 (0 : Int), AVal.str [], AVal.str [], AVal.str []], AVal.agg [AVal.int IntKind.i64 typ, AVal.int IntKind.i64 k, AVal.str b,
 AVal.str data, AVal.int IntKind.i64 at_, AVal.int IntKind.i64 id], AVal.int IntKind.i64 (12 : Int)]))) (branch (decide (min (max (0 : Int) (min space (4097 : Int)) - (7 : Int) - lSize lk)
 ((↑data.length : Int) - (1 : Int)) < (1 : Int))) (K (Out.ret (AVal.tup [AVal.agg [AVal.bool false, AVal.bool false, AVal.int IntKind.i64 (0 : Int), AVal.int IntKind.i64 (0 : Int), AVal.int IntKind.i64
 (0 : Int), AVal.int IntKind.i64 (0 : Int), AVal.str [], AVal.str [], AVal.str []], AVal.agg [AVal.int IntKind.i64 typ, AVal.int IntKind.i64 k, AVal.str b, AVal.str data, AVal.int IntKind.i64 at_,
 AVal.int IntKind.i64 id], AVal.int IntKind.i64 (12 : Int)]))) (obl (decide ((0 : Int) ≤ min (max (0 : Int) (min space (4097 : Int)) - (7 : Int) - lSize lk) ((↑data.length : Int) - (1 : Int)) ∧ min
 (max (0 : Int) (min space (4097 : Int)) - (7 : Int) - lSize lk) ((↑data.length : Int) - (1 : Int)) ≤ (↑data.length : Int))) (K (Out.ret (AVal.tup [AVal.agg [AVal.bool true, AVal.bool false, AVal.int
 IntKind.i64 id, AVal.int IntKind.i64 (pTotal lk lb (↑data.length : Int)), AVal.int IntKind.i64 typ, AVal.int IntKind.i64 lk, AVal.str lb, AVal.str (List.take (min (max (0 : Int) (min space (4097 :
 Int)) - (7 : Int) - lSize lk) ((↑data.length : Int) - (1 : Int))).toNat data), AVal.str []], AVal.agg [AVal.int IntKind.i64 typ, AVal.int IntKind.i64 lk, AVal.str lb, AVal.str data, AVal.int
 IntKind.i64 (min (max (0 : Int) (min space (4097 : Int)) - (7 : Int) - lSize lk) ((↑data.length : Int) - (1 : Int))), AVal.int IntKind.i64 id], AVal.int IntKind.i64 (0 : Int)])))))))))))) (obl (inI64
 ((↑data.length : Int) - at_)) (obl (inI64 ((7 : Int) + ((↑data.length : Int) - at_))) (branch (decide ((7 : Int) + ((↑data.length : Int) - at_) ≤ max (0 : Int) (min space (4097 : Int)))) (obl (decide
 (data.length ≤ 9223372036854775000)) (obl (decide ((0 : Int) ≤ at_ ∧ at_ ≤ (↑data.length : Int))) (K (Out.ret (AVal.tup [AVal.agg [AVal.bool false, AVal.bool true, AVal.int IntKind.i64 id, AVal.int
 IntKind.i64 (0 : Int), AVal.int IntKind.i64 (0 : Int), AVal.int IntKind.i64 (0 : Int), AVal.str [], AVal.str (List.drop at_.toNat data), AVal.str (pSum typ k b data)], AVal.agg [AVal.int IntKind.i64
 typ, AVal.int IntKind.i64 k, AVal.str b, AVal.str data, AVal.int IntKind.i64 (↑data.length : Int), AVal.int IntKind.i64 id], AVal.int IntKind.i64 (0 : Int)]))))) (obl (inI64 (max (0 : Int) (min space
 (4097 : Int)) - (3 : Int))) (obl (inI64 ((↑data.length : Int) - at_ - (1 : Int))) (branch (decide (min (max (0 : Int) (min space (4097 : Int)) - (3 : Int)) ((↑data.length : Int) - at_ - (1 : Int)) <
 (1 : Int))) (K (Out.ret (AVal.tup [AVal.agg [AVal.bool false, AVal.bool false, AVal.int IntKind.i64 (0 : Int), AVal.int IntKind.i64 (0 : Int), AVal.int IntKind.i64 (0 : Int), AVal.int IntKind.i64 (0 :
 Int), AVal.str [], AVal.str [], AVal.str []], AVal.agg [AVal.int IntKind.i64 typ, AVal.int IntKind.i64 k, AVal.str b, AVal.str data, AVal.int IntKind.i64 at_, AVal.int IntKind.i64 id], AVal.int
 IntKind.i64 (12 : Int)]))) (obl (inI64 (at_ + min (max (0 : Int) (min space (4097 : Int)) - (3 : Int)) ((↑data.length : Int) - at_ - (1 : Int)))) (obl (decide ((0 : Int) ≤ at_ ∧ at_ ≤ at_ + min (max
 (0 : Int) (min space (4097 : Int)) - (3 : Int)) ((↑data.length : Int) - at_ - (1 : Int)) ∧ at_ + min (max (0 : Int) (min space (4097 : Int)) - (3 : Int)) ((↑data.length : Int) - at_ - (1 : Int)) ≤
 (↑data.length : Int))) (obl (inI64 (at_ + min (max (0 : Int) (min space (4097 : Int)) - (3 : Int)) ((↑data.length : Int) - at_ - (1 : Int)))) (K (Out.ret (AVal.tup [AVal.agg [AVal.bool false,
 AVal.bool false, AVal.int IntKind.i64 id, AVal.int IntKind.i64 (0 : Int), AVal.int IntKind.i64 (0 : Int), AVal.int IntKind.i64 (0 : Int), AVal.str [], AVal.str (List.drop at_.toNat (List.take (at_ +
 min (max (0 : Int) (min space (4097 : Int)) - (3 : Int)) ((↑data.length : Int) - at_ - (1 : Int))).toNat data)), AVal.str []], AVal.agg [AVal.int IntKind.i64 typ, AVal.int IntKind.i64 k, AVal.str b,
 AVal.str data, AVal.int IntKind.i64 (at_ + min (max (0 : Int) (min space (4097 : Int)) - (3 : Int)) ((↑data.length : Int) - at_ - (1 : Int))), AVal.int IntKind.i64 id], AVal.int IntKind.i64 (0 :
 Int)])))))))))))))) (branch (decide (at_ = (0 : Int))) (obl (inI64 ((4 : Int) + lSize lk)) (obl (inI64 ((4 : Int) + lSize lk + (↑data.length : Int))) (branch (decide ((4 : Int) + lSize lk +
 (↑data.length : Int) ≤ max (0 : Int) (min space (4097 : Int)))) (K (Out.ret (AVal.tup [AVal.agg [AVal.bool true, AVal.bool true, AVal.int IntKind.i64 (0 : Int), AVal.int IntKind.i64 (0 : Int),
 AVal.int IntKind.i64 typ, AVal.int IntKind.i64 lk, AVal.str lb, AVal.str data, AVal.str []], AVal.agg [AVal.int IntKind.i64 typ, AVal.int IntKind.i64 k, AVal.str b, AVal.str data, AVal.int IntKind.i64
 (↑data.length : Int), AVal.int IntKind.i64 id], AVal.int IntKind.i64 (0 : Int)]))) (obl (inI64 (max (0 : Int) (min space (4097 : Int)) - (7 : Int))) (obl (inI64 (max (0 : Int) (min space (4097 : Int))
 - (7 : Int) - lSize lk)) (obl (inI64 ((↑data.length : Int) - (1 : Int))) (branch whole (K (Out.ret (AVal.tup [AVal.agg [AVal.bool false, AVal.bool false, AVal.int IntKind.i64 (0 : Int), AVal.int
 IntKind.i64 (0 : Int), AVal.int IntKind.i64 (0 : Int), AVal.int IntKind.i64 (0 : Int), AVal.str [], AVal.str [], AVal.str []], AVal.agg [AVal.int IntKind.i64 typ, AVal.int IntKind.i64 k, AVal.str b,
 AVal.str data, AVal.int IntKind.i64 at_, AVal.int IntKind.i64 id], AVal.int IntKind.i64 (12 : Int)]))) (branch (decide (min (max (0 : Int) (min space (4097 : Int)) - (7 : Int) - lSize lk)
 ((↑data.length : Int) - (1 : Int)) < (1 : Int))) (K (Out.ret (AVal.tup [AVal.agg [AVal.bool false, AVal.bool false, AVal.int IntKind.i64 (0 : Int), AVal.int IntKind.i64 (0 : Int), AVal.int IntKind.i64
 (0 : Int), AVal.int IntKind.i64 (0 : Int), AVal.str [], AVal.str [], AVal.str []], AVal.agg [AVal.int IntKind.i64 typ, AVal.int IntKind.i64 k, AVal.str b, AVal.str data, AVal.int IntKind.i64 at_,
 AVal.int IntKind.i64 id], AVal.int IntKind.i64 (12 : Int)]))) (obl (decide ((0 : Int) ≤ min (max (0 : Int) (min space (4097 : Int)) - (7 : Int) - lSize lk) ((↑data.length : Int) - (1 : Int)) ∧ min
 (max (0 : Int) (min space (4097 : Int)) - (7 : Int) - lSize lk) ((↑data.length : Int) - (1 : Int)) ≤ (↑data.length : Int))) (K (Out.ret (AVal.tup [AVal.agg [AVal.bool true, AVal.bool false, AVal.int
 IntKind.i64 id, AVal.int IntKind.i64 (pTotal lk lb (↑data.length : Int)), AVal.int IntKind.i64 typ, AVal.int IntKind.i64 lk, AVal.str lb, AVal.str (List.take (min (max (0 : Int) (min space (4097 :
 Int)) - (7 : Int) - lSize lk) ((↑data.length : Int) - (1 : Int))).toNat data), AVal.str []], AVal.agg [AVal.int IntKind.i64 typ, AVal.int IntKind.i64 lk, AVal.str lb, AVal.str data, AVal.int
 IntKind.i64 (min (max (0 : Int) (min space (4097 : Int)) - (7 : Int) - lSize lk) ((↑data.length : Int) - (1 : Int))), AVal.int IntKind.i64 id], AVal.int IntKind.i64 (0 : Int)])))))))))))) (obl (inI64
 ((↑data.length : Int) - at_)) (obl (inI64 ((7 : Int) + ((↑data.length : Int) - at_))) (branch (decide ((7 : Int) + ((↑data.length : Int) - at_) ≤ max (0 : Int) (min space (4097 : Int)))) (obl (decide
 (data.length ≤ 9223372036854775000)) (obl (decide ((0 : Int) ≤ at_ ∧ at_ ≤ (↑data.length : Int))) (K (Out.ret (AVal.tup [AVal.agg [AVal.bool false, AVal.bool true, AVal.int IntKind.i64 id, AVal.int
 IntKind.i64 (0 : Int), AVal.int IntKind.i64 (0 : Int), AVal.int IntKind.i64 (0 : Int), AVal.str [], AVal.str (List.drop at_.toNat data), AVal.str (pSum typ k b data)], AVal.agg [AVal.int IntKind.i64
 typ, AVal.int IntKind.i64 k, AVal.str b, AVal.str data, AVal.int IntKind.i64 (↑data.length : Int), AVal.int IntKind.i64 id], AVal.int IntKind.i64 (0 : Int)]))))) (obl (inI64 (max (0 : Int) (min space
 (4097 : Int)) - (3 : Int))) (obl (inI64 ((↑data.length : Int) - at_ - (1 : Int))) (branch (decide (min (max (0 : Int) (min space (4097 : Int)) - (3 : Int)) ((↑data.length : Int) - at_ - (1 : Int)) <
 (1 : Int))) (K (Out.ret (AVal.tup [AVal.agg [AVal.bool false, AVal.bool false, AVal.int IntKind.i64 (0 : Int), AVal.int IntKind.i64 (0 : Int), AVal.int IntKind.i64 (0 : Int), AVal.int IntKind.i64 (0 :
 Int), AVal.str [], AVal.str [], AVal.str []], AVal.agg [AVal.int IntKind.i64 typ, AVal.int IntKind.i64 k, AVal.str b, AVal.str data, AVal.int IntKind.i64 at_, AVal.int IntKind.i64 id], AVal.int
 IntKind.i64 (12 : Int)]))) (obl (inI64 (at_ + min (max (0 : Int) (min space (4097 : Int)) - (3 : Int)) ((↑data.length : Int) - at_ - (1 : Int)))) (obl (decide ((0 : Int) ≤ at_ ∧ at_ ≤ at_ + min (max
 (0 : Int) (min space (4097 : Int)) - (3 : Int)) ((↑data.length : Int) - at_ - (1 : Int)) ∧ at_ + min (max (0 : Int) (min space (4097 : Int)) - (3 : Int)) ((↑data.length : Int) - at_ - (1 : Int)) ≤
 (↑data.length : Int))) (obl (inI64 (at_ + min (max (0 : Int) (min space (4097 : Int)) - (3 : Int)) ((↑data.length : Int) - at_ - (1 : Int)))) (K (Out.ret (AVal.tup [AVal.agg [AVal.bool false,
 AVal.bool false, AVal.int IntKind.i64 id, AVal.int IntKind.i64 (0 : Int), AVal.int IntKind.i64 (0 : Int), AVal.int IntKind.i64 (0 : Int), AVal.str [], AVal.str (List.drop at_.toNat (List.take (at_ +
 min (max (0 : Int) (min space (4097 : Int)) - (3 : Int)) ((↑data.length : Int) - at_ - (1 : Int))).toNat data)), AVal.str []], AVal.agg [AVal.int IntKind.i64 typ, AVal.int IntKind.i64 k, AVal.str b,
 AVal.str data, AVal.int IntKind.i64 (at_ + min (max (0 : Int) (min space (4097 : Int)) - (3 : Int)) ((↑data.length : Int) - at_ - (1 : Int))), AVal.int IntKind.i64 id], AVal.int IntKind.i64 (0 :
 Int)])))))))))))))) (branch (decide (at_ = (0 : Int))) (obl (inI64 ((4 : Int) + lSize lk)) (obl (inI64 ((4 : Int) + lSize lk + (↑data.length : Int))) (branch (decide ((4 : Int) + lSize lk +
 (↑data.length : Int) ≤ max (0 : Int) (min space (4097 : Int)))) (K (Out.ret (AVal.tup [AVal.agg [AVal.bool true, AVal.bool true, AVal.int IntKind.i64 (0 : Int), AVal.int IntKind.i64 (0 : Int),
 AVal.int IntKind.i64 typ, AVal.int IntKind.i64 lk, AVal.str lb, AVal.str data, AVal.str []], AVal.agg [AVal.int IntKind.i64 typ, AVal.int IntKind.i64 k, AVal.str b, AVal.str data, AVal.int IntKind.i64
 (↑data.length : Int), AVal.int IntKind.i64 id], AVal.int IntKind.i64 (0 : Int)]))) (obl (inI64 (max (0 : Int) (min space (4097 : Int)) - (7 : Int))) (obl (inI64 (max (0 : Int) (min space (4097 : Int))
 - (7 : Int) - lSize lk)) (obl (inI64 ((↑data.length : Int) - (1 : Int))) (branch whole (K (Out.ret (AVal.tup [AVal.agg [AVal.bool false, AVal.bool false, AVal.int IntKind.i64 (0 : Int), AVal.int
 IntKind.i64 (0 : Int), AVal.int IntKind.i64 (0 : Int), AVal.int IntKind.i64 (0 : Int), AVal.str [], AVal.str [], AVal.str []], AVal.agg [AVal.int IntKind.i64 typ, AVal.int IntKind.i64 k, AVal.str b,
 AVal.str data, AVal.int IntKind.i64 at_, AVal.int IntKind.i64 id], AVal.int IntKind.i64 (12 : Int)]))) (branch (decide (min (max (0 : Int) (min space (4097 : Int)) - (7 : Int) - lSize lk)
 ((↑data.length : Int) - (1 : Int)) < (1 : Int))) (K (Out.ret (AVal.tup [AVal.agg [AVal.bool false, AVal.bool false, AVal.int IntKind.i64 (0 : Int), AVal.int IntKind.i64 (0 : Int), AVal.int IntKind.i64
 (0 : Int), AVal.int IntKind.i64 (0 : Int), AVal.str [], AVal.str [], AVal.str []], AVal.agg [AVal.int IntKind.i64 typ, AVal.int IntKind.i64 k, AVal.str b, AVal.str data, AVal.int IntKind.i64 at_,
 AVal.int IntKind.i64 id], AVal.int IntKind.i64 (12 : Int)]))) (obl (decide ((0 : Int) ≤ min (max (0 : Int) (min space (4097 : Int)) - (7 : Int) - lSize lk) ((↑data.length : Int) - (1 : Int)) ∧ min
 (max (0 : Int) (min space (4097 : Int)) - (7 : Int) - lSize lk) ((↑data.length : Int) - (1 : Int)) ≤ (↑data.length : Int))) (K (Out.ret (AVal.tup [AVal.agg [AVal.bool true, AVal.bool false, AVal.int
 IntKind.i64 id, AVal.int IntKind.i64 (pTotal lk lb (↑data.length : Int)), AVal.int IntKind.i64 typ, AVal.int IntKind.i64 lk, AVal.str lb, AVal.str (List.take (min (max (0 : Int) (min space (4097 :
 Int)) - (7 : Int) - lSize lk) ((↑data.length : Int) - (1 : Int))).toNat data), AVal.str []], AVal.agg [AVal.int IntKind.i64 typ, AVal.int IntKind.i64 lk, AVal.str lb, AVal.str data, AVal.int
 IntKind.i64 (min (max (0 : Int) (min space (4097 : Int)) - (7 : Int) - lSize lk) ((↑data.length : Int) - (1 : Int))), AVal.int IntKind.i64 id], AVal.int IntKind.i64 (0 : Int)])))))))))))) (obl (inI64
 ((↑data.length : Int) - at_)) (obl (inI64 ((7 : Int) + ((↑data.length : Int) - at_))) (branch (decide ((7 : Int) + ((↑data.length : Int) - at_) ≤ max (0 : Int) (min space (4097 : Int)))) (obl (decide
 (data.length ≤ 9223372036854775000)) (obl (decide ((0 : Int) ≤ at_ ∧ at_ ≤ (↑data.length : Int))) (K (Out.ret (AVal.tup [AVal.agg [AVal.bool false, AVal.bool true, AVal.int IntKind.i64 id, AVal.int
 IntKind.i64 (0 : Int), AVal.int IntKind.i64 (0 : Int), AVal.int IntKind.i64 (0 : Int), AVal.str [], AVal.str (List.drop at_.toNat data), AVal.str (pSum typ k b data)], AVal.agg [AVal.int IntKind.i64
 typ, AVal.int IntKind.i64 k, AVal.str b, AVal.str data, AVal.int IntKind.i64 (↑data.length : Int), AVal.int IntKind.i64 id], AVal.int IntKind.i64 (0 : Int)]))))) (obl (inI64 (max (0 : Int) (min space
 (4097 : Int)) - (3 : Int))) (obl (inI64 ((↑data.length : Int) - at_ - (1 : Int))) (branch (decide (min (max (0 : Int) (min space (4097 : Int)) - (3 : Int)) ((↑data.length : Int) - at_ - (1 : Int)) <
 (1 : Int))) (K (Out.ret (AVal.tup [AVal.agg [AVal.bool false, AVal.bool false, AVal.int IntKind.i64 (0 : Int), AVal.int IntKind.i64 (0 : Int), AVal.int IntKind.i64 (0 : Int), AVal.int IntKind.i64 (0 :
 Int), AVal.str [], AVal.str [], AVal.str []], AVal.agg [AVal.int IntKind.i64 typ, AVal.int IntKind.i64 k, AVal.str b, AVal.str data, AVal.int IntKind.i64 at_, AVal.int IntKind.i64 id], AVal.int
 IntKind.i64 (12 : Int)]))) (obl (inI64 (at_ + min (max (0 : Int) (min space (4097 : Int)) - (3 : Int)) ((↑data.length : Int) - at_ - (1 : Int)))) (obl (decide ((0 : Int) ≤ at_ ∧ at_ ≤ at_ + min (max
 (0 : Int) (min space (4097 : Int)) - (3 : Int)) ((↑data.length : Int) - at_ - (1 : Int)) ∧ at_ + min (max (0 : Int) (min space (4097 : Int)) - (3 : Int)) ((↑data.length : Int) - at_ - (1 : Int)) ≤
 (↑data.length : Int))) (obl (inI64 (at_ + min (max (0 : Int) (min space (4097 : Int)) - (3 : Int)) ((↑data.length : Int) - at_ - (1 : Int)))) (K (Out.ret (AVal.tup [AVal.agg [AVal.bool false,
 AVal.bool false, AVal.int IntKind.i64 id, AVal.int IntKind.i64 (0 : Int), AVal.int IntKind.i64 (0 : Int), AVal.int IntKind.i64 (0 : Int), AVal.str [], AVal.str (List.drop at_.toNat (List.take (at_ +
 min (max (0 : Int) (min space (4097 : Int)) - (3 : Int)) ((↑data.length : Int) - at_ - (1 : Int))).toNat data)), AVal.str []], AVal.agg [AVal.int IntKind.i64 typ, AVal.int IntKind.i64 k, AVal.str b,
 AVal.str data, AVal.int IntKind.i64 (at_ + min (max (0 : Int) (min space (4097 : Int)) - (3 : Int)) ((↑data.length : Int) - at_ - (1 : Int))), AVal.int IntKind.i64 id], AVal.int IntKind.i64 (0 :
 Int)])))))))))))))))) := by kernel_rfl
end Go.Proofs.Ytjacnjecggedhaa
namespace Go.Proofs.Ytjacnjecggedhaa
set_option linter.unusedVariables false
set_option linter.unusedSimpArgs false
open Go.RowKit Ev
theorem obl_int {n : Int} {A : Prop} (h : -9223372036854775808 ≤ n ∧ n ≤ 9223372036854775807) (hA : A) : obl (inI64 n) A := obl_iff.2 ⟨inI64_iff.2 h, hA⟩
noncomputable def TX0 : Tabs := symT TF 8
theorem TX0ok : TabsOk TX0 Try.prog := symT_ok TFok _
noncomputable abbrev ofB : Code := bodyC Try.f8
noncomputable abbrev ofR : Code := codeAt [true, true, false, true, false, false] ofB
def noPack : PackR := ⟨0, 0, 0, [], 0⟩
def srcB (a b : AVal) : ABlk := .cells 29 [a, b]
def cRow (cs : List CutR) : ABlk := .row 48 cutRow cs .plain
def dRow (ds : List BoolR) : ABlk := .row 4 boolRow ds .plain
def pRow (hs : List PackR) (md : RowMd) : ABlk := .row 51 packRow hs md
def ofE (n : Nat) (i : Int) : Env := [(0, .sl 0 0 5 0 n none), (3, .ptr 1 0 0 0), (4, .int .i64 i)]
def of0 (hs : List PackR) (md : RowMd) (i : Int) : Env × AHeap := (ofE hs.length i, ⟨2, [(0, pRow hs md), (1, srcB .nils .nils)]⟩)
def of1 (hs : List PackR) (md : RowMd) (i : Int) (cs : List CutR) (ds : List BoolR) : Env × AHeap := (ofE hs.length i, ⟨4, [(0, pRow hs md), (1, srcB (.sl 2 0 6 0 cs.length none) (.sl 3 0 1 0 ds.length none)), (2, cRow cs), (3, dRow ds)]⟩)
def tsP2 : AExit → List Nat := fun _ => [2]
def tsOf : AExit → List Nat := fun _ => [0, 3, 4]
end Go.Proofs.Ytjacnjecggedhaa
namespace Go.Proofs.Ytjacnjecggedhaa
set_option linter.unusedVariables false
set_option linter.unusedSimpArgs false
open Go.RowKit Ev
theorem rnext_sound : FcSound Try.prog 23 fcNext := by
  refine fc_pure TQ0ok.ctx (n := 100) Try.call23 (fun args H v h => ?_)
  unfold fcNext at h
  split at h <;> cases h
  rename_i typ k b data at_ id lk lb space whole
  refine ⟨rfl, rfl, ?_⟩
  rw [nextT_eq, w_rnext]
  have hk := lSize_le lk
  have hk' := lSize_le k
  have bad : nOk typ k b data at_ id lk lb = false → Out.ret (.tup [pieceV false false 0 0 0 0 [] [] [], cutV typ k b data at_ id, .int .i64 2]) = Out.ret (nextV typ k b data at_ id lk lb space whole) := fun h => by
    unfold nextV; rw [if_pos h]
  refine br_mk (fun hm => bad ?_) (fun hm => ?_)
  · have hm : cMay typ k b data at_ id = false := by simpa using hm
    unfold nOk; rw [hm]; rfl
  have hm : cMay typ k b data at_ id = true := by simpa using hm
  obtain ⟨m1, m2, m3, m4, m5, m6, m7, m8⟩ := cMay_iff.1 hm
  refine br_mk (fun hb => bad ?_) (fun hb => ?_)
  · have hb : lOk lk lb = false := by simpa using hb
    unfold nOk; rw [hb]; simp
  have hb : lOk lk lb = true := by simpa using hb
  have good0 : at_ = 0 → ((lk = k ∧ lb = b) ∨ lk = 3) → nOk typ k b data at_ id lk lb = true := fun h0 hq => by
    unfold nOk; rw [hm, hb, h0]
    rcases hq with ⟨rfl, rfl⟩ | rfl <;> simp
  have good1 : at_ ≠ 0 → nOk typ k b data at_ id lk lb = true := fun h0 => by
    unfold nOk; rw [hm, hb]; simp [h0]
  have dl : data.length ≤ 9223372036854775000 := by omega
  refine br_dec (fun h0 => ?_) (fun h0 => ?_)
  · subst h0
    refine br_mk (fun hq => br_mk (fun h3 => bad ?_) (fun h3 => ?_)) (fun hq => ?_)
    · have h3 : ¬ lk = 3 := by simpa using h3
      have hq : ¬ (lk = k ∧ lb = b) := by rintro ⟨h1, h2⟩; rw [decide_eq_true h1, decide_eq_true h2] at hq; cases hq
      unfold nOk; rw [hm, hb]
      have : (decide (lk = k) && decide (lb = b)) = false := by
        by_cases h1 : lk = k
        · have h2 : ¬ lb = b := fun h2 => hq ⟨h1, h2⟩
          rw [decide_eq_false h2, Bool.and_false]
        · rw [decide_eq_false h1, Bool.false_and]
      rw [this, decide_eq_false h3]; rfl
    · have h3 : lk = 3 := by simpa using h3
      have hn := good0 rfl (.inr h3)
      refine br_dec (fun _ => ?_) (fun h => absurd rfl h)
      refine obl_int (by omega) (obl_int (by omega) (br_dec (fun g => ?_) (fun g => ?_)))
      · unfold nextV; rw [if_neg (by rw [hn]; simp), if_pos rfl, if_pos g]
      refine obl_int (by omega) (obl_int (by omega) (obl_int (by omega) (br_mk (fun g2 => ?_) (fun g2 => br_dec (fun g3 => ?_) (fun g3 => obl_dec (by omega) ?_)))))
      · unfold nextV; rw [if_neg (by rw [hn]; simp), if_pos rfl, if_neg g, if_pos (.inl g2)]
      · unfold nextV; rw [if_neg (by rw [hn]; simp), if_pos rfl, if_neg g, if_pos (.inr g3)]
      · unfold nextV; rw [if_neg (by rw [hn]; simp), if_pos rfl, if_neg g, if_neg (by rintro (h | h); rw [g2] at h; cases h; exact g3 h)]
    · have hq : lk = k ∧ lb = b := by simpa using hq
      have hn := good0 rfl (.inl hq)
      refine br_dec (fun _ => ?_) (fun h => absurd rfl h)
      refine obl_int (by omega) (obl_int (by omega) (br_dec (fun g => ?_) (fun g => ?_)))
      · unfold nextV; rw [if_neg (by rw [hn]; simp), if_pos rfl, if_pos g]
      refine obl_int (by omega) (obl_int (by omega) (obl_int (by omega) (br_mk (fun g2 => ?_) (fun g2 => br_dec (fun g3 => ?_) (fun g3 => obl_dec (by omega) ?_)))))
      · unfold nextV; rw [if_neg (by rw [hn]; simp), if_pos rfl, if_neg g, if_pos (.inl g2)]
      · unfold nextV; rw [if_neg (by rw [hn]; simp), if_pos rfl, if_neg g, if_pos (.inr g3)]
      · unfold nextV; rw [if_neg (by rw [hn]; simp), if_pos rfl, if_neg g, if_neg (by rintro (h | h); rw [g2] at h; cases h; exact g3 h)]
  · have hn := good1 h0
    refine br_dec (fun h => absurd h h0) (fun _ => ?_)
    refine obl_int (by omega) (obl_int (by omega) (br_dec (fun g => ?_) (fun g => ?_)))
    · refine obl_dec dl (obl_dec (by omega) ?_)
      unfold nextV; rw [if_neg (by rw [hn]; simp), if_neg h0, if_pos g]
    refine obl_int (by omega) (obl_int (by omega) (br_dec (fun g2 => ?_) (fun g2 => obl_int (by omega) (obl_dec (by omega) (obl_int (by omega) ?_)))))
    · unfold nextV; rw [if_neg (by rw [hn]; simp), if_neg h0, if_neg g, if_pos g2]
    · unfold nextV; rw [if_neg (by rw [hn]; simp), if_neg h0, if_neg g, if_neg g2]
noncomputable def TQ1 : Tabs := (TQ0.addFc 23 fcNext)
theorem TQ1ok : TabsOk TQ1 Try.prog := (TQ0ok.addFc rnext_sound)
end Go.Proofs.Ytjacnjecggedhaa
namespace Go.Proofs.Ytjacnjecggedhaa
set_option linter.unusedVariables false
set_option linter.unusedSimpArgs false
open Go.RowKit Ev
set_option maxRecDepth 100000 in
theorem w_rmay_tt (id total typ k : Int) (lb data sum : List UInt8) (K : Out → Prop) : (callC (TQ1.ctx Try.prog) 100 24 [.agg [.bool true, .bool true, .int .i64 id, .int .i64 total, .int .i64 typ, .int .i64 k, .str lb, .str data, .str sum]] ⟨0, []⟩ (fun o _ => K o)
) =  (same (decide ((0 : Int) ≤ id)) (branch (decide (id = (0 : Int))) (branch (decide (total = (0 : Int))) (branch (decide ((0 : Int) ≤ typ)) (branch (decide (typ ≤ (65535 : Int))) (branch (lOk k lb) (K
 (Out.ret (AVal.bool (decide (sum = []))))) (K (Out.ret (AVal.bool false)))) (K (Out.ret (AVal.bool false)))) (K (Out.ret (AVal.bool false)))) (K (Out.ret (AVal.bool false)))) (K (Out.ret (AVal.bool
 false))))) := by kernel_rfl
set_option maxRecDepth 100000 in
theorem w_rmay_tf (id total typ k : Int) (lb data sum : List UInt8) (K : Out → Prop) : (callC (TQ1.ctx Try.prog) 100 24 [.agg [.bool true, .bool false, .int .i64 id, .int .i64 total, .int .i64 typ, .int .i64 k, .str lb, .str data, .str sum]] ⟨0, []⟩ (fun o _ => K o)
) =  (branch (decide ((0 : Int) ≤ id)) (branch (decide (id ≤ (255 : Int))) (branch (decide ((0 : Int) ≤ total)) (branch (decide (total ≤ (65535 : Int))) (branch (decide ((0 : Int) ≤ typ)) (branch (decide
 (typ ≤ (65535 : Int))) (branch (lOk k lb) (K (Out.ret (AVal.bool (decide (sum = []))))) (K (Out.ret (AVal.bool false)))) (K (Out.ret (AVal.bool false)))) (K (Out.ret (AVal.bool false)))) (K (Out.ret
 (AVal.bool false)))) (K (Out.ret (AVal.bool false)))) (K (Out.ret (AVal.bool false)))) (K (Out.ret (AVal.bool false)))) := by kernel_rfl
set_option maxRecDepth 100000 in
theorem w_rmay_ft (id total typ k : Int) (lb data sum : List UInt8) (K : Out → Prop) : (callC (TQ1.ctx Try.prog) 100 24 [.agg [.bool false, .bool true, .int .i64 id, .int .i64 total, .int .i64 typ, .int .i64 k, .str lb, .str data, .str sum]] ⟨0, []⟩ (fun o _ => K o)
) =  (branch (decide ((0 : Int) ≤ id)) (branch (decide (id ≤ (255 : Int))) (branch (decide (total = (0 : Int))) (branch (decide (typ = (0 : Int))) (branch (decide (k = (0 : Int)) && (decide (lb = []) &&
 true)) (K (Out.ret (AVal.bool (decide ((↑sum.length : Int) = (4 : Int)))))) (K (Out.ret (AVal.bool false)))) (K (Out.ret (AVal.bool false)))) (K (Out.ret (AVal.bool false)))) (K (Out.ret (AVal.bool
 false)))) (K (Out.ret (AVal.bool false)))) := by kernel_rfl
set_option maxRecDepth 100000 in
theorem w_rmay_ff (id total typ k : Int) (lb data sum : List UInt8) (K : Out → Prop) : (callC (TQ1.ctx Try.prog) 100 24 [.agg [.bool false, .bool false, .int .i64 id, .int .i64 total, .int .i64 typ, .int .i64 k, .str lb, .str data, .str sum]] ⟨0, []⟩ (fun o _ => K o)
) =  (branch (decide ((0 : Int) ≤ id)) (branch (decide (id ≤ (255 : Int))) (branch (decide (total = (0 : Int))) (branch (decide (typ = (0 : Int))) (branch (decide (k = (0 : Int)) && (decide (lb = []) &&
 true)) (K (Out.ret (AVal.bool (decide (sum = []))))) (K (Out.ret (AVal.bool false)))) (K (Out.ret (AVal.bool false)))) (K (Out.ret (AVal.bool false)))) (K (Out.ret (AVal.bool false)))) (K (Out.ret
 (AVal.bool false)))) := by kernel_rfl
set_option maxRecDepth 100000 in
theorem w_rtwo8 (n : Int) (K : Out → Prop) : (callC (TQ1.ctx Try.prog) 100 26 [.int .i64 n] ⟨0, []⟩ (fun o _ => K o)
) =  (obl (decide ((0 : Int) ≤ n ∧ (0 : Int) < (256 : Int)) && inI64 (n / (256 : Int))) (obl (decide ((0 : Int) ≤ n ∧ (0 : Int) < (256 : Int))) (K (Out.ret (AVal.str [UInt8.ofNat (n / (256 : Int) % (256 :
 Int)).toNat, UInt8.ofNat (n % (256 : Int) % (256 : Int)).toNat]))))) := by kernel_rfl
end Go.Proofs.Ytjacnjecggedhaa
namespace Go.Proofs.Ytjacnjecggedhaa
set_option linter.unusedVariables false
set_option linter.unusedSimpArgs false
open Go.RowKit Ev
theorem rmay_sound8 : FcSound Try.prog 24 fcGMay := by
  refine fc_pure TQ1ok.ctx (n := 100) Try.call24 (fun args H v h => ?_)
  unfold fcGMay at h
  split at h <;> cases h
  rename_i st en id total typ k lb data sum
  refine ⟨rfl, rfl, ?_⟩
  have hs : (decide ((sum.length : Int) = 4)) = decide (sum.length = 4) := by rw [Bool.eq_iff_iff, decide_eq_true_eq, decide_eq_true_eq]; omega
  cases st <;> cases en
  · rw [w_rmay_ff]
    simp only [hs, branch_iff, same_iff, twice_iff, decide_eq_true_eq, decide_eq_false_iff_not, Bool.and_true, Bool.and_eq_true, Bool.and_eq_false_iff]
    (repeat' (first | apply And.intro | intro _)) <;> refine congrArg (fun c => Out.ret (AVal.bool c)) ?_ <;> unfold gMay <;> grind
  · rw [w_rmay_ft]
    simp only [hs, branch_iff, same_iff, twice_iff, decide_eq_true_eq, decide_eq_false_iff_not, Bool.and_true, Bool.and_eq_true, Bool.and_eq_false_iff]
    (repeat' (first | apply And.intro | intro _)) <;> refine congrArg (fun c => Out.ret (AVal.bool c)) ?_ <;> unfold gMay <;> grind
  · rw [w_rmay_tf]
    cases hb : lOk k lb <;> simp only [branch_t, branch_f, branch_iff, same_iff, twice_iff, decide_eq_true_eq, decide_eq_false_iff_not] <;>
    ((repeat' (first | apply And.intro | intro _)) <;> refine congrArg (fun c => Out.ret (AVal.bool c)) ?_ <;> unfold gMay <;> grind)
  · rw [w_rmay_tt]
    cases hb : lOk k lb <;> simp only [branch_t, branch_f, branch_iff, same_iff, twice_iff, decide_eq_true_eq, decide_eq_false_iff_not] <;>
    ((repeat' (first | apply And.intro | intro _)) <;> refine congrArg (fun c => Out.ret (AVal.bool c)) ?_ <;> unfold gMay <;> grind)
theorem rtwo_sound8 : FcSound Try.prog 26 fcRTwo := by
  refine fc_pure TQ1ok.ctx (n := 100) Try.call26 (fun args H v h => ?_)
  unfold fcRTwo at h
  split at h <;> simp only [Option.some.injEq, Prod.mk.injEq, decide_eq_true_eq, reduceCtorEq] at h
  obtain ⟨hl, rfl⟩ := h
  rename_i n
  refine ⟨rfl, rfl, ?_⟩
  rw [w_rtwo8]
  have e : n % 256 % 256 = n % 256 := by omega
  simp only [obl_iff, Bool.and_eq_true, decide_eq_true_eq, inI64_iff, e]
  exact ⟨by omega, by omega, rfl⟩
noncomputable def TQ2 : Tabs := ((TQ1.addFc 24 fcGMay).addFc 26 fcRTwo)
theorem TQ2ok : TabsOk TQ2 Try.prog := ((TQ1ok.addFc rmay_sound8).addFc rtwo_sound8)
end Go.Proofs.Ytjacnjecggedhaa
namespace Go.Proofs.Ytjacnjecggedhaa
set_option linter.unusedVariables false
set_option linter.unusedSimpArgs false
open Go.RowKit Ev
set_option maxRecDepth 100000 in
theorem w_rbody_tt (id total typ k : Int) (lb data sum : List UInt8) (K : Out → Prop) : (callC (TQ2.ctx Try.prog) 100 25 [.agg [.bool true, .bool true, .int .i64 id, .int .i64 total, .int .i64 typ, .int .i64 k, .str lb, .str data, .str sum]] ⟨0, []⟩ (fun o _ => K o)
) =  (obl (decide ((0 : Int) ≤ typ ∧ typ ≤ (9223372036854775807 : Int))) (obl (decide ((↑((two typ).length + lb.length) : Int) ≤ (9223372036854775807 : Int))) (obl (decide ((↑((two typ ++ lb).length +
 data.length) : Int) ≤ (9223372036854775807 : Int))) (K (Out.ret (AVal.str (two typ ++ lb ++ data))))))) := by kernel_rfl
set_option maxRecDepth 100000 in
theorem w_rbody_tf (id total typ k : Int) (lb data sum : List UInt8) (K : Out → Prop) : (callC (TQ2.ctx Try.prog) 100 25 [.agg [.bool true, .bool false, .int .i64 id, .int .i64 total, .int .i64 typ, .int .i64 k, .str lb, .str data, .str sum]] ⟨0, []⟩ (fun o _ => K o)
) =  (obl (decide ((0 : Int) ≤ total ∧ total ≤ (9223372036854775807 : Int))) (obl (decide ((0 : Int) ≤ typ ∧ typ ≤ (9223372036854775807 : Int))) (obl (decide ((↑(([UInt8.ofNat (id % (256 : Int)).toNat] ++
 two total ++ two typ).length + lb.length) : Int) ≤ (9223372036854775807 : Int))) (obl (decide ((↑(([UInt8.ofNat (id % (256 : Int)).toNat] ++ two total ++ two typ ++ lb).length + data.length) : Int) ≤
 (9223372036854775807 : Int))) (K (Out.ret (AVal.str ([UInt8.ofNat (id % (256 : Int)).toNat] ++ two total ++ two typ ++ lb ++ data)))))))) := by kernel_rfl
set_option maxRecDepth 100000 in
theorem w_rbody_ft (id total typ k : Int) (lb data sum : List UInt8) (K : Out → Prop) : (callC (TQ2.ctx Try.prog) 100 25 [.agg [.bool false, .bool true, .int .i64 id, .int .i64 total, .int .i64 typ, .int .i64 k, .str lb, .str data, .str sum]] ⟨0, []⟩ (fun o _ => K o)
) =  (obl (decide ((↑([UInt8.ofNat (id % (256 : Int)).toNat].length + data.length) : Int) ≤ (9223372036854775807 : Int))) (obl (decide ((↑(([UInt8.ofNat (id % (256 : Int)).toNat] ++ data).length +
 sum.length) : Int) ≤ (9223372036854775807 : Int))) (K (Out.ret (AVal.str ([UInt8.ofNat (id % (256 : Int)).toNat] ++ data ++ sum)))))) := by kernel_rfl
set_option maxRecDepth 100000 in
theorem w_rbody_ff (id total typ k : Int) (lb data sum : List UInt8) (K : Out → Prop) : (callC (TQ2.ctx Try.prog) 100 25 [.agg [.bool false, .bool false, .int .i64 id, .int .i64 total, .int .i64 typ, .int .i64 k, .str lb, .str data, .str sum]] ⟨0, []⟩ (fun o _ => K o)
) =  (obl (decide ((↑([UInt8.ofNat (id % (256 : Int)).toNat].length + data.length) : Int) ≤ (9223372036854775807 : Int))) (obl (decide ((↑(([UInt8.ofNat (id % (256 : Int)).toNat] ++ data).length +
 sum.length) : Int) ≤ (9223372036854775807 : Int))) (K (Out.ret (AVal.str ([UInt8.ofNat (id % (256 : Int)).toNat] ++ data ++ sum)))))) := by kernel_rfl
end Go.Proofs.Ytjacnjecggedhaa
namespace Go.Proofs.Ytjacnjecggedhaa
set_option linter.unusedVariables false
set_option linter.unusedSimpArgs false
open Go.RowKit Ev
def rBody (st en : Bool) (id total typ : Int) (lb data sum : List UInt8) : List UInt8 :=
  (if st && en then [] else [UInt8.ofNat (id % 256).toNat]) ++ (if st && !en then two total else []) ++ (if st then two typ ++ lb else []) ++ data ++ (if st then [] else sum)
def fcRBody : FC := fun args _ => match args with
  | [.agg [.bool st, .bool en, .int .i64 id, .int .i64 total, .int .i64 typ, .int .i64 k, .str lb, .str data, .str sum]] => some (decide (lb.length + data.length + sum.length ≤ 9223372036854775000 ∧ (st = true → 0 ≤ typ ∧ typ ≤ 65535) ∧ (st = true ∧ en = false → 0 ≤ total ∧ total ≤ 65535)), .str (rBody st en id total typ lb data sum))
  | _ => none
theorem rbody_sound8 : FcSound Try.prog 25 fcRBody := by
  refine fc_pure TQ2ok.ctx (n := 100) Try.call25 (fun args H v h => ?_)
  unfold fcRBody at h
  split at h <;> simp only [Option.some.injEq, Prod.mk.injEq, decide_eq_true_eq, reduceCtorEq] at h
  obtain ⟨⟨hl, h1, h2⟩, rfl⟩ := h
  rename_i st en id total typ k lb data sum
  have tw : (two typ).length = 2 ∧ (two total).length = 2 := ⟨rfl, rfl⟩
  refine ⟨rfl, rfl, ?_⟩
  cases st <;> cases en <;> simp only [true_and, and_true, forall_const, reduceCtorEq, false_implies, and_false, false_and] at h1 h2
  · rw [w_rbody_ff]
    simp only [obl_iff, same_iff, twice_iff, decide_eq_true_eq, List.length_append, List.length_cons, List.length_nil]
    exact ⟨by omega, by omega, by simp [rBody]⟩
  · rw [w_rbody_ft]
    simp only [obl_iff, same_iff, twice_iff, decide_eq_true_eq, List.length_append, List.length_cons, List.length_nil]
    exact ⟨by omega, by omega, by simp [rBody]⟩
  · rw [w_rbody_tf]
    simp only [obl_iff, same_iff, twice_iff, decide_eq_true_eq, List.length_append, List.length_cons, List.length_nil, tw.1, tw.2]
    exact ⟨by omega, by omega, by omega, by omega, by simp [rBody]⟩
  · rw [w_rbody_tt]
    simp only [obl_iff, same_iff, twice_iff, decide_eq_true_eq, List.length_append, List.length_cons, List.length_nil, tw.1, tw.2]
    exact ⟨by omega, by omega, by omega, by simp [rBody]⟩
noncomputable def TQ3 : Tabs := (TQ2.addFc 25 fcRBody)
theorem TQ3ok : TabsOk TQ3 Try.prog := (TQ2ok.addFc rbody_sound8)
end Go.Proofs.Ytjacnjecggedhaa
namespace Go.Proofs.Ytjacnjecggedhaa
set_option linter.unusedVariables false
set_option linter.unusedSimpArgs false
open Go.RowKit Ev
set_option maxRecDepth 100000 in
theorem w_renc_tt (id total typ k : Int) (lb data sum : List UInt8) (K : Out → Prop) : (callC (TQ3.ctx Try.prog) 100 19 [.agg [.bool true, .bool true, .int .i64 id, .int .i64 total, .int .i64 typ, .int .i64 k, .str lb, .str data, .str sum]] ⟨0, []⟩ (fun o _ => K o)
) =  (branch (!gMay true true id total typ k lb sum) (K (Out.ret (AVal.tup [AVal.str [], AVal.int IntKind.i64 (2 : Int)]))) (obl (decide (lb.length + data.length + sum.length ≤ 9223372036854775000 ∧ (true
 = true → (0 : Int) ≤ typ ∧ typ ≤ (65535 : Int)) ∧ (true = true ∧ true = false → (0 : Int) ≤ total ∧ total ≤ (65535 : Int)))) (branch (decide ((4095 : Int) < (↑(rBody true true id total typ lb data
 sum).length : Int))) (K (Out.ret (AVal.tup [AVal.str [], AVal.int IntKind.i64 (3 : Int)]))) (obl (inI64 ((↑(rBody true true id total typ lb data sum).length : Int) + (32768 : Int))) (obl (inI64 (k *
 (4096 : Int))) (obl (inI64 ((↑(rBody true true id total typ lb data sum).length : Int) + (32768 : Int) + k * (4096 : Int))) (obl (inI64 ((↑(rBody true true id total typ lb data sum).length : Int) +
 (32768 : Int) + k * (4096 : Int) + (16384 : Int))) (obl (decide ((0 : Int) ≤ (↑(rBody true true id total typ lb data sum).length : Int) + (32768 : Int) + k * (4096 : Int) + (16384 : Int) ∧ (↑(rBody
 true true id total typ lb data sum).length : Int) + (32768 : Int) + k * (4096 : Int) + (16384 : Int) ≤ (9223372036854775807 : Int))) (obl (decide ((↑((two ((↑(rBody true true id total typ lb data
 sum).length : Int) + (32768 : Int) + k * (4096 : Int) + (16384 : Int))).length + (rBody true true id total typ lb data sum).length) : Int) ≤ (9223372036854775807 : Int))) (K (Out.ret (AVal.tup
 [AVal.str (two ((↑(rBody true true id total typ lb data sum).length : Int) + (32768 : Int) + k * (4096 : Int) + (16384 : Int)) ++ rBody true true id total typ lb data sum), AVal.int IntKind.i64 (0 :
 Int)])))))))))))) := by kernel_rfl
set_option maxRecDepth 100000 in
theorem w_renc_tf (id total typ k : Int) (lb data sum : List UInt8) (K : Out → Prop) : (callC (TQ3.ctx Try.prog) 100 19 [.agg [.bool true, .bool false, .int .i64 id, .int .i64 total, .int .i64 typ, .int .i64 k, .str lb, .str data, .str sum]] ⟨0, []⟩ (fun o _ => K o)
) =  (branch (!gMay true false id total typ k lb sum) (K (Out.ret (AVal.tup [AVal.str [], AVal.int IntKind.i64 (2 : Int)]))) (obl (decide (lb.length + data.length + sum.length ≤ 9223372036854775000 ∧ (true
 = true → (0 : Int) ≤ typ ∧ typ ≤ (65535 : Int)) ∧ (true = true ∧ false = false → (0 : Int) ≤ total ∧ total ≤ (65535 : Int)))) (branch (decide ((4095 : Int) < (↑(rBody true false id total typ lb data
 sum).length : Int))) (K (Out.ret (AVal.tup [AVal.str [], AVal.int IntKind.i64 (3 : Int)]))) (obl (inI64 ((↑(rBody true false id total typ lb data sum).length : Int) + (32768 : Int))) (obl (inI64 (k *
 (4096 : Int))) (obl (inI64 ((↑(rBody true false id total typ lb data sum).length : Int) + (32768 : Int) + k * (4096 : Int))) (obl (decide ((0 : Int) ≤ (↑(rBody true false id total typ lb data
 sum).length : Int) + (32768 : Int) + k * (4096 : Int) ∧ (↑(rBody true false id total typ lb data sum).length : Int) + (32768 : Int) + k * (4096 : Int) ≤ (9223372036854775807 : Int))) (obl (decide
 ((↑((two ((↑(rBody true false id total typ lb data sum).length : Int) + (32768 : Int) + k * (4096 : Int))).length + (rBody true false id total typ lb data sum).length) : Int) ≤ (9223372036854775807 :
 Int))) (K (Out.ret (AVal.tup [AVal.str (two ((↑(rBody true false id total typ lb data sum).length : Int) + (32768 : Int) + k * (4096 : Int)) ++ rBody true false id total typ lb data sum), AVal.int
 IntKind.i64 (0 : Int)]))))))))))) := by kernel_rfl
set_option maxRecDepth 100000 in
theorem w_renc_ft (id total typ k : Int) (lb data sum : List UInt8) (K : Out → Prop) : (callC (TQ3.ctx Try.prog) 100 19 [.agg [.bool false, .bool true, .int .i64 id, .int .i64 total, .int .i64 typ, .int .i64 k, .str lb, .str data, .str sum]] ⟨0, []⟩ (fun o _ => K o)
) =  (branch (!gMay false true id total typ k lb sum) (K (Out.ret (AVal.tup [AVal.str [], AVal.int IntKind.i64 (2 : Int)]))) (obl (decide (lb.length + data.length + sum.length ≤ 9223372036854775000 ∧
 (false = true → (0 : Int) ≤ typ ∧ typ ≤ (65535 : Int)) ∧ (false = true ∧ true = false → (0 : Int) ≤ total ∧ total ≤ (65535 : Int)))) (branch (decide ((4095 : Int) < (↑(rBody false true id total typ lb
 data sum).length : Int))) (K (Out.ret (AVal.tup [AVal.str [], AVal.int IntKind.i64 (3 : Int)]))) (obl (inI64 ((↑(rBody false true id total typ lb data sum).length : Int) + (12288 : Int))) (obl (inI64
 ((↑(rBody false true id total typ lb data sum).length : Int) + (12288 : Int) + (16384 : Int))) (obl (decide ((0 : Int) ≤ (↑(rBody false true id total typ lb data sum).length : Int) + (12288 : Int) +
 (16384 : Int) ∧ (↑(rBody false true id total typ lb data sum).length : Int) + (12288 : Int) + (16384 : Int) ≤ (9223372036854775807 : Int))) (obl (decide ((↑((two ((↑(rBody false true id total typ lb
 data sum).length : Int) + (12288 : Int) + (16384 : Int))).length + (rBody false true id total typ lb data sum).length) : Int) ≤ (9223372036854775807 : Int))) (K (Out.ret (AVal.tup [AVal.str (two
 ((↑(rBody false true id total typ lb data sum).length : Int) + (12288 : Int) + (16384 : Int)) ++ rBody false true id total typ lb data sum), AVal.int IntKind.i64 (0 : Int)])))))))))) := by kernel_rfl
set_option maxRecDepth 100000 in
theorem w_renc_ff (id total typ k : Int) (lb data sum : List UInt8) (K : Out → Prop) : (callC (TQ3.ctx Try.prog) 100 19 [.agg [.bool false, .bool false, .int .i64 id, .int .i64 total, .int .i64 typ, .int .i64 k, .str lb, .str data, .str sum]] ⟨0, []⟩ (fun o _ => K o)
) =  (branch (!gMay false false id total typ k lb sum) (K (Out.ret (AVal.tup [AVal.str [], AVal.int IntKind.i64 (2 : Int)]))) (obl (decide (lb.length + data.length + sum.length ≤ 9223372036854775000 ∧
 (false = true → (0 : Int) ≤ typ ∧ typ ≤ (65535 : Int)) ∧ (false = true ∧ false = false → (0 : Int) ≤ total ∧ total ≤ (65535 : Int)))) (branch (decide ((4095 : Int) < (↑(rBody false false id total typ
 lb data sum).length : Int))) (K (Out.ret (AVal.tup [AVal.str [], AVal.int IntKind.i64 (3 : Int)]))) (obl (inI64 ((↑(rBody false false id total typ lb data sum).length : Int) + (12288 : Int))) (obl
 (decide ((0 : Int) ≤ (↑(rBody false false id total typ lb data sum).length : Int) + (12288 : Int) ∧ (↑(rBody false false id total typ lb data sum).length : Int) + (12288 : Int) ≤ (9223372036854775807
 : Int))) (obl (decide ((↑((two ((↑(rBody false false id total typ lb data sum).length : Int) + (12288 : Int))).length + (rBody false false id total typ lb data sum).length) : Int) ≤
 (9223372036854775807 : Int))) (K (Out.ret (AVal.tup [AVal.str (two ((↑(rBody false false id total typ lb data sum).length : Int) + (12288 : Int)) ++ rBody false false id total typ lb data sum),
 AVal.int IntKind.i64 (0 : Int)]))))))))) := by kernel_rfl
end Go.Proofs.Ytjacnjecggedhaa
namespace Go.Proofs.Ytjacnjecggedhaa
set_option linter.unusedVariables false
set_option linter.unusedSimpArgs false
open Go.RowKit Ev
theorem renc_sound8 : FcSound Try.prog 19 fcEnc := by
  refine fc_pure TQ3ok.ctx (n := 100) Try.call19 (fun args H v h => ?_)
  unfold fcEnc at h
  split at h <;> simp only [Option.some.injEq, Prod.mk.injEq, decide_eq_true_eq, reduceCtorEq] at h
  obtain ⟨hl, rfl⟩ := h
  rename_i st en id total typ k lb data sum
  refine ⟨rfl, rfl, ?_⟩
  cases hm : gMay st en id total typ k lb sum with
  | false =>
    have e1 : gErr st en id total typ k lb data sum = 2 := by unfold gErr; rw [hm]; rfl
    have e2 : gEnc st en id total typ k lb data sum = [] := by unfold gEnc; rw [e1]; rfl
    rw [e1, e2]
    cases st <;> cases en
    · rw [w_renc_ff, hm]; exact rfl
    · rw [w_renc_ft, hm]; exact rfl
    · rw [w_renc_tf, hm]; exact rfl
    · rw [w_renc_tt, hm]; exact rfl
  | true =>
    have hk := gMay_k hm
    have hbody : rBody st en id total typ lb data sum = gBody st en id total typ lb data sum := by
      unfold gMay at hm
      cases st <;> cases en <;> simp at hm <;> simp [rBody, gBody]
      all_goals grind
    have hbd : (st = true → 0 ≤ typ ∧ typ ≤ 65535) ∧ (st = true ∧ en = false → 0 ≤ total ∧ total ≤ 65535) := by
      unfold gMay at hm
      simp only [Bool.and_eq_true, decide_eq_true_eq] at hm
      exact ⟨fun _ => by omega, fun _ => by omega⟩
    have hdom : lb.length + data.length + sum.length ≤ 9223372036854775000 ∧ (st = true → 0 ≤ typ ∧ typ ≤ 65535) ∧ (st = true ∧ en = false → 0 ≤ total ∧ total ≤ 65535) := ⟨hl, hbd.1, hbd.2⟩
    generalize hB : gBody st en id total typ lb data sum = B at hbody
    have e3 : 4095 < B.length → Out.ret (.tup [.str [], .int .i64 3]) = Out.ret (.tup [.str (gEnc st en id total typ k lb data sum), .int .i64 (gErr st en id total typ k lb data sum)]) := fun h => by
      have e1 : gErr st en id total typ k lb data sum = 3 := by unfold gErr; rw [hm, hB, if_neg (by simp), if_pos h]
      have e2 : gEnc st en id total typ k lb data sum = [] := by unfold gEnc; rw [e1]; rfl
      rw [e1, e2]
    have e0 : ¬ 4095 < B.length → ∀ n : Int, n = gHead st en k B.length → Out.ret (.tup [.str (two n ++ B), .int .i64 0]) = Out.ret (.tup [.str (gEnc st en id total typ k lb data sum), .int .i64 (gErr st en id total typ k lb data sum)]) := fun h n hn => by
      have e1 : gErr st en id total typ k lb data sum = 0 := by unfold gErr; rw [hm, hB, if_neg (by simp), if_neg h]
      have e2 : gEnc st en id total typ k lb data sum = two (gHead st en k B.length) ++ B := by unfold gEnc; rw [e1, hB]; rfl
      rw [e1, e2, hn]
    have tw : ∀ n, (two n).length = 2 := fun _ => rfl
    cases st <;> cases en
    · rw [w_renc_ff, hm, hbody]
      simp only [Bool.not_true, branch_f, obl_iff, branch_iff, same_iff, twice_iff, decide_eq_true_eq, decide_eq_false_iff_not, inI64_iff, Bool.and_eq_true, tw]
      refine ⟨fun h => absurd h (by simp), fun _ => ⟨?_, fun h => e3 (by omega), fun h => ?_⟩⟩
      · have := hdom
        simp only [reduceCtorEq, false_implies, true_implies, false_and, and_false, and_true, and_self] at this ⊢
        try exact this
      (repeat' apply And.intro) <;> first | omega | exact e0 (by omega) _ (by simp [gHead]; omega)
    · rw [w_renc_ft, hm, hbody]
      simp only [Bool.not_true, branch_f, obl_iff, branch_iff, same_iff, twice_iff, decide_eq_true_eq, decide_eq_false_iff_not, inI64_iff, Bool.and_eq_true, tw]
      refine ⟨fun h => absurd h (by simp), fun _ => ⟨?_, fun h => e3 (by omega), fun h => ?_⟩⟩
      · have := hdom
        simp only [reduceCtorEq, false_implies, true_implies, false_and, and_false, and_true, and_self] at this ⊢
        try exact this
      (repeat' apply And.intro) <;> first | omega | exact e0 (by omega) _ (by simp [gHead]; omega)
    · rw [w_renc_tf, hm, hbody]
      simp only [Bool.not_true, branch_f, obl_iff, branch_iff, same_iff, twice_iff, decide_eq_true_eq, decide_eq_false_iff_not, inI64_iff, Bool.and_eq_true, tw]
      refine ⟨fun h => absurd h (by simp), fun _ => ⟨?_, fun h => e3 (by omega), fun h => ?_⟩⟩
      · have := hdom
        simp only [reduceCtorEq, false_implies, true_implies, false_and, and_false, and_true, and_self] at this ⊢
        try exact this
      (repeat' apply And.intro) <;> first | omega | exact e0 (by omega) _ (by simp [gHead]; omega)
    · rw [w_renc_tt, hm, hbody]
      simp only [Bool.not_true, branch_f, obl_iff, branch_iff, same_iff, twice_iff, decide_eq_true_eq, decide_eq_false_iff_not, inI64_iff, Bool.and_eq_true, tw]
      refine ⟨fun h => absurd h (by simp), fun _ => ⟨?_, fun h => e3 (by omega), fun h => ?_⟩⟩
      · have := hdom
        simp only [reduceCtorEq, false_implies, true_implies, false_and, and_false, and_true, and_self] at this ⊢
        try exact this
      (repeat' apply And.intro) <;> first | omega | exact e0 (by omega) _ (by simp [gHead]; omega)
noncomputable def TQ : Tabs := (TQ3.addFc 19 fcEnc)
theorem TQok : TabsOk TQ Try.prog := (TQ3ok.addFc renc_sound8)
end Go.Proofs.Ytjacnjecggedhaa
namespace Go.Proofs.Ytjacnjecggedhaa
set_option linter.unusedVariables false
set_option linter.unusedSimpArgs false
open Go.RowKit Ev
noncomputable abbrev fillB : Code := bodyC Try.f9
noncomputable abbrev fillI : Code := codeAt [true, false] fillB
noncomputable abbrev fillO : Code := codeAt [true, false, true, true, true, true, true, false, true, false, false] fillB
noncomputable abbrev fillL : Code := codeAt [true, false, true, true, true, true, true, false, true, false, false, true, false, false, false, false] fillB
def bRow (L : List UInt8) : ABlk := .row 5 byteRow L .plain
def sRow (S : List Int) : ABlk := .row 33 (intRow .u64) S .plain
def oSl (b n : Nat) : AVal := .sl b 0 1 0 n none
def ts13 : AExit → List Nat := fun _ => [4, 5, 6, 10, 11, 12, 13]
def ts14 : AExit → List Nat := fun _ => [4, 5, 6, 10, 11, 12, 13, 14]
def ts89 : AExit → List Nat := fun _ => [8, 9]
def tsA : AExit → List Nat := fun x => match x with
  | .ret => [8, 9]
  | _ => [3, 4, 5, 6]
def qRet (R Q : AExit → Env → AHeap → Prop) : AExit → Env → AHeap → Prop := fun x E H => match x with
  | .ret => R .ret E H
  | x => Q x E H
def ts0 : AExit → List Nat := fun _ => [3, 4, 5, 6]
theorem fillO_eq : fillO = .seq (seqL fillO) (.seq (.block 1 (.block 2 (.loop fillL))) (seqR (seqR fillO))) := by kernel_rfl
theorem fillB_eq : fillB = .seq (codeAt [false] fillB) (.scope fillI) := by kernel_rfl
theorem fillI_eq : fillI = .seq (seqL fillI) (seqR fillI) := by kernel_rfl
theorem fillT_eq : tailN 4 (seqR fillI) = .seq (.seq (seqL (seqL (tailN 5 fillI))) (.block 0 (.loop fillO))) (seqR (tailN 5 fillI)) := by kernel_rfl
end Go.Proofs.Ytjacnjecggedhaa
namespace Go.Proofs.Ytjacnjecggedhaa
set_option linter.unusedVariables false
set_option linter.unusedSimpArgs false
open Go.RowKit Ev
set_option maxRecDepth 100000 in
theorem w_of_pre (hs : List PackR) (md : RowMd) (It : Env → AHeap → Prop) (Q : AExit → Env → AHeap → Prop) : (wpN (TX0.ctx Try.prog) 2 400 8 1 ofB (env0 [.sl 0 0 5 0 hs.length none] 0) ⟨1, [(0, pRow hs md)]⟩ (fun E H => canonK 1 [0, 3] E H It) Q
) =  (It [(0, AVal.sl 0 0 5 0 hs.length none), (3, AVal.ptr 1 0 0 0)] (AHeap.mk 2 [(0, ABlk.row 51 packRow hs md), (1, ABlk.cells 29 [AVal.nils, AVal.nils])])) := by kernel_rfl
set_option maxRecDepth 100000 in
theorem w_of_0 (hs : List PackR) (md : RowMd) (i : Int) (Q : AExit → Env → AHeap → Prop) : (wpC (TX0.ctx Try.prog) 400 8 1 ofR (of0 hs md i).1 (of0 hs md i).2 (canQ 1 tsOf Q)
) =  (branch (decide (i < (↑hs.length : Int))) (branch (decide (i < (30 : Int))) (obl (decide ((0 : Int) ≤ i ∧ i < (↑hs.length : Int))) (obl (decide (0 + i.toNat < hs.length)) (obl (decide ((0 : Int) ≤ i ∧
 i < (↑hs.length : Int))) (obl (decide (0 + i.toNat < hs.length)) (obl (decide ((0 : Int) ≤ min (↑(hs.getD (0 + i.toNat) noPack).data.length : Int) (300 : Int) ∧ min (↑(hs.getD (0 + i.toNat)
 noPack).data.length : Int) (300 : Int) ≤ (↑(hs.getD (0 + i.toNat) noPack).data.length : Int))) (obl (decide ((0 : Int) ≤ i ∧ i < (↑hs.length : Int))) (obl (decide (0 + i.toNat < hs.length)) (obl
 (inI64 (hs.getD (0 + i.toNat) noPack).zeros) (obl (decide ((0 : Int) ≤ (hs.getD (0 + i.toNat) noPack).zeros ∧ (0 : Int) < (5000 : Int))) (obl (inI64 ((1 : Int) + (hs.getD (0 + i.toNat) noPack).zeros %
 (5000 : Int))) (obl (decide ((0 : Int) ≤ (1 : Int) + (hs.getD (0 + i.toNat) noPack).zeros % (5000 : Int) ∧ (1 : Int) + (hs.getD (0 + i.toNat) noPack).zeros % (5000 : Int) = (1 : Int) + (hs.getD (0 +
 i.toNat) noPack).zeros % (5000 : Int) ∧ (1 : Int) + (hs.getD (0 + i.toNat) noPack).zeros % (5000 : Int) ≤ (9223372036854775807 : Int) ∧ (1 : Int) * ((1 : Int) + (hs.getD (0 + i.toNat) noPack).zeros %
 (5000 : Int)) ≤ (281474976710656 : Int) ∧ 1 = 1 ∧ 0 < 1)) (obl (decide (0 + ((1 : Int) + (hs.getD (0 + i.toNat) noPack).zeros % (5000 : Int)).toNat ≤ (repN ((1 : Int) + (hs.getD (0 + i.toNat)
 noPack).zeros % (5000 : Int)).toNat (0 : UInt8)).length)) (obl (decide ((↑((List.take (min (↑(hs.getD (0 + i.toNat) noPack).data.length : Int) (300 : Int)).toNat (hs.getD (0 + i.toNat)
 noPack).data).length + (List.take ((1 : Int) + (hs.getD (0 + i.toNat) noPack).zeros % (5000 : Int)).toNat (List.drop 0 (repN ((1 : Int) + (hs.getD (0 + i.toNat) noPack).zeros % (5000 : Int)).toNat (0
 : UInt8)))).length) : Int) ≤ (9223372036854775807 : Int))) (obl (decide ((0 : Int) ≤ i ∧ i < (↑hs.length : Int))) (obl (decide (0 + i.toNat < hs.length)) (obl (decide ((0 : Int) ≤ (hs.getD (0 +
 i.toNat) noPack).pos ∧ (0 : Int) < (4 : Int))) (branch (decide ((hs.getD (0 + i.toNat) noPack).pos % (4 : Int) = (0 : Int))) (obl (decide ((0 : Int) ≤ i ∧ i < (↑hs.length : Int))) (obl (decide (0 +
 i.toNat < hs.length)) (obl (inI64 (hs.getD (0 + i.toNat) noPack).pos) (obl (decide ((0 : Int) ≤ (hs.getD (0 + i.toNat) noPack).pos ∧ (0 : Int) < (↑(List.take (min (↑(hs.getD (0 + i.toNat)
 noPack).data.length : Int) (300 : Int)).toNat (hs.getD (0 + i.toNat) noPack).data ++ List.take ((1 : Int) + (hs.getD (0 + i.toNat) noPack).zeros % (5000 : Int)).toNat (List.drop 0 (repN ((1 : Int) +
 (hs.getD (0 + i.toNat) noPack).zeros % (5000 : Int)).toNat (0 : UInt8)))).length : Int))) (obl (decide ((0 : Int) ≤ i ∧ i < (↑hs.length : Int))) (obl (decide (0 + i.toNat < hs.length)) (obl (decide
 ((0 : Int) ≤ (hs.getD (0 + i.toNat) noPack).cls ∧ (0 : Int) < (3 : Int))) (obl (inI64 ((hs.getD (0 + i.toNat) noPack).cls % (3 : Int))) (obl (inI64 ((2048 : Int) + (hs.getD (0 + i.toNat) noPack).cls %
 (3 : Int))) (obl (decide ((0 : Int) ≤ i ∧ i < (↑hs.length : Int))) (obl (decide (0 + i.toNat < hs.length)) (obl (decide ((0 : Int) ≤ (hs.getD (0 + i.toNat) noPack).lab ∧ (0 : Int) < (3 : Int))) (obl
 (decide (0 + i.toNat < hs.length) && sameV (AVal.int IntKind.u8 (hs.getD (0 + i.toNat) noPack).lab) (AVal.int IntKind.u8 (hs.getD (0 + i.toNat) noPack).lab)) (obl (decide (0 + i.toNat < hs.length) &&
 sameV (AVal.int IntKind.u8 (hs.getD (0 + i.toNat) noPack).cls) (AVal.int IntKind.u8 (hs.getD (0 + i.toNat) noPack).cls)) (obl (decide ((0 : Int) ≤ (hs.getD (0 + i.toNat) noPack).lab % (3 : Int) ∧
 (hs.getD (0 + i.toNat) noPack).lab % (3 : Int) < (3 : Int))) (obl (inI64 (i + (1 : Int))) (Q AExit.normal [(0, AVal.sl 0 0 5 0 hs.length none), (3, AVal.ptr 1 0 0 0), (4, AVal.int IntKind.i64 (i + (1
 : Int)))] (AHeap.mk 4 [(0, ABlk.row 51 packRow hs md), (1, ABlk.cells 29 [AVal.sl 2 0 6 0 1 none, AVal.sl 3 0 1 0 1 none]), (2, ABlk.row 48 cutRow [CutR.mk ((2048 : Int) + (hs.getD (0 + i.toNat)
 noPack).cls % (3 : Int)) ([(1 : Int), (0 : Int), (1 : Int)].getD ((hs.getD (0 + i.toNat) noPack).lab % (3 : Int)).toNat (0 : Int)) ([[(97 : UInt8), (98 : UInt8), (99 : UInt8)], [(97 : UInt8), (98 :
 UInt8), (99 : UInt8), (100 : UInt8), (101 : UInt8), (102 : UInt8)], [(120 : UInt8), (121 : UInt8), (122 : UInt8)]].getD ((hs.getD (0 + i.toNat) noPack).lab % (3 : Int)).toNat []) (List.take (min
 (↑(hs.getD (0 + i.toNat) noPack).data.length : Int) (300 : Int)).toNat (hs.getD (0 + i.toNat) noPack).data ++ List.take ((1 : Int) + (hs.getD (0 + i.toNat) noPack).zeros % (5000 : Int)).toNat
 (List.drop 0 (repN ((1 : Int) + (hs.getD (0 + i.toNat) noPack).zeros % (5000 : Int)).toNat (0 : UInt8)))) ((hs.getD (0 + i.toNat) noPack).pos % (↑(List.take (min (↑(hs.getD (0 + i.toNat)
 noPack).data.length : Int) (300 : Int)).toNat (hs.getD (0 + i.toNat) noPack).data ++ List.take ((1 : Int) + (hs.getD (0 + i.toNat) noPack).zeros % (5000 : Int)).toNat (List.drop 0 (repN ((1 : Int) +
 (hs.getD (0 + i.toNat) noPack).zeros % (5000 : Int)).toNat (0 : UInt8)))).length : Int)) i] RowMd.plain), (3, ABlk.row 4 boolRow [BoolR.mk false] RowMd.plain)])))))))))))))))))) (obl (decide ((0 :
 Int) ≤ i ∧ i < (↑hs.length : Int))) (obl (decide (0 + i.toNat < hs.length)) (obl (decide ((0 : Int) ≤ (hs.getD (0 + i.toNat) noPack).cls ∧ (0 : Int) < (3 : Int))) (obl (inI64 ((hs.getD (0 + i.toNat)
 noPack).cls % (3 : Int))) (obl (inI64 ((2048 : Int) + (hs.getD (0 + i.toNat) noPack).cls % (3 : Int))) (obl (decide ((0 : Int) ≤ i ∧ i < (↑hs.length : Int))) (obl (decide (0 + i.toNat < hs.length))
 (obl (decide ((0 : Int) ≤ (hs.getD (0 + i.toNat) noPack).lab ∧ (0 : Int) < (3 : Int))) (obl (decide (0 + i.toNat < hs.length) && sameV (AVal.int IntKind.u8 (hs.getD (0 + i.toNat) noPack).lab)
 (AVal.int IntKind.u8 (hs.getD (0 + i.toNat) noPack).lab)) (obl (decide (0 + i.toNat < hs.length) && sameV (AVal.int IntKind.u8 (hs.getD (0 + i.toNat) noPack).cls) (AVal.int IntKind.u8 (hs.getD (0 +
 i.toNat) noPack).cls)) (obl (decide ((0 : Int) ≤ (hs.getD (0 + i.toNat) noPack).lab % (3 : Int) ∧ (hs.getD (0 + i.toNat) noPack).lab % (3 : Int) < (3 : Int))) (obl (inI64 (i + (1 : Int))) (Q
 AExit.normal [(0, AVal.sl 0 0 5 0 hs.length none), (3, AVal.ptr 1 0 0 0), (4, AVal.int IntKind.i64 (i + (1 : Int)))] (AHeap.mk 4 [(0, ABlk.row 51 packRow hs md), (1, ABlk.cells 29 [AVal.sl 2 0 6 0 1
 none, AVal.sl 3 0 1 0 1 none]), (2, ABlk.row 48 cutRow [CutR.mk ((2048 : Int) + (hs.getD (0 + i.toNat) noPack).cls % (3 : Int)) ([(1 : Int), (0 : Int), (1 : Int)].getD ((hs.getD (0 + i.toNat)
 noPack).lab % (3 : Int)).toNat (0 : Int)) ([[(97 : UInt8), (98 : UInt8), (99 : UInt8)], [(97 : UInt8), (98 : UInt8), (99 : UInt8), (100 : UInt8), (101 : UInt8), (102 : UInt8)], [(120 : UInt8), (121 :
 UInt8), (122 : UInt8)]].getD ((hs.getD (0 + i.toNat) noPack).lab % (3 : Int)).toNat []) (List.take (min (↑(hs.getD (0 + i.toNat) noPack).data.length : Int) (300 : Int)).toNat (hs.getD (0 + i.toNat)
 noPack).data ++ List.take ((1 : Int) + (hs.getD (0 + i.toNat) noPack).zeros % (5000 : Int)).toNat (List.drop 0 (repN ((1 : Int) + (hs.getD (0 + i.toNat) noPack).zeros % (5000 : Int)).toNat (0 :
 UInt8)))) (0 : Int) i] RowMd.plain), (3, ABlk.row 4 boolRow [BoolR.mk false] RowMd.plain)]))))))))))))))))))))))))))))))) (Q (AExit.exit 0) [(0, AVal.sl 0 0 5 0 hs.length none), (3, AVal.ptr 1 0 0 0),
 (4, AVal.int IntKind.i64 i)] (AHeap.mk 2 [(0, ABlk.row 51 packRow hs md), (1, ABlk.cells 29 [AVal.nils, AVal.nils])]))) (Q (AExit.exit 0) [(0, AVal.sl 0 0 5 0 hs.length none), (3, AVal.ptr 1 0 0 0),
 (4, AVal.int IntKind.i64 i)] (AHeap.mk 2 [(0, ABlk.row 51 packRow hs md), (1, ABlk.cells 29 [AVal.nils, AVal.nils])]))) := by kernel_rfl
set_option maxRecDepth 100000 in
theorem w_of_1 (hs : List PackR) (md : RowMd) (i : Int) (cs : List CutR) (ds : List BoolR) (Q : AExit → Env → AHeap → Prop) : (wpC (TX0.ctx Try.prog) 400 8 1 ofR (of1 hs md i cs ds).1 (of1 hs md i cs ds).2 (canQ 1 tsOf Q)
) =  (branch (decide (i < (↑hs.length : Int))) (branch (decide (i < (30 : Int))) (obl (decide ((0 : Int) ≤ i ∧ i < (↑hs.length : Int))) (obl (decide (0 + i.toNat < hs.length)) (obl (decide ((0 : Int) ≤ i ∧
 i < (↑hs.length : Int))) (obl (decide (0 + i.toNat < hs.length)) (obl (decide ((0 : Int) ≤ min (↑(hs.getD (0 + i.toNat) noPack).data.length : Int) (300 : Int) ∧ min (↑(hs.getD (0 + i.toNat)
 noPack).data.length : Int) (300 : Int) ≤ (↑(hs.getD (0 + i.toNat) noPack).data.length : Int))) (obl (decide ((0 : Int) ≤ i ∧ i < (↑hs.length : Int))) (obl (decide (0 + i.toNat < hs.length)) (obl
 (inI64 (hs.getD (0 + i.toNat) noPack).zeros) (obl (decide ((0 : Int) ≤ (hs.getD (0 + i.toNat) noPack).zeros ∧ (0 : Int) < (5000 : Int))) (obl (inI64 ((1 : Int) + (hs.getD (0 + i.toNat) noPack).zeros %
 (5000 : Int))) (obl (decide ((0 : Int) ≤ (1 : Int) + (hs.getD (0 + i.toNat) noPack).zeros % (5000 : Int) ∧ (1 : Int) + (hs.getD (0 + i.toNat) noPack).zeros % (5000 : Int) = (1 : Int) + (hs.getD (0 +
 i.toNat) noPack).zeros % (5000 : Int) ∧ (1 : Int) + (hs.getD (0 + i.toNat) noPack).zeros % (5000 : Int) ≤ (9223372036854775807 : Int) ∧ (1 : Int) * ((1 : Int) + (hs.getD (0 + i.toNat) noPack).zeros %
 (5000 : Int)) ≤ (281474976710656 : Int) ∧ 1 = 1 ∧ 0 < 1)) (obl (decide (0 + ((1 : Int) + (hs.getD (0 + i.toNat) noPack).zeros % (5000 : Int)).toNat ≤ (repN ((1 : Int) + (hs.getD (0 + i.toNat)
 noPack).zeros % (5000 : Int)).toNat (0 : UInt8)).length)) (obl (decide ((↑((List.take (min (↑(hs.getD (0 + i.toNat) noPack).data.length : Int) (300 : Int)).toNat (hs.getD (0 + i.toNat)
 noPack).data).length + (List.take ((1 : Int) + (hs.getD (0 + i.toNat) noPack).zeros % (5000 : Int)).toNat (List.drop 0 (repN ((1 : Int) + (hs.getD (0 + i.toNat) noPack).zeros % (5000 : Int)).toNat (0
 : UInt8)))).length) : Int) ≤ (9223372036854775807 : Int))) (obl (decide ((0 : Int) ≤ i ∧ i < (↑hs.length : Int))) (obl (decide (0 + i.toNat < hs.length)) (obl (decide ((0 : Int) ≤ (hs.getD (0 +
 i.toNat) noPack).pos ∧ (0 : Int) < (4 : Int))) (branch (decide ((hs.getD (0 + i.toNat) noPack).pos % (4 : Int) = (0 : Int))) (obl (decide ((0 : Int) ≤ i ∧ i < (↑hs.length : Int))) (obl (decide (0 +
 i.toNat < hs.length)) (obl (inI64 (hs.getD (0 + i.toNat) noPack).pos) (obl (decide ((0 : Int) ≤ (hs.getD (0 + i.toNat) noPack).pos ∧ (0 : Int) < (↑(List.take (min (↑(hs.getD (0 + i.toNat)
 noPack).data.length : Int) (300 : Int)).toNat (hs.getD (0 + i.toNat) noPack).data ++ List.take ((1 : Int) + (hs.getD (0 + i.toNat) noPack).zeros % (5000 : Int)).toNat (List.drop 0 (repN ((1 : Int) +
 (hs.getD (0 + i.toNat) noPack).zeros % (5000 : Int)).toNat (0 : UInt8)))).length : Int))) (obl (decide ((0 : Int) ≤ i ∧ i < (↑hs.length : Int))) (obl (decide (0 + i.toNat < hs.length)) (obl (decide
 ((0 : Int) ≤ (hs.getD (0 + i.toNat) noPack).cls ∧ (0 : Int) < (3 : Int))) (obl (inI64 ((hs.getD (0 + i.toNat) noPack).cls % (3 : Int))) (obl (inI64 ((2048 : Int) + (hs.getD (0 + i.toNat) noPack).cls %
 (3 : Int))) (obl (decide ((0 : Int) ≤ i ∧ i < (↑hs.length : Int))) (obl (decide (0 + i.toNat < hs.length)) (obl (decide ((0 : Int) ≤ (hs.getD (0 + i.toNat) noPack).lab ∧ (0 : Int) < (3 : Int))) (obl
 (decide (0 + i.toNat < hs.length) && sameV (AVal.int IntKind.u8 (hs.getD (0 + i.toNat) noPack).lab) (AVal.int IntKind.u8 (hs.getD (0 + i.toNat) noPack).lab)) (obl (decide (0 + i.toNat < hs.length) &&
 sameV (AVal.int IntKind.u8 (hs.getD (0 + i.toNat) noPack).cls) (AVal.int IntKind.u8 (hs.getD (0 + i.toNat) noPack).cls)) (obl (true && sameV (AVal.sl 2 0 6 0 cs.length none) (AVal.sl 2 0 6 0 cs.length
 none)) (obl (decide ((0 : Int) ≤ (hs.getD (0 + i.toNat) noPack).lab % (3 : Int) ∧ (hs.getD (0 + i.toNat) noPack).lab % (3 : Int) < (3 : Int))) (obl (true && decide (cs.length = cs.length ∧ 6 = 6 ∧ 6 =
 6 ∧ 0 < 6 ∧ (cs ++ [CutR.mk ((2048 : Int) + (hs.getD (0 + i.toNat) noPack).cls % (3 : Int)) ([(1 : Int), (0 : Int), (1 : Int)].getD ((hs.getD (0 + i.toNat) noPack).lab % (3 : Int)).toNat (0 : Int))
 ([[(97 : UInt8), (98 : UInt8), (99 : UInt8)], [(97 : UInt8), (98 : UInt8), (99 : UInt8), (100 : UInt8), (101 : UInt8), (102 : UInt8)], [(120 : UInt8), (121 : UInt8), (122 : UInt8)]].getD ((hs.getD (0
 + i.toNat) noPack).lab % (3 : Int)).toNat []) (List.take (min (↑(hs.getD (0 + i.toNat) noPack).data.length : Int) (300 : Int)).toNat (hs.getD (0 + i.toNat) noPack).data ++ List.take ((1 : Int) +
 (hs.getD (0 + i.toNat) noPack).zeros % (5000 : Int)).toNat (List.drop 0 (repN ((1 : Int) + (hs.getD (0 + i.toNat) noPack).zeros % (5000 : Int)).toNat (0 : UInt8)))) ((hs.getD (0 + i.toNat) noPack).pos
 % (↑(List.take (min (↑(hs.getD (0 + i.toNat) noPack).data.length : Int) (300 : Int)).toNat (hs.getD (0 + i.toNat) noPack).data ++ List.take ((1 : Int) + (hs.getD (0 + i.toNat) noPack).zeros % (5000 :
 Int)).toNat (List.drop 0 (repN ((1 : Int) + (hs.getD (0 + i.toNat) noPack).zeros % (5000 : Int)).toNat (0 : UInt8)))).length : Int)) i]).length ≤ 9223372036854775807 ∧ (cs ++ [CutR.mk ((2048 : Int) +
 (hs.getD (0 + i.toNat) noPack).cls % (3 : Int)) ([(1 : Int), (0 : Int), (1 : Int)].getD ((hs.getD (0 + i.toNat) noPack).lab % (3 : Int)).toNat (0 : Int)) ([[(97 : UInt8), (98 : UInt8), (99 : UInt8)],
 [(97 : UInt8), (98 : UInt8), (99 : UInt8), (100 : UInt8), (101 : UInt8), (102 : UInt8)], [(120 : UInt8), (121 : UInt8), (122 : UInt8)]].getD ((hs.getD (0 + i.toNat) noPack).lab % (3 : Int)).toNat [])
 (List.take (min (↑(hs.getD (0 + i.toNat) noPack).data.length : Int) (300 : Int)).toNat (hs.getD (0 + i.toNat) noPack).data ++ List.take ((1 : Int) + (hs.getD (0 + i.toNat) noPack).zeros % (5000 :
 Int)).toNat (List.drop 0 (repN ((1 : Int) + (hs.getD (0 + i.toNat) noPack).zeros % (5000 : Int)).toNat (0 : UInt8)))) ((hs.getD (0 + i.toNat) noPack).pos % (↑(List.take (min (↑(hs.getD (0 + i.toNat)
 noPack).data.length : Int) (300 : Int)).toNat (hs.getD (0 + i.toNat) noPack).data ++ List.take ((1 : Int) + (hs.getD (0 + i.toNat) noPack).zeros % (5000 : Int)).toNat (List.drop 0 (repN ((1 : Int) +
 (hs.getD (0 + i.toNat) noPack).zeros % (5000 : Int)).toNat (0 : UInt8)))).length : Int)) i]).length * 64 ≤ 140737488355328)) (obl (true && decide (ds.length = ds.length ∧ 1 = 1 ∧ 1 = 1 ∧ 0 < 1 ∧ (ds
 ++ [BoolR.mk false]).length ≤ 9223372036854775807 ∧ (ds ++ [BoolR.mk false]).length * 1 ≤ 140737488355328)) (obl (inI64 (i + (1 : Int))) (Q AExit.normal [(0, AVal.sl 0 0 5 0 hs.length none), (3,
 AVal.ptr 1 0 0 0), (4, AVal.int IntKind.i64 (i + (1 : Int)))] (AHeap.mk 4 [(0, ABlk.row 51 packRow hs md), (1, ABlk.cells 29 [AVal.sl 2 0 6 0 (cs ++ [CutR.mk ((2048 : Int) + (hs.getD (0 + i.toNat)
 noPack).cls % (3 : Int)) ([(1 : Int), (0 : Int), (1 : Int)].getD ((hs.getD (0 + i.toNat) noPack).lab % (3 : Int)).toNat (0 : Int)) ([[(97 : UInt8), (98 : UInt8), (99 : UInt8)], [(97 : UInt8), (98 :
 UInt8), (99 : UInt8), (100 : UInt8), (101 : UInt8), (102 : UInt8)], [(120 : UInt8), (121 : UInt8), (122 : UInt8)]].getD ((hs.getD (0 + i.toNat) noPack).lab % (3 : Int)).toNat []) (List.take (min
 (↑(hs.getD (0 + i.toNat) noPack).data.length : Int) (300 : Int)).toNat (hs.getD (0 + i.toNat) noPack).data ++ List.take ((1 : Int) + (hs.getD (0 + i.toNat) noPack).zeros % (5000 : Int)).toNat
 (List.drop 0 (repN ((1 : Int) + (hs.getD (0 + i.toNat) noPack).zeros % (5000 : Int)).toNat (0 : UInt8)))) ((hs.getD (0 + i.toNat) noPack).pos % (↑(List.take (min (↑(hs.getD (0 + i.toNat)
 noPack).data.length : Int) (300 : Int)).toNat (hs.getD (0 + i.toNat) noPack).data ++ List.take ((1 : Int) + (hs.getD (0 + i.toNat) noPack).zeros % (5000 : Int)).toNat (List.drop 0 (repN ((1 : Int) +
 (hs.getD (0 + i.toNat) noPack).zeros % (5000 : Int)).toNat (0 : UInt8)))).length : Int)) i]).length none, AVal.sl 3 0 1 0 (ds ++ [BoolR.mk false]).length none]), (2, ABlk.row 48 cutRow (cs ++ [CutR.mk
 ((2048 : Int) + (hs.getD (0 + i.toNat) noPack).cls % (3 : Int)) ([(1 : Int), (0 : Int), (1 : Int)].getD ((hs.getD (0 + i.toNat) noPack).lab % (3 : Int)).toNat (0 : Int)) ([[(97 : UInt8), (98 : UInt8),
 (99 : UInt8)], [(97 : UInt8), (98 : UInt8), (99 : UInt8), (100 : UInt8), (101 : UInt8), (102 : UInt8)], [(120 : UInt8), (121 : UInt8), (122 : UInt8)]].getD ((hs.getD (0 + i.toNat) noPack).lab % (3 :
 Int)).toNat []) (List.take (min (↑(hs.getD (0 + i.toNat) noPack).data.length : Int) (300 : Int)).toNat (hs.getD (0 + i.toNat) noPack).data ++ List.take ((1 : Int) + (hs.getD (0 + i.toNat)
 noPack).zeros % (5000 : Int)).toNat (List.drop 0 (repN ((1 : Int) + (hs.getD (0 + i.toNat) noPack).zeros % (5000 : Int)).toNat (0 : UInt8)))) ((hs.getD (0 + i.toNat) noPack).pos % (↑(List.take (min
 (↑(hs.getD (0 + i.toNat) noPack).data.length : Int) (300 : Int)).toNat (hs.getD (0 + i.toNat) noPack).data ++ List.take ((1 : Int) + (hs.getD (0 + i.toNat) noPack).zeros % (5000 : Int)).toNat
 (List.drop 0 (repN ((1 : Int) + (hs.getD (0 + i.toNat) noPack).zeros % (5000 : Int)).toNat (0 : UInt8)))).length : Int)) i]) RowMd.plain), (3, ABlk.row 4 boolRow (ds ++ [BoolR.mk false])
 RowMd.plain)]))))))))))))))))))))) (obl (decide ((0 : Int) ≤ i ∧ i < (↑hs.length : Int))) (obl (decide (0 + i.toNat < hs.length)) (obl (decide ((0 : Int) ≤ (hs.getD (0 + i.toNat) noPack).cls ∧ (0 :
 Int) < (3 : Int))) (obl (inI64 ((hs.getD (0 + i.toNat) noPack).cls % (3 : Int))) (obl (inI64 ((2048 : Int) + (hs.getD (0 + i.toNat) noPack).cls % (3 : Int))) (obl (decide ((0 : Int) ≤ i ∧ i <
 (↑hs.length : Int))) (obl (decide (0 + i.toNat < hs.length)) (obl (decide ((0 : Int) ≤ (hs.getD (0 + i.toNat) noPack).lab ∧ (0 : Int) < (3 : Int))) (obl (decide (0 + i.toNat < hs.length) && sameV
 (AVal.int IntKind.u8 (hs.getD (0 + i.toNat) noPack).lab) (AVal.int IntKind.u8 (hs.getD (0 + i.toNat) noPack).lab)) (obl (decide (0 + i.toNat < hs.length) && sameV (AVal.int IntKind.u8 (hs.getD (0 +
 i.toNat) noPack).cls) (AVal.int IntKind.u8 (hs.getD (0 + i.toNat) noPack).cls)) (obl (true && sameV (AVal.sl 2 0 6 0 cs.length none) (AVal.sl 2 0 6 0 cs.length none)) (obl (decide ((0 : Int) ≤
 (hs.getD (0 + i.toNat) noPack).lab % (3 : Int) ∧ (hs.getD (0 + i.toNat) noPack).lab % (3 : Int) < (3 : Int))) (obl (true && decide (cs.length = cs.length ∧ 6 = 6 ∧ 6 = 6 ∧ 0 < 6 ∧ (cs ++ [CutR.mk
 ((2048 : Int) + (hs.getD (0 + i.toNat) noPack).cls % (3 : Int)) ([(1 : Int), (0 : Int), (1 : Int)].getD ((hs.getD (0 + i.toNat) noPack).lab % (3 : Int)).toNat (0 : Int)) ([[(97 : UInt8), (98 : UInt8),
 (99 : UInt8)], [(97 : UInt8), (98 : UInt8), (99 : UInt8), (100 : UInt8), (101 : UInt8), (102 : UInt8)], [(120 : UInt8), (121 : UInt8), (122 : UInt8)]].getD ((hs.getD (0 + i.toNat) noPack).lab % (3 :
 Int)).toNat []) (List.take (min (↑(hs.getD (0 + i.toNat) noPack).data.length : Int) (300 : Int)).toNat (hs.getD (0 + i.toNat) noPack).data ++ List.take ((1 : Int) + (hs.getD (0 + i.toNat)
 noPack).zeros % (5000 : Int)).toNat (List.drop 0 (repN ((1 : Int) + (hs.getD (0 + i.toNat) noPack).zeros % (5000 : Int)).toNat (0 : UInt8)))) (0 : Int) i]).length ≤ 9223372036854775807 ∧ (cs ++
 [CutR.mk ((2048 : Int) + (hs.getD (0 + i.toNat) noPack).cls % (3 : Int)) ([(1 : Int), (0 : Int), (1 : Int)].getD ((hs.getD (0 + i.toNat) noPack).lab % (3 : Int)).toNat (0 : Int)) ([[(97 : UInt8), (98
 : UInt8), (99 : UInt8)], [(97 : UInt8), (98 : UInt8), (99 : UInt8), (100 : UInt8), (101 : UInt8), (102 : UInt8)], [(120 : UInt8), (121 : UInt8), (122 : UInt8)]].getD ((hs.getD (0 + i.toNat)
 noPack).lab % (3 : Int)).toNat []) (List.take (min (↑(hs.getD (0 + i.toNat) noPack).data.length : Int) (300 : Int)).toNat (hs.getD (0 + i.toNat) noPack).data ++ List.take ((1 : Int) + (hs.getD (0 +
 i.toNat) noPack).zeros % (5000 : Int)).toNat (List.drop 0 (repN ((1 : Int) + (hs.getD (0 + i.toNat) noPack).zeros % (5000 : Int)).toNat (0 : UInt8)))) (0 : Int) i]).length * 64 ≤ 140737488355328))
 (obl (true && decide (ds.length = ds.length ∧ 1 = 1 ∧ 1 = 1 ∧ 0 < 1 ∧ (ds ++ [BoolR.mk false]).length ≤ 9223372036854775807 ∧ (ds ++ [BoolR.mk false]).length * 1 ≤ 140737488355328)) (obl (inI64 (i +
 (1 : Int))) (Q AExit.normal [(0, AVal.sl 0 0 5 0 hs.length none), (3, AVal.ptr 1 0 0 0), (4, AVal.int IntKind.i64 (i + (1 : Int)))] (AHeap.mk 4 [(0, ABlk.row 51 packRow hs md), (1, ABlk.cells 29
 [AVal.sl 2 0 6 0 (cs ++ [CutR.mk ((2048 : Int) + (hs.getD (0 + i.toNat) noPack).cls % (3 : Int)) ([(1 : Int), (0 : Int), (1 : Int)].getD ((hs.getD (0 + i.toNat) noPack).lab % (3 : Int)).toNat (0 :
 Int)) ([[(97 : UInt8), (98 : UInt8), (99 : UInt8)], [(97 : UInt8), (98 : UInt8), (99 : UInt8), (100 : UInt8), (101 : UInt8), (102 : UInt8)], [(120 : UInt8), (121 : UInt8), (122 : UInt8)]].getD
 ((hs.getD (0 + i.toNat) noPack).lab % (3 : Int)).toNat []) (List.take (min (↑(hs.getD (0 + i.toNat) noPack).data.length : Int) (300 : Int)).toNat (hs.getD (0 + i.toNat) noPack).data ++ List.take ((1 :
 Int) + (hs.getD (0 + i.toNat) noPack).zeros % (5000 : Int)).toNat (List.drop 0 (repN ((1 : Int) + (hs.getD (0 + i.toNat) noPack).zeros % (5000 : Int)).toNat (0 : UInt8)))) (0 : Int) i]).length none,
 AVal.sl 3 0 1 0 (ds ++ [BoolR.mk false]).length none]), (2, ABlk.row 48 cutRow (cs ++ [CutR.mk ((2048 : Int) + (hs.getD (0 + i.toNat) noPack).cls % (3 : Int)) ([(1 : Int), (0 : Int), (1 : Int)].getD
 ((hs.getD (0 + i.toNat) noPack).lab % (3 : Int)).toNat (0 : Int)) ([[(97 : UInt8), (98 : UInt8), (99 : UInt8)], [(97 : UInt8), (98 : UInt8), (99 : UInt8), (100 : UInt8), (101 : UInt8), (102 : UInt8)],
 [(120 : UInt8), (121 : UInt8), (122 : UInt8)]].getD ((hs.getD (0 + i.toNat) noPack).lab % (3 : Int)).toNat []) (List.take (min (↑(hs.getD (0 + i.toNat) noPack).data.length : Int) (300 : Int)).toNat
 (hs.getD (0 + i.toNat) noPack).data ++ List.take ((1 : Int) + (hs.getD (0 + i.toNat) noPack).zeros % (5000 : Int)).toNat (List.drop 0 (repN ((1 : Int) + (hs.getD (0 + i.toNat) noPack).zeros % (5000 :
 Int)).toNat (0 : UInt8)))) (0 : Int) i]) RowMd.plain), (3, ABlk.row 4 boolRow (ds ++ [BoolR.mk false]) RowMd.plain)])))))))))))))))))))))))))))))))))) (Q (AExit.exit 0) [(0, AVal.sl 0 0 5 0 hs.length
 none), (3, AVal.ptr 1 0 0 0), (4, AVal.int IntKind.i64 i)] (AHeap.mk 4 [(0, ABlk.row 51 packRow hs md), (1, ABlk.cells 29 [AVal.sl 2 0 6 0 cs.length none, AVal.sl 3 0 1 0 ds.length none]), (2,
 ABlk.row 48 cutRow cs RowMd.plain), (3, ABlk.row 4 boolRow ds RowMd.plain)]))) (Q (AExit.exit 0) [(0, AVal.sl 0 0 5 0 hs.length none), (3, AVal.ptr 1 0 0 0), (4, AVal.int IntKind.i64 i)] (AHeap.mk 4
 [(0, ABlk.row 51 packRow hs md), (1, ABlk.cells 29 [AVal.sl 2 0 6 0 cs.length none, AVal.sl 3 0 1 0 ds.length none]), (2, ABlk.row 48 cutRow cs RowMd.plain), (3, ABlk.row 4 boolRow ds RowMd.plain)])))
 := by kernel_rfl
set_option maxRecDepth 100000 in
theorem w_of_end0 (hs : List PackR) (md : RowMd) (i : Int) (K : Out → AHeap → Prop) : (wpC (TX0.ctx Try.prog) 400 8 1 (seqR (tailN 2 ofB)) (of0 hs md i).1 (of0 hs md i).2 (canQ 1 tsP2 (endA (TX0.ctx Try.prog).P Try.f8 K))
) =  (K (Out.ret (AVal.ptr 1 0 0 0)) (AHeap.mk 2 [(0, ABlk.row 51 packRow hs md), (1, ABlk.cells 29 [AVal.nils, AVal.nils])])) := by kernel_rfl
set_option maxRecDepth 100000 in
theorem w_of_end1 (hs : List PackR) (md : RowMd) (i : Int) (cs : List CutR) (ds : List BoolR) (K : Out → AHeap → Prop) : (wpC (TX0.ctx Try.prog) 400 8 1 (seqR (tailN 2 ofB)) (of1 hs md i cs ds).1 (of1 hs md i cs ds).2 (canQ 1 tsP2 (endA (TX0.ctx Try.prog).P Try.f8 K))
) =  (K (Out.ret (AVal.ptr 1 0 0 0)) (AHeap.mk 4 [(0, ABlk.row 51 packRow hs md), (1, ABlk.cells 29 [AVal.sl 2 0 6 0 cs.length none, AVal.sl 3 0 1 0 ds.length none]), (2, ABlk.row 48 cutRow cs
 RowMd.plain), (3, ABlk.row 4 boolRow ds RowMd.plain)])) := by kernel_rfl
set_option maxRecDepth 100000 in
theorem w_of_set (hs : List PackR) (md : RowMd) (Q : AExit → Env → AHeap → Prop) : (wpC (TX0.ctx Try.prog) 400 8 1 (seqL (seqL (tailN 2 ofB))) [(0, .sl 0 0 5 0 hs.length none), (3, .ptr 1 0 0 0)] (of0 hs md 0).2 (canQ 1 tsOf Q)
) =  (Q AExit.normal [(0, AVal.sl 0 0 5 0 hs.length none), (3, AVal.ptr 1 0 0 0), (4, AVal.int IntKind.i64 (0 : Int))] (AHeap.mk 2 [(0, ABlk.row 51 packRow hs md), (1, ABlk.cells 29 [AVal.nils,
 AVal.nils])])) := by kernel_rfl
end Go.Proofs.Ytjacnjecggedhaa
namespace Go.Proofs.Ytjacnjecggedhaa
set_option linter.unusedVariables false
set_option linter.unusedSimpArgs false
open Go.RowKit Ev
noncomputable def ofD (x : PackR) : List UInt8 := List.take (min (x.data.length : Int) 300).toNat x.data ++ List.take (1 + x.zeros % 5000).toNat (List.drop 0 (repN (1 + x.zeros % 5000).toNat 0))
noncomputable def cutOf (i : Int) (x : PackR) : CutR := ⟨2048 + x.cls % 3, [1, 0, 1].getD (x.lab % 3).toNat 0, [[97, 98, 99], [97, 98, 99, 100, 101, 102], [120, 121, 122]].getD (x.lab % 3).toNat [], ofD x, if x.pos % 4 = 0 then x.pos % ((ofD x).length : Int) else 0, i⟩
noncomputable def ofN (hs : List PackR) (n : Nat) : List CutR := (List.range n).map fun (j : Nat) => cutOf j (hs.getD j noPack)
def dsN (n : Nat) : List BoolR := List.replicate n ⟨false⟩
structure PackOk (x : PackR) : Prop where
  c0 : 0 ≤ x.cls
  c1 : x.cls ≤ 255
  l0 : 0 ≤ x.lab
  l1 : x.lab ≤ 255
  p0 : 0 ≤ x.pos
  p1 : x.pos ≤ 255
  z0 : 0 ≤ x.zeros
  z1 : x.zeros ≤ 65535
theorem ofN_succ (hs : List PackR) (n : Nat) : ofN hs (n + 1) = ofN hs n ++ [cutOf n (hs.getD n noPack)] := by
  unfold ofN; rw [List.range_succ, List.map_append]; rfl
theorem dsN_succ (n : Nat) : dsN (n + 1) = dsN n ++ [⟨false⟩] := List.replicate_succ' ..
theorem ofN_length (hs : List PackR) (n : Nat) : (ofN hs n).length = n := by unfold ofN; simp
theorem dsN_length (n : Nat) : (dsN n).length = n := by unfold dsN; simp
theorem ofD_length {x : PackR} (h : PackOk x) : 1 ≤ (ofD x).length ∧ (ofD x).length ≤ 5300 := by
  have h0 := h.z0
  have hz : 0 ≤ x.zeros % 5000 ∧ x.zeros % 5000 < 5000 := by omega
  unfold ofD
  rw [List.length_append, List.length_take, List.length_take, List.drop_zero, repN_eq, List.length_replicate]
  omega
def pOk (hs : List PackR) : Prop := ∀ x ∈ hs, PackOk x
theorem getD_ok {hs : List PackR} (h : pOk hs) {i : Nat} (hi : i < hs.length) : PackOk (hs.getD i noPack) := by
  rw [List.getD_eq_getElem?_getD, List.getElem?_eq_getElem hi]
  exact h _ (List.getElem_mem hi)
def ofI (hs : List PackR) (md : RowMd) (m : Nat) (E : Env) (H : AHeap) : Prop :=
  ∃ i : Nat, i ≤ hs.length ∧ i ≤ 30 ∧ m = 30 - i ∧ ((i = 0 ∧ E = (of0 hs md i).1 ∧ H = (of0 hs md i).2) ∨ (1 ≤ i ∧ E = (of1 hs md i (ofN hs i) (dsN i)).1 ∧ H = (of1 hs md i (ofN hs i) (dsN i)).2))
def ofF (hs : List PackR) (md : RowMd) : AExit → Env → AHeap → Prop := fun x E H => match x with
  | .exit 0 => ∃ i : Nat, i = min hs.length 30 ∧ ((i = 0 ∧ E = (of0 hs md i).1 ∧ H = (of0 hs md i).2) ∨ (1 ≤ i ∧ E = (of1 hs md i (ofN hs i) (dsN i)).1 ∧ H = (of1 hs md i (ofN hs i) (dsN i)).2))
  | _ => False
theorem ofIn (p : List Bool) : InFn (TX0.ctx Try.prog) 8 (codeAt p ofB) :=
  inFn_at TX0ok.ctx (fn := Try.f8) (by kernel_rfl) (by kernel_rfl) p
abbrev OGd (hs : List PackR) (md : RowMd) (c : Code) (Q : AExit → Env → AHeap → Prop) (E : Env) (H : AHeap) : Prop := Gd (TX0.ctx Try.prog) 8 ⟨1, [(0, pRow hs md)]⟩ c Q E H
set_option maxRecDepth 100000 in
theorem of_loop (hs : List PackR) (md : RowMd) (hp : pOk hs) : ∀ m E H, ofI hs md m E H → OGd hs md (.loop ofR) (ofF hs md) E H := by
  refine Gd.loop (ofI hs md) (fun m E H hI => ?_)
  obtain ⟨i, hi, hi30, hm, h⟩ := hI
  have idx : (0 + (i : Int).toNat) = i := by omega
  have inn : ∀ n : Int, -100000 ≤ n → n ≤ 100000 → inI64 n = true := fun n h1 h2 => inI64_iff.2 ⟨by omega, by omega⟩
  rcases h with ⟨hz, rfl, rfl⟩ | ⟨h1, rfl, rfl⟩
  · refine Gd.walkC TX0ok.ctx 1 tsOf (Nat.le_refl _) (ofIn [true, true, false, true, false, false]) (Eq.mpr (w_of_0 hs md i _) ?_)
    rw [branch_iff]
    refine ⟨fun hl => ?_, fun hl => ⟨i, ?_, .inl ⟨hz, rfl, rfl⟩⟩⟩
    rotate_left
    · have := of_decide_eq_false hl; omega
    rw [branch_iff]
    refine ⟨fun hl2 => ?_, fun hl2 => ⟨i, ?_, .inl ⟨hz, rfl, rfl⟩⟩⟩
    rotate_left
    · have := of_decide_eq_false hl2; omega
    have hl := of_decide_eq_true hl
    have hx := getD_ok hp (i := i) (by omega)
    rw [idx]
    generalize hxe : hs.getD i noPack = x
    have hxe' : hs.getD i noPack = x := hxe
    rw [hxe'] at hx
    have hD : List.take (min (x.data.length : Int) 300).toNat x.data ++ List.take (1 + x.zeros % 5000).toNat (List.drop 0 (repN (1 + x.zeros % 5000).toNat 0)) = ofD x := rfl
    rw [hD]
    have leaf : ∀ c, c = cutOf i x → ∃ m', m' < m ∧ ofI hs md m' (of1 hs md ((i : Int) + 1) [c] [⟨false⟩]).1 (of1 hs md ((i : Int) + 1) [c] [⟨false⟩]).2 := by
      rintro c rfl
      refine ⟨30 - (i + 1), by omega, i + 1, by omega, by omega, rfl, .inr ⟨by omega, ?_, ?_⟩⟩ <;> rw [ofN_succ, dsN_succ, hxe'] <;> subst hz <;> rfl
    have d1 := ofD_length hx
    obtain ⟨c0, c1, l0, l1, p0, p1, z0, z1⟩ := hx
    have r1 : 0 + (1 + x.zeros % 5000).toNat ≤ (repN (1 + x.zeros % 5000).toNat (0 : UInt8)).length := by rw [repN_eq, List.length_replicate]; omega
    have r2 : (((List.take (min (x.data.length : Int) 300).toNat x.data).length + (List.take (1 + x.zeros % 5000).toNat (List.drop 0 (repN (1 + x.zeros % 5000).toNat (0 : UInt8)))).length : Nat) : Int) ≤ 9223372036854775807 := by
      rw [List.length_take, List.length_take, List.drop_zero, repN_eq, List.length_replicate]
      omega
    have s1 : sameV (.int .u8 x.lab) (.int .u8 x.lab) = true := by simp [sameV]
    have s2 : sameV (.int .u8 x.cls) (.int .u8 x.cls) = true := by simp [sameV]
    (repeat (first | refine obl_dec (by omega) ?_ | refine obl_int (by omega) ?_ | refine obl_mk (decide_eq_true r1) ?_ | refine obl_mk (decide_eq_true r2) ?_ | refine obl_and (by omega) s1 ?_ | refine obl_and (by omega) s2 ?_))
    refine br_dec (fun hp4 => ?_) (fun hp4 => ?_)
    · (repeat (first | refine obl_dec (by omega) ?_ | refine obl_int (by omega) ?_ | refine obl_mk (decide_eq_true r1) ?_ | refine obl_mk (decide_eq_true r2) ?_ | refine obl_and (by omega) s1 ?_ | refine obl_and (by omega) s2 ?_))
      exact leaf _ (by unfold cutOf; rw [if_pos hp4])
    · (repeat (first | refine obl_dec (by omega) ?_ | refine obl_int (by omega) ?_ | refine obl_mk (decide_eq_true r1) ?_ | refine obl_mk (decide_eq_true r2) ?_ | refine obl_and (by omega) s1 ?_ | refine obl_and (by omega) s2 ?_))
      exact leaf _ (by unfold cutOf; rw [if_neg hp4])
  · refine Gd.walkC TX0ok.ctx 1 tsOf (Nat.le_refl _) (ofIn [true, true, false, true, false, false]) (Eq.mpr (w_of_1 hs md i (ofN hs i) (dsN i) _) ?_)
    rw [branch_iff]
    refine ⟨fun hl => ?_, fun hl => ⟨i, ?_, .inr ⟨h1, rfl, rfl⟩⟩⟩
    rotate_left
    · have := of_decide_eq_false hl; omega
    rw [branch_iff]
    refine ⟨fun hl2 => ?_, fun hl2 => ⟨i, ?_, .inr ⟨h1, rfl, rfl⟩⟩⟩
    rotate_left
    · have := of_decide_eq_false hl2; omega
    have hl := of_decide_eq_true hl
    have hl3 := of_decide_eq_true hl2
    have hx := getD_ok hp (i := i) (by omega)
    rw [idx]
    generalize hxe : hs.getD i noPack = x
    have hxe' : hs.getD i noPack = x := hxe
    rw [hxe'] at hx
    have hD : List.take (min (x.data.length : Int) 300).toNat x.data ++ List.take (1 + x.zeros % 5000).toNat (List.drop 0 (repN (1 + x.zeros % 5000).toNat 0)) = ofD x := rfl
    rw [hD]
    have leaf : ∀ c, c = cutOf i x → ∃ m', m' < m ∧ ofI hs md m' (of1 hs md ((i : Int) + 1) (ofN hs i ++ [c]) (dsN i ++ [⟨false⟩])).1 (of1 hs md ((i : Int) + 1) (ofN hs i ++ [c]) (dsN i ++ [⟨false⟩])).2 := by
      rintro c rfl
      refine ⟨30 - (i + 1), by omega, i + 1, by omega, by omega, rfl, .inr ⟨by omega, ?_, ?_⟩⟩ <;> rw [ofN_succ, dsN_succ, hxe'] <;> rfl
    have d1 := ofD_length hx
    obtain ⟨c0, c1, l0, l1, p0, p1, z0, z1⟩ := hx
    have r1 : 0 + (1 + x.zeros % 5000).toNat ≤ (repN (1 + x.zeros % 5000).toNat (0 : UInt8)).length := by rw [repN_eq, List.length_replicate]; omega
    have r2 : (((List.take (min (x.data.length : Int) 300).toNat x.data).length + (List.take (1 + x.zeros % 5000).toNat (List.drop 0 (repN (1 + x.zeros % 5000).toNat (0 : UInt8)))).length : Nat) : Int) ≤ 9223372036854775807 := by
      rw [List.length_take, List.length_take, List.drop_zero, repN_eq, List.length_replicate]
      omega
    have n1 := ofN_length hs i
    have n2 := dsN_length i
    have s3 : sameV (.sl 2 0 6 0 (ofN hs i).length none) (.sl 2 0 6 0 (ofN hs i).length none) = true := by simp [sameV]
    have q1 : ∀ c : CutR, (ofN hs i).length = (ofN hs i).length ∧ 6 = 6 ∧ 6 = 6 ∧ 0 < 6 ∧ (ofN hs i ++ [c]).length ≤ 9223372036854775807 ∧ (ofN hs i ++ [c]).length * 64 ≤ 140737488355328 := fun c => ⟨rfl, rfl, rfl, by omega, by rw [List.length_append, n1]; simp only [List.length_cons, List.length_nil]; omega, by rw [List.length_append, n1]; simp only [List.length_cons, List.length_nil]; omega⟩
    have q2 : (dsN i).length = (dsN i).length ∧ 1 = 1 ∧ 1 = 1 ∧ 0 < 1 ∧ (dsN i ++ [(⟨false⟩ : BoolR)]).length ≤ 9223372036854775807 ∧ (dsN i ++ [(⟨false⟩ : BoolR)]).length * 1 ≤ 140737488355328 := ⟨rfl, rfl, rfl, by omega, by rw [List.length_append, n2]; simp only [List.length_cons, List.length_nil]; omega, by rw [List.length_append, n2]; simp only [List.length_cons, List.length_nil]; omega⟩
    have s1 : sameV (.int .u8 x.lab) (.int .u8 x.lab) = true := by simp [sameV]
    have s2 : sameV (.int .u8 x.cls) (.int .u8 x.cls) = true := by simp [sameV]
    (repeat (first | refine obl_dec (by omega) ?_ | refine obl_int (by omega) ?_ | refine obl_mk (decide_eq_true r1) ?_ | refine obl_mk (decide_eq_true r2) ?_ | refine obl_and (by omega) s1 ?_ | refine obl_and (by omega) s2 ?_ | refine obl_tt s3 ?_ | refine obl_tt (decide_eq_true (q1 _)) ?_ | refine obl_tt (decide_eq_true q2) ?_))
    refine br_dec (fun hp4 => ?_) (fun hp4 => ?_)
    · (repeat (first | refine obl_dec (by omega) ?_ | refine obl_int (by omega) ?_ | refine obl_mk (decide_eq_true r1) ?_ | refine obl_mk (decide_eq_true r2) ?_ | refine obl_and (by omega) s1 ?_ | refine obl_and (by omega) s2 ?_ | refine obl_tt s3 ?_ | refine obl_tt (decide_eq_true (q1 _)) ?_ | refine obl_tt (decide_eq_true q2) ?_))
      exact leaf _ (by unfold cutOf; rw [if_pos hp4])
    · (repeat (first | refine obl_dec (by omega) ?_ | refine obl_int (by omega) ?_ | refine obl_mk (decide_eq_true r1) ?_ | refine obl_mk (decide_eq_true r2) ?_ | refine obl_and (by omega) s1 ?_ | refine obl_and (by omega) s2 ?_ | refine obl_tt s3 ?_ | refine obl_tt (decide_eq_true (q1 _)) ?_ | refine obl_tt (decide_eq_true q2) ?_))
      exact leaf _ (by unfold cutOf; rw [if_neg hp4])
def fOf (s : List PackR × RowMd) (K : Out → AHeap → Prop) : Prop := pOk s.1 ∧
  branch (decide (s.1.length = 0)) (K (.ret (.ptr 1 0 0 0)) ⟨2, [(0, pRow s.1 s.2), (1, srcB .nils .nils)]⟩)
    (K (.ret (.ptr 1 0 0 0)) ⟨4, [(0, pRow s.1 s.2), (1, srcB (.sl 2 0 6 0 (ofN s.1 (min s.1.length 30)).length none) (.sl 3 0 1 0 (dsN (min s.1.length 30)).length none)), (2, cRow (ofN s.1 (min s.1.length 30))), (3, dRow (dsN (min s.1.length 30)))]⟩)
theorem ofB_eq : tailN 2 ofB = .seq (.seq (seqL (seqL (tailN 2 ofB))) (.block 0 (.loop ofR))) (seqR (tailN 2 ofB)) := by kernel_rfl
set_option maxRecDepth 100000 in
theorem of_good (hs : List PackR) (md : RowMd) (K : Out → AHeap → Prop) (hK : fOf (hs, md) K) : OGd hs md ofB (endA (TX0.ctx Try.prog).P Try.f8 K) (env0 [.sl 0 0 5 0 hs.length none] 0) ⟨1, [(0, pRow hs md)]⟩ := by
  obtain ⟨hp, hK⟩ := hK
  refine Gd.walkN TX0ok.ctx (base := 1) (Nat.le_refl _) (It := fun E H => canonK 1 [0, 3] E H (fun E H => E = [(0, .sl 0 0 5 0 hs.length none), (3, .ptr 1 0 0 0)] ∧ H = (of0 hs md 0).2)) 2 400 _ _ _ (by kernel_rfl) (ofIn []) (Eq.mpr (w_of_pre hs md _ _) ⟨rfl, rfl⟩) (fun E H h => ?_)
  obtain ⟨E', H', σ, ⟨rfl, rfl⟩, g2, g3, g4, g5, g6⟩ := canonK_ok h
  refine Gd.sub (base := 1) (Nat.le_refl _) g6 ?_ g2 g3 g4 g5
  rw [ofB_eq]
  refine Gd.seq (Gd.seq (Gd.walkC TX0ok.ctx 1 tsOf (Nat.le_refl _) (ofIn [true, true, false, false]) (Eq.mpr (w_of_set hs md _) ?_)))
  refine Gd.block (Gd.mono (of_loop hs md hp 30 _ _ ⟨0, Nat.zero_le _, Nat.zero_le _, rfl, .inl ⟨rfl, rfl, rfl⟩⟩) (fun x E H h => ?_))
  unfold ofF at h
  split at h
  · obtain ⟨i, hi, ⟨hz, rfl, rfl⟩ | ⟨h1, rfl, rfl⟩⟩ := h
    · refine Gd.walkC TX0ok.ctx 1 tsP2 (Nat.le_refl _) (ofIn [true, true, true]) (Eq.mpr (w_of_end0 hs md i K) ?_)
      exact (branch_iff.1 hK).1 (decide_eq_true (by show hs.length = 0; omega))
    · refine Gd.walkC TX0ok.ctx 1 tsP2 (Nat.le_refl _) (ofIn [true, true, true]) (Eq.mpr (w_of_end1 hs md i _ _ K) ?_)
      have := (branch_iff.1 hK).2 (decide_eq_false (by show ¬ hs.length = 0; omega))
      rw [← hi] at this
      exact this
  · exact h.elim
def decOf (args : List AVal) (H : AHeap) : Option (List (Nat × Nat) × (ABlk × Nat)) := match args with
  | [.sl b 0 5 0 n none] => match H.get b with
    | some (.row e T l md) => some ([(0, b)], (.row e T l md, n))
    | _ => none
  | _ => none
theorem decOf_ok : DecOk decOf (fun (s : ABlk × Nat) => [.sl 0 0 5 0 s.2 none]) (fun (s : ABlk × Nat) => ⟨1, [(0, s.1)]⟩) := by
  refine ⟨fun args H σ s h hb hH => ?_⟩
  unfold decOf at h
  split at h
  · rename_i b n
    split at h
    · rename_i e T l md hg
      simp only [Option.some.injEq, Prod.mk.injEq] at h
      obtain ⟨rfl, rfl⟩ := h
      refine ⟨rfl, rfl, fun c x hx => ?_, fun c c' hc hc' hne => ?_, fun c hc => ?_⟩
      · obtain ⟨rfl, hx⟩ := get_one hx
        cases hx
        exact ⟨Nat.one_pos, rfl, hg⟩
      · have h1 : c < 1 := hc
        have h2 : c' < 1 := hc'
        omega
      · have h1 : c < 1 := hc
        obtain rfl : c = 0 := by omega
        exact (hH b _ hg).1
    · cases h
  · cases h
noncomputable def gcOf (hs : List PackR) (md : RowMd) : GC := gcSub decOf (fun (s : ABlk × Nat) => ⟨1, [(0, s.1)]⟩) (fun s K => (s.1 = pRow hs md ∧ s.2 = hs.length) ∧ fOf (hs, md) K)
theorem gcOf_sound (hs : List PackR) (md : RowMd) : GcSound Try.prog 8 (gcOf hs md) := by
  refine gc_sub Try.call8 decOf_ok (fun s k hk ρ w hR hb => ?_)
  obtain ⟨blk, n⟩ := s
  obtain ⟨⟨h1, h2⟩, hk⟩ := hk
  simp only at h1 h2
  subst h1
  subst h2
  exact fn_good TX0ok.ctx (fn := Try.f8) (by kernel_rfl) (by kernel_rfl) (of_good hs md k hk) hR hb
end Go.Proofs.Ytjacnjecggedhaa
namespace Go.Proofs.Ytjacnjecggedhaa
set_option linter.unusedVariables false
set_option linter.unusedSimpArgs false
open Go.RowKit Ev
noncomputable abbrev moB : Code := bodyC Try.f76
noncomputable abbrev moR : Code := codeAt [true, false, true, false, false] moB
def srcH (cs : List CutR) (ds : List BoolR) : List (Nat × ABlk) := [(0, srcB (.sl 1 0 6 0 cs.length none) (.sl 2 0 1 0 ds.length none)), (1, cRow cs), (2, dRow ds)]
def moE (no : Int) : Env := [(0, .ptr 0 0 0 0), (1, .int .u64 no), (2, .int .i64 7)]
def moE8 (no i : Int) : Env := [(0, .ptr 0 0 0 0), (1, .int .u64 no), (2, .int .i64 7), (8, .int .i64 i)]
def tsM : AExit → List Nat := fun x => match x with
  | .ret => [6, 7]
  | _ => [0, 1, 2, 8]
def qRet2 (R Q : AExit → Env → AHeap → Prop) : AExit → Env → AHeap → Prop := fun x E H => match x with
  | .ret => R .ret E H
  | x => Q x E H
end Go.Proofs.Ytjacnjecggedhaa
namespace Go.Proofs.Ytjacnjecggedhaa
set_option linter.unusedVariables false
set_option linter.unusedSimpArgs false
open Go.RowKit Ev
set_option maxRecDepth 100000 in
theorem w_mo_pre (cs : List CutR) (ds : List BoolR) (no : Int) (It : Env → AHeap → Prop) (Q : AExit → Env → AHeap → Prop) : (wpN (TX0.ctx Try.prog) 1 400 76 3 moB (env0 [.ptr 0 0 0 0, .int .u64 no, .int .i64 7] 0) ⟨3, srcH cs ds⟩ (fun E H => canonK 3 [0, 1, 2] E H It) Q
) =  (It [(0, AVal.ptr 0 0 0 0), (1, AVal.int IntKind.u64 no), (2, AVal.int IntKind.i64 (7 : Int))] (AHeap.mk 3 [(0, ABlk.cells 29 [AVal.sl 1 0 6 0 cs.length none, AVal.sl 2 0 1 0 ds.length none]), (1,
 ABlk.row 48 cutRow cs RowMd.plain), (2, ABlk.row 4 boolRow ds RowMd.plain)])) := by kernel_rfl
set_option maxRecDepth 100000 in
theorem w_mo_set (cs : List CutR) (ds : List BoolR) (no : Int) (Q : AExit → Env → AHeap → Prop) : (wpC (TX0.ctx Try.prog) 400 76 3 (seqL (seqL (tailN 1 moB))) (moE no) ⟨3, srcH cs ds⟩ (canQ 3 tsM Q)
) =  (Q AExit.normal [(0, AVal.ptr 0 0 0 0), (1, AVal.int IntKind.u64 no), (2, AVal.int IntKind.i64 (7 : Int)), (8, AVal.int IntKind.i64 (0 : Int))] (AHeap.mk 3 [(0, ABlk.cells 29 [AVal.sl 1 0 6 0
 cs.length none, AVal.sl 2 0 1 0 ds.length none]), (1, ABlk.row 48 cutRow cs RowMd.plain), (2, ABlk.row 4 boolRow ds RowMd.plain)])) := by kernel_rfl
set_option maxRecDepth 100000 in
theorem w_mo_round (cs : List CutR) (ds : List BoolR) (no : Int) (i : Nat) (K : Out → AHeap → Prop) (Q : AExit → Env → AHeap → Prop) : (wpC (TX0.ctx Try.prog) 400 76 3 moR (moE8 no i) ⟨3, srcH cs ds⟩ (canQ 3 tsM (qRet2 (endA (TX0.ctx Try.prog).P Try.f76 K) Q))
) =  (branch (decide ((↑i : Int) < (↑cs.length : Int))) (obl (decide ((0 : Int) ≤ (↑i : Int) ∧ (↑i : Int) < (↑ds.length : Int))) (obl (decide (0 + (↑i : Int).toNat < ds.length)) (branch (!(ds.getD (0 + (↑i
 : Int).toNat) (BoolR.mk false)).b) (branch (decide (no = (0 : Int))) (K (Out.ret (AVal.tup [AVal.int IntKind.u64 (((↑i : Int) % (18446744073709551616 : Int) + (1 : Int)) % (18446744073709551616 :
 Int)), AVal.bool true])) (AHeap.mk 3 [(0, ABlk.cells 29 [AVal.sl 1 0 6 0 cs.length none, AVal.sl 2 0 1 0 ds.length none]), (1, ABlk.row 48 cutRow cs RowMd.plain), (2, ABlk.row 4 boolRow ds
 RowMd.plain)])) (branch (decide (no = ((↑i : Int) % (18446744073709551616 : Int) + (1 : Int)) % (18446744073709551616 : Int))) (K (Out.ret (AVal.tup [AVal.int IntKind.u64 (((↑i : Int) %
 (18446744073709551616 : Int) + (1 : Int)) % (18446744073709551616 : Int)), AVal.bool true])) (AHeap.mk 3 [(0, ABlk.cells 29 [AVal.sl 1 0 6 0 cs.length none, AVal.sl 2 0 1 0 ds.length none]), (1,
 ABlk.row 48 cutRow cs RowMd.plain), (2, ABlk.row 4 boolRow ds RowMd.plain)])) (obl (inI64 ((↑i : Int) + (1 : Int))) (Q AExit.normal [(0, AVal.ptr 0 0 0 0), (1, AVal.int IntKind.u64 no), (2, AVal.int
 IntKind.i64 (7 : Int)), (8, AVal.int IntKind.i64 ((↑i : Int) + (1 : Int)))] (AHeap.mk 3 [(0, ABlk.cells 29 [AVal.sl 1 0 6 0 cs.length none, AVal.sl 2 0 1 0 ds.length none]), (1, ABlk.row 48 cutRow cs
 RowMd.plain), (2, ABlk.row 4 boolRow ds RowMd.plain)]))))) (obl (inI64 ((↑i : Int) + (1 : Int))) (Q AExit.normal [(0, AVal.ptr 0 0 0 0), (1, AVal.int IntKind.u64 no), (2, AVal.int IntKind.i64 (7 :
 Int)), (8, AVal.int IntKind.i64 ((↑i : Int) + (1 : Int)))] (AHeap.mk 3 [(0, ABlk.cells 29 [AVal.sl 1 0 6 0 cs.length none, AVal.sl 2 0 1 0 ds.length none]), (1, ABlk.row 48 cutRow cs RowMd.plain), (2,
 ABlk.row 4 boolRow ds RowMd.plain)])))))) (Q (AExit.exit 0) [(0, AVal.ptr 0 0 0 0), (1, AVal.int IntKind.u64 no), (2, AVal.int IntKind.i64 (7 : Int)), (8, AVal.int IntKind.i64 (↑i : Int))] (AHeap.mk 3
 [(0, ABlk.cells 29 [AVal.sl 1 0 6 0 cs.length none, AVal.sl 2 0 1 0 ds.length none]), (1, ABlk.row 48 cutRow cs RowMd.plain), (2, ABlk.row 4 boolRow ds RowMd.plain)]))) := by kernel_rfl
set_option maxRecDepth 100000 in
theorem w_mo_end (cs : List CutR) (ds : List BoolR) (no i : Int) (K : Out → AHeap → Prop) : (wpC (TX0.ctx Try.prog) 400 76 3 (seqR (tailN 1 moB)) (moE8 no i) ⟨3, srcH cs ds⟩ (canQ 3 tsM (endA (TX0.ctx Try.prog).P Try.f76 K))
) =  (K (Out.ret (AVal.tup [AVal.int IntKind.u64 (0 : Int), AVal.bool false])) (AHeap.mk 3 [(0, ABlk.cells 29 [AVal.sl 1 0 6 0 cs.length none, AVal.sl 2 0 1 0 ds.length none]), (1, ABlk.row 48 cutRow cs
 RowMd.plain), (2, ABlk.row 4 boolRow ds RowMd.plain)])) := by kernel_rfl
end Go.Proofs.Ytjacnjecggedhaa
namespace Go.Proofs.Ytjacnjecggedhaa
set_option linter.unusedVariables false
set_option linter.unusedSimpArgs false
open Go.RowKit Ev
def moreR (ds : List BoolR) (no : Int) : Nat → Nat → Option Nat
  | 0, _ => none
  | m + 1, i => if (ds.getD i ⟨false⟩).b = false ∧ (no = 0 ∨ no = (i : Int) + 1) then some i else moreR ds no m (i + 1)
def moreM (ds : List BoolR) (no : Int) : Option Nat := moreR ds no ds.length 0
structure MoreK (cs : List CutR) (ds : List BoolR) (no : Int) (K : Out → AHeap → Prop) : Prop where
  some : ∀ i : Nat, moreM ds no = some i → K (.ret (.tup [.int .u64 ((i : Int) + 1), .bool true])) ⟨3, srcH cs ds⟩
  none : moreM ds no = none → K (.ret (.tup [.int .u64 0, .bool false])) ⟨3, srcH cs ds⟩
theorem moIn (p : List Bool) : InFn (TX0.ctx Try.prog) 76 (codeAt p moB) :=
  inFn_at TX0ok.ctx (fn := Try.f76) (by kernel_rfl) (by kernel_rfl) p
abbrev MGd (cs : List CutR) (ds : List BoolR) (c : Code) (Q : AExit → Env → AHeap → Prop) (E : Env) (H : AHeap) : Prop := Gd (TX0.ctx Try.prog) 76 ⟨3, srcH cs ds⟩ c Q E H
noncomputable abbrev moQ (cs : List CutR) (ds : List BoolR) (no : Int) (K : Out → AHeap → Prop) : AExit → Env → AHeap → Prop := fun x E H => match x with
  | .exit 0 => moreM ds no = none ∧ ∃ i : Int, E = moE8 no i ∧ H = ⟨3, srcH cs ds⟩
  | .ret => endA (TX0.ctx Try.prog).P Try.f76 K .ret E H
  | _ => False
def moI (cs : List CutR) (ds : List BoolR) (no : Int) (m : Nat) (E : Env) (H : AHeap) : Prop :=
  ∃ i : Nat, m = ds.length - i ∧ i ≤ ds.length ∧ moreR ds no (ds.length - i) i = moreM ds no ∧ E = moE8 no i ∧ H = ⟨3, srcH cs ds⟩
set_option maxRecDepth 100000 in
theorem mo_loop (cs : List CutR) (ds : List BoolR) (no : Int) (K : Out → AHeap → Prop) (hK : MoreK cs ds no K) (hl : cs.length = ds.length) (h30 : ds.length ≤ 30) : ∀ m E H, moI cs ds no m E H → MGd cs ds (.loop moR) (moQ cs ds no K) E H := by
  refine Gd.loop (moI cs ds no) (fun m E H hI => ?_)
  obtain ⟨i, hm, hi, hr, rfl, rfl⟩ := hI
  refine Gd.mono (Gd.walkC TX0ok.ctx (Q := qRet2 (endA (TX0.ctx Try.prog).P Try.f76 K) (fun x E H => match x with
    | .normal => ∃ m', m' < m ∧ moI cs ds no m' E H
    | .exit 0 => moreM ds no = none ∧ ∃ i : Int, E = moE8 no i ∧ H = ⟨3, srcH cs ds⟩
    | _ => False)) 3 tsM (Nat.le_refl _) (moIn [true, false, true, false, false]) (Eq.mpr (w_mo_round cs ds no i K _) ?_)) (fun x E H h => ?_)
  rotate_left
  · cases x with
    | normal => exact h
    | ret => exact h
    | panic v => exact h.elim
    | exit j => cases j with
      | zero => exact h
      | succ n => exact h.elim
  have idx : 0 + (i : Int).toNat = i := by omega
  have e1 : (((i : Int) % 18446744073709551616 + 1) % 18446744073709551616) = (i : Int) + 1 := by omega
  rw [idx, e1]
  refine br_dec (fun h => ?_) (fun h => ?_)
  · refine obl_dec (by omega) (obl_dec (by omega) ?_)
    obtain ⟨r, hr'⟩ : ∃ r, ds.length - i = r + 1 := ⟨ds.length - i - 1, by omega⟩
    have hrest : ds.length - (i + 1) = r := by omega
    have hun : moreR ds no (ds.length - i) i = if (ds.getD i ⟨false⟩).b = false ∧ (no = 0 ∨ no = (i : Int) + 1) then some i else moreR ds no (ds.length - (i + 1)) (i + 1) := by
      rw [hr', hrest]; rfl
    have next : ¬ ((ds.getD i ⟨false⟩).b = false ∧ (no = 0 ∨ no = (i : Int) + 1)) → ∃ m', m' < m ∧ moI cs ds no m' (moE8 no ((i : Int) + 1)) ⟨3, srcH cs ds⟩ := fun hn =>
      ⟨ds.length - (i + 1), by omega, i + 1, rfl, by omega, by rw [← hr, hun, if_neg hn], rfl, rfl⟩
    have found : ((ds.getD i ⟨false⟩).b = false ∧ (no = 0 ∨ no = (i : Int) + 1)) → K (.ret (.tup [.int .u64 ((i : Int) + 1), .bool true])) ⟨3, srcH cs ds⟩ := fun hn =>
      hK.some i (by rw [← hr, hun, if_pos hn])
    refine br_mk (fun hb => ?_) (fun hb => ?_)
    · have hb : (ds.getD i ⟨false⟩).b = false := by simpa using hb
      refine br_dec (fun h0 => found ⟨hb, .inl h0⟩) (fun h0 => ?_)
      refine br_dec (fun h1 => found ⟨hb, .inr h1⟩) (fun h1 => ?_)
      exact obl_int (by omega) (next (by rintro ⟨_, h | h⟩ <;> contradiction))
    · have hb : (ds.getD i ⟨false⟩).b = true := by simpa using hb
      exact obl_int (by omega) (next (by rintro ⟨h, _⟩; rw [hb] at h; cases h))
  · refine ⟨?_, (i : Int), rfl, rfl⟩
    have : ds.length - i = 0 := by omega
    rw [← hr, this]; rfl
theorem moB_eq : tailN 1 moB = .seq (.seq (seqL (seqL (tailN 1 moB))) (.block 0 (.loop moR))) (seqR (tailN 1 moB)) := by kernel_rfl
set_option maxRecDepth 100000 in
theorem mo_good (cs : List CutR) (ds : List BoolR) (no : Int) (K : Out → AHeap → Prop) (hK : MoreK cs ds no K) (hl : cs.length = ds.length) (h30 : ds.length ≤ 30) : MGd cs ds moB (endA (TX0.ctx Try.prog).P Try.f76 K) (env0 [.ptr 0 0 0 0, .int .u64 no, .int .i64 7] 0) ⟨3, srcH cs ds⟩ := by
  refine Gd.walkN TX0ok.ctx (base := 3) (Nat.le_refl _) (It := fun E H => canonK 3 [0, 1, 2] E H (fun E H => E = moE no ∧ H = ⟨3, srcH cs ds⟩)) 1 400 _ _ _ (by kernel_rfl) (moIn []) (Eq.mpr (w_mo_pre cs ds no _ _) ⟨rfl, rfl⟩) (fun E H h => ?_)
  obtain ⟨E', H', σ, ⟨rfl, rfl⟩, g2, g3, g4, g5, g6⟩ := canonK_ok h
  refine Gd.sub (base := 3) (Nat.le_refl _) g6 ?_ g2 g3 g4 g5
  rw [moB_eq]
  refine Gd.seq (Gd.seq (Gd.walkC TX0ok.ctx 3 tsM (Nat.le_refl _) (moIn [true, false, false]) (Eq.mpr (w_mo_set cs ds no _) ?_)))
  refine Gd.block (Gd.mono (mo_loop cs ds no K hK hl h30 ds.length _ _ ⟨0, rfl, Nat.zero_le _, rfl, rfl, rfl⟩) (fun x E H h => ?_))
  unfold moQ at h
  split at h
  · obtain ⟨h1, i, rfl, rfl⟩ := h
    exact Gd.walkC TX0ok.ctx 3 tsM (Nat.le_refl _) (moIn [true, true]) (Eq.mpr (w_mo_end cs ds no i K) (hK.none h1))
  · exact h
  · exact h.elim
structure SrcS where
  l : ABlk
  d : ABlk
  n1 : Nat
  n2 : Nat
  no : Int
def decMore (args : List AVal) (H : AHeap) : Option (List (Nat × Nat) × SrcS) := match args with
  | [.ptr b 0 0 0, .int .u64 no, .int .i64 (.ofNat 7)] => match H.get b with
    | some (.cells e [.sl b1 0 6 0 n1 none, .sl b2 0 1 0 n2 none]) => match H.get b1, H.get b2 with
      | some (.row e1 T1 l1 m1), some (.row e2 T2 l2 m2) => match Nat.beq e 29 && !(Nat.beq b1 b2) with
        | true => some ([(0, b), (1, b1), (2, b2)], ⟨.row e1 T1 l1 m1, .row e2 T2 l2 m2, n1, n2, no⟩)
        | false => none
      | _, _ => none
    | _ => none
  | _ => none
def srcC (s : SrcS) : AHeap := ⟨3, [(0, srcB (.sl 1 0 6 0 s.n1 none) (.sl 2 0 1 0 s.n2 none)), (1, s.l), (2, s.d)]⟩
theorem get_three {x y z u : ABlk} {c : Nat} (h : AHeap.get ⟨3, [(0, x), (1, y), (2, z)]⟩ c = some u) : (c = 0 ∧ x.live = some u) ∨ (c = 1 ∧ y.live = some u) ∨ (c = 2 ∧ z.live = some u) := by
  unfold AHeap.get at h
  rw [getB_cons] at h
  by_cases h0 : 0 = c
  · rw [if_pos h0] at h; exact .inl ⟨h0.symm, h⟩
  rw [if_neg h0, getB_cons] at h
  by_cases h1 : 1 = c
  · rw [if_pos h1] at h; exact .inr (.inl ⟨h1.symm, h⟩)
  rw [if_neg h1, getB_cons] at h
  by_cases h2 : 2 = c
  · rw [if_pos h2] at h; exact .inr (.inr ⟨h2.symm, h⟩)
  rw [if_neg h2] at h
  cases h
theorem three_cases {c : Nat} (h : c < 3) : c = 0 ∨ c = 1 ∨ c = 2 := by omega
theorem decMore_ok : DecOk decMore (fun s => [.ptr 0 0 0 0, .int .u64 s.no, .int .i64 7]) srcC := by
  refine ⟨fun args H σ s h hb hH => ?_⟩
  unfold decMore at h
  split at h
  · rename_i b no
    split at h
    · rename_i e b1 n1 b2 n2 hg
      split at h
      · rename_i e1 T1 l1 m1 e2 T2 l2 m2 hg1 hg2
        split at h
        · rename_i hc
          simp only [Bool.and_eq_true, Bool.not_eq_true'] at hc
          have he := nat_beq_eq.1 hc.1
          have hne := nat_beq_ne.1 hc.2
          subst he
          simp only [Option.some.injEq, Prod.mk.injEq] at h
          obtain ⟨rfl, rfl⟩ := h
          have n01 : b ≠ b1 := by rintro rfl; rw [hg] at hg1; cases hg1
          have n02 : b ≠ b2 := by rintro rfl; rw [hg] at hg2; cases hg2
          refine ⟨rfl, rfl, fun c x hx => ?_, fun c c' hc hc' hne' => ?_, fun c hc => ?_⟩
          · rcases get_three hx with ⟨rfl, hx⟩ | ⟨rfl, hx⟩ | ⟨rfl, hx⟩
            · cases hx; exact ⟨(by decide : 0 < 3), rfl, hg⟩
            · cases hx; exact ⟨(by decide : 1 < 3), rfl, hg1⟩
            · cases hx; exact ⟨(by decide : 2 < 3), rfl, hg2⟩
          · rcases three_cases hc with rfl | rfl | rfl <;> rcases three_cases hc' with rfl | rfl | rfl <;> first | exact absurd rfl hne' | exact n01 | exact n02 | exact hne | exact n01.symm | exact n02.symm | exact fun h => hne h.symm
          · rcases three_cases hc with rfl | rfl | rfl
            · exact (hH b _ hg).1
            · exact (hH b1 _ hg1).1
            · exact (hH b2 _ hg2).1
        · cases h
      · cases h
    · cases h
  · cases h
def fMore (s : SrcS) (K : Out → AHeap → Prop) : Prop := ∃ (cs : List CutR) (ds : List BoolR), ((s.l = cRow cs ∧ s.d = dRow ds) ∧ (s.n1 = cs.length ∧ s.n2 = ds.length) ∧ cs.length = ds.length ∧ ds.length ≤ 30) ∧
  (∀ i : Nat, moreM ds s.no = some i → K (.ret (.tup [.int .u64 ((i : Int) + 1), .bool true])) (srcC s)) ∧ (moreM ds s.no = none → K (.ret (.tup [.int .u64 0, .bool false])) (srcC s))
theorem more_sound : GcSound Try.prog 76 (gcSub decMore srcC fMore) := by
  refine gc_sub Try.call76 decMore_ok (fun s k hk ρ w hR hb => ?_)
  obtain ⟨l, d, n1, n2, no⟩ := s
  obtain ⟨cs, ds, ⟨⟨h1, h2⟩, ⟨h3, h4⟩, h5, h6⟩, k1, k2⟩ := hk
  simp only at h1 h2 h3 h4
  subst h1 h2 h3 h4
  exact fn_good TX0ok.ctx (fn := Try.f76) (by kernel_rfl) (by kernel_rfl) (mo_good cs ds no k ⟨k1, k2⟩ h5 h6) hR hb
noncomputable def TX1 : Tabs := TX0.addGc 76 (gcSub decMore srcC fMore)
theorem TX1ok : TabsOk TX1 Try.prog := TX0ok.addGc more_sound
end Go.Proofs.Ytjacnjecggedhaa
namespace Go.Proofs.Ytjacnjecggedhaa
set_option linter.unusedVariables false
set_option linter.unusedSimpArgs false
open Go.RowKit Ev
def dropFc (T : Tabs) (f : Nat) : Tabs := { T with fcs := T.fcs.filter fun p => !(Nat.beq p.1 f) }
theorem dropFc_ok {T : Tabs} {P : Program} (h : TabsOk T P) (f : Nat) : TabsOk (dropFc T f) P := ⟨h.mixed, h.fns, h.rows, fun p hp => h.fcs p (List.mem_filter.1 hp).1, h.gcs, h.lcs, h.op⟩
def gcNextV : GC := fun args H K => match args with
  | [.agg [.int .i64 typ, .int .i64 k, .str b, .str data, .int .i64 at_, .int .i64 id], .agg [.int .i64 lk, .str lb], .int .i64 space, .bool whole] =>
    ∀ R : NextR, nextR typ k b data at_ id lk lb space whole = R → K (.ret (nextT typ data id R)) H
  | _ => False
theorem gcNextV_sound : GcSound Try.prog 78 gcNextV := by
  intro args H K hg ρ w hR ha
  unfold gcNextV at hg
  split at hg
  · rename_i typ k b data at_ id lk lb space whole
    obtain ⟨h1, h2⟩ := next_sound.2 _ H _ (rfl : fcNext [.agg [.int .i64 typ, .int .i64 k, .str b, .str data, .int .i64 at_, .int .i64 id], .agg [.int .i64 lk, .str lb], .int .i64 space, .bool whole] H = some (true, nextT typ data id (nextR typ k b data at_ id lk lb space whole))) ρ w H.next (fun b y hy => (hR.blk b y hy).2) ha
    refine ⟨next_sound.1, h1.mono ?_⟩
    rintro e w' ⟨rfl, hb⟩
    exact ⟨.ret _, H, ρ, ⟨rfl, h2⟩, hg _ rfl, Step.grow hR hb⟩
  · exact hg.elim
noncomputable def TX2 : Tabs := symT ((dropFc TX1 78).addGc 78 gcNextV) 75
theorem TX2ok : TabsOk TX2 Try.prog := symT_ok ((dropFc_ok TX1ok _).addGc gcNextV_sound) _
structure FSt where
  L : List UInt8
  beg : Bool
  k : Nat
  lk : Int
  lb : List UInt8
def fE (s : AVal) (r : Env) : Env := (4, .ptr 3 0 0 0) :: (5, .ptr 4 0 0 0) :: (6, .ptr 5 0 0 0) :: (10, .ptr 6 0 0 0) :: (11, s) :: (12, .func 16 [] [.ptr 3 0 0 0, .ptr 4 0 0 0, .ptr 5 0 0 0]) :: r
def f13 (i : Nat) : Env := [(13, .int .u64 ((i : Int) + 1))]
def f14 (no : Int) (sm : Bool) : Env := [(13, .int .u64 no), (14, .bool sm)]
def srcN (n : Nat) (cs : List CutR) (ds : List BoolR) : List (Nat × ABlk) := [(0, srcB (.sl 1 0 6 0 n none) (.sl 2 0 1 0 n none)), (1, cRow cs), (2, dRow ds)]
def fH0 (n : Nat) (cs : List CutR) (ds : List BoolR) (fv : Int) : List (Nat × ABlk) := srcN n cs ds ++ [(3, .cells 65 [.iface 24 (.ptr 0 0 0 0)]), (4, .cells 33 [.int .u64 fv]), (5, .cells 3 [.int .i64 7])]
def fHx (n : Nat) (cs : List CutR) (ds : List BoolR) (fv : Int) (r : List (Nat × ABlk)) : List (Nat × ABlk) := fH0 n cs ds fv ++ r
def fldS (v : AVal) (sp : Int) (F : FSt) : ABlk := .cells 70 [v, .int .i64 sp, .bool F.beg, .int .i64 (F.k : Int), .int .i64 F.lk, .str F.lb]
def fA (first sp : Int) : List AVal := [.iface 24 (.ptr 0 0 0 0), .int .u64 first, .int .i64 7, .int .i64 sp]
def feE (sp : Int) : Env := [(3, .int .i64 sp), (4, .ptr 3 0 0 0), (5, .ptr 4 0 0 0), (6, .ptr 5 0 0 0)]
def F0 : FSt := ⟨[], false, 0, 0, []⟩
def g00 (n : Nat) (sp : Int) (cs : List CutR) (ds : List BoolR) (fv : Int) (F : FSt) (r : Env) : Env × AHeap := (fE .nils r, ⟨7, fH0 n cs ds fv ++ [(6, fldS .nils sp F)]⟩)
def g10 (n : Nat) (sp : Int) (cs : List CutR) (ds : List BoolR) (fv : Int) (F : FSt) (r : Env) : Env × AHeap := (fE .nils r, ⟨8, fH0 n cs ds fv ++ [(6, fldS (oSl 7 F.L.length) sp F), (7, bRow F.L)]⟩)
def g11 (n : Nat) (sp : Int) (cs : List CutR) (ds : List BoolR) (fv : Int) (F : FSt) (S : List Int) (r : Env) : Env × AHeap := (fE (oSl 7 S.length) r, ⟨9, fH0 n cs ds fv ++ [(6, fldS (oSl 8 F.L.length) sp F), (7, sRow S), (8, bRow F.L)]⟩)
def noCut : CutR := ⟨0, 0, [], [], 0, 0⟩
def idI (i : Nat) : Nat := 0 + (((i : Int) + 1 - 1) % 18446744073709551616).toNat
def cutI (cs : List CutR) (i : Nat) : CutR := cs.getD (0 + (((i : Int) + 1 - 1) % 18446744073709551616).toNat) ⟨0, 0, [], [], 0, 0⟩
def idJ (i : Nat) : Int := ((i : Int) + 1 - 1) % 18446744073709551616
theorem idJ_eq {i : Nat} (h : i < 1000000) : idJ i = (i : Int) := by unfold idJ; omega
theorem idI_eq {i : Nat} (h : i < 1000000) : idI i = i := by unfold idI; omega
theorem cutI_eq {cs : List CutR} {i : Nat} (h : i < 1000000) : cutI cs i = cs.getD i noCut := by
  show cs.getD (idI i) noCut = _
  rw [idI_eq h]
end Go.Proofs.Ytjacnjecggedhaa
namespace Go.Proofs.Ytjacnjecggedhaa
set_option linter.unusedVariables false
set_option linter.unusedSimpArgs false
open Go.RowKit Ev
structure RefR where
  no : Int
  typ : Int
  k : Int
  lb : List UInt8
  data : List UInt8
  pos : Int
  id : Int
deriving DecidableEq
abbrev refRow : RowTy where
  α := RefR
  sz := 7
  dflt := ⟨0, 0, 0, [], [], 0, 0⟩
  enc := fun p => [.int .u64 p.no, .int .i64 p.typ, .int .i64 p.k, .str p.lb, .str p.data, .int .i64 p.pos, .int .i64 p.id]
  dec := fun cs => match cs with
    | [.int .u64 no, .int .i64 typ, .int .i64 k, .str lb, .str data, .int .i64 pos, .int .i64 id] => some (true, ⟨no, typ, k, lb, data, pos, id⟩)
    | _ => none
  len := fun _ => rfl
  isData := fun _ => rfl
  dec_enc := fun cs a h => by
    split at h
    · simp only [Option.some.injEq, Prod.mk.injEq, true_and] at h
      subst h; rfl
    · cases h
  bytes := none
  toB := fun f g h => by cases h
def addRow (T : Tabs) (e : Nat) (R : RowTy) : Tabs := { T with rows := (e, R) :: T.rows }
theorem addRow_ok {T : Tabs} {P : Program} (h : TabsOk T P) {e : Nat} {R : RowTy} (hr : RowOk P e R) : TabsOk (addRow T e R) P :=
  ⟨h.mixed, h.fns, fun p hp => by rcases List.mem_cons.1 hp with rfl | hp <;> first | exact hr | exact h.rows p hp, h.fcs, h.gcs, h.lcs, h.op⟩
noncomputable def TQR : Tabs := addRow TQ 80 refRow
theorem TQRok : TabsOk TQR Try.prog := addRow_ok TQok (fun i hi => by cases (show Try.prog.info? 80 = some Try.t80 from by kernel_rfl).symm.trans hi; exact ⟨_, rfl, fun ρ => rfl⟩)
noncomputable abbrev rfB : Code := bodyC Try.f11
noncomputable abbrev rfO : Code := codeAt [true, true, true, true, true, false, true, false, false] rfB
noncomputable abbrev rfL : Code := codeAt [true, true, true, true, true, false, true, false, false, true, false, false, true, false, false] rfB
def rRow (os : List RefR) : ABlk := .row 80 refRow os .plain
def memB (F : FSt) (is : Bool) : ABlk := .cells 77 [.int .i64 F.lk, .str F.lb, .bool is]
def refB (no : Int) (c : CutR) : ABlk := .cells 80 [.int .u64 no, .int .i64 c.typ, .int .i64 c.k, .str c.lb, .str c.data, .int .i64 c.pos, .int .i64 c.id]
def rfE (n : Nat) (sp : Int) (F : FSt) (s : AVal) (r : Env) : Env := (0, .sl 0 0 7 0 n none) :: (1, .int .i64 sp) :: (6, .ptr 1 0 0 0) :: (7, .str F.L) :: (8, s) :: (9, .bool F.beg) :: r
def r10 (i : Int) : Env := [(10, .int .i64 i)]
def rn (os : List RefR) (sp : Int) (F : FSt) (is : Bool) (r : Env) : Env × AHeap := (rfE os.length sp F .nils r, ⟨2, [(0, rRow os), (1, memB F is)]⟩)
def rs (os : List RefR) (sp : Int) (F : FSt) (is : Bool) (S : List Int) (r : Env) : Env × AHeap := (rfE os.length sp F (.sl 2 0 1 0 S.length none) r, ⟨3, [(0, rRow os), (1, memB F is), (2, .row 33 (intRow .u64) S .plain)]⟩)
def pn (os : List RefR) (sp : Int) (F : FSt) (is : Bool) (i : Int) (no : Int) (c : CutR) : Env × AHeap := (rfE os.length sp F .nils [(10, .int .i64 i), (11, .ptr 2 0 0 0)], ⟨3, [(0, rRow os), (1, memB F is), (2, refB no c)]⟩)
def ps (os : List RefR) (sp : Int) (F : FSt) (is : Bool) (S : List Int) (i : Int) (no : Int) (c : CutR) : Env × AHeap := (rfE os.length sp F (.sl 2 0 1 0 S.length none) [(10, .int .i64 i), (11, .ptr 3 0 0 0)], ⟨4, [(0, rRow os), (1, memB F is), (2, .row 33 (intRow .u64) S .plain), (3, refB no c)]⟩)
def nxA (sp : Int) (F : FSt) (c : CutR) : NextR := nextR c.typ c.k c.lb c.data c.pos c.id 3 [] (sp - (F.L.length : Int)) F.beg
def nxB (sp : Int) (F : FSt) (c : CutR) : NextR := nextR c.typ c.k c.lb c.data c.pos c.id c.k c.lb (sp - (F.L.length : Int)) F.beg
def tsR : AExit → List Nat := fun x => match x with
  | .ret => [4, 5]
  | _ => [0, 1, 6, 7, 8, 9, 10]
def tsR1 : AExit → List Nat := fun x => match x with
  | .ret => [4, 5]
  | .normal => [0, 1, 6, 7, 8, 9, 10, 11]
  | _ => [0, 1, 6, 7, 8, 9, 10]
end Go.Proofs.Ytjacnjecggedhaa
namespace Go.Proofs.Ytjacnjecggedhaa
set_option linter.unusedVariables false
set_option linter.unusedSimpArgs false
open Go.RowKit Ev
noncomputable abbrev orB : Code := bodyC Try.f12
noncomputable abbrev orR : Code := codeAt [true, true, false, true, false, false] orB
def orE (k : Int) (o : AVal) (r : Env) : Env := (0, .ptr 0 0 0 0) :: (1, .int .i64 k) :: (5, o) :: r
def o6 (i : Int) : Env := [(6, .int .i64 i)]
def oo0 (n : Nat) (cs : List CutR) (ds : List BoolR) (k : Int) (r : Env) : Env × AHeap := (orE k .nils r, ⟨3, srcN n cs ds⟩)
def oo1 (n : Nat) (cs : List CutR) (ds : List BoolR) (k : Int) (os : List RefR) (r : Env) : Env × AHeap := (orE k (.sl 3 0 7 0 os.length none) r, ⟨4, srcN n cs ds ++ [(3, rRow os)]⟩)
def tsO : AExit → List Nat := fun x => match x with
  | .ret => [4]
  | _ => [0, 1, 5, 6]
end Go.Proofs.Ytjacnjecggedhaa
namespace Go.Proofs.Ytjacnjecggedhaa
set_option linter.unusedVariables false
set_option linter.unusedSimpArgs false
open Go.RowKit Ev
set_option maxRecDepth 100000 in
theorem w_or_pre (n : Nat) (cs : List CutR) (ds : List BoolR) (k : Int) (It : Env → AHeap → Prop) (Q : AExit → Env → AHeap → Prop) : (wpN (TQR.ctx Try.prog) 2 400 12 3 orB (env0 [.ptr 0 0 0 0, .int .i64 k] 0) ⟨3, srcN n cs ds⟩ (fun E H => canonK 3 [0, 1, 5] E H It) Q
) =  (It [(0, AVal.ptr 0 0 0 0), (1, AVal.int IntKind.i64 k), (5, AVal.nils)] (AHeap.mk 3 [(0, ABlk.cells 29 [AVal.sl 1 0 6 0 n none, AVal.sl 2 0 1 0 n none]), (1, ABlk.row 48 cutRow cs RowMd.plain), (2,
 ABlk.row 4 boolRow ds RowMd.plain)])) := by kernel_rfl
set_option maxRecDepth 100000 in
theorem w_or_set (n : Nat) (cs : List CutR) (ds : List BoolR) (k : Int) (Q : AExit → Env → AHeap → Prop) : (wpC (TQR.ctx Try.prog) 400 12 3 (seqL (seqL (tailN 2 orB))) (oo0 n cs ds k []).1 (oo0 n cs ds k []).2 (canQ 3 tsO Q)
) =  (Q AExit.normal [(0, AVal.ptr 0 0 0 0), (1, AVal.int IntKind.i64 k), (5, AVal.nils), (6, AVal.int IntKind.i64 (-1 : Int))] (AHeap.mk 3 [(0, ABlk.cells 29 [AVal.sl 1 0 6 0 n none, AVal.sl 2 0 1 0 n
 none]), (1, ABlk.row 48 cutRow cs RowMd.plain), (2, ABlk.row 4 boolRow ds RowMd.plain)])) := by kernel_rfl
set_option maxRecDepth 100000 in
theorem w_or_0 (n : Nat) (cs : List CutR) (ds : List BoolR) (k : Int) (Q : AExit → Env → AHeap → Prop) : (wpC (TQR.ctx Try.prog) 400 12 3 orR (oo0 n cs ds k (o6 (-1))).1 (oo0 n cs ds k (o6 (-1))).2 (canQ 3 tsO Q)
) =  (obl (decide ((0 : Int) ≤ k ∧ k < (↑n : Int))) (obl (decide (0 + k.toNat < cs.length)) (Q AExit.normal [(0, AVal.ptr 0 0 0 0), (1, AVal.int IntKind.i64 k), (5, AVal.sl 3 0 7 0 1 none), (6, AVal.int
 IntKind.i64 (0 : Int))] (AHeap.mk 4 [(0, ABlk.cells 29 [AVal.sl 1 0 6 0 n none, AVal.sl 2 0 1 0 n none]), (1, ABlk.row 48 cutRow cs RowMd.plain), (2, ABlk.row 4 boolRow ds RowMd.plain), (3, ABlk.row
 80 refRow [RefR.mk ((k % (18446744073709551616 : Int) + (1 : Int)) % (18446744073709551616 : Int)) (cs.getD (0 + k.toNat) (CutR.mk (0 : Int) (0 : Int) [] [] (0 : Int) (0 : Int))).typ (cs.getD (0 +
 k.toNat) (CutR.mk (0 : Int) (0 : Int) [] [] (0 : Int) (0 : Int))).k (cs.getD (0 + k.toNat) (CutR.mk (0 : Int) (0 : Int) [] [] (0 : Int) (0 : Int))).lb (cs.getD (0 + k.toNat) (CutR.mk (0 : Int) (0 :
 Int) [] [] (0 : Int) (0 : Int))).data (cs.getD (0 + k.toNat) (CutR.mk (0 : Int) (0 : Int) [] [] (0 : Int) (0 : Int))).pos (cs.getD (0 + k.toNat) (CutR.mk (0 : Int) (0 : Int) [] [] (0 : Int) (0 :
 Int))).id] RowMd.plain)])))) := by kernel_rfl
set_option maxRecDepth 100000 in
theorem w_or_1 (n : Nat) (cs : List CutR) (ds : List BoolR) (k : Int) (os : List RefR) (i : Nat) (Q : AExit → Env → AHeap → Prop) : (wpC (TQR.ctx Try.prog) 400 12 3 orR (oo1 n cs ds k os (o6 i)).1 (oo1 n cs ds k os (o6 i)).2 (canQ 3 tsO Q)
) =  (branch (decide ((↑i : Int) < (↑n : Int))) (branch (decide ((↑i : Int) = k)) (obl (inI64 ((↑i : Int) + (1 : Int))) (Q AExit.normal [(0, AVal.ptr 0 0 0 0), (1, AVal.int IntKind.i64 k), (5, AVal.sl 3 0
 7 0 os.length none), (6, AVal.int IntKind.i64 ((↑i : Int) + (1 : Int)))] (AHeap.mk 4 [(0, ABlk.cells 29 [AVal.sl 1 0 6 0 n none, AVal.sl 2 0 1 0 n none]), (1, ABlk.row 48 cutRow cs RowMd.plain), (2,
 ABlk.row 4 boolRow ds RowMd.plain), (3, ABlk.row 80 refRow os RowMd.plain)]))) (obl (decide ((0 : Int) ≤ (↑i : Int) ∧ (↑i : Int) < (↑n : Int))) (obl (decide (0 + (↑i : Int).toNat < cs.length)) (obl
 (true && decide (os.length = os.length ∧ 7 = 7 ∧ 7 = 7 ∧ 0 < 7 ∧ (os ++ [RefR.mk (((↑i : Int) % (18446744073709551616 : Int) + (1 : Int)) % (18446744073709551616 : Int)) (cs.getD (0 + (↑i :
 Int).toNat) (CutR.mk (0 : Int) (0 : Int) [] [] (0 : Int) (0 : Int))).typ (cs.getD (0 + (↑i : Int).toNat) (CutR.mk (0 : Int) (0 : Int) [] [] (0 : Int) (0 : Int))).k (cs.getD (0 + (↑i : Int).toNat)
 (CutR.mk (0 : Int) (0 : Int) [] [] (0 : Int) (0 : Int))).lb (cs.getD (0 + (↑i : Int).toNat) (CutR.mk (0 : Int) (0 : Int) [] [] (0 : Int) (0 : Int))).data (cs.getD (0 + (↑i : Int).toNat) (CutR.mk (0 :
 Int) (0 : Int) [] [] (0 : Int) (0 : Int))).pos (cs.getD (0 + (↑i : Int).toNat) (CutR.mk (0 : Int) (0 : Int) [] [] (0 : Int) (0 : Int))).id]).length ≤ 9223372036854775807 ∧ (os ++ [RefR.mk (((↑i : Int)
 % (18446744073709551616 : Int) + (1 : Int)) % (18446744073709551616 : Int)) (cs.getD (0 + (↑i : Int).toNat) (CutR.mk (0 : Int) (0 : Int) [] [] (0 : Int) (0 : Int))).typ (cs.getD (0 + (↑i : Int).toNat)
 (CutR.mk (0 : Int) (0 : Int) [] [] (0 : Int) (0 : Int))).k (cs.getD (0 + (↑i : Int).toNat) (CutR.mk (0 : Int) (0 : Int) [] [] (0 : Int) (0 : Int))).lb (cs.getD (0 + (↑i : Int).toNat) (CutR.mk (0 :
 Int) (0 : Int) [] [] (0 : Int) (0 : Int))).data (cs.getD (0 + (↑i : Int).toNat) (CutR.mk (0 : Int) (0 : Int) [] [] (0 : Int) (0 : Int))).pos (cs.getD (0 + (↑i : Int).toNat) (CutR.mk (0 : Int) (0 :
 Int) [] [] (0 : Int) (0 : Int))).id]).length * 72 ≤ 140737488355328)) (obl (inI64 ((↑i : Int) + (1 : Int))) (Q AExit.normal [(0, AVal.ptr 0 0 0 0), (1, AVal.int IntKind.i64 k), (5, AVal.sl 3 0 7 0 (os
 ++ [RefR.mk (((↑i : Int) % (18446744073709551616 : Int) + (1 : Int)) % (18446744073709551616 : Int)) (cs.getD (0 + (↑i : Int).toNat) (CutR.mk (0 : Int) (0 : Int) [] [] (0 : Int) (0 : Int))).typ
 (cs.getD (0 + (↑i : Int).toNat) (CutR.mk (0 : Int) (0 : Int) [] [] (0 : Int) (0 : Int))).k (cs.getD (0 + (↑i : Int).toNat) (CutR.mk (0 : Int) (0 : Int) [] [] (0 : Int) (0 : Int))).lb (cs.getD (0 + (↑i
 : Int).toNat) (CutR.mk (0 : Int) (0 : Int) [] [] (0 : Int) (0 : Int))).data (cs.getD (0 + (↑i : Int).toNat) (CutR.mk (0 : Int) (0 : Int) [] [] (0 : Int) (0 : Int))).pos (cs.getD (0 + (↑i : Int).toNat)
 (CutR.mk (0 : Int) (0 : Int) [] [] (0 : Int) (0 : Int))).id]).length none), (6, AVal.int IntKind.i64 ((↑i : Int) + (1 : Int)))] (AHeap.mk 4 [(0, ABlk.cells 29 [AVal.sl 1 0 6 0 n none, AVal.sl 2 0 1 0
 n none]), (1, ABlk.row 48 cutRow cs RowMd.plain), (2, ABlk.row 4 boolRow ds RowMd.plain), (3, ABlk.row 80 refRow (os ++ [RefR.mk (((↑i : Int) % (18446744073709551616 : Int) + (1 : Int)) %
 (18446744073709551616 : Int)) (cs.getD (0 + (↑i : Int).toNat) (CutR.mk (0 : Int) (0 : Int) [] [] (0 : Int) (0 : Int))).typ (cs.getD (0 + (↑i : Int).toNat) (CutR.mk (0 : Int) (0 : Int) [] [] (0 : Int)
 (0 : Int))).k (cs.getD (0 + (↑i : Int).toNat) (CutR.mk (0 : Int) (0 : Int) [] [] (0 : Int) (0 : Int))).lb (cs.getD (0 + (↑i : Int).toNat) (CutR.mk (0 : Int) (0 : Int) [] [] (0 : Int) (0 : Int))).data
 (cs.getD (0 + (↑i : Int).toNat) (CutR.mk (0 : Int) (0 : Int) [] [] (0 : Int) (0 : Int))).pos (cs.getD (0 + (↑i : Int).toNat) (CutR.mk (0 : Int) (0 : Int) [] [] (0 : Int) (0 : Int))).id])
 RowMd.plain)]))))))) (Q (AExit.exit 0) [(0, AVal.ptr 0 0 0 0), (1, AVal.int IntKind.i64 k), (5, AVal.sl 3 0 7 0 os.length none), (6, AVal.int IntKind.i64 (↑i : Int))] (AHeap.mk 4 [(0, ABlk.cells 29
 [AVal.sl 1 0 6 0 n none, AVal.sl 2 0 1 0 n none]), (1, ABlk.row 48 cutRow cs RowMd.plain), (2, ABlk.row 4 boolRow ds RowMd.plain), (3, ABlk.row 80 refRow os RowMd.plain)]))) := by kernel_rfl
set_option maxRecDepth 100000 in
theorem w_or_end (n : Nat) (cs : List CutR) (ds : List BoolR) (k : Int) (os : List RefR) (i : Int) (K : Out → AHeap → Prop) : (wpC (TQR.ctx Try.prog) 400 12 3 (seqR (tailN 2 orB)) (oo1 n cs ds k os (o6 i)).1 (oo1 n cs ds k os (o6 i)).2 (canQ 3 tsO (endA (TQR.ctx Try.prog).P Try.f12 K))
) =  (K (Out.ret (AVal.sl 3 0 7 0 os.length none)) (AHeap.mk 4 [(0, ABlk.cells 29 [AVal.sl 1 0 6 0 n none, AVal.sl 2 0 1 0 n none]), (1, ABlk.row 48 cutRow cs RowMd.plain), (2, ABlk.row 4 boolRow ds
 RowMd.plain), (3, ABlk.row 80 refRow os RowMd.plain)])) := by kernel_rfl
end Go.Proofs.Ytjacnjecggedhaa
namespace Go.Proofs.Ytjacnjecggedhaa
set_option linter.unusedVariables false
set_option linter.unusedSimpArgs false
open Go.RowKit Ev
def memL (lk : Int) (lb : List UInt8) (k : Int) (b : List UInt8) : Int × List UInt8 := if lb ≠ [] ∧ lk = k ∧ lb = b then (3, []) else (k, b)
def memK (lk : Int) (lb : List UInt8) (k : Int) (b : List UInt8) : Int × List UInt8 := if lb ≠ [] ∧ lk = k ∧ lb = b then (lk, lb) else if 0 < lSize k ∧ lOk k b = true then (k, b) else (lk, lb)
def labOf (F : FSt) (c : CutR) : Int × List UInt8 := if c.pos = 0 then memL F.lk F.lb c.k c.lb else (c.k, c.lb)
def memOf (F : FSt) (c : CutR) : Int × List UInt8 := if c.pos = 0 then memK F.lk F.lb c.k c.lb else (F.lk, F.lb)
def stepR (sp : Int) (F : FSt) (c : CutR) : NextR := nextR c.typ c.k c.lb c.data c.pos c.id (labOf F c).1 (labOf F c).2 (sp - (F.L.length : Int)) F.beg
def encR (R : NextR) : List UInt8 := gEnc R.st R.en R.id R.total R.typ R.k R.lb R.data R.sum
def errR (R : NextR) : Int := gErr R.st R.en R.id R.total R.typ R.k R.lb R.data R.sum
structure OkR (sp : Int) (F : FSt) (R : NextR) : Prop where
  err : R.err = 0
  enc : errR R = 0
  len : ((encR R).length : Int) ≤ sp - (F.L.length : Int)
def stepF (F : FSt) (c : CutR) (R : NextR) : FSt := ⟨F.L ++ encR R, F.beg || (R.st && !R.en), F.k + 1, (memOf F c).1, (memOf F c).2⟩
def stepC (c : CutR) (R : NextR) : CutR := ⟨c.typ, R.k2, R.b2, c.data, R.at2, c.id⟩
structure CSm (c : CutR) : Prop where
  d : c.data.length ≤ 5300
  l : c.lb.length ≤ 20
theorem pSum_le (typ k : Int) (b data : List UInt8) : (pSum typ k b data).length ≤ 4 := by
  unfold pSum
  split
  · simp [four]
  · simp
theorem nextR_len (typ k : Int) (b data : List UInt8) (at_ id lk : Int) (lb : List UInt8) (space : Int) (whole : Bool) (R : NextR) (h : nextR typ k b data at_ id lk lb space whole = R) :
    R.lb.length ≤ lb.length ∧ R.data.length ≤ data.length ∧ R.sum.length ≤ 4 ∧ (R.b2 = b ∨ R.b2 = lb) := by
  have hp := pSum_le typ k b data
  subst h
  unfold nextR
  repeat' split
  all_goals (refine ⟨?_, ?_, ?_, ?_⟩ <;> simp only [List.length_nil, List.length_take, List.length_drop, true_or, or_true] <;> omega)
theorem stepR_small {sp : Int} {F : FSt} {c : CutR} {R : NextR} (h : stepR sp F c = R) (hc : CSm c) : R.lb.length + R.data.length + R.sum.length ≤ 9223372036854775000 ∧ CSm (stepC c R) := by
  obtain ⟨h1, h2, h3, h4⟩ := nextR_len _ _ _ _ _ _ _ _ _ _ R h
  have hl : (labOf F c).2.length ≤ c.lb.length := by
    unfold labOf memL
    repeat' split
    all_goals simp
  have d := hc.d
  have l := hc.l
  refine ⟨by omega, ⟨d, ?_⟩⟩
  show R.b2.length ≤ 20
  rcases h4 with h4 | h4 <;> rw [h4] <;> omega
theorem encR_len {R : NextR} (h : errR R = 0) : 2 ≤ (encR R).length := by
  unfold encR gEnc
  unfold errR at h
  rw [if_pos h]
  simp [two]
end Go.Proofs.Ytjacnjecggedhaa
namespace Go.Proofs.Ytjacnjecggedhaa
open Go.RowKit Ev
def qE (os : List RefR) (sp : Int) (L : List UInt8) (s : AVal) (b : Bool) (r : Env) : Env := (0, .sl 0 0 7 0 os.length none) :: (1, .int .i64 sp) :: (6, .ptr 1 0 0 0) :: (7, .str L) :: (8, s) :: (9, .bool b) :: r
def qMb (k : Int) (lb : List UInt8) (is : Bool) : ABlk := .cells 77 [.int .i64 k, .str lb, .bool is]
def qRb (no : Int) (c : CutR) (k : Int) (lb : List UInt8) (pos : Int) : ABlk := .cells 80 [.int .u64 no, .int .i64 c.typ, .int .i64 k, .str lb, .str c.data, .int .i64 pos, .int .i64 c.id]
end Go.Proofs.Ytjacnjecggedhaa
namespace Go.Proofs.Ytjacnjecggedhaa
set_option linter.unusedVariables false
set_option linter.unusedSimpArgs false
open Go.RowKit Ev
set_option maxRecDepth 100000 in
theorem w_rfl_n (os : List RefR) (sp : Int) (F : FSt) (is : Bool) (i : Nat) (no : Int) (c : CutR) (K : Out → AHeap → Prop) (Q : AExit → Env → AHeap → Prop) : (wpC (TQR.ctx Try.prog) 400 11 1 rfL (pn os sp F is i no c).1 (pn os sp F is i no c).2 (canQ 1 tsR1 (qRet (endA (TQR.ctx Try.prog).P Try.f11 K) Q))
) =  (obl (inI64 (sp - (↑F.L.length : Int))) (branch (decide (c.pos = (0 : Int))) (branch is (branch (decide (c.k = F.lk) && (decide (c.lb = F.lb) && true)) (branch (!decide ((nxA sp F c).err = (0 : Int)))
 (branch (!decide ((nxA sp F c).err = (0 : Int))) (K (Out.ret (.tup [.str F.L, .nils])) (AHeap.mk 1 [(0, rRow os)])) (obl (inI64 (sp - (↑F.L.length : Int))) (branch (decide (sp - (↑F.L.length : Int) <
 (3 : Int))) (K (Out.ret (.tup [.str F.L, .nils])) (AHeap.mk 1 [(0, rRow os)])) (obl (decide ((↑(F.L.length + 3) : Int) ≤ (9223372036854775807 : Int))) (branch F.beg (Q .normal (qE os sp (F.L ++ [(48 :
 UInt8), (1 : UInt8), (0 : UInt8)]) .nils true [(10, .int .i64 (↑i : Int)), (11, .ptr 2 0 0 0)]) (AHeap.mk 3 [(0, rRow os), (1, qMb F.lk F.lb is), (2, qRb no c c.k c.lb c.pos)])) (Q .normal (qE os sp
 (F.L ++ [(48 : UInt8), (1 : UInt8), (0 : UInt8)]) .nils false [(10, .int .i64 (↑i : Int)), (11, .ptr 2 0 0 0)]) (AHeap.mk 3 [(0, rRow os), (1, qMb F.lk F.lb is), (2, qRb no c c.k c.lb c.pos)])))))))
 (obl (decide ((nxA sp F c).lb.length + (nxA sp F c).data.length + (nxA sp F c).sum.length ≤ 9223372036854775000)) (branch (!decide (errR (nxA sp F c) = (0 : Int))) (K (Out.ret (.tup [.str F.L,
 .nils])) (AHeap.mk 1 [(0, rRow os)])) (obl (inI64 (sp - (↑F.L.length : Int))) (branch (decide (sp - (↑F.L.length : Int) < (↑(encR (nxA sp F c)).length : Int))) (K (Out.ret (.tup [.str F.L, .nils]))
 (AHeap.mk 1 [(0, rRow os)])) (obl (decide ((↑(F.L.length + (encR (nxA sp F c)).length) : Int) ≤ (9223372036854775807 : Int))) (branch F.beg (branch (nxA sp F c).en (Q (.exit 2) (qE os sp (F.L ++ encR
 (nxA sp F c)) (.sl 2 0 1 0 1 none) true [(10, .int .i64 (↑i : Int))]) (AHeap.mk 3 [(0, rRow os), (1, qMb F.lk F.lb is), (2, sRow [no])])) (Q .normal (qE os sp (F.L ++ encR (nxA sp F c)) .nils true
 [(10, .int .i64 (↑i : Int)), (11, .ptr 2 0 0 0)]) (AHeap.mk 3 [(0, rRow os), (1, qMb F.lk F.lb is), (2, qRb no c ((nxA sp F c).k2) ((nxA sp F c).b2) ((nxA sp F c).at2))]))) (branch (nxA sp F c).st
 (branch (nxA sp F c).en (Q (.exit 2) (qE os sp (F.L ++ encR (nxA sp F c)) (.sl 2 0 1 0 1 none) (!(nxA sp F c).en) [(10, .int .i64 (↑i : Int))]) (AHeap.mk 3 [(0, rRow os), (1, qMb F.lk F.lb is), (2,
 sRow [no])])) (Q .normal (qE os sp (F.L ++ encR (nxA sp F c)) .nils (!(nxA sp F c).en) [(10, .int .i64 (↑i : Int)), (11, .ptr 2 0 0 0)]) (AHeap.mk 3 [(0, rRow os), (1, qMb F.lk F.lb is), (2, qRb no c
 ((nxA sp F c).k2) ((nxA sp F c).b2) ((nxA sp F c).at2))]))) (branch (nxA sp F c).en (Q (.exit 2) (qE os sp (F.L ++ encR (nxA sp F c)) (.sl 2 0 1 0 1 none) false [(10, .int .i64 (↑i : Int))]) (AHeap.mk
 3 [(0, rRow os), (1, qMb F.lk F.lb is), (2, sRow [no])])) (Q .normal (qE os sp (F.L ++ encR (nxA sp F c)) .nils false [(10, .int .i64 (↑i : Int)), (11, .ptr 2 0 0 0)]) (AHeap.mk 3 [(0, rRow os), (1,
 qMb F.lk F.lb is), (2, qRb no c ((nxA sp F c).k2) ((nxA sp F c).b2) ((nxA sp F c).at2))]))))))))))) (branch (lOk c.k c.lb) (branch (decide ((0 : Int) < (↑c.lb.length : Int))) (branch (!decide ((nxB sp
 F c).err = (0 : Int))) (branch (!decide ((nxB sp F c).err = (0 : Int))) (K (Out.ret (.tup [.str F.L, .nils])) (AHeap.mk 1 [(0, rRow os)])) (obl (inI64 (sp - (↑F.L.length : Int))) (branch (decide (sp -
 (↑F.L.length : Int) < (3 : Int))) (K (Out.ret (.tup [.str F.L, .nils])) (AHeap.mk 1 [(0, rRow os)])) (obl (decide ((↑(F.L.length + 3) : Int) ≤ (9223372036854775807 : Int))) (branch F.beg (Q .normal
 (qE os sp (F.L ++ [(48 : UInt8), (1 : UInt8), (0 : UInt8)]) .nils true [(10, .int .i64 (↑i : Int)), (11, .ptr 2 0 0 0)]) (AHeap.mk 3 [(0, rRow os), (1, qMb F.lk F.lb is), (2, qRb no c c.k c.lb
 c.pos)])) (Q .normal (qE os sp (F.L ++ [(48 : UInt8), (1 : UInt8), (0 : UInt8)]) .nils false [(10, .int .i64 (↑i : Int)), (11, .ptr 2 0 0 0)]) (AHeap.mk 3 [(0, rRow os), (1, qMb F.lk F.lb is), (2, qRb
 no c c.k c.lb c.pos)]))))))) (obl (decide ((nxB sp F c).lb.length + (nxB sp F c).data.length + (nxB sp F c).sum.length ≤ 9223372036854775000)) (branch (!decide (errR (nxB sp F c) = (0 : Int))) (K
 (Out.ret (.tup [.str F.L, .nils])) (AHeap.mk 1 [(0, rRow os)])) (obl (inI64 (sp - (↑F.L.length : Int))) (branch (decide (sp - (↑F.L.length : Int) < (↑(encR (nxB sp F c)).length : Int))) (K (Out.ret
 (.tup [.str F.L, .nils])) (AHeap.mk 1 [(0, rRow os)])) (obl (decide ((↑(F.L.length + (encR (nxB sp F c)).length) : Int) ≤ (9223372036854775807 : Int))) (branch F.beg (branch (nxB sp F c).en (Q (.exit
 2) (qE os sp (F.L ++ encR (nxB sp F c)) (.sl 2 0 1 0 1 none) true [(10, .int .i64 (↑i : Int))]) (AHeap.mk 3 [(0, rRow os), (1, qMb c.k c.lb true), (2, sRow [no])])) (Q .normal (qE os sp (F.L ++ encR
 (nxB sp F c)) .nils true [(10, .int .i64 (↑i : Int)), (11, .ptr 2 0 0 0)]) (AHeap.mk 3 [(0, rRow os), (1, qMb c.k c.lb true), (2, qRb no c ((nxB sp F c).k2) ((nxB sp F c).b2) ((nxB sp F c).at2))])))
 (branch (nxB sp F c).st (branch (nxB sp F c).en (Q (.exit 2) (qE os sp (F.L ++ encR (nxB sp F c)) (.sl 2 0 1 0 1 none) (!(nxB sp F c).en) [(10, .int .i64 (↑i : Int))]) (AHeap.mk 3 [(0, rRow os), (1,
 qMb c.k c.lb true), (2, sRow [no])])) (Q .normal (qE os sp (F.L ++ encR (nxB sp F c)) .nils (!(nxB sp F c).en) [(10, .int .i64 (↑i : Int)), (11, .ptr 2 0 0 0)]) (AHeap.mk 3 [(0, rRow os), (1, qMb c.k
 c.lb true), (2, qRb no c ((nxB sp F c).k2) ((nxB sp F c).b2) ((nxB sp F c).at2))]))) (branch (nxB sp F c).en (Q (.exit 2) (qE os sp (F.L ++ encR (nxB sp F c)) (.sl 2 0 1 0 1 none) false [(10, .int
 .i64 (↑i : Int))]) (AHeap.mk 3 [(0, rRow os), (1, qMb c.k c.lb true), (2, sRow [no])])) (Q .normal (qE os sp (F.L ++ encR (nxB sp F c)) .nils false [(10, .int .i64 (↑i : Int)), (11, .ptr 2 0 0 0)])
 (AHeap.mk 3 [(0, rRow os), (1, qMb c.k c.lb true), (2, qRb no c ((nxB sp F c).k2) ((nxB sp F c).b2) ((nxB sp F c).at2))]))))))))))) (branch (!decide ((nxB sp F c).err = (0 : Int))) (branch (!decide
 ((nxB sp F c).err = (0 : Int))) (K (Out.ret (.tup [.str F.L, .nils])) (AHeap.mk 1 [(0, rRow os)])) (obl (inI64 (sp - (↑F.L.length : Int))) (branch (decide (sp - (↑F.L.length : Int) < (3 : Int))) (K
 (Out.ret (.tup [.str F.L, .nils])) (AHeap.mk 1 [(0, rRow os)])) (obl (decide ((↑(F.L.length + 3) : Int) ≤ (9223372036854775807 : Int))) (branch F.beg (Q .normal (qE os sp (F.L ++ [(48 : UInt8), (1 :
 UInt8), (0 : UInt8)]) .nils true [(10, .int .i64 (↑i : Int)), (11, .ptr 2 0 0 0)]) (AHeap.mk 3 [(0, rRow os), (1, qMb F.lk F.lb is), (2, qRb no c c.k c.lb c.pos)])) (Q .normal (qE os sp (F.L ++ [(48 :
 UInt8), (1 : UInt8), (0 : UInt8)]) .nils false [(10, .int .i64 (↑i : Int)), (11, .ptr 2 0 0 0)]) (AHeap.mk 3 [(0, rRow os), (1, qMb F.lk F.lb is), (2, qRb no c c.k c.lb c.pos)]))))))) (obl (decide
 ((nxB sp F c).lb.length + (nxB sp F c).data.length + (nxB sp F c).sum.length ≤ 9223372036854775000)) (branch (!decide (errR (nxB sp F c) = (0 : Int))) (K (Out.ret (.tup [.str F.L, .nils])) (AHeap.mk 1
 [(0, rRow os)])) (obl (inI64 (sp - (↑F.L.length : Int))) (branch (decide (sp - (↑F.L.length : Int) < (↑(encR (nxB sp F c)).length : Int))) (K (Out.ret (.tup [.str F.L, .nils])) (AHeap.mk 1 [(0, rRow
 os)])) (obl (decide ((↑(F.L.length + (encR (nxB sp F c)).length) : Int) ≤ (9223372036854775807 : Int))) (branch F.beg (branch (nxB sp F c).en (Q (.exit 2) (qE os sp (F.L ++ encR (nxB sp F c)) (.sl 2 0
 1 0 1 none) true [(10, .int .i64 (↑i : Int))]) (AHeap.mk 3 [(0, rRow os), (1, qMb F.lk F.lb is), (2, sRow [no])])) (Q .normal (qE os sp (F.L ++ encR (nxB sp F c)) .nils true [(10, .int .i64 (↑i :
 Int)), (11, .ptr 2 0 0 0)]) (AHeap.mk 3 [(0, rRow os), (1, qMb F.lk F.lb is), (2, qRb no c ((nxB sp F c).k2) ((nxB sp F c).b2) ((nxB sp F c).at2))]))) (branch (nxB sp F c).st (branch (nxB sp F c).en
 (Q (.exit 2) (qE os sp (F.L ++ encR (nxB sp F c)) (.sl 2 0 1 0 1 none) (!(nxB sp F c).en) [(10, .int .i64 (↑i : Int))]) (AHeap.mk 3 [(0, rRow os), (1, qMb F.lk F.lb is), (2, sRow [no])])) (Q .normal
 (qE os sp (F.L ++ encR (nxB sp F c)) .nils (!(nxB sp F c).en) [(10, .int .i64 (↑i : Int)), (11, .ptr 2 0 0 0)]) (AHeap.mk 3 [(0, rRow os), (1, qMb F.lk F.lb is), (2, qRb no c ((nxB sp F c).k2) ((nxB
 sp F c).b2) ((nxB sp F c).at2))]))) (branch (nxB sp F c).en (Q (.exit 2) (qE os sp (F.L ++ encR (nxB sp F c)) (.sl 2 0 1 0 1 none) false [(10, .int .i64 (↑i : Int))]) (AHeap.mk 3 [(0, rRow os), (1,
 qMb F.lk F.lb is), (2, sRow [no])])) (Q .normal (qE os sp (F.L ++ encR (nxB sp F c)) .nils false [(10, .int .i64 (↑i : Int)), (11, .ptr 2 0 0 0)]) (AHeap.mk 3 [(0, rRow os), (1, qMb F.lk F.lb is), (2,
 qRb no c ((nxB sp F c).k2) ((nxB sp F c).b2) ((nxB sp F c).at2))])))))))))))) (branch (!decide ((nxB sp F c).err = (0 : Int))) (branch (!decide ((nxB sp F c).err = (0 : Int))) (K (Out.ret (.tup [.str
 F.L, .nils])) (AHeap.mk 1 [(0, rRow os)])) (obl (inI64 (sp - (↑F.L.length : Int))) (branch (decide (sp - (↑F.L.length : Int) < (3 : Int))) (K (Out.ret (.tup [.str F.L, .nils])) (AHeap.mk 1 [(0, rRow
 os)])) (obl (decide ((↑(F.L.length + 3) : Int) ≤ (9223372036854775807 : Int))) (branch F.beg (Q .normal (qE os sp (F.L ++ [(48 : UInt8), (1 : UInt8), (0 : UInt8)]) .nils true [(10, .int .i64 (↑i :
 Int)), (11, .ptr 2 0 0 0)]) (AHeap.mk 3 [(0, rRow os), (1, qMb F.lk F.lb is), (2, qRb no c c.k c.lb c.pos)])) (Q .normal (qE os sp (F.L ++ [(48 : UInt8), (1 : UInt8), (0 : UInt8)]) .nils false [(10,
 .int .i64 (↑i : Int)), (11, .ptr 2 0 0 0)]) (AHeap.mk 3 [(0, rRow os), (1, qMb F.lk F.lb is), (2, qRb no c c.k c.lb c.pos)]))))))) (obl (decide ((nxB sp F c).lb.length + (nxB sp F c).data.length +
 (nxB sp F c).sum.length ≤ 9223372036854775000)) (branch (!decide (errR (nxB sp F c) = (0 : Int))) (K (Out.ret (.tup [.str F.L, .nils])) (AHeap.mk 1 [(0, rRow os)])) (obl (inI64 (sp - (↑F.L.length :
 Int))) (branch (decide (sp - (↑F.L.length : Int) < (↑(encR (nxB sp F c)).length : Int))) (K (Out.ret (.tup [.str F.L, .nils])) (AHeap.mk 1 [(0, rRow os)])) (obl (decide ((↑(F.L.length + (encR (nxB sp
 F c)).length) : Int) ≤ (9223372036854775807 : Int))) (branch F.beg (branch (nxB sp F c).en (Q (.exit 2) (qE os sp (F.L ++ encR (nxB sp F c)) (.sl 2 0 1 0 1 none) true [(10, .int .i64 (↑i : Int))])
 (AHeap.mk 3 [(0, rRow os), (1, qMb F.lk F.lb is), (2, sRow [no])])) (Q .normal (qE os sp (F.L ++ encR (nxB sp F c)) .nils true [(10, .int .i64 (↑i : Int)), (11, .ptr 2 0 0 0)]) (AHeap.mk 3 [(0, rRow
 os), (1, qMb F.lk F.lb is), (2, qRb no c ((nxB sp F c).k2) ((nxB sp F c).b2) ((nxB sp F c).at2))]))) (branch (nxB sp F c).st (branch (nxB sp F c).en (Q (.exit 2) (qE os sp (F.L ++ encR (nxB sp F c))
 (.sl 2 0 1 0 1 none) (!(nxB sp F c).en) [(10, .int .i64 (↑i : Int))]) (AHeap.mk 3 [(0, rRow os), (1, qMb F.lk F.lb is), (2, sRow [no])])) (Q .normal (qE os sp (F.L ++ encR (nxB sp F c)) .nils (!(nxB
 sp F c).en) [(10, .int .i64 (↑i : Int)), (11, .ptr 2 0 0 0)]) (AHeap.mk 3 [(0, rRow os), (1, qMb F.lk F.lb is), (2, qRb no c ((nxB sp F c).k2) ((nxB sp F c).b2) ((nxB sp F c).at2))]))) (branch (nxB sp
 F c).en (Q (.exit 2) (qE os sp (F.L ++ encR (nxB sp F c)) (.sl 2 0 1 0 1 none) false [(10, .int .i64 (↑i : Int))]) (AHeap.mk 3 [(0, rRow os), (1, qMb F.lk F.lb is), (2, sRow [no])])) (Q .normal (qE os
 sp (F.L ++ encR (nxB sp F c)) .nils false [(10, .int .i64 (↑i : Int)), (11, .ptr 2 0 0 0)]) (AHeap.mk 3 [(0, rRow os), (1, qMb F.lk F.lb is), (2, qRb no c ((nxB sp F c).k2) ((nxB sp F c).b2) ((nxB sp
 F c).at2))]))))))))))))) (branch (lOk c.k c.lb) (branch (decide ((0 : Int) < (↑c.lb.length : Int))) (branch (!decide ((nxB sp F c).err = (0 : Int))) (branch (!decide ((nxB sp F c).err = (0 : Int))) (K
 (Out.ret (.tup [.str F.L, .nils])) (AHeap.mk 1 [(0, rRow os)])) (obl (inI64 (sp - (↑F.L.length : Int))) (branch (decide (sp - (↑F.L.length : Int) < (3 : Int))) (K (Out.ret (.tup [.str F.L, .nils]))
 (AHeap.mk 1 [(0, rRow os)])) (obl (decide ((↑(F.L.length + 3) : Int) ≤ (9223372036854775807 : Int))) (branch F.beg (Q .normal (qE os sp (F.L ++ [(48 : UInt8), (1 : UInt8), (0 : UInt8)]) .nils true
 [(10, .int .i64 (↑i : Int)), (11, .ptr 2 0 0 0)]) (AHeap.mk 3 [(0, rRow os), (1, qMb F.lk F.lb is), (2, qRb no c c.k c.lb c.pos)])) (Q .normal (qE os sp (F.L ++ [(48 : UInt8), (1 : UInt8), (0 :
 UInt8)]) .nils false [(10, .int .i64 (↑i : Int)), (11, .ptr 2 0 0 0)]) (AHeap.mk 3 [(0, rRow os), (1, qMb F.lk F.lb is), (2, qRb no c c.k c.lb c.pos)]))))))) (obl (decide ((nxB sp F c).lb.length +
 (nxB sp F c).data.length + (nxB sp F c).sum.length ≤ 9223372036854775000)) (branch (!decide (errR (nxB sp F c) = (0 : Int))) (K (Out.ret (.tup [.str F.L, .nils])) (AHeap.mk 1 [(0, rRow os)])) (obl
 (inI64 (sp - (↑F.L.length : Int))) (branch (decide (sp - (↑F.L.length : Int) < (↑(encR (nxB sp F c)).length : Int))) (K (Out.ret (.tup [.str F.L, .nils])) (AHeap.mk 1 [(0, rRow os)])) (obl (decide
 ((↑(F.L.length + (encR (nxB sp F c)).length) : Int) ≤ (9223372036854775807 : Int))) (branch F.beg (branch (nxB sp F c).en (Q (.exit 2) (qE os sp (F.L ++ encR (nxB sp F c)) (.sl 2 0 1 0 1 none) true
 [(10, .int .i64 (↑i : Int))]) (AHeap.mk 3 [(0, rRow os), (1, qMb c.k c.lb true), (2, sRow [no])])) (Q .normal (qE os sp (F.L ++ encR (nxB sp F c)) .nils true [(10, .int .i64 (↑i : Int)), (11, .ptr 2 0
 0 0)]) (AHeap.mk 3 [(0, rRow os), (1, qMb c.k c.lb true), (2, qRb no c ((nxB sp F c).k2) ((nxB sp F c).b2) ((nxB sp F c).at2))]))) (branch (nxB sp F c).st (branch (nxB sp F c).en (Q (.exit 2) (qE os
 sp (F.L ++ encR (nxB sp F c)) (.sl 2 0 1 0 1 none) (!(nxB sp F c).en) [(10, .int .i64 (↑i : Int))]) (AHeap.mk 3 [(0, rRow os), (1, qMb c.k c.lb true), (2, sRow [no])])) (Q .normal (qE os sp (F.L ++
 encR (nxB sp F c)) .nils (!(nxB sp F c).en) [(10, .int .i64 (↑i : Int)), (11, .ptr 2 0 0 0)]) (AHeap.mk 3 [(0, rRow os), (1, qMb c.k c.lb true), (2, qRb no c ((nxB sp F c).k2) ((nxB sp F c).b2) ((nxB
 sp F c).at2))]))) (branch (nxB sp F c).en (Q (.exit 2) (qE os sp (F.L ++ encR (nxB sp F c)) (.sl 2 0 1 0 1 none) false [(10, .int .i64 (↑i : Int))]) (AHeap.mk 3 [(0, rRow os), (1, qMb c.k c.lb true),
 (2, sRow [no])])) (Q .normal (qE os sp (F.L ++ encR (nxB sp F c)) .nils false [(10, .int .i64 (↑i : Int)), (11, .ptr 2 0 0 0)]) (AHeap.mk 3 [(0, rRow os), (1, qMb c.k c.lb true), (2, qRb no c ((nxB sp
 F c).k2) ((nxB sp F c).b2) ((nxB sp F c).at2))]))))))))))) (branch (!decide ((nxB sp F c).err = (0 : Int))) (branch (!decide ((nxB sp F c).err = (0 : Int))) (K (Out.ret (.tup [.str F.L, .nils]))
 (AHeap.mk 1 [(0, rRow os)])) (obl (inI64 (sp - (↑F.L.length : Int))) (branch (decide (sp - (↑F.L.length : Int) < (3 : Int))) (K (Out.ret (.tup [.str F.L, .nils])) (AHeap.mk 1 [(0, rRow os)])) (obl
 (decide ((↑(F.L.length + 3) : Int) ≤ (9223372036854775807 : Int))) (branch F.beg (Q .normal (qE os sp (F.L ++ [(48 : UInt8), (1 : UInt8), (0 : UInt8)]) .nils true [(10, .int .i64 (↑i : Int)), (11,
 .ptr 2 0 0 0)]) (AHeap.mk 3 [(0, rRow os), (1, qMb F.lk F.lb is), (2, qRb no c c.k c.lb c.pos)])) (Q .normal (qE os sp (F.L ++ [(48 : UInt8), (1 : UInt8), (0 : UInt8)]) .nils false [(10, .int .i64 (↑i
 : Int)), (11, .ptr 2 0 0 0)]) (AHeap.mk 3 [(0, rRow os), (1, qMb F.lk F.lb is), (2, qRb no c c.k c.lb c.pos)]))))))) (obl (decide ((nxB sp F c).lb.length + (nxB sp F c).data.length + (nxB sp F
 c).sum.length ≤ 9223372036854775000)) (branch (!decide (errR (nxB sp F c) = (0 : Int))) (K (Out.ret (.tup [.str F.L, .nils])) (AHeap.mk 1 [(0, rRow os)])) (obl (inI64 (sp - (↑F.L.length : Int)))
 (branch (decide (sp - (↑F.L.length : Int) < (↑(encR (nxB sp F c)).length : Int))) (K (Out.ret (.tup [.str F.L, .nils])) (AHeap.mk 1 [(0, rRow os)])) (obl (decide ((↑(F.L.length + (encR (nxB sp F
 c)).length) : Int) ≤ (9223372036854775807 : Int))) (branch F.beg (branch (nxB sp F c).en (Q (.exit 2) (qE os sp (F.L ++ encR (nxB sp F c)) (.sl 2 0 1 0 1 none) true [(10, .int .i64 (↑i : Int))])
 (AHeap.mk 3 [(0, rRow os), (1, qMb F.lk F.lb is), (2, sRow [no])])) (Q .normal (qE os sp (F.L ++ encR (nxB sp F c)) .nils true [(10, .int .i64 (↑i : Int)), (11, .ptr 2 0 0 0)]) (AHeap.mk 3 [(0, rRow
 os), (1, qMb F.lk F.lb is), (2, qRb no c ((nxB sp F c).k2) ((nxB sp F c).b2) ((nxB sp F c).at2))]))) (branch (nxB sp F c).st (branch (nxB sp F c).en (Q (.exit 2) (qE os sp (F.L ++ encR (nxB sp F c))
 (.sl 2 0 1 0 1 none) (!(nxB sp F c).en) [(10, .int .i64 (↑i : Int))]) (AHeap.mk 3 [(0, rRow os), (1, qMb F.lk F.lb is), (2, sRow [no])])) (Q .normal (qE os sp (F.L ++ encR (nxB sp F c)) .nils (!(nxB
 sp F c).en) [(10, .int .i64 (↑i : Int)), (11, .ptr 2 0 0 0)]) (AHeap.mk 3 [(0, rRow os), (1, qMb F.lk F.lb is), (2, qRb no c ((nxB sp F c).k2) ((nxB sp F c).b2) ((nxB sp F c).at2))]))) (branch (nxB sp
 F c).en (Q (.exit 2) (qE os sp (F.L ++ encR (nxB sp F c)) (.sl 2 0 1 0 1 none) false [(10, .int .i64 (↑i : Int))]) (AHeap.mk 3 [(0, rRow os), (1, qMb F.lk F.lb is), (2, sRow [no])])) (Q .normal (qE os
 sp (F.L ++ encR (nxB sp F c)) .nils false [(10, .int .i64 (↑i : Int)), (11, .ptr 2 0 0 0)]) (AHeap.mk 3 [(0, rRow os), (1, qMb F.lk F.lb is), (2, qRb no c ((nxB sp F c).k2) ((nxB sp F c).b2) ((nxB sp
 F c).at2))])))))))))))) (branch (!decide ((nxB sp F c).err = (0 : Int))) (branch (!decide ((nxB sp F c).err = (0 : Int))) (K (Out.ret (.tup [.str F.L, .nils])) (AHeap.mk 1 [(0, rRow os)])) (obl (inI64
 (sp - (↑F.L.length : Int))) (branch (decide (sp - (↑F.L.length : Int) < (3 : Int))) (K (Out.ret (.tup [.str F.L, .nils])) (AHeap.mk 1 [(0, rRow os)])) (obl (decide ((↑(F.L.length + 3) : Int) ≤
 (9223372036854775807 : Int))) (branch F.beg (Q .normal (qE os sp (F.L ++ [(48 : UInt8), (1 : UInt8), (0 : UInt8)]) .nils true [(10, .int .i64 (↑i : Int)), (11, .ptr 2 0 0 0)]) (AHeap.mk 3 [(0, rRow
 os), (1, qMb F.lk F.lb is), (2, qRb no c c.k c.lb c.pos)])) (Q .normal (qE os sp (F.L ++ [(48 : UInt8), (1 : UInt8), (0 : UInt8)]) .nils false [(10, .int .i64 (↑i : Int)), (11, .ptr 2 0 0 0)])
 (AHeap.mk 3 [(0, rRow os), (1, qMb F.lk F.lb is), (2, qRb no c c.k c.lb c.pos)]))))))) (obl (decide ((nxB sp F c).lb.length + (nxB sp F c).data.length + (nxB sp F c).sum.length ≤ 9223372036854775000))
 (branch (!decide (errR (nxB sp F c) = (0 : Int))) (K (Out.ret (.tup [.str F.L, .nils])) (AHeap.mk 1 [(0, rRow os)])) (obl (inI64 (sp - (↑F.L.length : Int))) (branch (decide (sp - (↑F.L.length : Int) <
 (↑(encR (nxB sp F c)).length : Int))) (K (Out.ret (.tup [.str F.L, .nils])) (AHeap.mk 1 [(0, rRow os)])) (obl (decide ((↑(F.L.length + (encR (nxB sp F c)).length) : Int) ≤ (9223372036854775807 :
 Int))) (branch F.beg (branch (nxB sp F c).en (Q (.exit 2) (qE os sp (F.L ++ encR (nxB sp F c)) (.sl 2 0 1 0 1 none) true [(10, .int .i64 (↑i : Int))]) (AHeap.mk 3 [(0, rRow os), (1, qMb F.lk F.lb is),
 (2, sRow [no])])) (Q .normal (qE os sp (F.L ++ encR (nxB sp F c)) .nils true [(10, .int .i64 (↑i : Int)), (11, .ptr 2 0 0 0)]) (AHeap.mk 3 [(0, rRow os), (1, qMb F.lk F.lb is), (2, qRb no c ((nxB sp F
 c).k2) ((nxB sp F c).b2) ((nxB sp F c).at2))]))) (branch (nxB sp F c).st (branch (nxB sp F c).en (Q (.exit 2) (qE os sp (F.L ++ encR (nxB sp F c)) (.sl 2 0 1 0 1 none) (!(nxB sp F c).en) [(10, .int
 .i64 (↑i : Int))]) (AHeap.mk 3 [(0, rRow os), (1, qMb F.lk F.lb is), (2, sRow [no])])) (Q .normal (qE os sp (F.L ++ encR (nxB sp F c)) .nils (!(nxB sp F c).en) [(10, .int .i64 (↑i : Int)), (11, .ptr 2
 0 0 0)]) (AHeap.mk 3 [(0, rRow os), (1, qMb F.lk F.lb is), (2, qRb no c ((nxB sp F c).k2) ((nxB sp F c).b2) ((nxB sp F c).at2))]))) (branch (nxB sp F c).en (Q (.exit 2) (qE os sp (F.L ++ encR (nxB sp
 F c)) (.sl 2 0 1 0 1 none) false [(10, .int .i64 (↑i : Int))]) (AHeap.mk 3 [(0, rRow os), (1, qMb F.lk F.lb is), (2, sRow [no])])) (Q .normal (qE os sp (F.L ++ encR (nxB sp F c)) .nils false [(10,
 .int .i64 (↑i : Int)), (11, .ptr 2 0 0 0)]) (AHeap.mk 3 [(0, rRow os), (1, qMb F.lk F.lb is), (2, qRb no c ((nxB sp F c).k2) ((nxB sp F c).b2) ((nxB sp F c).at2))]))))))))))))) (branch (!decide ((nxB
 sp F c).err = (0 : Int))) (branch (!decide ((nxB sp F c).err = (0 : Int))) (K (Out.ret (.tup [.str F.L, .nils])) (AHeap.mk 1 [(0, rRow os)])) (obl (inI64 (sp - (↑F.L.length : Int))) (branch (decide
 (sp - (↑F.L.length : Int) < (3 : Int))) (K (Out.ret (.tup [.str F.L, .nils])) (AHeap.mk 1 [(0, rRow os)])) (obl (decide ((↑(F.L.length + 3) : Int) ≤ (9223372036854775807 : Int))) (branch F.beg (Q
 .normal (qE os sp (F.L ++ [(48 : UInt8), (1 : UInt8), (0 : UInt8)]) .nils true [(10, .int .i64 (↑i : Int)), (11, .ptr 2 0 0 0)]) (AHeap.mk 3 [(0, rRow os), (1, qMb F.lk F.lb is), (2, qRb no c c.k c.lb
 c.pos)])) (Q .normal (qE os sp (F.L ++ [(48 : UInt8), (1 : UInt8), (0 : UInt8)]) .nils false [(10, .int .i64 (↑i : Int)), (11, .ptr 2 0 0 0)]) (AHeap.mk 3 [(0, rRow os), (1, qMb F.lk F.lb is), (2, qRb
 no c c.k c.lb c.pos)]))))))) (obl (decide ((nxB sp F c).lb.length + (nxB sp F c).data.length + (nxB sp F c).sum.length ≤ 9223372036854775000)) (branch (!decide (errR (nxB sp F c) = (0 : Int))) (K
 (Out.ret (.tup [.str F.L, .nils])) (AHeap.mk 1 [(0, rRow os)])) (obl (inI64 (sp - (↑F.L.length : Int))) (branch (decide (sp - (↑F.L.length : Int) < (↑(encR (nxB sp F c)).length : Int))) (K (Out.ret
 (.tup [.str F.L, .nils])) (AHeap.mk 1 [(0, rRow os)])) (obl (decide ((↑(F.L.length + (encR (nxB sp F c)).length) : Int) ≤ (9223372036854775807 : Int))) (branch F.beg (branch (nxB sp F c).en (Q (.exit
 2) (qE os sp (F.L ++ encR (nxB sp F c)) (.sl 2 0 1 0 1 none) true [(10, .int .i64 (↑i : Int))]) (AHeap.mk 3 [(0, rRow os), (1, qMb F.lk F.lb is), (2, sRow [no])])) (Q .normal (qE os sp (F.L ++ encR
 (nxB sp F c)) .nils true [(10, .int .i64 (↑i : Int)), (11, .ptr 2 0 0 0)]) (AHeap.mk 3 [(0, rRow os), (1, qMb F.lk F.lb is), (2, qRb no c ((nxB sp F c).k2) ((nxB sp F c).b2) ((nxB sp F c).at2))])))
 (branch (nxB sp F c).st (branch (nxB sp F c).en (Q (.exit 2) (qE os sp (F.L ++ encR (nxB sp F c)) (.sl 2 0 1 0 1 none) (!(nxB sp F c).en) [(10, .int .i64 (↑i : Int))]) (AHeap.mk 3 [(0, rRow os), (1,
 qMb F.lk F.lb is), (2, sRow [no])])) (Q .normal (qE os sp (F.L ++ encR (nxB sp F c)) .nils (!(nxB sp F c).en) [(10, .int .i64 (↑i : Int)), (11, .ptr 2 0 0 0)]) (AHeap.mk 3 [(0, rRow os), (1, qMb F.lk
 F.lb is), (2, qRb no c ((nxB sp F c).k2) ((nxB sp F c).b2) ((nxB sp F c).at2))]))) (branch (nxB sp F c).en (Q (.exit 2) (qE os sp (F.L ++ encR (nxB sp F c)) (.sl 2 0 1 0 1 none) false [(10, .int .i64
 (↑i : Int))]) (AHeap.mk 3 [(0, rRow os), (1, qMb F.lk F.lb is), (2, sRow [no])])) (Q .normal (qE os sp (F.L ++ encR (nxB sp F c)) .nils false [(10, .int .i64 (↑i : Int)), (11, .ptr 2 0 0 0)])
 (AHeap.mk 3 [(0, rRow os), (1, qMb F.lk F.lb is), (2, qRb no c ((nxB sp F c).k2) ((nxB sp F c).b2) ((nxB sp F c).at2))]))))))))))))) := by kernel_rfl
set_option maxRecDepth 100000 in
theorem w_rfl_s (os : List RefR) (sp : Int) (F : FSt) (is : Bool) (S : List Int) (i : Nat) (no : Int) (c : CutR) (K : Out → AHeap → Prop) (Q : AExit → Env → AHeap → Prop) : (wpC (TQR.ctx Try.prog) 400 11 1 rfL (ps os sp F is S i no c).1 (ps os sp F is S i no c).2 (canQ 1 tsR1 (qRet (endA (TQR.ctx Try.prog).P Try.f11 K) Q))
) =  (obl (inI64 (sp - (↑F.L.length : Int))) (branch (decide (c.pos = (0 : Int))) (branch is (branch (decide (c.k = F.lk) && (decide (c.lb = F.lb) && true)) (branch (!decide ((nxA sp F c).err = (0 : Int)))
 (branch (!decide ((nxA sp F c).err = (0 : Int))) (K (Out.ret (.tup [.str F.L, .sl 1 0 1 0 S.length none])) (AHeap.mk 2 [(0, rRow os), (1, sRow S)])) (obl (inI64 (sp - (↑F.L.length : Int))) (branch
 (decide (sp - (↑F.L.length : Int) < (3 : Int))) (K (Out.ret (.tup [.str F.L, .sl 1 0 1 0 S.length none])) (AHeap.mk 2 [(0, rRow os), (1, sRow S)])) (obl (decide ((↑(F.L.length + 3) : Int) ≤
 (9223372036854775807 : Int))) (branch F.beg (Q .normal (qE os sp (F.L ++ [(48 : UInt8), (1 : UInt8), (0 : UInt8)]) (.sl 2 0 1 0 S.length none) true [(10, .int .i64 (↑i : Int)), (11, .ptr 3 0 0 0)])
 (AHeap.mk 4 [(0, rRow os), (1, qMb F.lk F.lb is), (2, sRow S), (3, qRb no c c.k c.lb c.pos)])) (Q .normal (qE os sp (F.L ++ [(48 : UInt8), (1 : UInt8), (0 : UInt8)]) (.sl 2 0 1 0 S.length none) false
 [(10, .int .i64 (↑i : Int)), (11, .ptr 3 0 0 0)]) (AHeap.mk 4 [(0, rRow os), (1, qMb F.lk F.lb is), (2, sRow S), (3, qRb no c c.k c.lb c.pos)]))))))) (obl (decide ((nxA sp F c).lb.length + (nxA sp F
 c).data.length + (nxA sp F c).sum.length ≤ 9223372036854775000)) (branch (!decide (errR (nxA sp F c) = (0 : Int))) (K (Out.ret (.tup [.str F.L, .sl 1 0 1 0 S.length none])) (AHeap.mk 2 [(0, rRow os),
 (1, sRow S)])) (obl (inI64 (sp - (↑F.L.length : Int))) (branch (decide (sp - (↑F.L.length : Int) < (↑(encR (nxA sp F c)).length : Int))) (K (Out.ret (.tup [.str F.L, .sl 1 0 1 0 S.length none]))
 (AHeap.mk 2 [(0, rRow os), (1, sRow S)])) (obl (decide ((↑(F.L.length + (encR (nxA sp F c)).length) : Int) ≤ (9223372036854775807 : Int))) (branch F.beg (branch (nxA sp F c).en (obl (true && decide
 (S.length = S.length ∧ 1 = 1 ∧ 1 = 1 ∧ 0 < 1 ∧ (S ++ [no]).length ≤ 9223372036854775807 ∧ (S ++ [no]).length * 8 ≤ 140737488355328)) (Q (.exit 2) (qE os sp (F.L ++ encR (nxA sp F c)) (.sl 2 0 1 0 (S
 ++ [no]).length none) true [(10, .int .i64 (↑i : Int))]) (AHeap.mk 3 [(0, rRow os), (1, qMb F.lk F.lb is), (2, sRow (S ++ [no]))]))) (Q .normal (qE os sp (F.L ++ encR (nxA sp F c)) (.sl 2 0 1 0
 S.length none) true [(10, .int .i64 (↑i : Int)), (11, .ptr 3 0 0 0)]) (AHeap.mk 4 [(0, rRow os), (1, qMb F.lk F.lb is), (2, sRow S), (3, qRb no c ((nxA sp F c).k2) ((nxA sp F c).b2) ((nxA sp F
 c).at2))]))) (branch (nxA sp F c).st (branch (nxA sp F c).en (obl (true && decide (S.length = S.length ∧ 1 = 1 ∧ 1 = 1 ∧ 0 < 1 ∧ (S ++ [no]).length ≤ 9223372036854775807 ∧ (S ++ [no]).length * 8 ≤
 140737488355328)) (Q (.exit 2) (qE os sp (F.L ++ encR (nxA sp F c)) (.sl 2 0 1 0 (S ++ [no]).length none) (!(nxA sp F c).en) [(10, .int .i64 (↑i : Int))]) (AHeap.mk 3 [(0, rRow os), (1, qMb F.lk F.lb
 is), (2, sRow (S ++ [no]))]))) (Q .normal (qE os sp (F.L ++ encR (nxA sp F c)) (.sl 2 0 1 0 S.length none) (!(nxA sp F c).en) [(10, .int .i64 (↑i : Int)), (11, .ptr 3 0 0 0)]) (AHeap.mk 4 [(0, rRow
 os), (1, qMb F.lk F.lb is), (2, sRow S), (3, qRb no c ((nxA sp F c).k2) ((nxA sp F c).b2) ((nxA sp F c).at2))]))) (branch (nxA sp F c).en (obl (true && decide (S.length = S.length ∧ 1 = 1 ∧ 1 = 1 ∧ 0
 < 1 ∧ (S ++ [no]).length ≤ 9223372036854775807 ∧ (S ++ [no]).length * 8 ≤ 140737488355328)) (Q (.exit 2) (qE os sp (F.L ++ encR (nxA sp F c)) (.sl 2 0 1 0 (S ++ [no]).length none) false [(10, .int
 .i64 (↑i : Int))]) (AHeap.mk 3 [(0, rRow os), (1, qMb F.lk F.lb is), (2, sRow (S ++ [no]))]))) (Q .normal (qE os sp (F.L ++ encR (nxA sp F c)) (.sl 2 0 1 0 S.length none) false [(10, .int .i64 (↑i :
 Int)), (11, .ptr 3 0 0 0)]) (AHeap.mk 4 [(0, rRow os), (1, qMb F.lk F.lb is), (2, sRow S), (3, qRb no c ((nxA sp F c).k2) ((nxA sp F c).b2) ((nxA sp F c).at2))]))))))))))) (branch (lOk c.k c.lb)
 (branch (decide ((0 : Int) < (↑c.lb.length : Int))) (branch (!decide ((nxB sp F c).err = (0 : Int))) (branch (!decide ((nxB sp F c).err = (0 : Int))) (K (Out.ret (.tup [.str F.L, .sl 1 0 1 0 S.length
 none])) (AHeap.mk 2 [(0, rRow os), (1, sRow S)])) (obl (inI64 (sp - (↑F.L.length : Int))) (branch (decide (sp - (↑F.L.length : Int) < (3 : Int))) (K (Out.ret (.tup [.str F.L, .sl 1 0 1 0 S.length
 none])) (AHeap.mk 2 [(0, rRow os), (1, sRow S)])) (obl (decide ((↑(F.L.length + 3) : Int) ≤ (9223372036854775807 : Int))) (branch F.beg (Q .normal (qE os sp (F.L ++ [(48 : UInt8), (1 : UInt8), (0 :
 UInt8)]) (.sl 2 0 1 0 S.length none) true [(10, .int .i64 (↑i : Int)), (11, .ptr 3 0 0 0)]) (AHeap.mk 4 [(0, rRow os), (1, qMb F.lk F.lb is), (2, sRow S), (3, qRb no c c.k c.lb c.pos)])) (Q .normal
 (qE os sp (F.L ++ [(48 : UInt8), (1 : UInt8), (0 : UInt8)]) (.sl 2 0 1 0 S.length none) false [(10, .int .i64 (↑i : Int)), (11, .ptr 3 0 0 0)]) (AHeap.mk 4 [(0, rRow os), (1, qMb F.lk F.lb is), (2,
 sRow S), (3, qRb no c c.k c.lb c.pos)]))))))) (obl (decide ((nxB sp F c).lb.length + (nxB sp F c).data.length + (nxB sp F c).sum.length ≤ 9223372036854775000)) (branch (!decide (errR (nxB sp F c) = (0
 : Int))) (K (Out.ret (.tup [.str F.L, .sl 1 0 1 0 S.length none])) (AHeap.mk 2 [(0, rRow os), (1, sRow S)])) (obl (inI64 (sp - (↑F.L.length : Int))) (branch (decide (sp - (↑F.L.length : Int) < (↑(encR
 (nxB sp F c)).length : Int))) (K (Out.ret (.tup [.str F.L, .sl 1 0 1 0 S.length none])) (AHeap.mk 2 [(0, rRow os), (1, sRow S)])) (obl (decide ((↑(F.L.length + (encR (nxB sp F c)).length) : Int) ≤
 (9223372036854775807 : Int))) (branch F.beg (branch (nxB sp F c).en (obl (true && decide (S.length = S.length ∧ 1 = 1 ∧ 1 = 1 ∧ 0 < 1 ∧ (S ++ [no]).length ≤ 9223372036854775807 ∧ (S ++ [no]).length *
 8 ≤ 140737488355328)) (Q (.exit 2) (qE os sp (F.L ++ encR (nxB sp F c)) (.sl 2 0 1 0 (S ++ [no]).length none) true [(10, .int .i64 (↑i : Int))]) (AHeap.mk 3 [(0, rRow os), (1, qMb c.k c.lb true), (2,
 sRow (S ++ [no]))]))) (Q .normal (qE os sp (F.L ++ encR (nxB sp F c)) (.sl 2 0 1 0 S.length none) true [(10, .int .i64 (↑i : Int)), (11, .ptr 3 0 0 0)]) (AHeap.mk 4 [(0, rRow os), (1, qMb c.k c.lb
 true), (2, sRow S), (3, qRb no c ((nxB sp F c).k2) ((nxB sp F c).b2) ((nxB sp F c).at2))]))) (branch (nxB sp F c).st (branch (nxB sp F c).en (obl (true && decide (S.length = S.length ∧ 1 = 1 ∧ 1 = 1 ∧
 0 < 1 ∧ (S ++ [no]).length ≤ 9223372036854775807 ∧ (S ++ [no]).length * 8 ≤ 140737488355328)) (Q (.exit 2) (qE os sp (F.L ++ encR (nxB sp F c)) (.sl 2 0 1 0 (S ++ [no]).length none) (!(nxB sp F c).en)
 [(10, .int .i64 (↑i : Int))]) (AHeap.mk 3 [(0, rRow os), (1, qMb c.k c.lb true), (2, sRow (S ++ [no]))]))) (Q .normal (qE os sp (F.L ++ encR (nxB sp F c)) (.sl 2 0 1 0 S.length none) (!(nxB sp F
 c).en) [(10, .int .i64 (↑i : Int)), (11, .ptr 3 0 0 0)]) (AHeap.mk 4 [(0, rRow os), (1, qMb c.k c.lb true), (2, sRow S), (3, qRb no c ((nxB sp F c).k2) ((nxB sp F c).b2) ((nxB sp F c).at2))])))
 (branch (nxB sp F c).en (obl (true && decide (S.length = S.length ∧ 1 = 1 ∧ 1 = 1 ∧ 0 < 1 ∧ (S ++ [no]).length ≤ 9223372036854775807 ∧ (S ++ [no]).length * 8 ≤ 140737488355328)) (Q (.exit 2) (qE os sp
 (F.L ++ encR (nxB sp F c)) (.sl 2 0 1 0 (S ++ [no]).length none) false [(10, .int .i64 (↑i : Int))]) (AHeap.mk 3 [(0, rRow os), (1, qMb c.k c.lb true), (2, sRow (S ++ [no]))]))) (Q .normal (qE os sp
 (F.L ++ encR (nxB sp F c)) (.sl 2 0 1 0 S.length none) false [(10, .int .i64 (↑i : Int)), (11, .ptr 3 0 0 0)]) (AHeap.mk 4 [(0, rRow os), (1, qMb c.k c.lb true), (2, sRow S), (3, qRb no c ((nxB sp F
 c).k2) ((nxB sp F c).b2) ((nxB sp F c).at2))]))))))))))) (branch (!decide ((nxB sp F c).err = (0 : Int))) (branch (!decide ((nxB sp F c).err = (0 : Int))) (K (Out.ret (.tup [.str F.L, .sl 1 0 1 0
 S.length none])) (AHeap.mk 2 [(0, rRow os), (1, sRow S)])) (obl (inI64 (sp - (↑F.L.length : Int))) (branch (decide (sp - (↑F.L.length : Int) < (3 : Int))) (K (Out.ret (.tup [.str F.L, .sl 1 0 1 0
 S.length none])) (AHeap.mk 2 [(0, rRow os), (1, sRow S)])) (obl (decide ((↑(F.L.length + 3) : Int) ≤ (9223372036854775807 : Int))) (branch F.beg (Q .normal (qE os sp (F.L ++ [(48 : UInt8), (1 :
 UInt8), (0 : UInt8)]) (.sl 2 0 1 0 S.length none) true [(10, .int .i64 (↑i : Int)), (11, .ptr 3 0 0 0)]) (AHeap.mk 4 [(0, rRow os), (1, qMb F.lk F.lb is), (2, sRow S), (3, qRb no c c.k c.lb c.pos)]))
 (Q .normal (qE os sp (F.L ++ [(48 : UInt8), (1 : UInt8), (0 : UInt8)]) (.sl 2 0 1 0 S.length none) false [(10, .int .i64 (↑i : Int)), (11, .ptr 3 0 0 0)]) (AHeap.mk 4 [(0, rRow os), (1, qMb F.lk F.lb
 is), (2, sRow S), (3, qRb no c c.k c.lb c.pos)]))))))) (obl (decide ((nxB sp F c).lb.length + (nxB sp F c).data.length + (nxB sp F c).sum.length ≤ 9223372036854775000)) (branch (!decide (errR (nxB sp
 F c) = (0 : Int))) (K (Out.ret (.tup [.str F.L, .sl 1 0 1 0 S.length none])) (AHeap.mk 2 [(0, rRow os), (1, sRow S)])) (obl (inI64 (sp - (↑F.L.length : Int))) (branch (decide (sp - (↑F.L.length : Int)
 < (↑(encR (nxB sp F c)).length : Int))) (K (Out.ret (.tup [.str F.L, .sl 1 0 1 0 S.length none])) (AHeap.mk 2 [(0, rRow os), (1, sRow S)])) (obl (decide ((↑(F.L.length + (encR (nxB sp F c)).length) :
 Int) ≤ (9223372036854775807 : Int))) (branch F.beg (branch (nxB sp F c).en (obl (true && decide (S.length = S.length ∧ 1 = 1 ∧ 1 = 1 ∧ 0 < 1 ∧ (S ++ [no]).length ≤ 9223372036854775807 ∧ (S ++
 [no]).length * 8 ≤ 140737488355328)) (Q (.exit 2) (qE os sp (F.L ++ encR (nxB sp F c)) (.sl 2 0 1 0 (S ++ [no]).length none) true [(10, .int .i64 (↑i : Int))]) (AHeap.mk 3 [(0, rRow os), (1, qMb F.lk
 F.lb is), (2, sRow (S ++ [no]))]))) (Q .normal (qE os sp (F.L ++ encR (nxB sp F c)) (.sl 2 0 1 0 S.length none) true [(10, .int .i64 (↑i : Int)), (11, .ptr 3 0 0 0)]) (AHeap.mk 4 [(0, rRow os), (1,
 qMb F.lk F.lb is), (2, sRow S), (3, qRb no c ((nxB sp F c).k2) ((nxB sp F c).b2) ((nxB sp F c).at2))]))) (branch (nxB sp F c).st (branch (nxB sp F c).en (obl (true && decide (S.length = S.length ∧ 1 =
 1 ∧ 1 = 1 ∧ 0 < 1 ∧ (S ++ [no]).length ≤ 9223372036854775807 ∧ (S ++ [no]).length * 8 ≤ 140737488355328)) (Q (.exit 2) (qE os sp (F.L ++ encR (nxB sp F c)) (.sl 2 0 1 0 (S ++ [no]).length none) (!(nxB
 sp F c).en) [(10, .int .i64 (↑i : Int))]) (AHeap.mk 3 [(0, rRow os), (1, qMb F.lk F.lb is), (2, sRow (S ++ [no]))]))) (Q .normal (qE os sp (F.L ++ encR (nxB sp F c)) (.sl 2 0 1 0 S.length none) (!(nxB
 sp F c).en) [(10, .int .i64 (↑i : Int)), (11, .ptr 3 0 0 0)]) (AHeap.mk 4 [(0, rRow os), (1, qMb F.lk F.lb is), (2, sRow S), (3, qRb no c ((nxB sp F c).k2) ((nxB sp F c).b2) ((nxB sp F c).at2))])))
 (branch (nxB sp F c).en (obl (true && decide (S.length = S.length ∧ 1 = 1 ∧ 1 = 1 ∧ 0 < 1 ∧ (S ++ [no]).length ≤ 9223372036854775807 ∧ (S ++ [no]).length * 8 ≤ 140737488355328)) (Q (.exit 2) (qE os sp
 (F.L ++ encR (nxB sp F c)) (.sl 2 0 1 0 (S ++ [no]).length none) false [(10, .int .i64 (↑i : Int))]) (AHeap.mk 3 [(0, rRow os), (1, qMb F.lk F.lb is), (2, sRow (S ++ [no]))]))) (Q .normal (qE os sp
 (F.L ++ encR (nxB sp F c)) (.sl 2 0 1 0 S.length none) false [(10, .int .i64 (↑i : Int)), (11, .ptr 3 0 0 0)]) (AHeap.mk 4 [(0, rRow os), (1, qMb F.lk F.lb is), (2, sRow S), (3, qRb no c ((nxB sp F
 c).k2) ((nxB sp F c).b2) ((nxB sp F c).at2))])))))))))))) (branch (!decide ((nxB sp F c).err = (0 : Int))) (branch (!decide ((nxB sp F c).err = (0 : Int))) (K (Out.ret (.tup [.str F.L, .sl 1 0 1 0
 S.length none])) (AHeap.mk 2 [(0, rRow os), (1, sRow S)])) (obl (inI64 (sp - (↑F.L.length : Int))) (branch (decide (sp - (↑F.L.length : Int) < (3 : Int))) (K (Out.ret (.tup [.str F.L, .sl 1 0 1 0
 S.length none])) (AHeap.mk 2 [(0, rRow os), (1, sRow S)])) (obl (decide ((↑(F.L.length + 3) : Int) ≤ (9223372036854775807 : Int))) (branch F.beg (Q .normal (qE os sp (F.L ++ [(48 : UInt8), (1 :
 UInt8), (0 : UInt8)]) (.sl 2 0 1 0 S.length none) true [(10, .int .i64 (↑i : Int)), (11, .ptr 3 0 0 0)]) (AHeap.mk 4 [(0, rRow os), (1, qMb F.lk F.lb is), (2, sRow S), (3, qRb no c c.k c.lb c.pos)]))
 (Q .normal (qE os sp (F.L ++ [(48 : UInt8), (1 : UInt8), (0 : UInt8)]) (.sl 2 0 1 0 S.length none) false [(10, .int .i64 (↑i : Int)), (11, .ptr 3 0 0 0)]) (AHeap.mk 4 [(0, rRow os), (1, qMb F.lk F.lb
 is), (2, sRow S), (3, qRb no c c.k c.lb c.pos)]))))))) (obl (decide ((nxB sp F c).lb.length + (nxB sp F c).data.length + (nxB sp F c).sum.length ≤ 9223372036854775000)) (branch (!decide (errR (nxB sp
 F c) = (0 : Int))) (K (Out.ret (.tup [.str F.L, .sl 1 0 1 0 S.length none])) (AHeap.mk 2 [(0, rRow os), (1, sRow S)])) (obl (inI64 (sp - (↑F.L.length : Int))) (branch (decide (sp - (↑F.L.length : Int)
 < (↑(encR (nxB sp F c)).length : Int))) (K (Out.ret (.tup [.str F.L, .sl 1 0 1 0 S.length none])) (AHeap.mk 2 [(0, rRow os), (1, sRow S)])) (obl (decide ((↑(F.L.length + (encR (nxB sp F c)).length) :
 Int) ≤ (9223372036854775807 : Int))) (branch F.beg (branch (nxB sp F c).en (obl (true && decide (S.length = S.length ∧ 1 = 1 ∧ 1 = 1 ∧ 0 < 1 ∧ (S ++ [no]).length ≤ 9223372036854775807 ∧ (S ++
 [no]).length * 8 ≤ 140737488355328)) (Q (.exit 2) (qE os sp (F.L ++ encR (nxB sp F c)) (.sl 2 0 1 0 (S ++ [no]).length none) true [(10, .int .i64 (↑i : Int))]) (AHeap.mk 3 [(0, rRow os), (1, qMb F.lk
 F.lb is), (2, sRow (S ++ [no]))]))) (Q .normal (qE os sp (F.L ++ encR (nxB sp F c)) (.sl 2 0 1 0 S.length none) true [(10, .int .i64 (↑i : Int)), (11, .ptr 3 0 0 0)]) (AHeap.mk 4 [(0, rRow os), (1,
 qMb F.lk F.lb is), (2, sRow S), (3, qRb no c ((nxB sp F c).k2) ((nxB sp F c).b2) ((nxB sp F c).at2))]))) (branch (nxB sp F c).st (branch (nxB sp F c).en (obl (true && decide (S.length = S.length ∧ 1 =
 1 ∧ 1 = 1 ∧ 0 < 1 ∧ (S ++ [no]).length ≤ 9223372036854775807 ∧ (S ++ [no]).length * 8 ≤ 140737488355328)) (Q (.exit 2) (qE os sp (F.L ++ encR (nxB sp F c)) (.sl 2 0 1 0 (S ++ [no]).length none) (!(nxB
 sp F c).en) [(10, .int .i64 (↑i : Int))]) (AHeap.mk 3 [(0, rRow os), (1, qMb F.lk F.lb is), (2, sRow (S ++ [no]))]))) (Q .normal (qE os sp (F.L ++ encR (nxB sp F c)) (.sl 2 0 1 0 S.length none) (!(nxB
 sp F c).en) [(10, .int .i64 (↑i : Int)), (11, .ptr 3 0 0 0)]) (AHeap.mk 4 [(0, rRow os), (1, qMb F.lk F.lb is), (2, sRow S), (3, qRb no c ((nxB sp F c).k2) ((nxB sp F c).b2) ((nxB sp F c).at2))])))
 (branch (nxB sp F c).en (obl (true && decide (S.length = S.length ∧ 1 = 1 ∧ 1 = 1 ∧ 0 < 1 ∧ (S ++ [no]).length ≤ 9223372036854775807 ∧ (S ++ [no]).length * 8 ≤ 140737488355328)) (Q (.exit 2) (qE os sp
 (F.L ++ encR (nxB sp F c)) (.sl 2 0 1 0 (S ++ [no]).length none) false [(10, .int .i64 (↑i : Int))]) (AHeap.mk 3 [(0, rRow os), (1, qMb F.lk F.lb is), (2, sRow (S ++ [no]))]))) (Q .normal (qE os sp
 (F.L ++ encR (nxB sp F c)) (.sl 2 0 1 0 S.length none) false [(10, .int .i64 (↑i : Int)), (11, .ptr 3 0 0 0)]) (AHeap.mk 4 [(0, rRow os), (1, qMb F.lk F.lb is), (2, sRow S), (3, qRb no c ((nxB sp F
 c).k2) ((nxB sp F c).b2) ((nxB sp F c).at2))]))))))))))))) (branch (lOk c.k c.lb) (branch (decide ((0 : Int) < (↑c.lb.length : Int))) (branch (!decide ((nxB sp F c).err = (0 : Int))) (branch (!decide
 ((nxB sp F c).err = (0 : Int))) (K (Out.ret (.tup [.str F.L, .sl 1 0 1 0 S.length none])) (AHeap.mk 2 [(0, rRow os), (1, sRow S)])) (obl (inI64 (sp - (↑F.L.length : Int))) (branch (decide (sp -
 (↑F.L.length : Int) < (3 : Int))) (K (Out.ret (.tup [.str F.L, .sl 1 0 1 0 S.length none])) (AHeap.mk 2 [(0, rRow os), (1, sRow S)])) (obl (decide ((↑(F.L.length + 3) : Int) ≤ (9223372036854775807 :
 Int))) (branch F.beg (Q .normal (qE os sp (F.L ++ [(48 : UInt8), (1 : UInt8), (0 : UInt8)]) (.sl 2 0 1 0 S.length none) true [(10, .int .i64 (↑i : Int)), (11, .ptr 3 0 0 0)]) (AHeap.mk 4 [(0, rRow
 os), (1, qMb F.lk F.lb is), (2, sRow S), (3, qRb no c c.k c.lb c.pos)])) (Q .normal (qE os sp (F.L ++ [(48 : UInt8), (1 : UInt8), (0 : UInt8)]) (.sl 2 0 1 0 S.length none) false [(10, .int .i64 (↑i :
 Int)), (11, .ptr 3 0 0 0)]) (AHeap.mk 4 [(0, rRow os), (1, qMb F.lk F.lb is), (2, sRow S), (3, qRb no c c.k c.lb c.pos)]))))))) (obl (decide ((nxB sp F c).lb.length + (nxB sp F c).data.length + (nxB
 sp F c).sum.length ≤ 9223372036854775000)) (branch (!decide (errR (nxB sp F c) = (0 : Int))) (K (Out.ret (.tup [.str F.L, .sl 1 0 1 0 S.length none])) (AHeap.mk 2 [(0, rRow os), (1, sRow S)])) (obl
 (inI64 (sp - (↑F.L.length : Int))) (branch (decide (sp - (↑F.L.length : Int) < (↑(encR (nxB sp F c)).length : Int))) (K (Out.ret (.tup [.str F.L, .sl 1 0 1 0 S.length none])) (AHeap.mk 2 [(0, rRow
 os), (1, sRow S)])) (obl (decide ((↑(F.L.length + (encR (nxB sp F c)).length) : Int) ≤ (9223372036854775807 : Int))) (branch F.beg (branch (nxB sp F c).en (obl (true && decide (S.length = S.length ∧ 1
 = 1 ∧ 1 = 1 ∧ 0 < 1 ∧ (S ++ [no]).length ≤ 9223372036854775807 ∧ (S ++ [no]).length * 8 ≤ 140737488355328)) (Q (.exit 2) (qE os sp (F.L ++ encR (nxB sp F c)) (.sl 2 0 1 0 (S ++ [no]).length none) true
 [(10, .int .i64 (↑i : Int))]) (AHeap.mk 3 [(0, rRow os), (1, qMb c.k c.lb true), (2, sRow (S ++ [no]))]))) (Q .normal (qE os sp (F.L ++ encR (nxB sp F c)) (.sl 2 0 1 0 S.length none) true [(10, .int
 .i64 (↑i : Int)), (11, .ptr 3 0 0 0)]) (AHeap.mk 4 [(0, rRow os), (1, qMb c.k c.lb true), (2, sRow S), (3, qRb no c ((nxB sp F c).k2) ((nxB sp F c).b2) ((nxB sp F c).at2))]))) (branch (nxB sp F c).st
 (branch (nxB sp F c).en (obl (true && decide (S.length = S.length ∧ 1 = 1 ∧ 1 = 1 ∧ 0 < 1 ∧ (S ++ [no]).length ≤ 9223372036854775807 ∧ (S ++ [no]).length * 8 ≤ 140737488355328)) (Q (.exit 2) (qE os sp
 (F.L ++ encR (nxB sp F c)) (.sl 2 0 1 0 (S ++ [no]).length none) (!(nxB sp F c).en) [(10, .int .i64 (↑i : Int))]) (AHeap.mk 3 [(0, rRow os), (1, qMb c.k c.lb true), (2, sRow (S ++ [no]))]))) (Q
 .normal (qE os sp (F.L ++ encR (nxB sp F c)) (.sl 2 0 1 0 S.length none) (!(nxB sp F c).en) [(10, .int .i64 (↑i : Int)), (11, .ptr 3 0 0 0)]) (AHeap.mk 4 [(0, rRow os), (1, qMb c.k c.lb true), (2,
 sRow S), (3, qRb no c ((nxB sp F c).k2) ((nxB sp F c).b2) ((nxB sp F c).at2))]))) (branch (nxB sp F c).en (obl (true && decide (S.length = S.length ∧ 1 = 1 ∧ 1 = 1 ∧ 0 < 1 ∧ (S ++ [no]).length ≤
 9223372036854775807 ∧ (S ++ [no]).length * 8 ≤ 140737488355328)) (Q (.exit 2) (qE os sp (F.L ++ encR (nxB sp F c)) (.sl 2 0 1 0 (S ++ [no]).length none) false [(10, .int .i64 (↑i : Int))]) (AHeap.mk 3
 [(0, rRow os), (1, qMb c.k c.lb true), (2, sRow (S ++ [no]))]))) (Q .normal (qE os sp (F.L ++ encR (nxB sp F c)) (.sl 2 0 1 0 S.length none) false [(10, .int .i64 (↑i : Int)), (11, .ptr 3 0 0 0)])
 (AHeap.mk 4 [(0, rRow os), (1, qMb c.k c.lb true), (2, sRow S), (3, qRb no c ((nxB sp F c).k2) ((nxB sp F c).b2) ((nxB sp F c).at2))]))))))))))) (branch (!decide ((nxB sp F c).err = (0 : Int)))
 (branch (!decide ((nxB sp F c).err = (0 : Int))) (K (Out.ret (.tup [.str F.L, .sl 1 0 1 0 S.length none])) (AHeap.mk 2 [(0, rRow os), (1, sRow S)])) (obl (inI64 (sp - (↑F.L.length : Int))) (branch
 (decide (sp - (↑F.L.length : Int) < (3 : Int))) (K (Out.ret (.tup [.str F.L, .sl 1 0 1 0 S.length none])) (AHeap.mk 2 [(0, rRow os), (1, sRow S)])) (obl (decide ((↑(F.L.length + 3) : Int) ≤
 (9223372036854775807 : Int))) (branch F.beg (Q .normal (qE os sp (F.L ++ [(48 : UInt8), (1 : UInt8), (0 : UInt8)]) (.sl 2 0 1 0 S.length none) true [(10, .int .i64 (↑i : Int)), (11, .ptr 3 0 0 0)])
 (AHeap.mk 4 [(0, rRow os), (1, qMb F.lk F.lb is), (2, sRow S), (3, qRb no c c.k c.lb c.pos)])) (Q .normal (qE os sp (F.L ++ [(48 : UInt8), (1 : UInt8), (0 : UInt8)]) (.sl 2 0 1 0 S.length none) false
 [(10, .int .i64 (↑i : Int)), (11, .ptr 3 0 0 0)]) (AHeap.mk 4 [(0, rRow os), (1, qMb F.lk F.lb is), (2, sRow S), (3, qRb no c c.k c.lb c.pos)]))))))) (obl (decide ((nxB sp F c).lb.length + (nxB sp F
 c).data.length + (nxB sp F c).sum.length ≤ 9223372036854775000)) (branch (!decide (errR (nxB sp F c) = (0 : Int))) (K (Out.ret (.tup [.str F.L, .sl 1 0 1 0 S.length none])) (AHeap.mk 2 [(0, rRow os),
 (1, sRow S)])) (obl (inI64 (sp - (↑F.L.length : Int))) (branch (decide (sp - (↑F.L.length : Int) < (↑(encR (nxB sp F c)).length : Int))) (K (Out.ret (.tup [.str F.L, .sl 1 0 1 0 S.length none]))
 (AHeap.mk 2 [(0, rRow os), (1, sRow S)])) (obl (decide ((↑(F.L.length + (encR (nxB sp F c)).length) : Int) ≤ (9223372036854775807 : Int))) (branch F.beg (branch (nxB sp F c).en (obl (true && decide
 (S.length = S.length ∧ 1 = 1 ∧ 1 = 1 ∧ 0 < 1 ∧ (S ++ [no]).length ≤ 9223372036854775807 ∧ (S ++ [no]).length * 8 ≤ 140737488355328)) (Q (.exit 2) (qE os sp (F.L ++ encR (nxB sp F c)) (.sl 2 0 1 0 (S
 ++ [no]).length none) true [(10, .int .i64 (↑i : Int))]) (AHeap.mk 3 [(0, rRow os), (1, qMb F.lk F.lb is), (2, sRow (S ++ [no]))]))) (Q .normal (qE os sp (F.L ++ encR (nxB sp F c)) (.sl 2 0 1 0
 S.length none) true [(10, .int .i64 (↑i : Int)), (11, .ptr 3 0 0 0)]) (AHeap.mk 4 [(0, rRow os), (1, qMb F.lk F.lb is), (2, sRow S), (3, qRb no c ((nxB sp F c).k2) ((nxB sp F c).b2) ((nxB sp F
 c).at2))]))) (branch (nxB sp F c).st (branch (nxB sp F c).en (obl (true && decide (S.length = S.length ∧ 1 = 1 ∧ 1 = 1 ∧ 0 < 1 ∧ (S ++ [no]).length ≤ 9223372036854775807 ∧ (S ++ [no]).length * 8 ≤
 140737488355328)) (Q (.exit 2) (qE os sp (F.L ++ encR (nxB sp F c)) (.sl 2 0 1 0 (S ++ [no]).length none) (!(nxB sp F c).en) [(10, .int .i64 (↑i : Int))]) (AHeap.mk 3 [(0, rRow os), (1, qMb F.lk F.lb
 is), (2, sRow (S ++ [no]))]))) (Q .normal (qE os sp (F.L ++ encR (nxB sp F c)) (.sl 2 0 1 0 S.length none) (!(nxB sp F c).en) [(10, .int .i64 (↑i : Int)), (11, .ptr 3 0 0 0)]) (AHeap.mk 4 [(0, rRow
 os), (1, qMb F.lk F.lb is), (2, sRow S), (3, qRb no c ((nxB sp F c).k2) ((nxB sp F c).b2) ((nxB sp F c).at2))]))) (branch (nxB sp F c).en (obl (true && decide (S.length = S.length ∧ 1 = 1 ∧ 1 = 1 ∧ 0
 < 1 ∧ (S ++ [no]).length ≤ 9223372036854775807 ∧ (S ++ [no]).length * 8 ≤ 140737488355328)) (Q (.exit 2) (qE os sp (F.L ++ encR (nxB sp F c)) (.sl 2 0 1 0 (S ++ [no]).length none) false [(10, .int
 .i64 (↑i : Int))]) (AHeap.mk 3 [(0, rRow os), (1, qMb F.lk F.lb is), (2, sRow (S ++ [no]))]))) (Q .normal (qE os sp (F.L ++ encR (nxB sp F c)) (.sl 2 0 1 0 S.length none) false [(10, .int .i64 (↑i :
 Int)), (11, .ptr 3 0 0 0)]) (AHeap.mk 4 [(0, rRow os), (1, qMb F.lk F.lb is), (2, sRow S), (3, qRb no c ((nxB sp F c).k2) ((nxB sp F c).b2) ((nxB sp F c).at2))])))))))))))) (branch (!decide ((nxB sp F
 c).err = (0 : Int))) (branch (!decide ((nxB sp F c).err = (0 : Int))) (K (Out.ret (.tup [.str F.L, .sl 1 0 1 0 S.length none])) (AHeap.mk 2 [(0, rRow os), (1, sRow S)])) (obl (inI64 (sp - (↑F.L.length
 : Int))) (branch (decide (sp - (↑F.L.length : Int) < (3 : Int))) (K (Out.ret (.tup [.str F.L, .sl 1 0 1 0 S.length none])) (AHeap.mk 2 [(0, rRow os), (1, sRow S)])) (obl (decide ((↑(F.L.length + 3) :
 Int) ≤ (9223372036854775807 : Int))) (branch F.beg (Q .normal (qE os sp (F.L ++ [(48 : UInt8), (1 : UInt8), (0 : UInt8)]) (.sl 2 0 1 0 S.length none) true [(10, .int .i64 (↑i : Int)), (11, .ptr 3 0 0
 0)]) (AHeap.mk 4 [(0, rRow os), (1, qMb F.lk F.lb is), (2, sRow S), (3, qRb no c c.k c.lb c.pos)])) (Q .normal (qE os sp (F.L ++ [(48 : UInt8), (1 : UInt8), (0 : UInt8)]) (.sl 2 0 1 0 S.length none)
 false [(10, .int .i64 (↑i : Int)), (11, .ptr 3 0 0 0)]) (AHeap.mk 4 [(0, rRow os), (1, qMb F.lk F.lb is), (2, sRow S), (3, qRb no c c.k c.lb c.pos)]))))))) (obl (decide ((nxB sp F c).lb.length + (nxB
 sp F c).data.length + (nxB sp F c).sum.length ≤ 9223372036854775000)) (branch (!decide (errR (nxB sp F c) = (0 : Int))) (K (Out.ret (.tup [.str F.L, .sl 1 0 1 0 S.length none])) (AHeap.mk 2 [(0, rRow
 os), (1, sRow S)])) (obl (inI64 (sp - (↑F.L.length : Int))) (branch (decide (sp - (↑F.L.length : Int) < (↑(encR (nxB sp F c)).length : Int))) (K (Out.ret (.tup [.str F.L, .sl 1 0 1 0 S.length none]))
 (AHeap.mk 2 [(0, rRow os), (1, sRow S)])) (obl (decide ((↑(F.L.length + (encR (nxB sp F c)).length) : Int) ≤ (9223372036854775807 : Int))) (branch F.beg (branch (nxB sp F c).en (obl (true && decide
 (S.length = S.length ∧ 1 = 1 ∧ 1 = 1 ∧ 0 < 1 ∧ (S ++ [no]).length ≤ 9223372036854775807 ∧ (S ++ [no]).length * 8 ≤ 140737488355328)) (Q (.exit 2) (qE os sp (F.L ++ encR (nxB sp F c)) (.sl 2 0 1 0 (S
 ++ [no]).length none) true [(10, .int .i64 (↑i : Int))]) (AHeap.mk 3 [(0, rRow os), (1, qMb F.lk F.lb is), (2, sRow (S ++ [no]))]))) (Q .normal (qE os sp (F.L ++ encR (nxB sp F c)) (.sl 2 0 1 0
 S.length none) true [(10, .int .i64 (↑i : Int)), (11, .ptr 3 0 0 0)]) (AHeap.mk 4 [(0, rRow os), (1, qMb F.lk F.lb is), (2, sRow S), (3, qRb no c ((nxB sp F c).k2) ((nxB sp F c).b2) ((nxB sp F
 c).at2))]))) (branch (nxB sp F c).st (branch (nxB sp F c).en (obl (true && decide (S.length = S.length ∧ 1 = 1 ∧ 1 = 1 ∧ 0 < 1 ∧ (S ++ [no]).length ≤ 9223372036854775807 ∧ (S ++ [no]).length * 8 ≤
 140737488355328)) (Q (.exit 2) (qE os sp (F.L ++ encR (nxB sp F c)) (.sl 2 0 1 0 (S ++ [no]).length none) (!(nxB sp F c).en) [(10, .int .i64 (↑i : Int))]) (AHeap.mk 3 [(0, rRow os), (1, qMb F.lk F.lb
 is), (2, sRow (S ++ [no]))]))) (Q .normal (qE os sp (F.L ++ encR (nxB sp F c)) (.sl 2 0 1 0 S.length none) (!(nxB sp F c).en) [(10, .int .i64 (↑i : Int)), (11, .ptr 3 0 0 0)]) (AHeap.mk 4 [(0, rRow
 os), (1, qMb F.lk F.lb is), (2, sRow S), (3, qRb no c ((nxB sp F c).k2) ((nxB sp F c).b2) ((nxB sp F c).at2))]))) (branch (nxB sp F c).en (obl (true && decide (S.length = S.length ∧ 1 = 1 ∧ 1 = 1 ∧ 0
 < 1 ∧ (S ++ [no]).length ≤ 9223372036854775807 ∧ (S ++ [no]).length * 8 ≤ 140737488355328)) (Q (.exit 2) (qE os sp (F.L ++ encR (nxB sp F c)) (.sl 2 0 1 0 (S ++ [no]).length none) false [(10, .int
 .i64 (↑i : Int))]) (AHeap.mk 3 [(0, rRow os), (1, qMb F.lk F.lb is), (2, sRow (S ++ [no]))]))) (Q .normal (qE os sp (F.L ++ encR (nxB sp F c)) (.sl 2 0 1 0 S.length none) false [(10, .int .i64 (↑i :
 Int)), (11, .ptr 3 0 0 0)]) (AHeap.mk 4 [(0, rRow os), (1, qMb F.lk F.lb is), (2, sRow S), (3, qRb no c ((nxB sp F c).k2) ((nxB sp F c).b2) ((nxB sp F c).at2))]))))))))))))) (branch (!decide ((nxB sp
 F c).err = (0 : Int))) (branch (!decide ((nxB sp F c).err = (0 : Int))) (K (Out.ret (.tup [.str F.L, .sl 1 0 1 0 S.length none])) (AHeap.mk 2 [(0, rRow os), (1, sRow S)])) (obl (inI64 (sp -
 (↑F.L.length : Int))) (branch (decide (sp - (↑F.L.length : Int) < (3 : Int))) (K (Out.ret (.tup [.str F.L, .sl 1 0 1 0 S.length none])) (AHeap.mk 2 [(0, rRow os), (1, sRow S)])) (obl (decide
 ((↑(F.L.length + 3) : Int) ≤ (9223372036854775807 : Int))) (branch F.beg (Q .normal (qE os sp (F.L ++ [(48 : UInt8), (1 : UInt8), (0 : UInt8)]) (.sl 2 0 1 0 S.length none) true [(10, .int .i64 (↑i :
 Int)), (11, .ptr 3 0 0 0)]) (AHeap.mk 4 [(0, rRow os), (1, qMb F.lk F.lb is), (2, sRow S), (3, qRb no c c.k c.lb c.pos)])) (Q .normal (qE os sp (F.L ++ [(48 : UInt8), (1 : UInt8), (0 : UInt8)]) (.sl 2
 0 1 0 S.length none) false [(10, .int .i64 (↑i : Int)), (11, .ptr 3 0 0 0)]) (AHeap.mk 4 [(0, rRow os), (1, qMb F.lk F.lb is), (2, sRow S), (3, qRb no c c.k c.lb c.pos)]))))))) (obl (decide ((nxB sp F
 c).lb.length + (nxB sp F c).data.length + (nxB sp F c).sum.length ≤ 9223372036854775000)) (branch (!decide (errR (nxB sp F c) = (0 : Int))) (K (Out.ret (.tup [.str F.L, .sl 1 0 1 0 S.length none]))
 (AHeap.mk 2 [(0, rRow os), (1, sRow S)])) (obl (inI64 (sp - (↑F.L.length : Int))) (branch (decide (sp - (↑F.L.length : Int) < (↑(encR (nxB sp F c)).length : Int))) (K (Out.ret (.tup [.str F.L, .sl 1 0
 1 0 S.length none])) (AHeap.mk 2 [(0, rRow os), (1, sRow S)])) (obl (decide ((↑(F.L.length + (encR (nxB sp F c)).length) : Int) ≤ (9223372036854775807 : Int))) (branch F.beg (branch (nxB sp F c).en
 (obl (true && decide (S.length = S.length ∧ 1 = 1 ∧ 1 = 1 ∧ 0 < 1 ∧ (S ++ [no]).length ≤ 9223372036854775807 ∧ (S ++ [no]).length * 8 ≤ 140737488355328)) (Q (.exit 2) (qE os sp (F.L ++ encR (nxB sp F
 c)) (.sl 2 0 1 0 (S ++ [no]).length none) true [(10, .int .i64 (↑i : Int))]) (AHeap.mk 3 [(0, rRow os), (1, qMb F.lk F.lb is), (2, sRow (S ++ [no]))]))) (Q .normal (qE os sp (F.L ++ encR (nxB sp F c))
 (.sl 2 0 1 0 S.length none) true [(10, .int .i64 (↑i : Int)), (11, .ptr 3 0 0 0)]) (AHeap.mk 4 [(0, rRow os), (1, qMb F.lk F.lb is), (2, sRow S), (3, qRb no c ((nxB sp F c).k2) ((nxB sp F c).b2) ((nxB
 sp F c).at2))]))) (branch (nxB sp F c).st (branch (nxB sp F c).en (obl (true && decide (S.length = S.length ∧ 1 = 1 ∧ 1 = 1 ∧ 0 < 1 ∧ (S ++ [no]).length ≤ 9223372036854775807 ∧ (S ++ [no]).length * 8
 ≤ 140737488355328)) (Q (.exit 2) (qE os sp (F.L ++ encR (nxB sp F c)) (.sl 2 0 1 0 (S ++ [no]).length none) (!(nxB sp F c).en) [(10, .int .i64 (↑i : Int))]) (AHeap.mk 3 [(0, rRow os), (1, qMb F.lk
 F.lb is), (2, sRow (S ++ [no]))]))) (Q .normal (qE os sp (F.L ++ encR (nxB sp F c)) (.sl 2 0 1 0 S.length none) (!(nxB sp F c).en) [(10, .int .i64 (↑i : Int)), (11, .ptr 3 0 0 0)]) (AHeap.mk 4 [(0,
 rRow os), (1, qMb F.lk F.lb is), (2, sRow S), (3, qRb no c ((nxB sp F c).k2) ((nxB sp F c).b2) ((nxB sp F c).at2))]))) (branch (nxB sp F c).en (obl (true && decide (S.length = S.length ∧ 1 = 1 ∧ 1 = 1
 ∧ 0 < 1 ∧ (S ++ [no]).length ≤ 9223372036854775807 ∧ (S ++ [no]).length * 8 ≤ 140737488355328)) (Q (.exit 2) (qE os sp (F.L ++ encR (nxB sp F c)) (.sl 2 0 1 0 (S ++ [no]).length none) false [(10, .int
 .i64 (↑i : Int))]) (AHeap.mk 3 [(0, rRow os), (1, qMb F.lk F.lb is), (2, sRow (S ++ [no]))]))) (Q .normal (qE os sp (F.L ++ encR (nxB sp F c)) (.sl 2 0 1 0 S.length none) false [(10, .int .i64 (↑i :
 Int)), (11, .ptr 3 0 0 0)]) (AHeap.mk 4 [(0, rRow os), (1, qMb F.lk F.lb is), (2, sRow S), (3, qRb no c ((nxB sp F c).k2) ((nxB sp F c).b2) ((nxB sp F c).at2))]))))))))))))) := by kernel_rfl
end Go.Proofs.Ytjacnjecggedhaa
namespace Go.Proofs.Ytjacnjecggedhaa
set_option linter.unusedVariables false
set_option linter.unusedSimpArgs false
open Go.RowKit Ev
theorem rIn (p : List Bool) : InFn (TQR.ctx Try.prog) 11 (codeAt p rfB) :=
  inFn_at TQRok.ctx (fn := Try.f11) (by kernel_rfl) (by kernel_rfl) p
set_option maxRecDepth 100000 in
theorem h_n (H0 : AHeap) (hH0 : H0.next ≤ 1) (os : List RefR) (sp : Int) (F : FSt) (is : Bool) (i : Nat) (no : Int) (c : CutR) (K : Out → AHeap → Prop) (Q : AExit → Env → AHeap → Prop)
    (hsp : sp ≤ 7300) (hL : (F.L.length : Int) ≤ sp) (hc : CSm c) (his : is = true ↔ F.lb ≠ [])
    (hfail : ¬ OkR sp F (stepR sp F c) → K (.ret (.tup [.str F.L, .nils])) ⟨1, [(0, rRow os)]⟩)
    (hlast : ∀ (R : NextR) (F' : FSt) (is' : Bool), stepR sp F c = R → OkR sp F R → R.en = true → F' = stepF F c R → (is' = true ↔ F'.lb ≠ []) → Q (.exit 2) (rs os sp F' is' [no] (r10 (i : Int))).1 (rs os sp F' is' [no] (r10 (i : Int))).2)
    (hnorm : ∀ (R : NextR) (F' : FSt) (is' : Bool), stepR sp F c = R → OkR sp F R → R.en = false → F' = stepF F c R → (is' = true ↔ F'.lb ≠ []) → Q .normal (pn os sp F' is' (i : Int) no (stepC c R)).1 (pn os sp F' is' (i : Int) no (stepC c R)).2) :
    Gd (TQR.ctx Try.prog) 11 H0 rfL (qRet (endA (TQR.ctx Try.prog).P Try.f11 K) Q) (pn os sp F is (i : Int) no c).1 (pn os sp F is (i : Int) no c).2 := by
  refine Gd.walkC TQRok.ctx 1 tsR1 hH0 (rIn [true, true, true, true, true, false, true, false, false, true, false, false, true, false, false]) (Eq.mpr (w_rfl_n os sp F is i no c K Q) ?_)
  refine obl_int (by omega) (br_dec (fun hp => ?_) (fun hp => ?_))
  · refine br_mk (fun hi => ?_) (fun hi => ?_)
    · have hb0 := his.1 hi
      refine br_mk (fun hq => ?_) (fun hq => ?_)
      · have hq : c.k = F.lk ∧ c.lb = F.lb := by simpa using hq
        have q : labOf F c = (3, []) := by unfold labOf memL; rw [if_pos hp, if_pos ⟨hb0, hq.1.symm, hq.2.symm⟩]
        have hM : memOf F c = (F.lk, F.lb) := by unfold memOf memK; rw [if_pos hp, if_pos ⟨hb0, hq.1.symm, hq.2.symm⟩]
        have hR' : stepR sp F c = nxA sp F c := by unfold stepR; rw [q]; rfl
        generalize nxA sp F c = R at hR' ⊢
        have hsm := stepR_small hR' hc
        refine br_mk (fun he => br_mk (fun _ => hfail (fun hk => by rw [hR'] at hk; rw [hk.err] at he; cases he)) (fun h2 => by rw [he] at h2; cases h2)) (fun he => ?_)
        have he : R.err = 0 := by simpa using he
        refine obl_dec hsm.1 (br_mk (fun hg => hfail (fun hk => by rw [hR'] at hk; have h0 : (!decide (errR R = 0)) = true := hg; rw [hk.enc] at h0; cases h0)) (fun hg => ?_))
        have hg : errR R = 0 := by simpa using hg
        refine obl_int (by omega) (br_dec (fun hs => hfail (fun hk => by rw [hR'] at hk; have h0 : sp - (F.L.length : Int) < ((encR R).length : Int) := hs; have h1 := hk.len; omega)) (fun hs => ?_))
        have hs : ¬ (sp - (F.L.length : Int) < ((encR R).length : Int)) := hs
        have hok : OkR sp F R := ⟨he, hg, by omega⟩
        have q1 : ((F.L.length + (encR R).length : Nat) : Int) ≤ 9223372036854775807 := by omega
        refine obl_dec q1 ?_
        refine br_mk (fun hb => br_mk (fun h => hlast R ⟨F.L ++ encR R, true, F.k + 1, F.lk, F.lb⟩ is hR' hok h (by unfold stepF; rw [hM, hb]; rfl) (his)) (fun h => hnorm R ⟨F.L ++ encR R, true, F.k + 1, F.lk, F.lb⟩ is hR' hok h (by unfold stepF; rw [hM, hb]; rfl) (his))) (fun hb => br_mk (fun hst => br_mk (fun h => hlast R ⟨F.L ++ encR R, !R.en, F.k + 1, F.lk, F.lb⟩ is hR' hok h (by unfold stepF; rw [hM, hb, hst]; rfl) (his)) (fun h => hnorm R ⟨F.L ++ encR R, !R.en, F.k + 1, F.lk, F.lb⟩ is hR' hok h (by unfold stepF; rw [hM, hb, hst]; rfl) (his))) (fun hst => br_mk (fun h => hlast R ⟨F.L ++ encR R, false, F.k + 1, F.lk, F.lb⟩ is hR' hok h (by unfold stepF; rw [hM, hb, hst]; rfl) (his)) (fun h => hnorm R ⟨F.L ++ encR R, false, F.k + 1, F.lk, F.lb⟩ is hR' hok h (by unfold stepF; rw [hM, hb, hst]; rfl) (his))))
      · have hne : ¬ (F.lb ≠ [] ∧ F.lk = c.k ∧ F.lb = c.lb) := by rintro ⟨_, h1, h2⟩; rw [decide_eq_true h1.symm, decide_eq_true h2.symm] at hq; cases hq
        have q : labOf F c = (c.k, c.lb) := by unfold labOf memL; rw [if_pos hp, if_neg hne]
        refine br_mk (fun hl => br_dec (fun h0 => ?_) (fun h0 => ?_)) (fun hl => ?_)
        · have hlen : (c.lb.length : Int) = lSize c.k := by have := hl; unfold lOk at this; simp at this; omega
          have hcl : c.lb ≠ [] := by rintro h; rw [h] at h0; simp at h0
          have hM : memOf F c = (c.k, c.lb) := by unfold memOf memK; rw [if_pos hp, if_neg hne, if_pos ⟨by omega, hl⟩]
          have hR' : stepR sp F c = nxB sp F c := by unfold stepR; rw [q]; rfl
          generalize nxB sp F c = R at hR' ⊢
          have hsm := stepR_small hR' hc
          refine br_mk (fun he => br_mk (fun _ => hfail (fun hk => by rw [hR'] at hk; rw [hk.err] at he; cases he)) (fun h2 => by rw [he] at h2; cases h2)) (fun he => ?_)
          have he : R.err = 0 := by simpa using he
          refine obl_dec hsm.1 (br_mk (fun hg => hfail (fun hk => by rw [hR'] at hk; have h0 : (!decide (errR R = 0)) = true := hg; rw [hk.enc] at h0; cases h0)) (fun hg => ?_))
          have hg : errR R = 0 := by simpa using hg
          refine obl_int (by omega) (br_dec (fun hs => hfail (fun hk => by rw [hR'] at hk; have h0 : sp - (F.L.length : Int) < ((encR R).length : Int) := hs; have h1 := hk.len; omega)) (fun hs => ?_))
          have hs : ¬ (sp - (F.L.length : Int) < ((encR R).length : Int)) := hs
          have hok : OkR sp F R := ⟨he, hg, by omega⟩
          have q1 : ((F.L.length + (encR R).length : Nat) : Int) ≤ 9223372036854775807 := by omega
          refine obl_dec q1 ?_
          refine br_mk (fun hb => br_mk (fun h => hlast R ⟨F.L ++ encR R, true, F.k + 1, c.k, c.lb⟩ true hR' hok h (by unfold stepF; rw [hM, hb]; rfl) (⟨fun _ => hcl, fun _ => rfl⟩)) (fun h => hnorm R ⟨F.L ++ encR R, true, F.k + 1, c.k, c.lb⟩ true hR' hok h (by unfold stepF; rw [hM, hb]; rfl) (⟨fun _ => hcl, fun _ => rfl⟩))) (fun hb => br_mk (fun hst => br_mk (fun h => hlast R ⟨F.L ++ encR R, !R.en, F.k + 1, c.k, c.lb⟩ true hR' hok h (by unfold stepF; rw [hM, hb, hst]; rfl) (⟨fun _ => hcl, fun _ => rfl⟩)) (fun h => hnorm R ⟨F.L ++ encR R, !R.en, F.k + 1, c.k, c.lb⟩ true hR' hok h (by unfold stepF; rw [hM, hb, hst]; rfl) (⟨fun _ => hcl, fun _ => rfl⟩))) (fun hst => br_mk (fun h => hlast R ⟨F.L ++ encR R, false, F.k + 1, c.k, c.lb⟩ true hR' hok h (by unfold stepF; rw [hM, hb, hst]; rfl) (⟨fun _ => hcl, fun _ => rfl⟩)) (fun h => hnorm R ⟨F.L ++ encR R, false, F.k + 1, c.k, c.lb⟩ true hR' hok h (by unfold stepF; rw [hM, hb, hst]; rfl) (⟨fun _ => hcl, fun _ => rfl⟩))))
        · have hlen : (c.lb.length : Int) = lSize c.k := by have := hl; unfold lOk at this; simp at this; omega
          have hM : memOf F c = (F.lk, F.lb) := by unfold memOf memK; rw [if_pos hp, if_neg hne, if_neg (by rintro ⟨h, _⟩; omega)]
          have hR' : stepR sp F c = nxB sp F c := by unfold stepR; rw [q]; rfl
          generalize nxB sp F c = R at hR' ⊢
          have hsm := stepR_small hR' hc
          refine br_mk (fun he => br_mk (fun _ => hfail (fun hk => by rw [hR'] at hk; rw [hk.err] at he; cases he)) (fun h2 => by rw [he] at h2; cases h2)) (fun he => ?_)
          have he : R.err = 0 := by simpa using he
          refine obl_dec hsm.1 (br_mk (fun hg => hfail (fun hk => by rw [hR'] at hk; have h0 : (!decide (errR R = 0)) = true := hg; rw [hk.enc] at h0; cases h0)) (fun hg => ?_))
          have hg : errR R = 0 := by simpa using hg
          refine obl_int (by omega) (br_dec (fun hs => hfail (fun hk => by rw [hR'] at hk; have h0 : sp - (F.L.length : Int) < ((encR R).length : Int) := hs; have h1 := hk.len; omega)) (fun hs => ?_))
          have hs : ¬ (sp - (F.L.length : Int) < ((encR R).length : Int)) := hs
          have hok : OkR sp F R := ⟨he, hg, by omega⟩
          have q1 : ((F.L.length + (encR R).length : Nat) : Int) ≤ 9223372036854775807 := by omega
          refine obl_dec q1 ?_
          refine br_mk (fun hb => br_mk (fun h => hlast R ⟨F.L ++ encR R, true, F.k + 1, F.lk, F.lb⟩ is hR' hok h (by unfold stepF; rw [hM, hb]; rfl) (his)) (fun h => hnorm R ⟨F.L ++ encR R, true, F.k + 1, F.lk, F.lb⟩ is hR' hok h (by unfold stepF; rw [hM, hb]; rfl) (his))) (fun hb => br_mk (fun hst => br_mk (fun h => hlast R ⟨F.L ++ encR R, !R.en, F.k + 1, F.lk, F.lb⟩ is hR' hok h (by unfold stepF; rw [hM, hb, hst]; rfl) (his)) (fun h => hnorm R ⟨F.L ++ encR R, !R.en, F.k + 1, F.lk, F.lb⟩ is hR' hok h (by unfold stepF; rw [hM, hb, hst]; rfl) (his))) (fun hst => br_mk (fun h => hlast R ⟨F.L ++ encR R, false, F.k + 1, F.lk, F.lb⟩ is hR' hok h (by unfold stepF; rw [hM, hb, hst]; rfl) (his)) (fun h => hnorm R ⟨F.L ++ encR R, false, F.k + 1, F.lk, F.lb⟩ is hR' hok h (by unfold stepF; rw [hM, hb, hst]; rfl) (his))))
        · have hM : memOf F c = (F.lk, F.lb) := by unfold memOf memK; rw [if_pos hp, if_neg hne, if_neg (by rintro ⟨_, h⟩; rw [h] at hl; cases hl)]
          have hR' : stepR sp F c = nxB sp F c := by unfold stepR; rw [q]; rfl
          generalize nxB sp F c = R at hR' ⊢
          have hsm := stepR_small hR' hc
          refine br_mk (fun he => br_mk (fun _ => hfail (fun hk => by rw [hR'] at hk; rw [hk.err] at he; cases he)) (fun h2 => by rw [he] at h2; cases h2)) (fun he => ?_)
          have he : R.err = 0 := by simpa using he
          refine obl_dec hsm.1 (br_mk (fun hg => hfail (fun hk => by rw [hR'] at hk; have h0 : (!decide (errR R = 0)) = true := hg; rw [hk.enc] at h0; cases h0)) (fun hg => ?_))
          have hg : errR R = 0 := by simpa using hg
          refine obl_int (by omega) (br_dec (fun hs => hfail (fun hk => by rw [hR'] at hk; have h0 : sp - (F.L.length : Int) < ((encR R).length : Int) := hs; have h1 := hk.len; omega)) (fun hs => ?_))
          have hs : ¬ (sp - (F.L.length : Int) < ((encR R).length : Int)) := hs
          have hok : OkR sp F R := ⟨he, hg, by omega⟩
          have q1 : ((F.L.length + (encR R).length : Nat) : Int) ≤ 9223372036854775807 := by omega
          refine obl_dec q1 ?_
          refine br_mk (fun hb => br_mk (fun h => hlast R ⟨F.L ++ encR R, true, F.k + 1, F.lk, F.lb⟩ is hR' hok h (by unfold stepF; rw [hM, hb]; rfl) (his)) (fun h => hnorm R ⟨F.L ++ encR R, true, F.k + 1, F.lk, F.lb⟩ is hR' hok h (by unfold stepF; rw [hM, hb]; rfl) (his))) (fun hb => br_mk (fun hst => br_mk (fun h => hlast R ⟨F.L ++ encR R, !R.en, F.k + 1, F.lk, F.lb⟩ is hR' hok h (by unfold stepF; rw [hM, hb, hst]; rfl) (his)) (fun h => hnorm R ⟨F.L ++ encR R, !R.en, F.k + 1, F.lk, F.lb⟩ is hR' hok h (by unfold stepF; rw [hM, hb, hst]; rfl) (his))) (fun hst => br_mk (fun h => hlast R ⟨F.L ++ encR R, false, F.k + 1, F.lk, F.lb⟩ is hR' hok h (by unfold stepF; rw [hM, hb, hst]; rfl) (his)) (fun h => hnorm R ⟨F.L ++ encR R, false, F.k + 1, F.lk, F.lb⟩ is hR' hok h (by unfold stepF; rw [hM, hb, hst]; rfl) (his))))
    · have hb0 : ¬ F.lb ≠ [] := fun h => by rw [his.2 h] at hi; cases hi
      have hne : ¬ (F.lb ≠ [] ∧ F.lk = c.k ∧ F.lb = c.lb) := fun h => hb0 h.1
      have q : labOf F c = (c.k, c.lb) := by unfold labOf memL; rw [if_pos hp, if_neg hne]
      refine br_mk (fun hl => br_dec (fun h0 => ?_) (fun h0 => ?_)) (fun hl => ?_)
      · have hlen : (c.lb.length : Int) = lSize c.k := by have := hl; unfold lOk at this; simp at this; omega
        have hcl : c.lb ≠ [] := by rintro h; rw [h] at h0; simp at h0
        have hM : memOf F c = (c.k, c.lb) := by unfold memOf memK; rw [if_pos hp, if_neg hne, if_pos ⟨by omega, hl⟩]
        have hR' : stepR sp F c = nxB sp F c := by unfold stepR; rw [q]; rfl
        generalize nxB sp F c = R at hR' ⊢
        have hsm := stepR_small hR' hc
        refine br_mk (fun he => br_mk (fun _ => hfail (fun hk => by rw [hR'] at hk; rw [hk.err] at he; cases he)) (fun h2 => by rw [he] at h2; cases h2)) (fun he => ?_)
        have he : R.err = 0 := by simpa using he
        refine obl_dec hsm.1 (br_mk (fun hg => hfail (fun hk => by rw [hR'] at hk; have h0 : (!decide (errR R = 0)) = true := hg; rw [hk.enc] at h0; cases h0)) (fun hg => ?_))
        have hg : errR R = 0 := by simpa using hg
        refine obl_int (by omega) (br_dec (fun hs => hfail (fun hk => by rw [hR'] at hk; have h0 : sp - (F.L.length : Int) < ((encR R).length : Int) := hs; have h1 := hk.len; omega)) (fun hs => ?_))
        have hs : ¬ (sp - (F.L.length : Int) < ((encR R).length : Int)) := hs
        have hok : OkR sp F R := ⟨he, hg, by omega⟩
        have q1 : ((F.L.length + (encR R).length : Nat) : Int) ≤ 9223372036854775807 := by omega
        refine obl_dec q1 ?_
        refine br_mk (fun hb => br_mk (fun h => hlast R ⟨F.L ++ encR R, true, F.k + 1, c.k, c.lb⟩ true hR' hok h (by unfold stepF; rw [hM, hb]; rfl) (⟨fun _ => hcl, fun _ => rfl⟩)) (fun h => hnorm R ⟨F.L ++ encR R, true, F.k + 1, c.k, c.lb⟩ true hR' hok h (by unfold stepF; rw [hM, hb]; rfl) (⟨fun _ => hcl, fun _ => rfl⟩))) (fun hb => br_mk (fun hst => br_mk (fun h => hlast R ⟨F.L ++ encR R, !R.en, F.k + 1, c.k, c.lb⟩ true hR' hok h (by unfold stepF; rw [hM, hb, hst]; rfl) (⟨fun _ => hcl, fun _ => rfl⟩)) (fun h => hnorm R ⟨F.L ++ encR R, !R.en, F.k + 1, c.k, c.lb⟩ true hR' hok h (by unfold stepF; rw [hM, hb, hst]; rfl) (⟨fun _ => hcl, fun _ => rfl⟩))) (fun hst => br_mk (fun h => hlast R ⟨F.L ++ encR R, false, F.k + 1, c.k, c.lb⟩ true hR' hok h (by unfold stepF; rw [hM, hb, hst]; rfl) (⟨fun _ => hcl, fun _ => rfl⟩)) (fun h => hnorm R ⟨F.L ++ encR R, false, F.k + 1, c.k, c.lb⟩ true hR' hok h (by unfold stepF; rw [hM, hb, hst]; rfl) (⟨fun _ => hcl, fun _ => rfl⟩))))
      · have hlen : (c.lb.length : Int) = lSize c.k := by have := hl; unfold lOk at this; simp at this; omega
        have hM : memOf F c = (F.lk, F.lb) := by unfold memOf memK; rw [if_pos hp, if_neg hne, if_neg (by rintro ⟨h, _⟩; omega)]
        have hR' : stepR sp F c = nxB sp F c := by unfold stepR; rw [q]; rfl
        generalize nxB sp F c = R at hR' ⊢
        have hsm := stepR_small hR' hc
        refine br_mk (fun he => br_mk (fun _ => hfail (fun hk => by rw [hR'] at hk; rw [hk.err] at he; cases he)) (fun h2 => by rw [he] at h2; cases h2)) (fun he => ?_)
        have he : R.err = 0 := by simpa using he
        refine obl_dec hsm.1 (br_mk (fun hg => hfail (fun hk => by rw [hR'] at hk; have h0 : (!decide (errR R = 0)) = true := hg; rw [hk.enc] at h0; cases h0)) (fun hg => ?_))
        have hg : errR R = 0 := by simpa using hg
        refine obl_int (by omega) (br_dec (fun hs => hfail (fun hk => by rw [hR'] at hk; have h0 : sp - (F.L.length : Int) < ((encR R).length : Int) := hs; have h1 := hk.len; omega)) (fun hs => ?_))
        have hs : ¬ (sp - (F.L.length : Int) < ((encR R).length : Int)) := hs
        have hok : OkR sp F R := ⟨he, hg, by omega⟩
        have q1 : ((F.L.length + (encR R).length : Nat) : Int) ≤ 9223372036854775807 := by omega
        refine obl_dec q1 ?_
        refine br_mk (fun hb => br_mk (fun h => hlast R ⟨F.L ++ encR R, true, F.k + 1, F.lk, F.lb⟩ is hR' hok h (by unfold stepF; rw [hM, hb]; rfl) (his)) (fun h => hnorm R ⟨F.L ++ encR R, true, F.k + 1, F.lk, F.lb⟩ is hR' hok h (by unfold stepF; rw [hM, hb]; rfl) (his))) (fun hb => br_mk (fun hst => br_mk (fun h => hlast R ⟨F.L ++ encR R, !R.en, F.k + 1, F.lk, F.lb⟩ is hR' hok h (by unfold stepF; rw [hM, hb, hst]; rfl) (his)) (fun h => hnorm R ⟨F.L ++ encR R, !R.en, F.k + 1, F.lk, F.lb⟩ is hR' hok h (by unfold stepF; rw [hM, hb, hst]; rfl) (his))) (fun hst => br_mk (fun h => hlast R ⟨F.L ++ encR R, false, F.k + 1, F.lk, F.lb⟩ is hR' hok h (by unfold stepF; rw [hM, hb, hst]; rfl) (his)) (fun h => hnorm R ⟨F.L ++ encR R, false, F.k + 1, F.lk, F.lb⟩ is hR' hok h (by unfold stepF; rw [hM, hb, hst]; rfl) (his))))
      · have hM : memOf F c = (F.lk, F.lb) := by unfold memOf memK; rw [if_pos hp, if_neg hne, if_neg (by rintro ⟨_, h⟩; rw [h] at hl; cases hl)]
        have hR' : stepR sp F c = nxB sp F c := by unfold stepR; rw [q]; rfl
        generalize nxB sp F c = R at hR' ⊢
        have hsm := stepR_small hR' hc
        refine br_mk (fun he => br_mk (fun _ => hfail (fun hk => by rw [hR'] at hk; rw [hk.err] at he; cases he)) (fun h2 => by rw [he] at h2; cases h2)) (fun he => ?_)
        have he : R.err = 0 := by simpa using he
        refine obl_dec hsm.1 (br_mk (fun hg => hfail (fun hk => by rw [hR'] at hk; have h0 : (!decide (errR R = 0)) = true := hg; rw [hk.enc] at h0; cases h0)) (fun hg => ?_))
        have hg : errR R = 0 := by simpa using hg
        refine obl_int (by omega) (br_dec (fun hs => hfail (fun hk => by rw [hR'] at hk; have h0 : sp - (F.L.length : Int) < ((encR R).length : Int) := hs; have h1 := hk.len; omega)) (fun hs => ?_))
        have hs : ¬ (sp - (F.L.length : Int) < ((encR R).length : Int)) := hs
        have hok : OkR sp F R := ⟨he, hg, by omega⟩
        have q1 : ((F.L.length + (encR R).length : Nat) : Int) ≤ 9223372036854775807 := by omega
        refine obl_dec q1 ?_
        refine br_mk (fun hb => br_mk (fun h => hlast R ⟨F.L ++ encR R, true, F.k + 1, F.lk, F.lb⟩ is hR' hok h (by unfold stepF; rw [hM, hb]; rfl) (his)) (fun h => hnorm R ⟨F.L ++ encR R, true, F.k + 1, F.lk, F.lb⟩ is hR' hok h (by unfold stepF; rw [hM, hb]; rfl) (his))) (fun hb => br_mk (fun hst => br_mk (fun h => hlast R ⟨F.L ++ encR R, !R.en, F.k + 1, F.lk, F.lb⟩ is hR' hok h (by unfold stepF; rw [hM, hb, hst]; rfl) (his)) (fun h => hnorm R ⟨F.L ++ encR R, !R.en, F.k + 1, F.lk, F.lb⟩ is hR' hok h (by unfold stepF; rw [hM, hb, hst]; rfl) (his))) (fun hst => br_mk (fun h => hlast R ⟨F.L ++ encR R, false, F.k + 1, F.lk, F.lb⟩ is hR' hok h (by unfold stepF; rw [hM, hb, hst]; rfl) (his)) (fun h => hnorm R ⟨F.L ++ encR R, false, F.k + 1, F.lk, F.lb⟩ is hR' hok h (by unfold stepF; rw [hM, hb, hst]; rfl) (his))))
  · have q : labOf F c = (c.k, c.lb) := by unfold labOf; rw [if_neg hp]
    have hM : memOf F c = (F.lk, F.lb) := by unfold memOf; rw [if_neg hp]
    have hR' : stepR sp F c = nxB sp F c := by unfold stepR; rw [q]; rfl
    generalize nxB sp F c = R at hR' ⊢
    have hsm := stepR_small hR' hc
    refine br_mk (fun he => br_mk (fun _ => hfail (fun hk => by rw [hR'] at hk; rw [hk.err] at he; cases he)) (fun h2 => by rw [he] at h2; cases h2)) (fun he => ?_)
    have he : R.err = 0 := by simpa using he
    refine obl_dec hsm.1 (br_mk (fun hg => hfail (fun hk => by rw [hR'] at hk; have h0 : (!decide (errR R = 0)) = true := hg; rw [hk.enc] at h0; cases h0)) (fun hg => ?_))
    have hg : errR R = 0 := by simpa using hg
    refine obl_int (by omega) (br_dec (fun hs => hfail (fun hk => by rw [hR'] at hk; have h0 : sp - (F.L.length : Int) < ((encR R).length : Int) := hs; have h1 := hk.len; omega)) (fun hs => ?_))
    have hs : ¬ (sp - (F.L.length : Int) < ((encR R).length : Int)) := hs
    have hok : OkR sp F R := ⟨he, hg, by omega⟩
    have q1 : ((F.L.length + (encR R).length : Nat) : Int) ≤ 9223372036854775807 := by omega
    refine obl_dec q1 ?_
    refine br_mk (fun hb => br_mk (fun h => hlast R ⟨F.L ++ encR R, true, F.k + 1, F.lk, F.lb⟩ is hR' hok h (by unfold stepF; rw [hM, hb]; rfl) (his)) (fun h => hnorm R ⟨F.L ++ encR R, true, F.k + 1, F.lk, F.lb⟩ is hR' hok h (by unfold stepF; rw [hM, hb]; rfl) (his))) (fun hb => br_mk (fun hst => br_mk (fun h => hlast R ⟨F.L ++ encR R, !R.en, F.k + 1, F.lk, F.lb⟩ is hR' hok h (by unfold stepF; rw [hM, hb, hst]; rfl) (his)) (fun h => hnorm R ⟨F.L ++ encR R, !R.en, F.k + 1, F.lk, F.lb⟩ is hR' hok h (by unfold stepF; rw [hM, hb, hst]; rfl) (his))) (fun hst => br_mk (fun h => hlast R ⟨F.L ++ encR R, false, F.k + 1, F.lk, F.lb⟩ is hR' hok h (by unfold stepF; rw [hM, hb, hst]; rfl) (his)) (fun h => hnorm R ⟨F.L ++ encR R, false, F.k + 1, F.lk, F.lb⟩ is hR' hok h (by unfold stepF; rw [hM, hb, hst]; rfl) (his))))
set_option maxRecDepth 100000 in
theorem h_s (H0 : AHeap) (hH0 : H0.next ≤ 1) (os : List RefR) (sp : Int) (F : FSt) (is : Bool) (S : List Int) (i : Nat) (no : Int) (c : CutR) (K : Out → AHeap → Prop) (Q : AExit → Env → AHeap → Prop)
    (hsp : sp ≤ 7300) (hL : (F.L.length : Int) ≤ sp) (hc : CSm c) (his : is = true ↔ F.lb ≠ []) (hS : S.length ≤ 30)
    (hfail : ¬ OkR sp F (stepR sp F c) → K (.ret (.tup [.str F.L, .sl 1 0 1 0 S.length none])) ⟨2, [(0, rRow os), (1, .row 33 (intRow .u64) S .plain)]⟩)
    (hlast : ∀ (R : NextR) (F' : FSt) (is' : Bool), stepR sp F c = R → OkR sp F R → R.en = true → F' = stepF F c R → (is' = true ↔ F'.lb ≠ []) → Q (.exit 2) (rs os sp F' is' (S ++ [no]) (r10 (i : Int))).1 (rs os sp F' is' (S ++ [no]) (r10 (i : Int))).2)
    (hnorm : ∀ (R : NextR) (F' : FSt) (is' : Bool), stepR sp F c = R → OkR sp F R → R.en = false → F' = stepF F c R → (is' = true ↔ F'.lb ≠ []) → Q .normal (ps os sp F' is' S (i : Int) no (stepC c R)).1 (ps os sp F' is' S (i : Int) no (stepC c R)).2) :
    Gd (TQR.ctx Try.prog) 11 H0 rfL (qRet (endA (TQR.ctx Try.prog).P Try.f11 K) Q) (ps os sp F is S (i : Int) no c).1 (ps os sp F is S (i : Int) no c).2 := by
  refine Gd.walkC TQRok.ctx 1 tsR1 hH0 (rIn [true, true, true, true, true, false, true, false, false, true, false, false, true, false, false]) (Eq.mpr (w_rfl_s os sp F is S i no c K Q) ?_)
  have qS0 : (S ++ [no]).length = S.length + 1 := by simp
  have qS1 : (S ++ [no]).length ≤ 9223372036854775807 := by omega
  have qS2 : (S ++ [no]).length * 8 ≤ 140737488355328 := by omega
  refine obl_int (by omega) (br_dec (fun hp => ?_) (fun hp => ?_))
  · refine br_mk (fun hi => ?_) (fun hi => ?_)
    · have hb0 := his.1 hi
      refine br_mk (fun hq => ?_) (fun hq => ?_)
      · have hq : c.k = F.lk ∧ c.lb = F.lb := by simpa using hq
        have q : labOf F c = (3, []) := by unfold labOf memL; rw [if_pos hp, if_pos ⟨hb0, hq.1.symm, hq.2.symm⟩]
        have hM : memOf F c = (F.lk, F.lb) := by unfold memOf memK; rw [if_pos hp, if_pos ⟨hb0, hq.1.symm, hq.2.symm⟩]
        have hR' : stepR sp F c = nxA sp F c := by unfold stepR; rw [q]; rfl
        generalize nxA sp F c = R at hR' ⊢
        have hsm := stepR_small hR' hc
        refine br_mk (fun he => br_mk (fun _ => hfail (fun hk => by rw [hR'] at hk; rw [hk.err] at he; cases he)) (fun h2 => by rw [he] at h2; cases h2)) (fun he => ?_)
        have he : R.err = 0 := by simpa using he
        refine obl_dec hsm.1 (br_mk (fun hg => hfail (fun hk => by rw [hR'] at hk; have h0 : (!decide (errR R = 0)) = true := hg; rw [hk.enc] at h0; cases h0)) (fun hg => ?_))
        have hg : errR R = 0 := by simpa using hg
        refine obl_int (by omega) (br_dec (fun hs => hfail (fun hk => by rw [hR'] at hk; have h0 : sp - (F.L.length : Int) < ((encR R).length : Int) := hs; have h1 := hk.len; omega)) (fun hs => ?_))
        have hs : ¬ (sp - (F.L.length : Int) < ((encR R).length : Int)) := hs
        have hok : OkR sp F R := ⟨he, hg, by omega⟩
        have q1 : ((F.L.length + (encR R).length : Nat) : Int) ≤ 9223372036854775807 := by omega
        refine obl_dec q1 ?_
        refine br_mk (fun hb => br_mk (fun h => obl_tt (decide_eq_true ⟨rfl, rfl, rfl, Nat.succ_pos _, qS1, qS2⟩) (hlast R ⟨F.L ++ encR R, true, F.k + 1, F.lk, F.lb⟩ is hR' hok h (by unfold stepF; rw [hM, hb]; rfl) (his))) (fun h => hnorm R ⟨F.L ++ encR R, true, F.k + 1, F.lk, F.lb⟩ is hR' hok h (by unfold stepF; rw [hM, hb]; rfl) (his))) (fun hb => br_mk (fun hst => br_mk (fun h => obl_tt (decide_eq_true ⟨rfl, rfl, rfl, Nat.succ_pos _, qS1, qS2⟩) (hlast R ⟨F.L ++ encR R, !R.en, F.k + 1, F.lk, F.lb⟩ is hR' hok h (by unfold stepF; rw [hM, hb, hst]; rfl) (his))) (fun h => hnorm R ⟨F.L ++ encR R, !R.en, F.k + 1, F.lk, F.lb⟩ is hR' hok h (by unfold stepF; rw [hM, hb, hst]; rfl) (his))) (fun hst => br_mk (fun h => obl_tt (decide_eq_true ⟨rfl, rfl, rfl, Nat.succ_pos _, qS1, qS2⟩) (hlast R ⟨F.L ++ encR R, false, F.k + 1, F.lk, F.lb⟩ is hR' hok h (by unfold stepF; rw [hM, hb, hst]; rfl) (his))) (fun h => hnorm R ⟨F.L ++ encR R, false, F.k + 1, F.lk, F.lb⟩ is hR' hok h (by unfold stepF; rw [hM, hb, hst]; rfl) (his))))
      · have hne : ¬ (F.lb ≠ [] ∧ F.lk = c.k ∧ F.lb = c.lb) := by rintro ⟨_, h1, h2⟩; rw [decide_eq_true h1.symm, decide_eq_true h2.symm] at hq; cases hq
        have q : labOf F c = (c.k, c.lb) := by unfold labOf memL; rw [if_pos hp, if_neg hne]
        refine br_mk (fun hl => br_dec (fun h0 => ?_) (fun h0 => ?_)) (fun hl => ?_)
        · have hlen : (c.lb.length : Int) = lSize c.k := by have := hl; unfold lOk at this; simp at this; omega
          have hcl : c.lb ≠ [] := by rintro h; rw [h] at h0; simp at h0
          have hM : memOf F c = (c.k, c.lb) := by unfold memOf memK; rw [if_pos hp, if_neg hne, if_pos ⟨by omega, hl⟩]
          have hR' : stepR sp F c = nxB sp F c := by unfold stepR; rw [q]; rfl
          generalize nxB sp F c = R at hR' ⊢
          have hsm := stepR_small hR' hc
          refine br_mk (fun he => br_mk (fun _ => hfail (fun hk => by rw [hR'] at hk; rw [hk.err] at he; cases he)) (fun h2 => by rw [he] at h2; cases h2)) (fun he => ?_)
          have he : R.err = 0 := by simpa using he
          refine obl_dec hsm.1 (br_mk (fun hg => hfail (fun hk => by rw [hR'] at hk; have h0 : (!decide (errR R = 0)) = true := hg; rw [hk.enc] at h0; cases h0)) (fun hg => ?_))
          have hg : errR R = 0 := by simpa using hg
          refine obl_int (by omega) (br_dec (fun hs => hfail (fun hk => by rw [hR'] at hk; have h0 : sp - (F.L.length : Int) < ((encR R).length : Int) := hs; have h1 := hk.len; omega)) (fun hs => ?_))
          have hs : ¬ (sp - (F.L.length : Int) < ((encR R).length : Int)) := hs
          have hok : OkR sp F R := ⟨he, hg, by omega⟩
          have q1 : ((F.L.length + (encR R).length : Nat) : Int) ≤ 9223372036854775807 := by omega
          refine obl_dec q1 ?_
          refine br_mk (fun hb => br_mk (fun h => obl_tt (decide_eq_true ⟨rfl, rfl, rfl, Nat.succ_pos _, qS1, qS2⟩) (hlast R ⟨F.L ++ encR R, true, F.k + 1, c.k, c.lb⟩ true hR' hok h (by unfold stepF; rw [hM, hb]; rfl) (⟨fun _ => hcl, fun _ => rfl⟩))) (fun h => hnorm R ⟨F.L ++ encR R, true, F.k + 1, c.k, c.lb⟩ true hR' hok h (by unfold stepF; rw [hM, hb]; rfl) (⟨fun _ => hcl, fun _ => rfl⟩))) (fun hb => br_mk (fun hst => br_mk (fun h => obl_tt (decide_eq_true ⟨rfl, rfl, rfl, Nat.succ_pos _, qS1, qS2⟩) (hlast R ⟨F.L ++ encR R, !R.en, F.k + 1, c.k, c.lb⟩ true hR' hok h (by unfold stepF; rw [hM, hb, hst]; rfl) (⟨fun _ => hcl, fun _ => rfl⟩))) (fun h => hnorm R ⟨F.L ++ encR R, !R.en, F.k + 1, c.k, c.lb⟩ true hR' hok h (by unfold stepF; rw [hM, hb, hst]; rfl) (⟨fun _ => hcl, fun _ => rfl⟩))) (fun hst => br_mk (fun h => obl_tt (decide_eq_true ⟨rfl, rfl, rfl, Nat.succ_pos _, qS1, qS2⟩) (hlast R ⟨F.L ++ encR R, false, F.k + 1, c.k, c.lb⟩ true hR' hok h (by unfold stepF; rw [hM, hb, hst]; rfl) (⟨fun _ => hcl, fun _ => rfl⟩))) (fun h => hnorm R ⟨F.L ++ encR R, false, F.k + 1, c.k, c.lb⟩ true hR' hok h (by unfold stepF; rw [hM, hb, hst]; rfl) (⟨fun _ => hcl, fun _ => rfl⟩))))
        · have hlen : (c.lb.length : Int) = lSize c.k := by have := hl; unfold lOk at this; simp at this; omega
          have hM : memOf F c = (F.lk, F.lb) := by unfold memOf memK; rw [if_pos hp, if_neg hne, if_neg (by rintro ⟨h, _⟩; omega)]
          have hR' : stepR sp F c = nxB sp F c := by unfold stepR; rw [q]; rfl
          generalize nxB sp F c = R at hR' ⊢
          have hsm := stepR_small hR' hc
          refine br_mk (fun he => br_mk (fun _ => hfail (fun hk => by rw [hR'] at hk; rw [hk.err] at he; cases he)) (fun h2 => by rw [he] at h2; cases h2)) (fun he => ?_)
          have he : R.err = 0 := by simpa using he
          refine obl_dec hsm.1 (br_mk (fun hg => hfail (fun hk => by rw [hR'] at hk; have h0 : (!decide (errR R = 0)) = true := hg; rw [hk.enc] at h0; cases h0)) (fun hg => ?_))
          have hg : errR R = 0 := by simpa using hg
          refine obl_int (by omega) (br_dec (fun hs => hfail (fun hk => by rw [hR'] at hk; have h0 : sp - (F.L.length : Int) < ((encR R).length : Int) := hs; have h1 := hk.len; omega)) (fun hs => ?_))
          have hs : ¬ (sp - (F.L.length : Int) < ((encR R).length : Int)) := hs
          have hok : OkR sp F R := ⟨he, hg, by omega⟩
          have q1 : ((F.L.length + (encR R).length : Nat) : Int) ≤ 9223372036854775807 := by omega
          refine obl_dec q1 ?_
          refine br_mk (fun hb => br_mk (fun h => obl_tt (decide_eq_true ⟨rfl, rfl, rfl, Nat.succ_pos _, qS1, qS2⟩) (hlast R ⟨F.L ++ encR R, true, F.k + 1, F.lk, F.lb⟩ is hR' hok h (by unfold stepF; rw [hM, hb]; rfl) (his))) (fun h => hnorm R ⟨F.L ++ encR R, true, F.k + 1, F.lk, F.lb⟩ is hR' hok h (by unfold stepF; rw [hM, hb]; rfl) (his))) (fun hb => br_mk (fun hst => br_mk (fun h => obl_tt (decide_eq_true ⟨rfl, rfl, rfl, Nat.succ_pos _, qS1, qS2⟩) (hlast R ⟨F.L ++ encR R, !R.en, F.k + 1, F.lk, F.lb⟩ is hR' hok h (by unfold stepF; rw [hM, hb, hst]; rfl) (his))) (fun h => hnorm R ⟨F.L ++ encR R, !R.en, F.k + 1, F.lk, F.lb⟩ is hR' hok h (by unfold stepF; rw [hM, hb, hst]; rfl) (his))) (fun hst => br_mk (fun h => obl_tt (decide_eq_true ⟨rfl, rfl, rfl, Nat.succ_pos _, qS1, qS2⟩) (hlast R ⟨F.L ++ encR R, false, F.k + 1, F.lk, F.lb⟩ is hR' hok h (by unfold stepF; rw [hM, hb, hst]; rfl) (his))) (fun h => hnorm R ⟨F.L ++ encR R, false, F.k + 1, F.lk, F.lb⟩ is hR' hok h (by unfold stepF; rw [hM, hb, hst]; rfl) (his))))
        · have hM : memOf F c = (F.lk, F.lb) := by unfold memOf memK; rw [if_pos hp, if_neg hne, if_neg (by rintro ⟨_, h⟩; rw [h] at hl; cases hl)]
          have hR' : stepR sp F c = nxB sp F c := by unfold stepR; rw [q]; rfl
          generalize nxB sp F c = R at hR' ⊢
          have hsm := stepR_small hR' hc
          refine br_mk (fun he => br_mk (fun _ => hfail (fun hk => by rw [hR'] at hk; rw [hk.err] at he; cases he)) (fun h2 => by rw [he] at h2; cases h2)) (fun he => ?_)
          have he : R.err = 0 := by simpa using he
          refine obl_dec hsm.1 (br_mk (fun hg => hfail (fun hk => by rw [hR'] at hk; have h0 : (!decide (errR R = 0)) = true := hg; rw [hk.enc] at h0; cases h0)) (fun hg => ?_))
          have hg : errR R = 0 := by simpa using hg
          refine obl_int (by omega) (br_dec (fun hs => hfail (fun hk => by rw [hR'] at hk; have h0 : sp - (F.L.length : Int) < ((encR R).length : Int) := hs; have h1 := hk.len; omega)) (fun hs => ?_))
          have hs : ¬ (sp - (F.L.length : Int) < ((encR R).length : Int)) := hs
          have hok : OkR sp F R := ⟨he, hg, by omega⟩
          have q1 : ((F.L.length + (encR R).length : Nat) : Int) ≤ 9223372036854775807 := by omega
          refine obl_dec q1 ?_
          refine br_mk (fun hb => br_mk (fun h => obl_tt (decide_eq_true ⟨rfl, rfl, rfl, Nat.succ_pos _, qS1, qS2⟩) (hlast R ⟨F.L ++ encR R, true, F.k + 1, F.lk, F.lb⟩ is hR' hok h (by unfold stepF; rw [hM, hb]; rfl) (his))) (fun h => hnorm R ⟨F.L ++ encR R, true, F.k + 1, F.lk, F.lb⟩ is hR' hok h (by unfold stepF; rw [hM, hb]; rfl) (his))) (fun hb => br_mk (fun hst => br_mk (fun h => obl_tt (decide_eq_true ⟨rfl, rfl, rfl, Nat.succ_pos _, qS1, qS2⟩) (hlast R ⟨F.L ++ encR R, !R.en, F.k + 1, F.lk, F.lb⟩ is hR' hok h (by unfold stepF; rw [hM, hb, hst]; rfl) (his))) (fun h => hnorm R ⟨F.L ++ encR R, !R.en, F.k + 1, F.lk, F.lb⟩ is hR' hok h (by unfold stepF; rw [hM, hb, hst]; rfl) (his))) (fun hst => br_mk (fun h => obl_tt (decide_eq_true ⟨rfl, rfl, rfl, Nat.succ_pos _, qS1, qS2⟩) (hlast R ⟨F.L ++ encR R, false, F.k + 1, F.lk, F.lb⟩ is hR' hok h (by unfold stepF; rw [hM, hb, hst]; rfl) (his))) (fun h => hnorm R ⟨F.L ++ encR R, false, F.k + 1, F.lk, F.lb⟩ is hR' hok h (by unfold stepF; rw [hM, hb, hst]; rfl) (his))))
    · have hb0 : ¬ F.lb ≠ [] := fun h => by rw [his.2 h] at hi; cases hi
      have hne : ¬ (F.lb ≠ [] ∧ F.lk = c.k ∧ F.lb = c.lb) := fun h => hb0 h.1
      have q : labOf F c = (c.k, c.lb) := by unfold labOf memL; rw [if_pos hp, if_neg hne]
      refine br_mk (fun hl => br_dec (fun h0 => ?_) (fun h0 => ?_)) (fun hl => ?_)
      · have hlen : (c.lb.length : Int) = lSize c.k := by have := hl; unfold lOk at this; simp at this; omega
        have hcl : c.lb ≠ [] := by rintro h; rw [h] at h0; simp at h0
        have hM : memOf F c = (c.k, c.lb) := by unfold memOf memK; rw [if_pos hp, if_neg hne, if_pos ⟨by omega, hl⟩]
        have hR' : stepR sp F c = nxB sp F c := by unfold stepR; rw [q]; rfl
        generalize nxB sp F c = R at hR' ⊢
        have hsm := stepR_small hR' hc
        refine br_mk (fun he => br_mk (fun _ => hfail (fun hk => by rw [hR'] at hk; rw [hk.err] at he; cases he)) (fun h2 => by rw [he] at h2; cases h2)) (fun he => ?_)
        have he : R.err = 0 := by simpa using he
        refine obl_dec hsm.1 (br_mk (fun hg => hfail (fun hk => by rw [hR'] at hk; have h0 : (!decide (errR R = 0)) = true := hg; rw [hk.enc] at h0; cases h0)) (fun hg => ?_))
        have hg : errR R = 0 := by simpa using hg
        refine obl_int (by omega) (br_dec (fun hs => hfail (fun hk => by rw [hR'] at hk; have h0 : sp - (F.L.length : Int) < ((encR R).length : Int) := hs; have h1 := hk.len; omega)) (fun hs => ?_))
        have hs : ¬ (sp - (F.L.length : Int) < ((encR R).length : Int)) := hs
        have hok : OkR sp F R := ⟨he, hg, by omega⟩
        have q1 : ((F.L.length + (encR R).length : Nat) : Int) ≤ 9223372036854775807 := by omega
        refine obl_dec q1 ?_
        refine br_mk (fun hb => br_mk (fun h => obl_tt (decide_eq_true ⟨rfl, rfl, rfl, Nat.succ_pos _, qS1, qS2⟩) (hlast R ⟨F.L ++ encR R, true, F.k + 1, c.k, c.lb⟩ true hR' hok h (by unfold stepF; rw [hM, hb]; rfl) (⟨fun _ => hcl, fun _ => rfl⟩))) (fun h => hnorm R ⟨F.L ++ encR R, true, F.k + 1, c.k, c.lb⟩ true hR' hok h (by unfold stepF; rw [hM, hb]; rfl) (⟨fun _ => hcl, fun _ => rfl⟩))) (fun hb => br_mk (fun hst => br_mk (fun h => obl_tt (decide_eq_true ⟨rfl, rfl, rfl, Nat.succ_pos _, qS1, qS2⟩) (hlast R ⟨F.L ++ encR R, !R.en, F.k + 1, c.k, c.lb⟩ true hR' hok h (by unfold stepF; rw [hM, hb, hst]; rfl) (⟨fun _ => hcl, fun _ => rfl⟩))) (fun h => hnorm R ⟨F.L ++ encR R, !R.en, F.k + 1, c.k, c.lb⟩ true hR' hok h (by unfold stepF; rw [hM, hb, hst]; rfl) (⟨fun _ => hcl, fun _ => rfl⟩))) (fun hst => br_mk (fun h => obl_tt (decide_eq_true ⟨rfl, rfl, rfl, Nat.succ_pos _, qS1, qS2⟩) (hlast R ⟨F.L ++ encR R, false, F.k + 1, c.k, c.lb⟩ true hR' hok h (by unfold stepF; rw [hM, hb, hst]; rfl) (⟨fun _ => hcl, fun _ => rfl⟩))) (fun h => hnorm R ⟨F.L ++ encR R, false, F.k + 1, c.k, c.lb⟩ true hR' hok h (by unfold stepF; rw [hM, hb, hst]; rfl) (⟨fun _ => hcl, fun _ => rfl⟩))))
      · have hlen : (c.lb.length : Int) = lSize c.k := by have := hl; unfold lOk at this; simp at this; omega
        have hM : memOf F c = (F.lk, F.lb) := by unfold memOf memK; rw [if_pos hp, if_neg hne, if_neg (by rintro ⟨h, _⟩; omega)]
        have hR' : stepR sp F c = nxB sp F c := by unfold stepR; rw [q]; rfl
        generalize nxB sp F c = R at hR' ⊢
        have hsm := stepR_small hR' hc
        refine br_mk (fun he => br_mk (fun _ => hfail (fun hk => by rw [hR'] at hk; rw [hk.err] at he; cases he)) (fun h2 => by rw [he] at h2; cases h2)) (fun he => ?_)
        have he : R.err = 0 := by simpa using he
        refine obl_dec hsm.1 (br_mk (fun hg => hfail (fun hk => by rw [hR'] at hk; have h0 : (!decide (errR R = 0)) = true := hg; rw [hk.enc] at h0; cases h0)) (fun hg => ?_))
        have hg : errR R = 0 := by simpa using hg
        refine obl_int (by omega) (br_dec (fun hs => hfail (fun hk => by rw [hR'] at hk; have h0 : sp - (F.L.length : Int) < ((encR R).length : Int) := hs; have h1 := hk.len; omega)) (fun hs => ?_))
        have hs : ¬ (sp - (F.L.length : Int) < ((encR R).length : Int)) := hs
        have hok : OkR sp F R := ⟨he, hg, by omega⟩
        have q1 : ((F.L.length + (encR R).length : Nat) : Int) ≤ 9223372036854775807 := by omega
        refine obl_dec q1 ?_
        refine br_mk (fun hb => br_mk (fun h => obl_tt (decide_eq_true ⟨rfl, rfl, rfl, Nat.succ_pos _, qS1, qS2⟩) (hlast R ⟨F.L ++ encR R, true, F.k + 1, F.lk, F.lb⟩ is hR' hok h (by unfold stepF; rw [hM, hb]; rfl) (his))) (fun h => hnorm R ⟨F.L ++ encR R, true, F.k + 1, F.lk, F.lb⟩ is hR' hok h (by unfold stepF; rw [hM, hb]; rfl) (his))) (fun hb => br_mk (fun hst => br_mk (fun h => obl_tt (decide_eq_true ⟨rfl, rfl, rfl, Nat.succ_pos _, qS1, qS2⟩) (hlast R ⟨F.L ++ encR R, !R.en, F.k + 1, F.lk, F.lb⟩ is hR' hok h (by unfold stepF; rw [hM, hb, hst]; rfl) (his))) (fun h => hnorm R ⟨F.L ++ encR R, !R.en, F.k + 1, F.lk, F.lb⟩ is hR' hok h (by unfold stepF; rw [hM, hb, hst]; rfl) (his))) (fun hst => br_mk (fun h => obl_tt (decide_eq_true ⟨rfl, rfl, rfl, Nat.succ_pos _, qS1, qS2⟩) (hlast R ⟨F.L ++ encR R, false, F.k + 1, F.lk, F.lb⟩ is hR' hok h (by unfold stepF; rw [hM, hb, hst]; rfl) (his))) (fun h => hnorm R ⟨F.L ++ encR R, false, F.k + 1, F.lk, F.lb⟩ is hR' hok h (by unfold stepF; rw [hM, hb, hst]; rfl) (his))))
      · have hM : memOf F c = (F.lk, F.lb) := by unfold memOf memK; rw [if_pos hp, if_neg hne, if_neg (by rintro ⟨_, h⟩; rw [h] at hl; cases hl)]
        have hR' : stepR sp F c = nxB sp F c := by unfold stepR; rw [q]; rfl
        generalize nxB sp F c = R at hR' ⊢
        have hsm := stepR_small hR' hc
        refine br_mk (fun he => br_mk (fun _ => hfail (fun hk => by rw [hR'] at hk; rw [hk.err] at he; cases he)) (fun h2 => by rw [he] at h2; cases h2)) (fun he => ?_)
        have he : R.err = 0 := by simpa using he
        refine obl_dec hsm.1 (br_mk (fun hg => hfail (fun hk => by rw [hR'] at hk; have h0 : (!decide (errR R = 0)) = true := hg; rw [hk.enc] at h0; cases h0)) (fun hg => ?_))
        have hg : errR R = 0 := by simpa using hg
        refine obl_int (by omega) (br_dec (fun hs => hfail (fun hk => by rw [hR'] at hk; have h0 : sp - (F.L.length : Int) < ((encR R).length : Int) := hs; have h1 := hk.len; omega)) (fun hs => ?_))
        have hs : ¬ (sp - (F.L.length : Int) < ((encR R).length : Int)) := hs
        have hok : OkR sp F R := ⟨he, hg, by omega⟩
        have q1 : ((F.L.length + (encR R).length : Nat) : Int) ≤ 9223372036854775807 := by omega
        refine obl_dec q1 ?_
        refine br_mk (fun hb => br_mk (fun h => obl_tt (decide_eq_true ⟨rfl, rfl, rfl, Nat.succ_pos _, qS1, qS2⟩) (hlast R ⟨F.L ++ encR R, true, F.k + 1, F.lk, F.lb⟩ is hR' hok h (by unfold stepF; rw [hM, hb]; rfl) (his))) (fun h => hnorm R ⟨F.L ++ encR R, true, F.k + 1, F.lk, F.lb⟩ is hR' hok h (by unfold stepF; rw [hM, hb]; rfl) (his))) (fun hb => br_mk (fun hst => br_mk (fun h => obl_tt (decide_eq_true ⟨rfl, rfl, rfl, Nat.succ_pos _, qS1, qS2⟩) (hlast R ⟨F.L ++ encR R, !R.en, F.k + 1, F.lk, F.lb⟩ is hR' hok h (by unfold stepF; rw [hM, hb, hst]; rfl) (his))) (fun h => hnorm R ⟨F.L ++ encR R, !R.en, F.k + 1, F.lk, F.lb⟩ is hR' hok h (by unfold stepF; rw [hM, hb, hst]; rfl) (his))) (fun hst => br_mk (fun h => obl_tt (decide_eq_true ⟨rfl, rfl, rfl, Nat.succ_pos _, qS1, qS2⟩) (hlast R ⟨F.L ++ encR R, false, F.k + 1, F.lk, F.lb⟩ is hR' hok h (by unfold stepF; rw [hM, hb, hst]; rfl) (his))) (fun h => hnorm R ⟨F.L ++ encR R, false, F.k + 1, F.lk, F.lb⟩ is hR' hok h (by unfold stepF; rw [hM, hb, hst]; rfl) (his))))
  · have q : labOf F c = (c.k, c.lb) := by unfold labOf; rw [if_neg hp]
    have hM : memOf F c = (F.lk, F.lb) := by unfold memOf; rw [if_neg hp]
    have hR' : stepR sp F c = nxB sp F c := by unfold stepR; rw [q]; rfl
    generalize nxB sp F c = R at hR' ⊢
    have hsm := stepR_small hR' hc
    refine br_mk (fun he => br_mk (fun _ => hfail (fun hk => by rw [hR'] at hk; rw [hk.err] at he; cases he)) (fun h2 => by rw [he] at h2; cases h2)) (fun he => ?_)
    have he : R.err = 0 := by simpa using he
    refine obl_dec hsm.1 (br_mk (fun hg => hfail (fun hk => by rw [hR'] at hk; have h0 : (!decide (errR R = 0)) = true := hg; rw [hk.enc] at h0; cases h0)) (fun hg => ?_))
    have hg : errR R = 0 := by simpa using hg
    refine obl_int (by omega) (br_dec (fun hs => hfail (fun hk => by rw [hR'] at hk; have h0 : sp - (F.L.length : Int) < ((encR R).length : Int) := hs; have h1 := hk.len; omega)) (fun hs => ?_))
    have hs : ¬ (sp - (F.L.length : Int) < ((encR R).length : Int)) := hs
    have hok : OkR sp F R := ⟨he, hg, by omega⟩
    have q1 : ((F.L.length + (encR R).length : Nat) : Int) ≤ 9223372036854775807 := by omega
    refine obl_dec q1 ?_
    refine br_mk (fun hb => br_mk (fun h => obl_tt (decide_eq_true ⟨rfl, rfl, rfl, Nat.succ_pos _, qS1, qS2⟩) (hlast R ⟨F.L ++ encR R, true, F.k + 1, F.lk, F.lb⟩ is hR' hok h (by unfold stepF; rw [hM, hb]; rfl) (his))) (fun h => hnorm R ⟨F.L ++ encR R, true, F.k + 1, F.lk, F.lb⟩ is hR' hok h (by unfold stepF; rw [hM, hb]; rfl) (his))) (fun hb => br_mk (fun hst => br_mk (fun h => obl_tt (decide_eq_true ⟨rfl, rfl, rfl, Nat.succ_pos _, qS1, qS2⟩) (hlast R ⟨F.L ++ encR R, !R.en, F.k + 1, F.lk, F.lb⟩ is hR' hok h (by unfold stepF; rw [hM, hb, hst]; rfl) (his))) (fun h => hnorm R ⟨F.L ++ encR R, !R.en, F.k + 1, F.lk, F.lb⟩ is hR' hok h (by unfold stepF; rw [hM, hb, hst]; rfl) (his))) (fun hst => br_mk (fun h => obl_tt (decide_eq_true ⟨rfl, rfl, rfl, Nat.succ_pos _, qS1, qS2⟩) (hlast R ⟨F.L ++ encR R, false, F.k + 1, F.lk, F.lb⟩ is hR' hok h (by unfold stepF; rw [hM, hb, hst]; rfl) (his))) (fun h => hnorm R ⟨F.L ++ encR R, false, F.k + 1, F.lk, F.lb⟩ is hR' hok h (by unfold stepF; rw [hM, hb, hst]; rfl) (his))))
end Go.Proofs.Ytjacnjecggedhaa
namespace Go.Proofs.Ytjacnjecggedhaa
set_option linter.unusedVariables false
set_option linter.unusedSimpArgs false
open Go.RowKit Ev
set_option maxRecDepth 100000 in
theorem w_rf_pre (os : List RefR) (sp : Int) (It : Env → AHeap → Prop) (Q : AExit → Env → AHeap → Prop) : (wpN (TQR.ctx Try.prog) 5 400 11 1 rfB (env0 [.sl 0 0 7 0 os.length none, .int .i64 sp] 0) ⟨1, [(0, rRow os)]⟩ (fun E H => canonK 1 [0, 1, 6, 7, 8, 9] E H It) Q
) =  (It [(0, AVal.sl 0 0 7 0 os.length none), (1, AVal.int IntKind.i64 sp), (6, AVal.ptr 1 0 0 0), (7, AVal.str []), (8, AVal.nils), (9, AVal.bool false)] (AHeap.mk 2 [(0, ABlk.row 80 refRow os
 RowMd.plain), (1, ABlk.cells 77 [AVal.int IntKind.i64 (0 : Int), AVal.str [], AVal.bool false])])) := by kernel_rfl
set_option maxRecDepth 100000 in
theorem w_rf_set (os : List RefR) (sp : Int) (F : FSt) (is : Bool) (Q : AExit → Env → AHeap → Prop) : (wpC (TQR.ctx Try.prog) 400 11 1 (seqL (seqL (tailN 5 rfB))) (rn os sp F is []).1 (rn os sp F is []).2 (canQ 1 tsR Q)
) =  (Q AExit.normal [(0, AVal.sl 0 0 7 0 os.length none), (1, AVal.int IntKind.i64 sp), (6, AVal.ptr 1 0 0 0), (7, AVal.str F.L), (8, AVal.nils), (9, AVal.bool F.beg), (10, AVal.int IntKind.i64 (0 :
 Int))] (AHeap.mk 2 [(0, ABlk.row 80 refRow os RowMd.plain), (1, ABlk.cells 77 [AVal.int IntKind.i64 F.lk, AVal.str F.lb, AVal.bool is])])) := by kernel_rfl
set_option maxRecDepth 100000 in
theorem w_rf7_n (os : List RefR) (sp : Int) (F : FSt) (is : Bool) (i : Nat) (Q : AExit → Env → AHeap → Prop) : (wpC (TQR.ctx Try.prog) 400 11 1 (seqL rfO) (rn os sp F is (r10 i)).1 (rn os sp F is (r10 i)).2 (canQ 1 tsR Q)
) =  (branch (decide ((↑i : Int) < (↑os.length : Int))) (branch (decide ((0 : Int) < sp)) (Q AExit.normal [(0, AVal.sl 0 0 7 0 os.length none), (1, AVal.int IntKind.i64 sp), (6, AVal.ptr 1 0 0 0), (7,
 AVal.str F.L), (8, AVal.nils), (9, AVal.bool F.beg), (10, AVal.int IntKind.i64 (↑i : Int))] (AHeap.mk 2 [(0, ABlk.row 80 refRow os RowMd.plain), (1, ABlk.cells 77 [AVal.int IntKind.i64 F.lk, AVal.str
 F.lb, AVal.bool is])])) (Q (AExit.exit 0) [(0, AVal.sl 0 0 7 0 os.length none), (1, AVal.int IntKind.i64 sp), (6, AVal.ptr 1 0 0 0), (7, AVal.str F.L), (8, AVal.nils), (9, AVal.bool F.beg), (10,
 AVal.int IntKind.i64 (↑i : Int))] (AHeap.mk 2 [(0, ABlk.row 80 refRow os RowMd.plain), (1, ABlk.cells 77 [AVal.int IntKind.i64 F.lk, AVal.str F.lb, AVal.bool is])]))) (Q (AExit.exit 0) [(0, AVal.sl 0
 0 7 0 os.length none), (1, AVal.int IntKind.i64 sp), (6, AVal.ptr 1 0 0 0), (7, AVal.str F.L), (8, AVal.nils), (9, AVal.bool F.beg), (10, AVal.int IntKind.i64 (↑i : Int))] (AHeap.mk 2 [(0, ABlk.row 80
 refRow os RowMd.plain), (1, ABlk.cells 77 [AVal.int IntKind.i64 F.lk, AVal.str F.lb, AVal.bool is])]))) := by kernel_rfl
set_option maxRecDepth 100000 in
theorem w_rf7_s (os : List RefR) (sp : Int) (F : FSt) (is : Bool) (S : List Int) (i : Nat) (Q : AExit → Env → AHeap → Prop) : (wpC (TQR.ctx Try.prog) 400 11 1 (seqL rfO) (rs os sp F is S (r10 i)).1 (rs os sp F is S (r10 i)).2 (canQ 1 tsR Q)
) =  (branch (decide ((↑i : Int) < (↑os.length : Int))) (branch (decide ((0 : Int) < sp)) (Q AExit.normal [(0, AVal.sl 0 0 7 0 os.length none), (1, AVal.int IntKind.i64 sp), (6, AVal.ptr 1 0 0 0), (7,
 AVal.str F.L), (8, AVal.sl 2 0 1 0 S.length none), (9, AVal.bool F.beg), (10, AVal.int IntKind.i64 (↑i : Int))] (AHeap.mk 3 [(0, ABlk.row 80 refRow os RowMd.plain), (1, ABlk.cells 77 [AVal.int
 IntKind.i64 F.lk, AVal.str F.lb, AVal.bool is]), (2, ABlk.row 33 (intRow IntKind.u64) S RowMd.plain)])) (Q (AExit.exit 0) [(0, AVal.sl 0 0 7 0 os.length none), (1, AVal.int IntKind.i64 sp), (6,
 AVal.ptr 1 0 0 0), (7, AVal.str F.L), (8, AVal.sl 2 0 1 0 S.length none), (9, AVal.bool F.beg), (10, AVal.int IntKind.i64 (↑i : Int))] (AHeap.mk 3 [(0, ABlk.row 80 refRow os RowMd.plain), (1,
 ABlk.cells 77 [AVal.int IntKind.i64 F.lk, AVal.str F.lb, AVal.bool is]), (2, ABlk.row 33 (intRow IntKind.u64) S RowMd.plain)]))) (Q (AExit.exit 0) [(0, AVal.sl 0 0 7 0 os.length none), (1, AVal.int
 IntKind.i64 sp), (6, AVal.ptr 1 0 0 0), (7, AVal.str F.L), (8, AVal.sl 2 0 1 0 S.length none), (9, AVal.bool F.beg), (10, AVal.int IntKind.i64 (↑i : Int))] (AHeap.mk 3 [(0, ABlk.row 80 refRow os
 RowMd.plain), (1, ABlk.cells 77 [AVal.int IntKind.i64 F.lk, AVal.str F.lb, AVal.bool is]), (2, ABlk.row 33 (intRow IntKind.u64) S RowMd.plain)]))) := by kernel_rfl
set_option maxRecDepth 100000 in
theorem w_rf8_n (os : List RefR) (sp : Int) (F : FSt) (is : Bool) (i : Nat) (Q : AExit → Env → AHeap → Prop) : (wpC (TQR.ctx Try.prog) 400 11 1 (codeAt [true, true, true, true, true, false, true, false, false, true, false, false, false] rfB) (rn os sp F is (r10 i)).1 (rn os sp F is (r10 i)).2 (canQ 1 tsR1 Q)
) =  (obl (decide ((0 : Int) ≤ (↑i : Int) ∧ (↑i : Int) < (↑os.length : Int))) (obl (decide (0 + (↑i : Int).toNat < os.length)) (Q AExit.normal [(0, AVal.sl 0 0 7 0 os.length none), (1, AVal.int IntKind.i64
 sp), (6, AVal.ptr 1 0 0 0), (7, AVal.str F.L), (8, AVal.nils), (9, AVal.bool F.beg), (10, AVal.int IntKind.i64 (↑i : Int)), (11, AVal.ptr 2 0 0 0)] (AHeap.mk 3 [(0, ABlk.row 80 refRow os RowMd.plain),
 (1, ABlk.cells 77 [AVal.int IntKind.i64 F.lk, AVal.str F.lb, AVal.bool is]), (2, ABlk.cells 80 [AVal.int IntKind.u64 (os.getD (0 + (↑i : Int).toNat) (RefR.mk (0 : Int) (0 : Int) (0 : Int) [] [] (0 :
 Int) (0 : Int))).no, AVal.int IntKind.i64 (os.getD (0 + (↑i : Int).toNat) (RefR.mk (0 : Int) (0 : Int) (0 : Int) [] [] (0 : Int) (0 : Int))).typ, AVal.int IntKind.i64 (os.getD (0 + (↑i : Int).toNat)
 (RefR.mk (0 : Int) (0 : Int) (0 : Int) [] [] (0 : Int) (0 : Int))).k, AVal.str (os.getD (0 + (↑i : Int).toNat) (RefR.mk (0 : Int) (0 : Int) (0 : Int) [] [] (0 : Int) (0 : Int))).lb, AVal.str (os.getD
 (0 + (↑i : Int).toNat) (RefR.mk (0 : Int) (0 : Int) (0 : Int) [] [] (0 : Int) (0 : Int))).data, AVal.int IntKind.i64 (os.getD (0 + (↑i : Int).toNat) (RefR.mk (0 : Int) (0 : Int) (0 : Int) [] [] (0 :
 Int) (0 : Int))).pos, AVal.int IntKind.i64 (os.getD (0 + (↑i : Int).toNat) (RefR.mk (0 : Int) (0 : Int) (0 : Int) [] [] (0 : Int) (0 : Int))).id])])))) := by kernel_rfl
set_option maxRecDepth 100000 in
theorem w_rf8_s (os : List RefR) (sp : Int) (F : FSt) (is : Bool) (S : List Int) (i : Nat) (Q : AExit → Env → AHeap → Prop) : (wpC (TQR.ctx Try.prog) 400 11 1 (codeAt [true, true, true, true, true, false, true, false, false, true, false, false, false] rfB) (rs os sp F is S (r10 i)).1 (rs os sp F is S (r10 i)).2 (canQ 1 tsR1 Q)
) =  (obl (decide ((0 : Int) ≤ (↑i : Int) ∧ (↑i : Int) < (↑os.length : Int))) (obl (decide (0 + (↑i : Int).toNat < os.length)) (Q AExit.normal [(0, AVal.sl 0 0 7 0 os.length none), (1, AVal.int IntKind.i64
 sp), (6, AVal.ptr 1 0 0 0), (7, AVal.str F.L), (8, AVal.sl 2 0 1 0 S.length none), (9, AVal.bool F.beg), (10, AVal.int IntKind.i64 (↑i : Int)), (11, AVal.ptr 3 0 0 0)] (AHeap.mk 4 [(0, ABlk.row 80
 refRow os RowMd.plain), (1, ABlk.cells 77 [AVal.int IntKind.i64 F.lk, AVal.str F.lb, AVal.bool is]), (2, ABlk.row 33 (intRow IntKind.u64) S RowMd.plain), (3, ABlk.cells 80 [AVal.int IntKind.u64
 (os.getD (0 + (↑i : Int).toNat) (RefR.mk (0 : Int) (0 : Int) (0 : Int) [] [] (0 : Int) (0 : Int))).no, AVal.int IntKind.i64 (os.getD (0 + (↑i : Int).toNat) (RefR.mk (0 : Int) (0 : Int) (0 : Int) [] []
 (0 : Int) (0 : Int))).typ, AVal.int IntKind.i64 (os.getD (0 + (↑i : Int).toNat) (RefR.mk (0 : Int) (0 : Int) (0 : Int) [] [] (0 : Int) (0 : Int))).k, AVal.str (os.getD (0 + (↑i : Int).toNat) (RefR.mk
 (0 : Int) (0 : Int) (0 : Int) [] [] (0 : Int) (0 : Int))).lb, AVal.str (os.getD (0 + (↑i : Int).toNat) (RefR.mk (0 : Int) (0 : Int) (0 : Int) [] [] (0 : Int) (0 : Int))).data, AVal.int IntKind.i64
 (os.getD (0 + (↑i : Int).toNat) (RefR.mk (0 : Int) (0 : Int) (0 : Int) [] [] (0 : Int) (0 : Int))).pos, AVal.int IntKind.i64 (os.getD (0 + (↑i : Int).toNat) (RefR.mk (0 : Int) (0 : Int) (0 : Int) []
 [] (0 : Int) (0 : Int))).id])])))) := by kernel_rfl
set_option maxRecDepth 100000 in
theorem w_rf9_s (os : List RefR) (sp : Int) (F : FSt) (is : Bool) (S : List Int) (i : Nat) (Q : AExit → Env → AHeap → Prop) : (wpC (TQR.ctx Try.prog) 400 11 1 (seqR (seqR rfO)) (rs os sp F is S (r10 i)).1 (rs os sp F is S (r10 i)).2 (canQ 1 tsR Q)
) =  (obl (inI64 ((↑i : Int) + (1 : Int))) (Q AExit.normal [(0, AVal.sl 0 0 7 0 os.length none), (1, AVal.int IntKind.i64 sp), (6, AVal.ptr 1 0 0 0), (7, AVal.str F.L), (8, AVal.sl 2 0 1 0 S.length none),
 (9, AVal.bool F.beg), (10, AVal.int IntKind.i64 ((↑i : Int) + (1 : Int)))] (AHeap.mk 3 [(0, ABlk.row 80 refRow os RowMd.plain), (1, ABlk.cells 77 [AVal.int IntKind.i64 F.lk, AVal.str F.lb, AVal.bool
 is]), (2, ABlk.row 33 (intRow IntKind.u64) S RowMd.plain)]))) := by kernel_rfl
set_option maxRecDepth 100000 in
theorem w_rfe_n (os : List RefR) (sp : Int) (F : FSt) (is : Bool) (i : Int) (K : Out → AHeap → Prop) : (wpC (TQR.ctx Try.prog) 400 11 1 (seqR (tailN 5 rfB)) (rn os sp F is (r10 i)).1 (rn os sp F is (r10 i)).2 (canQ 1 tsR (endA (TQR.ctx Try.prog).P Try.f11 K))
) =  (K (Out.ret (AVal.tup [AVal.str F.L, AVal.nils])) (AHeap.mk 1 [(0, ABlk.row 80 refRow os RowMd.plain)])) := by kernel_rfl
set_option maxRecDepth 100000 in
theorem w_rfe_s (os : List RefR) (sp : Int) (F : FSt) (is : Bool) (S : List Int) (i : Int) (K : Out → AHeap → Prop) : (wpC (TQR.ctx Try.prog) 400 11 1 (seqR (tailN 5 rfB)) (rs os sp F is S (r10 i)).1 (rs os sp F is S (r10 i)).2 (canQ 1 tsR (endA (TQR.ctx Try.prog).P Try.f11 K))
) =  (K (Out.ret (AVal.tup [AVal.str F.L, AVal.sl 1 0 1 0 S.length none])) (AHeap.mk 2 [(0, ABlk.row 80 refRow os RowMd.plain), (1, ABlk.row 33 (intRow IntKind.u64) S RowMd.plain)])) := by kernel_rfl
end Go.Proofs.Ytjacnjecggedhaa
