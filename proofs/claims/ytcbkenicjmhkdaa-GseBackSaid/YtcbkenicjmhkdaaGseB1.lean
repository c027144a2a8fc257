/-
  Walks, printed: what calls come to, as they are reckoned.
-/
import Derived.Test.YtcbkenicjmhkdaaGseAll2
import Derived.Test.YtcbkenicjmhkdaaEvFn
namespace Go.Proofs.Ytcbkenicjmhkdaa
set_option linter.unusedVariables false
set_option linter.unusedSimpArgs false
open Go.RowKit Ev

set_option maxRecDepth 100000 in
theorem w_rallpre (s : List UInt8) (KK : Env → AHeap → Prop) (Q : AExit → Env → AHeap → Prop) : (wpN (TA.ctx Try.prog) 2 60 18 0 (bodyC Try.f18) (env0 [.str s] 0) ⟨0, []⟩ KK Q
) = (KK
  [((4 : Nat), AVal.nils), ((3 : Nat), AVal.int IntKind.i64 (0 : Int)), ((2 : Nat), AVal.nils), ((0 : Nat), AVal.str s)]
  (AHeap.mk (0 : Nat) [])) := by kernel_rfl

set_option maxRecDepth 100000 in
theorem w_rallround_nil (s : List UInt8) (QQ : AExit → Env → AHeap → Prop) : (wpC (TA.ctx Try.prog) 60 18 0 (lpC (blkC (tailN 2 (bodyC Try.f18)))) [(0, .str s), (4, .nils)] ⟨1, []⟩ QQ
) = (obl (decide (s.length ≤ (9223372036854775000 : Nat)))
  (branch (decide ((dec s).e = (5 : Int)))
    (QQ AExit.ret
      [((3 : Nat), AVal.int IntKind.i64 (0 : Int)), ((2 : Nat), AVal.nils), ((16 : Nat), AVal.nils),
        ((15 : Nat), AVal.bool (decide ((dec s).e = (5 : Int)))), ((14 : Nat), AVal.int IntKind.i64 (dec s).e),
        ((7 : Nat), AVal.int IntKind.i64 (dec s).e), ((6 : Nat), AVal.int IntKind.i64 (dec s).n),
        ((5 : Nat), AVal.ptr (1 : Nat) (0 : Nat) (0 : Nat) (0 : Nat)), ((13 : Nat), AVal.int IntKind.i64 (dec s).e),
        ((12 : Nat), AVal.int IntKind.i64 (dec s).n),
        ((11 : Nat),
          AVal.agg
            [AVal.bool (dec s).p.st, AVal.bool (dec s).p.en, AVal.int IntKind.i64 (dec s).p.id,
              AVal.int IntKind.i64 (dec s).p.total, AVal.int IntKind.i64 (dec s).p.typ,
              AVal.int IntKind.i64 (dec s).p.k, AVal.str (dec s).p.lb, AVal.str (dec s).p.data,
              AVal.str (dec s).p.sum]),
        ((8 : Nat),
          AVal.tup
            [AVal.agg
                [AVal.bool (dec s).p.st, AVal.bool (dec s).p.en, AVal.int IntKind.i64 (dec s).p.id,
                  AVal.int IntKind.i64 (dec s).p.total, AVal.int IntKind.i64 (dec s).p.typ,
                  AVal.int IntKind.i64 (dec s).p.k, AVal.str (dec s).p.lb, AVal.str (dec s).p.data,
                  AVal.str (dec s).p.sum],
              AVal.int IntKind.i64 (dec s).n, AVal.int IntKind.i64 (dec s).e]),
        ((10 : Nat),
          AVal.tup
            [AVal.agg
                [AVal.bool (dec s).p.st, AVal.bool (dec s).p.en, AVal.int IntKind.i64 (dec s).p.id,
                  AVal.int IntKind.i64 (dec s).p.total, AVal.int IntKind.i64 (dec s).p.typ,
                  AVal.int IntKind.i64 (dec s).p.k, AVal.str (dec s).p.lb, AVal.str (dec s).p.data,
                  AVal.str (dec s).p.sum],
              AVal.int IntKind.i64 (dec s).n, AVal.int IntKind.i64 (dec s).e]),
        ((9 : Nat), AVal.str s), ((0 : Nat), AVal.str s), ((4 : Nat), AVal.nils)]
      (AHeap.mk (2 : Nat)
        [((1 : Nat),
            ABlk.cells (27 : Nat)
              [AVal.bool (dec s).p.st, AVal.bool (dec s).p.en, AVal.int IntKind.i64 (dec s).p.id,
                AVal.int IntKind.i64 (dec s).p.total, AVal.int IntKind.i64 (dec s).p.typ,
                AVal.int IntKind.i64 (dec s).p.k, AVal.str (dec s).p.lb, AVal.str (dec s).p.data,
                AVal.str (dec s).p.sum]),
          ((1 : Nat),
            ABlk.cells (27 : Nat)
              [AVal.bool false, AVal.bool false, AVal.int IntKind.i64 (0 : Int), AVal.int IntKind.i64 (0 : Int),
                AVal.int IntKind.i64 (0 : Int), AVal.int IntKind.i64 (0 : Int), AVal.str [], AVal.str [],
                AVal.str []])]))
    (branch (!decide ((dec s).e = (0 : Int)))
      (QQ AExit.ret
        [((3 : Nat), AVal.int IntKind.i64 (dec s).e), ((2 : Nat), AVal.nils),
          ((20 : Nat), AVal.int IntKind.i64 (dec s).e), ((19 : Nat), AVal.nils),
          ((18 : Nat), AVal.bool !decide ((dec s).e = (0 : Int))), ((17 : Nat), AVal.int IntKind.i64 (dec s).e),
          ((15 : Nat), AVal.bool (decide ((dec s).e = (5 : Int)))), ((14 : Nat), AVal.int IntKind.i64 (dec s).e),
          ((7 : Nat), AVal.int IntKind.i64 (dec s).e), ((6 : Nat), AVal.int IntKind.i64 (dec s).n),
          ((5 : Nat), AVal.ptr (1 : Nat) (0 : Nat) (0 : Nat) (0 : Nat)), ((13 : Nat), AVal.int IntKind.i64 (dec s).e),
          ((12 : Nat), AVal.int IntKind.i64 (dec s).n),
          ((11 : Nat),
            AVal.agg
              [AVal.bool (dec s).p.st, AVal.bool (dec s).p.en, AVal.int IntKind.i64 (dec s).p.id,
                AVal.int IntKind.i64 (dec s).p.total, AVal.int IntKind.i64 (dec s).p.typ,
                AVal.int IntKind.i64 (dec s).p.k, AVal.str (dec s).p.lb, AVal.str (dec s).p.data,
                AVal.str (dec s).p.sum]),
          ((8 : Nat),
            AVal.tup
              [AVal.agg
                  [AVal.bool (dec s).p.st, AVal.bool (dec s).p.en, AVal.int IntKind.i64 (dec s).p.id,
                    AVal.int IntKind.i64 (dec s).p.total, AVal.int IntKind.i64 (dec s).p.typ,
                    AVal.int IntKind.i64 (dec s).p.k, AVal.str (dec s).p.lb, AVal.str (dec s).p.data,
                    AVal.str (dec s).p.sum],
                AVal.int IntKind.i64 (dec s).n, AVal.int IntKind.i64 (dec s).e]),
          ((10 : Nat),
            AVal.tup
              [AVal.agg
                  [AVal.bool (dec s).p.st, AVal.bool (dec s).p.en, AVal.int IntKind.i64 (dec s).p.id,
                    AVal.int IntKind.i64 (dec s).p.total, AVal.int IntKind.i64 (dec s).p.typ,
                    AVal.int IntKind.i64 (dec s).p.k, AVal.str (dec s).p.lb, AVal.str (dec s).p.data,
                    AVal.str (dec s).p.sum],
                AVal.int IntKind.i64 (dec s).n, AVal.int IntKind.i64 (dec s).e]),
          ((9 : Nat), AVal.str s), ((0 : Nat), AVal.str s), ((4 : Nat), AVal.nils)]
        (AHeap.mk (2 : Nat)
          [((1 : Nat),
              ABlk.cells (27 : Nat)
                [AVal.bool (dec s).p.st, AVal.bool (dec s).p.en, AVal.int IntKind.i64 (dec s).p.id,
                  AVal.int IntKind.i64 (dec s).p.total, AVal.int IntKind.i64 (dec s).p.typ,
                  AVal.int IntKind.i64 (dec s).p.k, AVal.str (dec s).p.lb, AVal.str (dec s).p.data,
                  AVal.str (dec s).p.sum]),
            ((1 : Nat),
              ABlk.cells (27 : Nat)
                [AVal.bool false, AVal.bool false, AVal.int IntKind.i64 (0 : Int), AVal.int IntKind.i64 (0 : Int),
                  AVal.int IntKind.i64 (0 : Int), AVal.int IntKind.i64 (0 : Int), AVal.str [], AVal.str [],
                  AVal.str []])]))
      (obl (decide ((0 : Int) ≤ (dec s).n ∧ (dec s).n ≤ (↑s.length : Int)))
        (QQ AExit.normal
          [((0 : Nat), AVal.str (List.drop (dec s).n.toNat s)), ((27 : Nat), AVal.str (List.drop (dec s).n.toNat s)),
            ((26 : Nat), AVal.int IntKind.i64 (dec s).n), ((25 : Nat), AVal.str s),
            ((4 : Nat), AVal.sl (3 : Nat) (0 : Nat) (9 : Nat) (0 : Nat) (1 : Nat) none),
            ((24 : Nat), AVal.sl (3 : Nat) (0 : Nat) (9 : Nat) (0 : Nat) (1 : Nat) none),
            ((23 : Nat), AVal.sl (2 : Nat) (0 : Nat) (9 : Nat) (0 : Nat) (1 : Nat) (some (1 : Nat))),
            ((22 : Nat),
              AVal.agg
                [AVal.bool (dec s).p.st, AVal.bool (dec s).p.en, AVal.int IntKind.i64 (dec s).p.id,
                  AVal.int IntKind.i64 (dec s).p.total, AVal.int IntKind.i64 (dec s).p.typ,
                  AVal.int IntKind.i64 (dec s).p.k, AVal.str (dec s).p.lb, AVal.str (dec s).p.data,
                  AVal.str (dec s).p.sum]),
            ((21 : Nat), AVal.nils), ((18 : Nat), AVal.bool !decide ((dec s).e = (0 : Int))),
            ((17 : Nat), AVal.int IntKind.i64 (dec s).e), ((15 : Nat), AVal.bool (decide ((dec s).e = (5 : Int)))),
            ((14 : Nat), AVal.int IntKind.i64 (dec s).e), ((7 : Nat), AVal.int IntKind.i64 (dec s).e),
            ((6 : Nat), AVal.int IntKind.i64 (dec s).n), ((5 : Nat), AVal.ptr (1 : Nat) (0 : Nat) (0 : Nat) (0 : Nat)),
            ((13 : Nat), AVal.int IntKind.i64 (dec s).e), ((12 : Nat), AVal.int IntKind.i64 (dec s).n),
            ((11 : Nat),
              AVal.agg
                [AVal.bool (dec s).p.st, AVal.bool (dec s).p.en, AVal.int IntKind.i64 (dec s).p.id,
                  AVal.int IntKind.i64 (dec s).p.total, AVal.int IntKind.i64 (dec s).p.typ,
                  AVal.int IntKind.i64 (dec s).p.k, AVal.str (dec s).p.lb, AVal.str (dec s).p.data,
                  AVal.str (dec s).p.sum]),
            ((8 : Nat),
              AVal.tup
                [AVal.agg
                    [AVal.bool (dec s).p.st, AVal.bool (dec s).p.en, AVal.int IntKind.i64 (dec s).p.id,
                      AVal.int IntKind.i64 (dec s).p.total, AVal.int IntKind.i64 (dec s).p.typ,
                      AVal.int IntKind.i64 (dec s).p.k, AVal.str (dec s).p.lb, AVal.str (dec s).p.data,
                      AVal.str (dec s).p.sum],
                  AVal.int IntKind.i64 (dec s).n, AVal.int IntKind.i64 (dec s).e]),
            ((10 : Nat),
              AVal.tup
                [AVal.agg
                    [AVal.bool (dec s).p.st, AVal.bool (dec s).p.en, AVal.int IntKind.i64 (dec s).p.id,
                      AVal.int IntKind.i64 (dec s).p.total, AVal.int IntKind.i64 (dec s).p.typ,
                      AVal.int IntKind.i64 (dec s).p.k, AVal.str (dec s).p.lb, AVal.str (dec s).p.data,
                      AVal.str (dec s).p.sum],
                  AVal.int IntKind.i64 (dec s).n, AVal.int IntKind.i64 (dec s).e]),
            ((9 : Nat), AVal.str s), ((0 : Nat), AVal.str s), ((4 : Nat), AVal.nils)]
          (AHeap.mk (4 : Nat)
            [((3 : Nat),
                ABlk.row (27 : Nat) pieceRow
                  [PieceR.mk (dec s).p.st (dec s).p.en (dec s).p.id (dec s).p.total (dec s).p.typ (dec s).p.k
                      (dec s).p.lb (dec s).p.data (dec s).p.sum]
                  RowMd.plain),
              ((2 : Nat),
                ABlk.cells (27 : Nat)
                  [AVal.bool (dec s).p.st, AVal.bool (dec s).p.en, AVal.int IntKind.i64 (dec s).p.id,
                    AVal.int IntKind.i64 (dec s).p.total, AVal.int IntKind.i64 (dec s).p.typ,
                    AVal.int IntKind.i64 (dec s).p.k, AVal.str (dec s).p.lb, AVal.str (dec s).p.data,
                    AVal.str (dec s).p.sum]),
              ((1 : Nat),
                ABlk.cells (27 : Nat)
                  [AVal.bool (dec s).p.st, AVal.bool (dec s).p.en, AVal.int IntKind.i64 (dec s).p.id,
                    AVal.int IntKind.i64 (dec s).p.total, AVal.int IntKind.i64 (dec s).p.typ,
                    AVal.int IntKind.i64 (dec s).p.k, AVal.str (dec s).p.lb, AVal.str (dec s).p.data,
                    AVal.str (dec s).p.sum]),
              ((1 : Nat),
                ABlk.cells (27 : Nat)
                  [AVal.bool false, AVal.bool false, AVal.int IntKind.i64 (0 : Int), AVal.int IntKind.i64 (0 : Int),
                    AVal.int IntKind.i64 (0 : Int), AVal.int IntKind.i64 (0 : Int), AVal.str [], AVal.str [],
                    AVal.str []])])))))) := by kernel_rfl

set_option maxRecDepth 100000 in
theorem w_rallround_cons (s : List UInt8) (acc : List PieceR) (QQ : AExit → Env → AHeap → Prop) : (wpC (TA.ctx Try.prog) 60 18 0 (lpC (blkC (tailN 2 (bodyC Try.f18)))) [(0, .str s), (4, .sl 0 0 9 0 acc.length none)] ⟨1, [(0, .row 27 pieceRow acc .plain)]⟩ QQ
) = (obl (decide (s.length ≤ (9223372036854775000 : Nat)))
  (branch (decide ((dec s).e = (5 : Int)))
    (QQ AExit.ret
      [((3 : Nat), AVal.int IntKind.i64 (0 : Int)),
        ((2 : Nat), AVal.sl (0 : Nat) (0 : Nat) (9 : Nat) (0 : Nat) acc.length none),
        ((16 : Nat), AVal.sl (0 : Nat) (0 : Nat) (9 : Nat) (0 : Nat) acc.length none),
        ((15 : Nat), AVal.bool (decide ((dec s).e = (5 : Int)))), ((14 : Nat), AVal.int IntKind.i64 (dec s).e),
        ((7 : Nat), AVal.int IntKind.i64 (dec s).e), ((6 : Nat), AVal.int IntKind.i64 (dec s).n),
        ((5 : Nat), AVal.ptr (1 : Nat) (0 : Nat) (0 : Nat) (0 : Nat)), ((13 : Nat), AVal.int IntKind.i64 (dec s).e),
        ((12 : Nat), AVal.int IntKind.i64 (dec s).n),
        ((11 : Nat),
          AVal.agg
            [AVal.bool (dec s).p.st, AVal.bool (dec s).p.en, AVal.int IntKind.i64 (dec s).p.id,
              AVal.int IntKind.i64 (dec s).p.total, AVal.int IntKind.i64 (dec s).p.typ,
              AVal.int IntKind.i64 (dec s).p.k, AVal.str (dec s).p.lb, AVal.str (dec s).p.data,
              AVal.str (dec s).p.sum]),
        ((8 : Nat),
          AVal.tup
            [AVal.agg
                [AVal.bool (dec s).p.st, AVal.bool (dec s).p.en, AVal.int IntKind.i64 (dec s).p.id,
                  AVal.int IntKind.i64 (dec s).p.total, AVal.int IntKind.i64 (dec s).p.typ,
                  AVal.int IntKind.i64 (dec s).p.k, AVal.str (dec s).p.lb, AVal.str (dec s).p.data,
                  AVal.str (dec s).p.sum],
              AVal.int IntKind.i64 (dec s).n, AVal.int IntKind.i64 (dec s).e]),
        ((10 : Nat),
          AVal.tup
            [AVal.agg
                [AVal.bool (dec s).p.st, AVal.bool (dec s).p.en, AVal.int IntKind.i64 (dec s).p.id,
                  AVal.int IntKind.i64 (dec s).p.total, AVal.int IntKind.i64 (dec s).p.typ,
                  AVal.int IntKind.i64 (dec s).p.k, AVal.str (dec s).p.lb, AVal.str (dec s).p.data,
                  AVal.str (dec s).p.sum],
              AVal.int IntKind.i64 (dec s).n, AVal.int IntKind.i64 (dec s).e]),
        ((9 : Nat), AVal.str s), ((0 : Nat), AVal.str s),
        ((4 : Nat), AVal.sl (0 : Nat) (0 : Nat) (9 : Nat) (0 : Nat) acc.length none)]
      (AHeap.mk (2 : Nat)
        [((1 : Nat),
            ABlk.cells (27 : Nat)
              [AVal.bool (dec s).p.st, AVal.bool (dec s).p.en, AVal.int IntKind.i64 (dec s).p.id,
                AVal.int IntKind.i64 (dec s).p.total, AVal.int IntKind.i64 (dec s).p.typ,
                AVal.int IntKind.i64 (dec s).p.k, AVal.str (dec s).p.lb, AVal.str (dec s).p.data,
                AVal.str (dec s).p.sum]),
          ((1 : Nat),
            ABlk.cells (27 : Nat)
              [AVal.bool false, AVal.bool false, AVal.int IntKind.i64 (0 : Int), AVal.int IntKind.i64 (0 : Int),
                AVal.int IntKind.i64 (0 : Int), AVal.int IntKind.i64 (0 : Int), AVal.str [], AVal.str [], AVal.str []]),
          ((0 : Nat), ABlk.row (27 : Nat) pieceRow acc RowMd.plain)]))
    (branch (!decide ((dec s).e = (0 : Int)))
      (QQ AExit.ret
        [((3 : Nat), AVal.int IntKind.i64 (dec s).e),
          ((2 : Nat), AVal.sl (0 : Nat) (0 : Nat) (9 : Nat) (0 : Nat) acc.length none),
          ((20 : Nat), AVal.int IntKind.i64 (dec s).e),
          ((19 : Nat), AVal.sl (0 : Nat) (0 : Nat) (9 : Nat) (0 : Nat) acc.length none),
          ((18 : Nat), AVal.bool !decide ((dec s).e = (0 : Int))), ((17 : Nat), AVal.int IntKind.i64 (dec s).e),
          ((15 : Nat), AVal.bool (decide ((dec s).e = (5 : Int)))), ((14 : Nat), AVal.int IntKind.i64 (dec s).e),
          ((7 : Nat), AVal.int IntKind.i64 (dec s).e), ((6 : Nat), AVal.int IntKind.i64 (dec s).n),
          ((5 : Nat), AVal.ptr (1 : Nat) (0 : Nat) (0 : Nat) (0 : Nat)), ((13 : Nat), AVal.int IntKind.i64 (dec s).e),
          ((12 : Nat), AVal.int IntKind.i64 (dec s).n),
          ((11 : Nat),
            AVal.agg
              [AVal.bool (dec s).p.st, AVal.bool (dec s).p.en, AVal.int IntKind.i64 (dec s).p.id,
                AVal.int IntKind.i64 (dec s).p.total, AVal.int IntKind.i64 (dec s).p.typ,
                AVal.int IntKind.i64 (dec s).p.k, AVal.str (dec s).p.lb, AVal.str (dec s).p.data,
                AVal.str (dec s).p.sum]),
          ((8 : Nat),
            AVal.tup
              [AVal.agg
                  [AVal.bool (dec s).p.st, AVal.bool (dec s).p.en, AVal.int IntKind.i64 (dec s).p.id,
                    AVal.int IntKind.i64 (dec s).p.total, AVal.int IntKind.i64 (dec s).p.typ,
                    AVal.int IntKind.i64 (dec s).p.k, AVal.str (dec s).p.lb, AVal.str (dec s).p.data,
                    AVal.str (dec s).p.sum],
                AVal.int IntKind.i64 (dec s).n, AVal.int IntKind.i64 (dec s).e]),
          ((10 : Nat),
            AVal.tup
              [AVal.agg
                  [AVal.bool (dec s).p.st, AVal.bool (dec s).p.en, AVal.int IntKind.i64 (dec s).p.id,
                    AVal.int IntKind.i64 (dec s).p.total, AVal.int IntKind.i64 (dec s).p.typ,
                    AVal.int IntKind.i64 (dec s).p.k, AVal.str (dec s).p.lb, AVal.str (dec s).p.data,
                    AVal.str (dec s).p.sum],
                AVal.int IntKind.i64 (dec s).n, AVal.int IntKind.i64 (dec s).e]),
          ((9 : Nat), AVal.str s), ((0 : Nat), AVal.str s),
          ((4 : Nat), AVal.sl (0 : Nat) (0 : Nat) (9 : Nat) (0 : Nat) acc.length none)]
        (AHeap.mk (2 : Nat)
          [((1 : Nat),
              ABlk.cells (27 : Nat)
                [AVal.bool (dec s).p.st, AVal.bool (dec s).p.en, AVal.int IntKind.i64 (dec s).p.id,
                  AVal.int IntKind.i64 (dec s).p.total, AVal.int IntKind.i64 (dec s).p.typ,
                  AVal.int IntKind.i64 (dec s).p.k, AVal.str (dec s).p.lb, AVal.str (dec s).p.data,
                  AVal.str (dec s).p.sum]),
            ((1 : Nat),
              ABlk.cells (27 : Nat)
                [AVal.bool false, AVal.bool false, AVal.int IntKind.i64 (0 : Int), AVal.int IntKind.i64 (0 : Int),
                  AVal.int IntKind.i64 (0 : Int), AVal.int IntKind.i64 (0 : Int), AVal.str [], AVal.str [],
                  AVal.str []]),
            ((0 : Nat), ABlk.row (27 : Nat) pieceRow acc RowMd.plain)]))
      (obl
        (true &&
          decide
            (acc.length = acc.length ∧
              (9 : Nat) = (9 : Nat) ∧
                (9 : Nat) = (9 : Nat) ∧
                  (0 : Nat) < (9 : Nat) ∧
                    (acc ++
                            [PieceR.mk (dec s).p.st (dec s).p.en (dec s).p.id (dec s).p.total (dec s).p.typ (dec s).p.k
                                (dec s).p.lb (dec s).p.data (dec s).p.sum]).length ≤
                        (9223372036854775807 : Nat) ∧
                      (acc ++
                              [PieceR.mk (dec s).p.st (dec s).p.en (dec s).p.id (dec s).p.total (dec s).p.typ
                                  (dec s).p.k (dec s).p.lb (dec s).p.data (dec s).p.sum]).length *
                          (88 : Nat) ≤
                        (140737488355328 : Nat)))
        (obl (decide ((0 : Int) ≤ (dec s).n ∧ (dec s).n ≤ (↑s.length : Int)))
          (QQ AExit.normal
            [((0 : Nat), AVal.str (List.drop (dec s).n.toNat s)), ((27 : Nat), AVal.str (List.drop (dec s).n.toNat s)),
              ((26 : Nat), AVal.int IntKind.i64 (dec s).n), ((25 : Nat), AVal.str s),
              ((4 : Nat),
                AVal.sl (3 : Nat) (0 : Nat) (9 : Nat) (0 : Nat)
                  (acc ++
                      [PieceR.mk (dec s).p.st (dec s).p.en (dec s).p.id (dec s).p.total (dec s).p.typ (dec s).p.k
                          (dec s).p.lb (dec s).p.data (dec s).p.sum]).length
                  none),
              ((24 : Nat),
                AVal.sl (3 : Nat) (0 : Nat) (9 : Nat) (0 : Nat)
                  (acc ++
                      [PieceR.mk (dec s).p.st (dec s).p.en (dec s).p.id (dec s).p.total (dec s).p.typ (dec s).p.k
                          (dec s).p.lb (dec s).p.data (dec s).p.sum]).length
                  none),
              ((23 : Nat), AVal.sl (2 : Nat) (0 : Nat) (9 : Nat) (0 : Nat) (1 : Nat) (some (1 : Nat))),
              ((22 : Nat),
                AVal.agg
                  [AVal.bool (dec s).p.st, AVal.bool (dec s).p.en, AVal.int IntKind.i64 (dec s).p.id,
                    AVal.int IntKind.i64 (dec s).p.total, AVal.int IntKind.i64 (dec s).p.typ,
                    AVal.int IntKind.i64 (dec s).p.k, AVal.str (dec s).p.lb, AVal.str (dec s).p.data,
                    AVal.str (dec s).p.sum]),
              ((21 : Nat), AVal.sl (0 : Nat) (0 : Nat) (9 : Nat) (0 : Nat) acc.length none),
              ((18 : Nat), AVal.bool !decide ((dec s).e = (0 : Int))), ((17 : Nat), AVal.int IntKind.i64 (dec s).e),
              ((15 : Nat), AVal.bool (decide ((dec s).e = (5 : Int)))), ((14 : Nat), AVal.int IntKind.i64 (dec s).e),
              ((7 : Nat), AVal.int IntKind.i64 (dec s).e), ((6 : Nat), AVal.int IntKind.i64 (dec s).n),
              ((5 : Nat), AVal.ptr (1 : Nat) (0 : Nat) (0 : Nat) (0 : Nat)),
              ((13 : Nat), AVal.int IntKind.i64 (dec s).e), ((12 : Nat), AVal.int IntKind.i64 (dec s).n),
              ((11 : Nat),
                AVal.agg
                  [AVal.bool (dec s).p.st, AVal.bool (dec s).p.en, AVal.int IntKind.i64 (dec s).p.id,
                    AVal.int IntKind.i64 (dec s).p.total, AVal.int IntKind.i64 (dec s).p.typ,
                    AVal.int IntKind.i64 (dec s).p.k, AVal.str (dec s).p.lb, AVal.str (dec s).p.data,
                    AVal.str (dec s).p.sum]),
              ((8 : Nat),
                AVal.tup
                  [AVal.agg
                      [AVal.bool (dec s).p.st, AVal.bool (dec s).p.en, AVal.int IntKind.i64 (dec s).p.id,
                        AVal.int IntKind.i64 (dec s).p.total, AVal.int IntKind.i64 (dec s).p.typ,
                        AVal.int IntKind.i64 (dec s).p.k, AVal.str (dec s).p.lb, AVal.str (dec s).p.data,
                        AVal.str (dec s).p.sum],
                    AVal.int IntKind.i64 (dec s).n, AVal.int IntKind.i64 (dec s).e]),
              ((10 : Nat),
                AVal.tup
                  [AVal.agg
                      [AVal.bool (dec s).p.st, AVal.bool (dec s).p.en, AVal.int IntKind.i64 (dec s).p.id,
                        AVal.int IntKind.i64 (dec s).p.total, AVal.int IntKind.i64 (dec s).p.typ,
                        AVal.int IntKind.i64 (dec s).p.k, AVal.str (dec s).p.lb, AVal.str (dec s).p.data,
                        AVal.str (dec s).p.sum],
                    AVal.int IntKind.i64 (dec s).n, AVal.int IntKind.i64 (dec s).e]),
              ((9 : Nat), AVal.str s), ((0 : Nat), AVal.str s),
              ((4 : Nat), AVal.sl (0 : Nat) (0 : Nat) (9 : Nat) (0 : Nat) acc.length none)]
            (AHeap.mk (4 : Nat)
              [((3 : Nat),
                  ABlk.row (27 : Nat) pieceRow
                    (acc ++
                      [PieceR.mk (dec s).p.st (dec s).p.en (dec s).p.id (dec s).p.total (dec s).p.typ (dec s).p.k
                          (dec s).p.lb (dec s).p.data (dec s).p.sum])
                    RowMd.plain),
                ((0 : Nat), ABlk.dead),
                ((2 : Nat),
                  ABlk.cells (27 : Nat)
                    [AVal.bool (dec s).p.st, AVal.bool (dec s).p.en, AVal.int IntKind.i64 (dec s).p.id,
                      AVal.int IntKind.i64 (dec s).p.total, AVal.int IntKind.i64 (dec s).p.typ,
                      AVal.int IntKind.i64 (dec s).p.k, AVal.str (dec s).p.lb, AVal.str (dec s).p.data,
                      AVal.str (dec s).p.sum]),
                ((1 : Nat),
                  ABlk.cells (27 : Nat)
                    [AVal.bool (dec s).p.st, AVal.bool (dec s).p.en, AVal.int IntKind.i64 (dec s).p.id,
                      AVal.int IntKind.i64 (dec s).p.total, AVal.int IntKind.i64 (dec s).p.typ,
                      AVal.int IntKind.i64 (dec s).p.k, AVal.str (dec s).p.lb, AVal.str (dec s).p.data,
                      AVal.str (dec s).p.sum]),
                ((1 : Nat),
                  ABlk.cells (27 : Nat)
                    [AVal.bool false, AVal.bool false, AVal.int IntKind.i64 (0 : Int), AVal.int IntKind.i64 (0 : Int),
                      AVal.int IntKind.i64 (0 : Int), AVal.int IntKind.i64 (0 : Int), AVal.str [], AVal.str [],
                      AVal.str []]),
                ((0 : Nat), ABlk.row (27 : Nat) pieceRow acc RowMd.plain)]))))))) := by kernel_rfl

end Go.Proofs.Ytcbkenicjmhkdaa
