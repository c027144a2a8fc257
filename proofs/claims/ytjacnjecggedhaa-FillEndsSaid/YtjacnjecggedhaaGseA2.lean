/-
  Walks, printed: what calls come to, as they are reckoned.
-/
import Derived.Test.YtjacnjecggedhaaGseA1
namespace Go.Proofs.Ytjacnjecggedhaa
set_option linter.unusedVariables false
set_option linter.unusedSimpArgs false
open Go.RowKit Ev

set_option maxRecDepth 100000 in
theorem w_allround_nil (s0 s : List UInt8) (QQ : AExit → Env → AHeap → Option Code → Prop) : (wpY (TE.ctx Try.prog) 4 (roundA (TE.ctx Try.prog) 60 13 ((8, .func 27 [] [.ptr 3 0 0 0]) :: (7, .str s0) :: (4, .ptr 2 0 0 0) :: (3, .ptr 1 0 0 0) :: (2, .ptr 0 0 0 0) :: (0, .str s0) :: []) [9, 10] (rfAssign (blkC (seqR (seqL (seqR (seqR (bodyC Try.f13))))))) (rfBody (blkC (seqR (seqL (seqR (seqR (bodyC Try.f13)))))))) 60 27 (lpC (blkC (bodyC Try.f27))) [(0, .yld 4), (1, .ptr 3 0 0 0)] ⟨6, [(3, .cells 9 [.str s]), (2, .cells 39 [.nils]), (1, .cells 40 [.int .i64 0]), (0, .cells 39 [.nils])]⟩ none QQ
) = (obl (decide (s.length ≤ (9223372036854775000 : Nat)))
  (branch (decide ((dec s).e = (5 : Int)))
    (QQ AExit.ret
      [((24 : Nat), AVal.bool true), ((23 : Nat), AVal.tup []), ((21 : Nat), AVal.bool true), ((22 : Nat), AVal.tup []),
        ((21 : Nat), AVal.bool true), ((21 : Nat), AVal.bool true), ((20 : Nat), AVal.bool true),
        ((19 : Nat), AVal.tup []), ((14 : Nat), AVal.bool true), ((18 : Nat), AVal.tup []),
        ((14 : Nat), AVal.bool true), ((17 : Nat), AVal.tup []), ((14 : Nat), AVal.bool true),
        ((16 : Nat), AVal.tup []), ((14 : Nat), AVal.bool true), ((15 : Nat), AVal.tup []),
        ((14 : Nat), AVal.bool true), ((14 : Nat), AVal.bool (decide ((dec s).e = (5 : Int)))),
        ((13 : Nat), AVal.bool (decide ((dec s).e = (5 : Int)))), ((12 : Nat), AVal.int IntKind.i64 (dec s).e),
        ((5 : Nat), AVal.int IntKind.i64 (dec s).e), ((4 : Nat), AVal.int IntKind.i64 (dec s).n),
        ((3 : Nat), AVal.ptr (6 : Nat) (0 : Nat) (0 : Nat) (0 : Nat)), ((11 : Nat), AVal.int IntKind.i64 (dec s).e),
        ((10 : Nat), AVal.int IntKind.i64 (dec s).n),
        ((9 : Nat),
          AVal.agg
            [AVal.bool (dec s).p.st, AVal.bool (dec s).p.en, AVal.int IntKind.i64 (dec s).p.id,
              AVal.int IntKind.i64 (dec s).p.total, AVal.int IntKind.i64 (dec s).p.typ,
              AVal.int IntKind.i64 (dec s).p.k, AVal.str (dec s).p.lb, AVal.str (dec s).p.data,
              AVal.str (dec s).p.sum]),
        ((6 : Nat),
          AVal.tup
            [AVal.agg
                [AVal.bool (dec s).p.st, AVal.bool (dec s).p.en, AVal.int IntKind.i64 (dec s).p.id,
                  AVal.int IntKind.i64 (dec s).p.total, AVal.int IntKind.i64 (dec s).p.typ,
                  AVal.int IntKind.i64 (dec s).p.k, AVal.str (dec s).p.lb, AVal.str (dec s).p.data,
                  AVal.str (dec s).p.sum],
              AVal.int IntKind.i64 (dec s).n, AVal.int IntKind.i64 (dec s).e]),
        ((8 : Nat),
          AVal.tup
            [AVal.agg
                [AVal.bool (dec s).p.st, AVal.bool (dec s).p.en, AVal.int IntKind.i64 (dec s).p.id,
                  AVal.int IntKind.i64 (dec s).p.total, AVal.int IntKind.i64 (dec s).p.typ,
                  AVal.int IntKind.i64 (dec s).p.k, AVal.str (dec s).p.lb, AVal.str (dec s).p.data,
                  AVal.str (dec s).p.sum],
              AVal.int IntKind.i64 (dec s).n, AVal.int IntKind.i64 (dec s).e]),
        ((7 : Nat), AVal.str s), ((0 : Nat), AVal.yld (4 : Nat)),
        ((1 : Nat), AVal.ptr (3 : Nat) (0 : Nat) (0 : Nat) (0 : Nat))]
      (AHeap.mk (7 : Nat)
        [((6 : Nat),
            ABlk.cells (46 : Nat)
              [AVal.bool (dec s).p.st, AVal.bool (dec s).p.en, AVal.int IntKind.i64 (dec s).p.id,
                AVal.int IntKind.i64 (dec s).p.total, AVal.int IntKind.i64 (dec s).p.typ,
                AVal.int IntKind.i64 (dec s).p.k, AVal.str (dec s).p.lb, AVal.str (dec s).p.data,
                AVal.str (dec s).p.sum]),
          ((6 : Nat),
            ABlk.cells (46 : Nat)
              [AVal.bool false, AVal.bool false, AVal.int IntKind.i64 (0 : Int), AVal.int IntKind.i64 (0 : Int),
                AVal.int IntKind.i64 (0 : Int), AVal.int IntKind.i64 (0 : Int), AVal.str [], AVal.str [], AVal.str []]),
          ((3 : Nat), ABlk.cells (9 : Nat) [AVal.str s]), ((2 : Nat), ABlk.cells (39 : Nat) [AVal.nils]),
          ((1 : Nat), ABlk.cells (40 : Nat) [AVal.int IntKind.i64 (0 : Int)]),
          ((0 : Nat), ABlk.cells (39 : Nat) [AVal.nils])])
      none)
    (branch (!decide ((dec s).e = (0 : Int)))
      (QQ AExit.ret
        [((24 : Nat), AVal.bool true), ((23 : Nat), AVal.tup []), ((21 : Nat), AVal.bool true),
          ((22 : Nat), AVal.tup []), ((21 : Nat), AVal.bool true), ((21 : Nat), AVal.bool true),
          ((20 : Nat), AVal.bool true), ((19 : Nat), AVal.bool true), ((14 : Nat), AVal.bool false),
          ((18 : Nat), AVal.bool false), ((14 : Nat), AVal.bool false), ((17 : Nat), AVal.int IntKind.i64 (dec s).e),
          ((14 : Nat), AVal.bool false),
          ((16 : Nat),
            AVal.agg
              [AVal.bool (dec s).p.st, AVal.bool (dec s).p.en, AVal.int IntKind.i64 (dec s).p.id,
                AVal.int IntKind.i64 (dec s).p.total, AVal.int IntKind.i64 (dec s).p.typ,
                AVal.int IntKind.i64 (dec s).p.k, AVal.str (dec s).p.lb, AVal.str (dec s).p.data,
                AVal.str (dec s).p.sum]),
          ((14 : Nat), AVal.bool false), ((15 : Nat), AVal.yld (4 : Nat)), ((14 : Nat), AVal.bool false),
          ((14 : Nat), AVal.bool (decide ((dec s).e = (5 : Int)))),
          ((13 : Nat), AVal.bool (decide ((dec s).e = (5 : Int)))), ((12 : Nat), AVal.int IntKind.i64 (dec s).e),
          ((5 : Nat), AVal.int IntKind.i64 (dec s).e), ((4 : Nat), AVal.int IntKind.i64 (dec s).n),
          ((3 : Nat), AVal.ptr (6 : Nat) (0 : Nat) (0 : Nat) (0 : Nat)), ((11 : Nat), AVal.int IntKind.i64 (dec s).e),
          ((10 : Nat), AVal.int IntKind.i64 (dec s).n),
          ((9 : Nat),
            AVal.agg
              [AVal.bool (dec s).p.st, AVal.bool (dec s).p.en, AVal.int IntKind.i64 (dec s).p.id,
                AVal.int IntKind.i64 (dec s).p.total, AVal.int IntKind.i64 (dec s).p.typ,
                AVal.int IntKind.i64 (dec s).p.k, AVal.str (dec s).p.lb, AVal.str (dec s).p.data,
                AVal.str (dec s).p.sum]),
          ((6 : Nat),
            AVal.tup
              [AVal.agg
                  [AVal.bool (dec s).p.st, AVal.bool (dec s).p.en, AVal.int IntKind.i64 (dec s).p.id,
                    AVal.int IntKind.i64 (dec s).p.total, AVal.int IntKind.i64 (dec s).p.typ,
                    AVal.int IntKind.i64 (dec s).p.k, AVal.str (dec s).p.lb, AVal.str (dec s).p.data,
                    AVal.str (dec s).p.sum],
                AVal.int IntKind.i64 (dec s).n, AVal.int IntKind.i64 (dec s).e]),
          ((8 : Nat),
            AVal.tup
              [AVal.agg
                  [AVal.bool (dec s).p.st, AVal.bool (dec s).p.en, AVal.int IntKind.i64 (dec s).p.id,
                    AVal.int IntKind.i64 (dec s).p.total, AVal.int IntKind.i64 (dec s).p.typ,
                    AVal.int IntKind.i64 (dec s).p.k, AVal.str (dec s).p.lb, AVal.str (dec s).p.data,
                    AVal.str (dec s).p.sum],
                AVal.int IntKind.i64 (dec s).n, AVal.int IntKind.i64 (dec s).e]),
          ((7 : Nat), AVal.str s), ((0 : Nat), AVal.yld (4 : Nat)),
          ((1 : Nat), AVal.ptr (3 : Nat) (0 : Nat) (0 : Nat) (0 : Nat))]
        (AHeap.mk (8 : Nat)
          [((1 : Nat), ABlk.cells (40 : Nat) [AVal.int IntKind.i64 (dec s).e]),
            ((0 : Nat), ABlk.cells (39 : Nat) [AVal.nils]),
            ((7 : Nat),
              ABlk.cells (46 : Nat)
                [AVal.bool (dec s).p.st, AVal.bool (dec s).p.en, AVal.int IntKind.i64 (dec s).p.id,
                  AVal.int IntKind.i64 (dec s).p.total, AVal.int IntKind.i64 (dec s).p.typ,
                  AVal.int IntKind.i64 (dec s).p.k, AVal.str (dec s).p.lb, AVal.str (dec s).p.data,
                  AVal.str (dec s).p.sum]),
            ((7 : Nat),
              ABlk.cells (46 : Nat)
                [AVal.bool false, AVal.bool false, AVal.int IntKind.i64 (0 : Int), AVal.int IntKind.i64 (0 : Int),
                  AVal.int IntKind.i64 (0 : Int), AVal.int IntKind.i64 (0 : Int), AVal.str [], AVal.str [],
                  AVal.str []]),
            ((6 : Nat),
              ABlk.cells (46 : Nat)
                [AVal.bool (dec s).p.st, AVal.bool (dec s).p.en, AVal.int IntKind.i64 (dec s).p.id,
                  AVal.int IntKind.i64 (dec s).p.total, AVal.int IntKind.i64 (dec s).p.typ,
                  AVal.int IntKind.i64 (dec s).p.k, AVal.str (dec s).p.lb, AVal.str (dec s).p.data,
                  AVal.str (dec s).p.sum]),
            ((6 : Nat),
              ABlk.cells (46 : Nat)
                [AVal.bool false, AVal.bool false, AVal.int IntKind.i64 (0 : Int), AVal.int IntKind.i64 (0 : Int),
                  AVal.int IntKind.i64 (0 : Int), AVal.int IntKind.i64 (0 : Int), AVal.str [], AVal.str [],
                  AVal.str []]),
            ((3 : Nat), ABlk.cells (9 : Nat) [AVal.str s]), ((2 : Nat), ABlk.cells (39 : Nat) [AVal.nils]),
            ((1 : Nat), ABlk.cells (40 : Nat) [AVal.int IntKind.i64 (0 : Int)]),
            ((0 : Nat), ABlk.cells (39 : Nat) [AVal.nils])])
        (some Code.ret))
      (branch (!decide ((dec s).e = (0 : Int)))
        (QQ AExit.ret
          [((24 : Nat), AVal.bool !decide ((dec s).e = (0 : Int))),
            ((23 : Nat), AVal.bool !decide ((dec s).e = (0 : Int))), ((21 : Nat), AVal.bool false),
            ((22 : Nat), AVal.int IntKind.i64 (dec s).e), ((21 : Nat), AVal.bool false), ((21 : Nat), AVal.bool false),
            ((20 : Nat), AVal.bool false), ((19 : Nat), AVal.bool false), ((14 : Nat), AVal.bool false),
            ((18 : Nat), AVal.bool true), ((14 : Nat), AVal.bool false), ((17 : Nat), AVal.int IntKind.i64 (dec s).e),
            ((14 : Nat), AVal.bool false),
            ((16 : Nat),
              AVal.agg
                [AVal.bool (dec s).p.st, AVal.bool (dec s).p.en, AVal.int IntKind.i64 (dec s).p.id,
                  AVal.int IntKind.i64 (dec s).p.total, AVal.int IntKind.i64 (dec s).p.typ,
                  AVal.int IntKind.i64 (dec s).p.k, AVal.str (dec s).p.lb, AVal.str (dec s).p.data,
                  AVal.str (dec s).p.sum]),
            ((14 : Nat), AVal.bool false), ((15 : Nat), AVal.yld (4 : Nat)), ((14 : Nat), AVal.bool false),
            ((14 : Nat), AVal.bool (decide ((dec s).e = (5 : Int)))),
            ((13 : Nat), AVal.bool (decide ((dec s).e = (5 : Int)))), ((12 : Nat), AVal.int IntKind.i64 (dec s).e),
            ((5 : Nat), AVal.int IntKind.i64 (dec s).e), ((4 : Nat), AVal.int IntKind.i64 (dec s).n),
            ((3 : Nat), AVal.ptr (6 : Nat) (0 : Nat) (0 : Nat) (0 : Nat)), ((11 : Nat), AVal.int IntKind.i64 (dec s).e),
            ((10 : Nat), AVal.int IntKind.i64 (dec s).n),
            ((9 : Nat),
              AVal.agg
                [AVal.bool (dec s).p.st, AVal.bool (dec s).p.en, AVal.int IntKind.i64 (dec s).p.id,
                  AVal.int IntKind.i64 (dec s).p.total, AVal.int IntKind.i64 (dec s).p.typ,
                  AVal.int IntKind.i64 (dec s).p.k, AVal.str (dec s).p.lb, AVal.str (dec s).p.data,
                  AVal.str (dec s).p.sum]),
            ((6 : Nat),
              AVal.tup
                [AVal.agg
                    [AVal.bool (dec s).p.st, AVal.bool (dec s).p.en, AVal.int IntKind.i64 (dec s).p.id,
                      AVal.int IntKind.i64 (dec s).p.total, AVal.int IntKind.i64 (dec s).p.typ,
                      AVal.int IntKind.i64 (dec s).p.k, AVal.str (dec s).p.lb, AVal.str (dec s).p.data,
                      AVal.str (dec s).p.sum],
                  AVal.int IntKind.i64 (dec s).n, AVal.int IntKind.i64 (dec s).e]),
            ((8 : Nat),
              AVal.tup
                [AVal.agg
                    [AVal.bool (dec s).p.st, AVal.bool (dec s).p.en, AVal.int IntKind.i64 (dec s).p.id,
                      AVal.int IntKind.i64 (dec s).p.total, AVal.int IntKind.i64 (dec s).p.typ,
                      AVal.int IntKind.i64 (dec s).p.k, AVal.str (dec s).p.lb, AVal.str (dec s).p.data,
                      AVal.str (dec s).p.sum],
                  AVal.int IntKind.i64 (dec s).n, AVal.int IntKind.i64 (dec s).e]),
            ((7 : Nat), AVal.str s), ((0 : Nat), AVal.yld (4 : Nat)),
            ((1 : Nat), AVal.ptr (3 : Nat) (0 : Nat) (0 : Nat) (0 : Nat))]
          (AHeap.mk (10 : Nat)
            [((2 : Nat), ABlk.cells (39 : Nat) [AVal.sl (9 : Nat) (0 : Nat) (9 : Nat) (0 : Nat) (1 : Nat) none]),
              ((9 : Nat),
                ABlk.row (46 : Nat) pieceRow
                  [PieceR.mk (dec s).p.st (dec s).p.en (dec s).p.id (dec s).p.total (dec s).p.typ (dec s).p.k
                      (dec s).p.lb (dec s).p.data (dec s).p.sum]
                  RowMd.plain),
              ((8 : Nat),
                ABlk.cells (46 : Nat)
                  [AVal.bool (dec s).p.st, AVal.bool (dec s).p.en, AVal.int IntKind.i64 (dec s).p.id,
                    AVal.int IntKind.i64 (dec s).p.total, AVal.int IntKind.i64 (dec s).p.typ,
                    AVal.int IntKind.i64 (dec s).p.k, AVal.str (dec s).p.lb, AVal.str (dec s).p.data,
                    AVal.str (dec s).p.sum]),
              ((7 : Nat),
                ABlk.cells (46 : Nat)
                  [AVal.bool (dec s).p.st, AVal.bool (dec s).p.en, AVal.int IntKind.i64 (dec s).p.id,
                    AVal.int IntKind.i64 (dec s).p.total, AVal.int IntKind.i64 (dec s).p.typ,
                    AVal.int IntKind.i64 (dec s).p.k, AVal.str (dec s).p.lb, AVal.str (dec s).p.data,
                    AVal.str (dec s).p.sum]),
              ((7 : Nat),
                ABlk.cells (46 : Nat)
                  [AVal.bool false, AVal.bool false, AVal.int IntKind.i64 (0 : Int), AVal.int IntKind.i64 (0 : Int),
                    AVal.int IntKind.i64 (0 : Int), AVal.int IntKind.i64 (0 : Int), AVal.str [], AVal.str [],
                    AVal.str []]),
              ((6 : Nat),
                ABlk.cells (46 : Nat)
                  [AVal.bool (dec s).p.st, AVal.bool (dec s).p.en, AVal.int IntKind.i64 (dec s).p.id,
                    AVal.int IntKind.i64 (dec s).p.total, AVal.int IntKind.i64 (dec s).p.typ,
                    AVal.int IntKind.i64 (dec s).p.k, AVal.str (dec s).p.lb, AVal.str (dec s).p.data,
                    AVal.str (dec s).p.sum]),
              ((6 : Nat),
                ABlk.cells (46 : Nat)
                  [AVal.bool false, AVal.bool false, AVal.int IntKind.i64 (0 : Int), AVal.int IntKind.i64 (0 : Int),
                    AVal.int IntKind.i64 (0 : Int), AVal.int IntKind.i64 (0 : Int), AVal.str [], AVal.str [],
                    AVal.str []]),
              ((3 : Nat), ABlk.cells (9 : Nat) [AVal.str s]), ((2 : Nat), ABlk.cells (39 : Nat) [AVal.nils]),
              ((1 : Nat), ABlk.cells (40 : Nat) [AVal.int IntKind.i64 (0 : Int)]),
              ((0 : Nat), ABlk.cells (39 : Nat) [AVal.nils])])
          none)
        (obl (decide ((0 : Int) ≤ (dec s).n ∧ (dec s).n ≤ (↑s.length : Int)))
          (QQ AExit.normal
            [((27 : Nat), AVal.str (List.drop (dec s).n.toNat s)), ((26 : Nat), AVal.int IntKind.i64 (dec s).n),
              ((25 : Nat), AVal.str s), ((24 : Nat), AVal.bool !decide ((dec s).e = (0 : Int))),
              ((23 : Nat), AVal.bool !decide ((dec s).e = (0 : Int))), ((21 : Nat), AVal.bool false),
              ((22 : Nat), AVal.int IntKind.i64 (dec s).e), ((21 : Nat), AVal.bool false),
              ((21 : Nat), AVal.bool false), ((20 : Nat), AVal.bool false), ((19 : Nat), AVal.bool false),
              ((14 : Nat), AVal.bool false), ((18 : Nat), AVal.bool true), ((14 : Nat), AVal.bool false),
              ((17 : Nat), AVal.int IntKind.i64 (dec s).e), ((14 : Nat), AVal.bool false),
              ((16 : Nat),
                AVal.agg
                  [AVal.bool (dec s).p.st, AVal.bool (dec s).p.en, AVal.int IntKind.i64 (dec s).p.id,
                    AVal.int IntKind.i64 (dec s).p.total, AVal.int IntKind.i64 (dec s).p.typ,
                    AVal.int IntKind.i64 (dec s).p.k, AVal.str (dec s).p.lb, AVal.str (dec s).p.data,
                    AVal.str (dec s).p.sum]),
              ((14 : Nat), AVal.bool false), ((15 : Nat), AVal.yld (4 : Nat)), ((14 : Nat), AVal.bool false),
              ((14 : Nat), AVal.bool (decide ((dec s).e = (5 : Int)))),
              ((13 : Nat), AVal.bool (decide ((dec s).e = (5 : Int)))), ((12 : Nat), AVal.int IntKind.i64 (dec s).e),
              ((5 : Nat), AVal.int IntKind.i64 (dec s).e), ((4 : Nat), AVal.int IntKind.i64 (dec s).n),
              ((3 : Nat), AVal.ptr (6 : Nat) (0 : Nat) (0 : Nat) (0 : Nat)),
              ((11 : Nat), AVal.int IntKind.i64 (dec s).e), ((10 : Nat), AVal.int IntKind.i64 (dec s).n),
              ((9 : Nat),
                AVal.agg
                  [AVal.bool (dec s).p.st, AVal.bool (dec s).p.en, AVal.int IntKind.i64 (dec s).p.id,
                    AVal.int IntKind.i64 (dec s).p.total, AVal.int IntKind.i64 (dec s).p.typ,
                    AVal.int IntKind.i64 (dec s).p.k, AVal.str (dec s).p.lb, AVal.str (dec s).p.data,
                    AVal.str (dec s).p.sum]),
              ((6 : Nat),
                AVal.tup
                  [AVal.agg
                      [AVal.bool (dec s).p.st, AVal.bool (dec s).p.en, AVal.int IntKind.i64 (dec s).p.id,
                        AVal.int IntKind.i64 (dec s).p.total, AVal.int IntKind.i64 (dec s).p.typ,
                        AVal.int IntKind.i64 (dec s).p.k, AVal.str (dec s).p.lb, AVal.str (dec s).p.data,
                        AVal.str (dec s).p.sum],
                    AVal.int IntKind.i64 (dec s).n, AVal.int IntKind.i64 (dec s).e]),
              ((8 : Nat),
                AVal.tup
                  [AVal.agg
                      [AVal.bool (dec s).p.st, AVal.bool (dec s).p.en, AVal.int IntKind.i64 (dec s).p.id,
                        AVal.int IntKind.i64 (dec s).p.total, AVal.int IntKind.i64 (dec s).p.typ,
                        AVal.int IntKind.i64 (dec s).p.k, AVal.str (dec s).p.lb, AVal.str (dec s).p.data,
                        AVal.str (dec s).p.sum],
                    AVal.int IntKind.i64 (dec s).n, AVal.int IntKind.i64 (dec s).e]),
              ((7 : Nat), AVal.str s), ((0 : Nat), AVal.yld (4 : Nat)),
              ((1 : Nat), AVal.ptr (3 : Nat) (0 : Nat) (0 : Nat) (0 : Nat))]
            (AHeap.mk (10 : Nat)
              [((3 : Nat), ABlk.cells (9 : Nat) [AVal.str (List.drop (dec s).n.toNat s)]),
                ((2 : Nat), ABlk.cells (39 : Nat) [AVal.sl (9 : Nat) (0 : Nat) (9 : Nat) (0 : Nat) (1 : Nat) none]),
                ((9 : Nat),
                  ABlk.row (46 : Nat) pieceRow
                    [PieceR.mk (dec s).p.st (dec s).p.en (dec s).p.id (dec s).p.total (dec s).p.typ (dec s).p.k
                        (dec s).p.lb (dec s).p.data (dec s).p.sum]
                    RowMd.plain),
                ((8 : Nat),
                  ABlk.cells (46 : Nat)
                    [AVal.bool (dec s).p.st, AVal.bool (dec s).p.en, AVal.int IntKind.i64 (dec s).p.id,
                      AVal.int IntKind.i64 (dec s).p.total, AVal.int IntKind.i64 (dec s).p.typ,
                      AVal.int IntKind.i64 (dec s).p.k, AVal.str (dec s).p.lb, AVal.str (dec s).p.data,
                      AVal.str (dec s).p.sum]),
                ((7 : Nat),
                  ABlk.cells (46 : Nat)
                    [AVal.bool (dec s).p.st, AVal.bool (dec s).p.en, AVal.int IntKind.i64 (dec s).p.id,
                      AVal.int IntKind.i64 (dec s).p.total, AVal.int IntKind.i64 (dec s).p.typ,
                      AVal.int IntKind.i64 (dec s).p.k, AVal.str (dec s).p.lb, AVal.str (dec s).p.data,
                      AVal.str (dec s).p.sum]),
                ((7 : Nat),
                  ABlk.cells (46 : Nat)
                    [AVal.bool false, AVal.bool false, AVal.int IntKind.i64 (0 : Int), AVal.int IntKind.i64 (0 : Int),
                      AVal.int IntKind.i64 (0 : Int), AVal.int IntKind.i64 (0 : Int), AVal.str [], AVal.str [],
                      AVal.str []]),
                ((6 : Nat),
                  ABlk.cells (46 : Nat)
                    [AVal.bool (dec s).p.st, AVal.bool (dec s).p.en, AVal.int IntKind.i64 (dec s).p.id,
                      AVal.int IntKind.i64 (dec s).p.total, AVal.int IntKind.i64 (dec s).p.typ,
                      AVal.int IntKind.i64 (dec s).p.k, AVal.str (dec s).p.lb, AVal.str (dec s).p.data,
                      AVal.str (dec s).p.sum]),
                ((6 : Nat),
                  ABlk.cells (46 : Nat)
                    [AVal.bool false, AVal.bool false, AVal.int IntKind.i64 (0 : Int), AVal.int IntKind.i64 (0 : Int),
                      AVal.int IntKind.i64 (0 : Int), AVal.int IntKind.i64 (0 : Int), AVal.str [], AVal.str [],
                      AVal.str []]),
                ((3 : Nat), ABlk.cells (9 : Nat) [AVal.str s]), ((2 : Nat), ABlk.cells (39 : Nat) [AVal.nils]),
                ((1 : Nat), ABlk.cells (40 : Nat) [AVal.int IntKind.i64 (0 : Int)]),
                ((0 : Nat), ABlk.cells (39 : Nat) [AVal.nils])])
            none)))))) := by kernel_rfl

set_option maxRecDepth 100000 in
theorem w_allround_cons (s0 s : List UInt8) (acc : List PieceR) (QQ : AExit → Env → AHeap → Option Code → Prop) : (wpY (TE.ctx Try.prog) 4 (roundA (TE.ctx Try.prog) 60 13 ((8, .func 27 [] [.ptr 3 0 0 0]) :: (7, .str s0) :: (4, .ptr 2 0 0 0) :: (3, .ptr 1 0 0 0) :: (2, .ptr 0 0 0 0) :: (0, .str s0) :: []) [9, 10] (rfAssign (blkC (seqR (seqL (seqR (seqR (bodyC Try.f13))))))) (rfBody (blkC (seqR (seqL (seqR (seqR (bodyC Try.f13)))))))) 60 27 (lpC (blkC (bodyC Try.f27))) [(0, .yld 4), (1, .ptr 3 0 0 0)] ⟨6, [(5, .row 46 pieceRow acc .plain), (3, .cells 9 [.str s]), (2, .cells 39 [.sl 5 0 9 0 acc.length none]), (1, .cells 40 [.int .i64 0]), (0, .cells 39 [.nils])]⟩ none QQ
) = (obl (decide (s.length ≤ (9223372036854775000 : Nat)))
  (branch (decide ((dec s).e = (5 : Int)))
    (QQ AExit.ret
      [((24 : Nat), AVal.bool true), ((23 : Nat), AVal.tup []), ((21 : Nat), AVal.bool true), ((22 : Nat), AVal.tup []),
        ((21 : Nat), AVal.bool true), ((21 : Nat), AVal.bool true), ((20 : Nat), AVal.bool true),
        ((19 : Nat), AVal.tup []), ((14 : Nat), AVal.bool true), ((18 : Nat), AVal.tup []),
        ((14 : Nat), AVal.bool true), ((17 : Nat), AVal.tup []), ((14 : Nat), AVal.bool true),
        ((16 : Nat), AVal.tup []), ((14 : Nat), AVal.bool true), ((15 : Nat), AVal.tup []),
        ((14 : Nat), AVal.bool true), ((14 : Nat), AVal.bool (decide ((dec s).e = (5 : Int)))),
        ((13 : Nat), AVal.bool (decide ((dec s).e = (5 : Int)))), ((12 : Nat), AVal.int IntKind.i64 (dec s).e),
        ((5 : Nat), AVal.int IntKind.i64 (dec s).e), ((4 : Nat), AVal.int IntKind.i64 (dec s).n),
        ((3 : Nat), AVal.ptr (6 : Nat) (0 : Nat) (0 : Nat) (0 : Nat)), ((11 : Nat), AVal.int IntKind.i64 (dec s).e),
        ((10 : Nat), AVal.int IntKind.i64 (dec s).n),
        ((9 : Nat),
          AVal.agg
            [AVal.bool (dec s).p.st, AVal.bool (dec s).p.en, AVal.int IntKind.i64 (dec s).p.id,
              AVal.int IntKind.i64 (dec s).p.total, AVal.int IntKind.i64 (dec s).p.typ,
              AVal.int IntKind.i64 (dec s).p.k, AVal.str (dec s).p.lb, AVal.str (dec s).p.data,
              AVal.str (dec s).p.sum]),
        ((6 : Nat),
          AVal.tup
            [AVal.agg
                [AVal.bool (dec s).p.st, AVal.bool (dec s).p.en, AVal.int IntKind.i64 (dec s).p.id,
                  AVal.int IntKind.i64 (dec s).p.total, AVal.int IntKind.i64 (dec s).p.typ,
                  AVal.int IntKind.i64 (dec s).p.k, AVal.str (dec s).p.lb, AVal.str (dec s).p.data,
                  AVal.str (dec s).p.sum],
              AVal.int IntKind.i64 (dec s).n, AVal.int IntKind.i64 (dec s).e]),
        ((8 : Nat),
          AVal.tup
            [AVal.agg
                [AVal.bool (dec s).p.st, AVal.bool (dec s).p.en, AVal.int IntKind.i64 (dec s).p.id,
                  AVal.int IntKind.i64 (dec s).p.total, AVal.int IntKind.i64 (dec s).p.typ,
                  AVal.int IntKind.i64 (dec s).p.k, AVal.str (dec s).p.lb, AVal.str (dec s).p.data,
                  AVal.str (dec s).p.sum],
              AVal.int IntKind.i64 (dec s).n, AVal.int IntKind.i64 (dec s).e]),
        ((7 : Nat), AVal.str s), ((0 : Nat), AVal.yld (4 : Nat)),
        ((1 : Nat), AVal.ptr (3 : Nat) (0 : Nat) (0 : Nat) (0 : Nat))]
      (AHeap.mk (7 : Nat)
        [((6 : Nat),
            ABlk.cells (46 : Nat)
              [AVal.bool (dec s).p.st, AVal.bool (dec s).p.en, AVal.int IntKind.i64 (dec s).p.id,
                AVal.int IntKind.i64 (dec s).p.total, AVal.int IntKind.i64 (dec s).p.typ,
                AVal.int IntKind.i64 (dec s).p.k, AVal.str (dec s).p.lb, AVal.str (dec s).p.data,
                AVal.str (dec s).p.sum]),
          ((6 : Nat),
            ABlk.cells (46 : Nat)
              [AVal.bool false, AVal.bool false, AVal.int IntKind.i64 (0 : Int), AVal.int IntKind.i64 (0 : Int),
                AVal.int IntKind.i64 (0 : Int), AVal.int IntKind.i64 (0 : Int), AVal.str [], AVal.str [], AVal.str []]),
          ((5 : Nat), ABlk.row (46 : Nat) pieceRow acc RowMd.plain), ((3 : Nat), ABlk.cells (9 : Nat) [AVal.str s]),
          ((2 : Nat), ABlk.cells (39 : Nat) [AVal.sl (5 : Nat) (0 : Nat) (9 : Nat) (0 : Nat) acc.length none]),
          ((1 : Nat), ABlk.cells (40 : Nat) [AVal.int IntKind.i64 (0 : Int)]),
          ((0 : Nat), ABlk.cells (39 : Nat) [AVal.nils])])
      none)
    (branch (!decide ((dec s).e = (0 : Int)))
      (QQ AExit.ret
        [((24 : Nat), AVal.bool true), ((23 : Nat), AVal.tup []), ((21 : Nat), AVal.bool true),
          ((22 : Nat), AVal.tup []), ((21 : Nat), AVal.bool true), ((21 : Nat), AVal.bool true),
          ((20 : Nat), AVal.bool true), ((19 : Nat), AVal.bool true), ((14 : Nat), AVal.bool false),
          ((18 : Nat), AVal.bool false), ((14 : Nat), AVal.bool false), ((17 : Nat), AVal.int IntKind.i64 (dec s).e),
          ((14 : Nat), AVal.bool false),
          ((16 : Nat),
            AVal.agg
              [AVal.bool (dec s).p.st, AVal.bool (dec s).p.en, AVal.int IntKind.i64 (dec s).p.id,
                AVal.int IntKind.i64 (dec s).p.total, AVal.int IntKind.i64 (dec s).p.typ,
                AVal.int IntKind.i64 (dec s).p.k, AVal.str (dec s).p.lb, AVal.str (dec s).p.data,
                AVal.str (dec s).p.sum]),
          ((14 : Nat), AVal.bool false), ((15 : Nat), AVal.yld (4 : Nat)), ((14 : Nat), AVal.bool false),
          ((14 : Nat), AVal.bool (decide ((dec s).e = (5 : Int)))),
          ((13 : Nat), AVal.bool (decide ((dec s).e = (5 : Int)))), ((12 : Nat), AVal.int IntKind.i64 (dec s).e),
          ((5 : Nat), AVal.int IntKind.i64 (dec s).e), ((4 : Nat), AVal.int IntKind.i64 (dec s).n),
          ((3 : Nat), AVal.ptr (6 : Nat) (0 : Nat) (0 : Nat) (0 : Nat)), ((11 : Nat), AVal.int IntKind.i64 (dec s).e),
          ((10 : Nat), AVal.int IntKind.i64 (dec s).n),
          ((9 : Nat),
            AVal.agg
              [AVal.bool (dec s).p.st, AVal.bool (dec s).p.en, AVal.int IntKind.i64 (dec s).p.id,
                AVal.int IntKind.i64 (dec s).p.total, AVal.int IntKind.i64 (dec s).p.typ,
                AVal.int IntKind.i64 (dec s).p.k, AVal.str (dec s).p.lb, AVal.str (dec s).p.data,
                AVal.str (dec s).p.sum]),
          ((6 : Nat),
            AVal.tup
              [AVal.agg
                  [AVal.bool (dec s).p.st, AVal.bool (dec s).p.en, AVal.int IntKind.i64 (dec s).p.id,
                    AVal.int IntKind.i64 (dec s).p.total, AVal.int IntKind.i64 (dec s).p.typ,
                    AVal.int IntKind.i64 (dec s).p.k, AVal.str (dec s).p.lb, AVal.str (dec s).p.data,
                    AVal.str (dec s).p.sum],
                AVal.int IntKind.i64 (dec s).n, AVal.int IntKind.i64 (dec s).e]),
          ((8 : Nat),
            AVal.tup
              [AVal.agg
                  [AVal.bool (dec s).p.st, AVal.bool (dec s).p.en, AVal.int IntKind.i64 (dec s).p.id,
                    AVal.int IntKind.i64 (dec s).p.total, AVal.int IntKind.i64 (dec s).p.typ,
                    AVal.int IntKind.i64 (dec s).p.k, AVal.str (dec s).p.lb, AVal.str (dec s).p.data,
                    AVal.str (dec s).p.sum],
                AVal.int IntKind.i64 (dec s).n, AVal.int IntKind.i64 (dec s).e]),
          ((7 : Nat), AVal.str s), ((0 : Nat), AVal.yld (4 : Nat)),
          ((1 : Nat), AVal.ptr (3 : Nat) (0 : Nat) (0 : Nat) (0 : Nat))]
        (AHeap.mk (8 : Nat)
          [((1 : Nat), ABlk.cells (40 : Nat) [AVal.int IntKind.i64 (dec s).e]),
            ((0 : Nat), ABlk.cells (39 : Nat) [AVal.sl (5 : Nat) (0 : Nat) (9 : Nat) (0 : Nat) acc.length none]),
            ((7 : Nat),
              ABlk.cells (46 : Nat)
                [AVal.bool (dec s).p.st, AVal.bool (dec s).p.en, AVal.int IntKind.i64 (dec s).p.id,
                  AVal.int IntKind.i64 (dec s).p.total, AVal.int IntKind.i64 (dec s).p.typ,
                  AVal.int IntKind.i64 (dec s).p.k, AVal.str (dec s).p.lb, AVal.str (dec s).p.data,
                  AVal.str (dec s).p.sum]),
            ((7 : Nat),
              ABlk.cells (46 : Nat)
                [AVal.bool false, AVal.bool false, AVal.int IntKind.i64 (0 : Int), AVal.int IntKind.i64 (0 : Int),
                  AVal.int IntKind.i64 (0 : Int), AVal.int IntKind.i64 (0 : Int), AVal.str [], AVal.str [],
                  AVal.str []]),
            ((6 : Nat),
              ABlk.cells (46 : Nat)
                [AVal.bool (dec s).p.st, AVal.bool (dec s).p.en, AVal.int IntKind.i64 (dec s).p.id,
                  AVal.int IntKind.i64 (dec s).p.total, AVal.int IntKind.i64 (dec s).p.typ,
                  AVal.int IntKind.i64 (dec s).p.k, AVal.str (dec s).p.lb, AVal.str (dec s).p.data,
                  AVal.str (dec s).p.sum]),
            ((6 : Nat),
              ABlk.cells (46 : Nat)
                [AVal.bool false, AVal.bool false, AVal.int IntKind.i64 (0 : Int), AVal.int IntKind.i64 (0 : Int),
                  AVal.int IntKind.i64 (0 : Int), AVal.int IntKind.i64 (0 : Int), AVal.str [], AVal.str [],
                  AVal.str []]),
            ((5 : Nat), ABlk.row (46 : Nat) pieceRow acc RowMd.plain), ((3 : Nat), ABlk.cells (9 : Nat) [AVal.str s]),
            ((2 : Nat), ABlk.cells (39 : Nat) [AVal.sl (5 : Nat) (0 : Nat) (9 : Nat) (0 : Nat) acc.length none]),
            ((1 : Nat), ABlk.cells (40 : Nat) [AVal.int IntKind.i64 (0 : Int)]),
            ((0 : Nat), ABlk.cells (39 : Nat) [AVal.nils])])
        (some Code.ret))
      (obl
        (true &&
          decide
            (acc.length = acc.length ∧
              (9 : Nat) = (9 : Nat) ∧
                (9 : Nat) = (9 : Nat) ∧
                  (0 : Nat) < (9 : Nat) ∧
                    (acc ++
                            [PieceR.mk (dec s).p.st (dec s).p.en (dec s).p.id (dec s).p.total (dec s).p.typ (dec s).p.k
                                (dec s).p.lb (dec s).p.data (dec s).p.sum]).length ≤
                        (9223372036854775807 : Nat) ∧
                      (acc ++
                              [PieceR.mk (dec s).p.st (dec s).p.en (dec s).p.id (dec s).p.total (dec s).p.typ
                                  (dec s).p.k (dec s).p.lb (dec s).p.data (dec s).p.sum]).length *
                          (88 : Nat) ≤
                        (140737488355328 : Nat)))
        (branch (!decide ((dec s).e = (0 : Int)))
          (QQ AExit.ret
            [((24 : Nat), AVal.bool !decide ((dec s).e = (0 : Int))),
              ((23 : Nat), AVal.bool !decide ((dec s).e = (0 : Int))), ((21 : Nat), AVal.bool false),
              ((22 : Nat), AVal.int IntKind.i64 (dec s).e), ((21 : Nat), AVal.bool false),
              ((21 : Nat), AVal.bool false), ((20 : Nat), AVal.bool false), ((19 : Nat), AVal.bool false),
              ((14 : Nat), AVal.bool false), ((18 : Nat), AVal.bool true), ((14 : Nat), AVal.bool false),
              ((17 : Nat), AVal.int IntKind.i64 (dec s).e), ((14 : Nat), AVal.bool false),
              ((16 : Nat),
                AVal.agg
                  [AVal.bool (dec s).p.st, AVal.bool (dec s).p.en, AVal.int IntKind.i64 (dec s).p.id,
                    AVal.int IntKind.i64 (dec s).p.total, AVal.int IntKind.i64 (dec s).p.typ,
                    AVal.int IntKind.i64 (dec s).p.k, AVal.str (dec s).p.lb, AVal.str (dec s).p.data,
                    AVal.str (dec s).p.sum]),
              ((14 : Nat), AVal.bool false), ((15 : Nat), AVal.yld (4 : Nat)), ((14 : Nat), AVal.bool false),
              ((14 : Nat), AVal.bool (decide ((dec s).e = (5 : Int)))),
              ((13 : Nat), AVal.bool (decide ((dec s).e = (5 : Int)))), ((12 : Nat), AVal.int IntKind.i64 (dec s).e),
              ((5 : Nat), AVal.int IntKind.i64 (dec s).e), ((4 : Nat), AVal.int IntKind.i64 (dec s).n),
              ((3 : Nat), AVal.ptr (6 : Nat) (0 : Nat) (0 : Nat) (0 : Nat)),
              ((11 : Nat), AVal.int IntKind.i64 (dec s).e), ((10 : Nat), AVal.int IntKind.i64 (dec s).n),
              ((9 : Nat),
                AVal.agg
                  [AVal.bool (dec s).p.st, AVal.bool (dec s).p.en, AVal.int IntKind.i64 (dec s).p.id,
                    AVal.int IntKind.i64 (dec s).p.total, AVal.int IntKind.i64 (dec s).p.typ,
                    AVal.int IntKind.i64 (dec s).p.k, AVal.str (dec s).p.lb, AVal.str (dec s).p.data,
                    AVal.str (dec s).p.sum]),
              ((6 : Nat),
                AVal.tup
                  [AVal.agg
                      [AVal.bool (dec s).p.st, AVal.bool (dec s).p.en, AVal.int IntKind.i64 (dec s).p.id,
                        AVal.int IntKind.i64 (dec s).p.total, AVal.int IntKind.i64 (dec s).p.typ,
                        AVal.int IntKind.i64 (dec s).p.k, AVal.str (dec s).p.lb, AVal.str (dec s).p.data,
                        AVal.str (dec s).p.sum],
                    AVal.int IntKind.i64 (dec s).n, AVal.int IntKind.i64 (dec s).e]),
              ((8 : Nat),
                AVal.tup
                  [AVal.agg
                      [AVal.bool (dec s).p.st, AVal.bool (dec s).p.en, AVal.int IntKind.i64 (dec s).p.id,
                        AVal.int IntKind.i64 (dec s).p.total, AVal.int IntKind.i64 (dec s).p.typ,
                        AVal.int IntKind.i64 (dec s).p.k, AVal.str (dec s).p.lb, AVal.str (dec s).p.data,
                        AVal.str (dec s).p.sum],
                    AVal.int IntKind.i64 (dec s).n, AVal.int IntKind.i64 (dec s).e]),
              ((7 : Nat), AVal.str s), ((0 : Nat), AVal.yld (4 : Nat)),
              ((1 : Nat), AVal.ptr (3 : Nat) (0 : Nat) (0 : Nat) (0 : Nat))]
            (AHeap.mk (10 : Nat)
              [((2 : Nat),
                  ABlk.cells (39 : Nat)
                    [AVal.sl (9 : Nat) (0 : Nat) (9 : Nat) (0 : Nat)
                        (acc ++
                            [PieceR.mk (dec s).p.st (dec s).p.en (dec s).p.id (dec s).p.total (dec s).p.typ (dec s).p.k
                                (dec s).p.lb (dec s).p.data (dec s).p.sum]).length
                        none]),
                ((9 : Nat),
                  ABlk.row (46 : Nat) pieceRow
                    (acc ++
                      [PieceR.mk (dec s).p.st (dec s).p.en (dec s).p.id (dec s).p.total (dec s).p.typ (dec s).p.k
                          (dec s).p.lb (dec s).p.data (dec s).p.sum])
                    RowMd.plain),
                ((5 : Nat), ABlk.dead),
                ((8 : Nat),
                  ABlk.cells (46 : Nat)
                    [AVal.bool (dec s).p.st, AVal.bool (dec s).p.en, AVal.int IntKind.i64 (dec s).p.id,
                      AVal.int IntKind.i64 (dec s).p.total, AVal.int IntKind.i64 (dec s).p.typ,
                      AVal.int IntKind.i64 (dec s).p.k, AVal.str (dec s).p.lb, AVal.str (dec s).p.data,
                      AVal.str (dec s).p.sum]),
                ((7 : Nat),
                  ABlk.cells (46 : Nat)
                    [AVal.bool (dec s).p.st, AVal.bool (dec s).p.en, AVal.int IntKind.i64 (dec s).p.id,
                      AVal.int IntKind.i64 (dec s).p.total, AVal.int IntKind.i64 (dec s).p.typ,
                      AVal.int IntKind.i64 (dec s).p.k, AVal.str (dec s).p.lb, AVal.str (dec s).p.data,
                      AVal.str (dec s).p.sum]),
                ((7 : Nat),
                  ABlk.cells (46 : Nat)
                    [AVal.bool false, AVal.bool false, AVal.int IntKind.i64 (0 : Int), AVal.int IntKind.i64 (0 : Int),
                      AVal.int IntKind.i64 (0 : Int), AVal.int IntKind.i64 (0 : Int), AVal.str [], AVal.str [],
                      AVal.str []]),
                ((6 : Nat),
                  ABlk.cells (46 : Nat)
                    [AVal.bool (dec s).p.st, AVal.bool (dec s).p.en, AVal.int IntKind.i64 (dec s).p.id,
                      AVal.int IntKind.i64 (dec s).p.total, AVal.int IntKind.i64 (dec s).p.typ,
                      AVal.int IntKind.i64 (dec s).p.k, AVal.str (dec s).p.lb, AVal.str (dec s).p.data,
                      AVal.str (dec s).p.sum]),
                ((6 : Nat),
                  ABlk.cells (46 : Nat)
                    [AVal.bool false, AVal.bool false, AVal.int IntKind.i64 (0 : Int), AVal.int IntKind.i64 (0 : Int),
                      AVal.int IntKind.i64 (0 : Int), AVal.int IntKind.i64 (0 : Int), AVal.str [], AVal.str [],
                      AVal.str []]),
                ((5 : Nat), ABlk.row (46 : Nat) pieceRow acc RowMd.plain),
                ((3 : Nat), ABlk.cells (9 : Nat) [AVal.str s]),
                ((2 : Nat), ABlk.cells (39 : Nat) [AVal.sl (5 : Nat) (0 : Nat) (9 : Nat) (0 : Nat) acc.length none]),
                ((1 : Nat), ABlk.cells (40 : Nat) [AVal.int IntKind.i64 (0 : Int)]),
                ((0 : Nat), ABlk.cells (39 : Nat) [AVal.nils])])
            none)
          (obl (decide ((0 : Int) ≤ (dec s).n ∧ (dec s).n ≤ (↑s.length : Int)))
            (QQ AExit.normal
              [((27 : Nat), AVal.str (List.drop (dec s).n.toNat s)), ((26 : Nat), AVal.int IntKind.i64 (dec s).n),
                ((25 : Nat), AVal.str s), ((24 : Nat), AVal.bool !decide ((dec s).e = (0 : Int))),
                ((23 : Nat), AVal.bool !decide ((dec s).e = (0 : Int))), ((21 : Nat), AVal.bool false),
                ((22 : Nat), AVal.int IntKind.i64 (dec s).e), ((21 : Nat), AVal.bool false),
                ((21 : Nat), AVal.bool false), ((20 : Nat), AVal.bool false), ((19 : Nat), AVal.bool false),
                ((14 : Nat), AVal.bool false), ((18 : Nat), AVal.bool true), ((14 : Nat), AVal.bool false),
                ((17 : Nat), AVal.int IntKind.i64 (dec s).e), ((14 : Nat), AVal.bool false),
                ((16 : Nat),
                  AVal.agg
                    [AVal.bool (dec s).p.st, AVal.bool (dec s).p.en, AVal.int IntKind.i64 (dec s).p.id,
                      AVal.int IntKind.i64 (dec s).p.total, AVal.int IntKind.i64 (dec s).p.typ,
                      AVal.int IntKind.i64 (dec s).p.k, AVal.str (dec s).p.lb, AVal.str (dec s).p.data,
                      AVal.str (dec s).p.sum]),
                ((14 : Nat), AVal.bool false), ((15 : Nat), AVal.yld (4 : Nat)), ((14 : Nat), AVal.bool false),
                ((14 : Nat), AVal.bool (decide ((dec s).e = (5 : Int)))),
                ((13 : Nat), AVal.bool (decide ((dec s).e = (5 : Int)))), ((12 : Nat), AVal.int IntKind.i64 (dec s).e),
                ((5 : Nat), AVal.int IntKind.i64 (dec s).e), ((4 : Nat), AVal.int IntKind.i64 (dec s).n),
                ((3 : Nat), AVal.ptr (6 : Nat) (0 : Nat) (0 : Nat) (0 : Nat)),
                ((11 : Nat), AVal.int IntKind.i64 (dec s).e), ((10 : Nat), AVal.int IntKind.i64 (dec s).n),
                ((9 : Nat),
                  AVal.agg
                    [AVal.bool (dec s).p.st, AVal.bool (dec s).p.en, AVal.int IntKind.i64 (dec s).p.id,
                      AVal.int IntKind.i64 (dec s).p.total, AVal.int IntKind.i64 (dec s).p.typ,
                      AVal.int IntKind.i64 (dec s).p.k, AVal.str (dec s).p.lb, AVal.str (dec s).p.data,
                      AVal.str (dec s).p.sum]),
                ((6 : Nat),
                  AVal.tup
                    [AVal.agg
                        [AVal.bool (dec s).p.st, AVal.bool (dec s).p.en, AVal.int IntKind.i64 (dec s).p.id,
                          AVal.int IntKind.i64 (dec s).p.total, AVal.int IntKind.i64 (dec s).p.typ,
                          AVal.int IntKind.i64 (dec s).p.k, AVal.str (dec s).p.lb, AVal.str (dec s).p.data,
                          AVal.str (dec s).p.sum],
                      AVal.int IntKind.i64 (dec s).n, AVal.int IntKind.i64 (dec s).e]),
                ((8 : Nat),
                  AVal.tup
                    [AVal.agg
                        [AVal.bool (dec s).p.st, AVal.bool (dec s).p.en, AVal.int IntKind.i64 (dec s).p.id,
                          AVal.int IntKind.i64 (dec s).p.total, AVal.int IntKind.i64 (dec s).p.typ,
                          AVal.int IntKind.i64 (dec s).p.k, AVal.str (dec s).p.lb, AVal.str (dec s).p.data,
                          AVal.str (dec s).p.sum],
                      AVal.int IntKind.i64 (dec s).n, AVal.int IntKind.i64 (dec s).e]),
                ((7 : Nat), AVal.str s), ((0 : Nat), AVal.yld (4 : Nat)),
                ((1 : Nat), AVal.ptr (3 : Nat) (0 : Nat) (0 : Nat) (0 : Nat))]
              (AHeap.mk (10 : Nat)
                [((3 : Nat), ABlk.cells (9 : Nat) [AVal.str (List.drop (dec s).n.toNat s)]),
                  ((2 : Nat),
                    ABlk.cells (39 : Nat)
                      [AVal.sl (9 : Nat) (0 : Nat) (9 : Nat) (0 : Nat)
                          (acc ++
                              [PieceR.mk (dec s).p.st (dec s).p.en (dec s).p.id (dec s).p.total (dec s).p.typ
                                  (dec s).p.k (dec s).p.lb (dec s).p.data (dec s).p.sum]).length
                          none]),
                  ((9 : Nat),
                    ABlk.row (46 : Nat) pieceRow
                      (acc ++
                        [PieceR.mk (dec s).p.st (dec s).p.en (dec s).p.id (dec s).p.total (dec s).p.typ (dec s).p.k
                            (dec s).p.lb (dec s).p.data (dec s).p.sum])
                      RowMd.plain),
                  ((5 : Nat), ABlk.dead),
                  ((8 : Nat),
                    ABlk.cells (46 : Nat)
                      [AVal.bool (dec s).p.st, AVal.bool (dec s).p.en, AVal.int IntKind.i64 (dec s).p.id,
                        AVal.int IntKind.i64 (dec s).p.total, AVal.int IntKind.i64 (dec s).p.typ,
                        AVal.int IntKind.i64 (dec s).p.k, AVal.str (dec s).p.lb, AVal.str (dec s).p.data,
                        AVal.str (dec s).p.sum]),
                  ((7 : Nat),
                    ABlk.cells (46 : Nat)
                      [AVal.bool (dec s).p.st, AVal.bool (dec s).p.en, AVal.int IntKind.i64 (dec s).p.id,
                        AVal.int IntKind.i64 (dec s).p.total, AVal.int IntKind.i64 (dec s).p.typ,
                        AVal.int IntKind.i64 (dec s).p.k, AVal.str (dec s).p.lb, AVal.str (dec s).p.data,
                        AVal.str (dec s).p.sum]),
                  ((7 : Nat),
                    ABlk.cells (46 : Nat)
                      [AVal.bool false, AVal.bool false, AVal.int IntKind.i64 (0 : Int), AVal.int IntKind.i64 (0 : Int),
                        AVal.int IntKind.i64 (0 : Int), AVal.int IntKind.i64 (0 : Int), AVal.str [], AVal.str [],
                        AVal.str []]),
                  ((6 : Nat),
                    ABlk.cells (46 : Nat)
                      [AVal.bool (dec s).p.st, AVal.bool (dec s).p.en, AVal.int IntKind.i64 (dec s).p.id,
                        AVal.int IntKind.i64 (dec s).p.total, AVal.int IntKind.i64 (dec s).p.typ,
                        AVal.int IntKind.i64 (dec s).p.k, AVal.str (dec s).p.lb, AVal.str (dec s).p.data,
                        AVal.str (dec s).p.sum]),
                  ((6 : Nat),
                    ABlk.cells (46 : Nat)
                      [AVal.bool false, AVal.bool false, AVal.int IntKind.i64 (0 : Int), AVal.int IntKind.i64 (0 : Int),
                        AVal.int IntKind.i64 (0 : Int), AVal.int IntKind.i64 (0 : Int), AVal.str [], AVal.str [],
                        AVal.str []]),
                  ((5 : Nat), ABlk.row (46 : Nat) pieceRow acc RowMd.plain),
                  ((3 : Nat), ABlk.cells (9 : Nat) [AVal.str s]),
                  ((2 : Nat), ABlk.cells (39 : Nat) [AVal.sl (5 : Nat) (0 : Nat) (9 : Nat) (0 : Nat) acc.length none]),
                  ((1 : Nat), ABlk.cells (40 : Nat) [AVal.int IntKind.i64 (0 : Int)]),
                  ((0 : Nat), ABlk.cells (39 : Nat) [AVal.nils])])
              none))))))) := by kernel_rfl

end Go.Proofs.Ytjacnjecggedhaa
