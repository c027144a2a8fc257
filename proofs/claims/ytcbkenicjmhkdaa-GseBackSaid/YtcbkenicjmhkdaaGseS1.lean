/-
  Walks, printed: what calls come to, as they are reckoned.
-/
import Derived.Test.YtcbkenicjmhkdaaGseAllR
namespace Go.Proofs.Ytcbkenicjmhkdaa
set_option linter.unusedVariables false
set_option linter.unusedSimpArgs false
open Go.RowKit Ev

set_option maxRecDepth 100000 in
theorem w_same_pre (x y : List PieceR) (KK : Env → AHeap → Prop) (Q : AExit → Env → AHeap → Prop) : (wpN (TB.ctx Try.prog) 2 60 19 2 (bodyC Try.f19) (env0 [.sl 0 0 9 0 x.length none, .sl 1 0 9 0 y.length none] 0) ⟨2, [(1, .row 27 pieceRow y .ro), (0, .row 27 pieceRow x .ro)]⟩ KK Q
) = (branch (!decide ((↑x.length : Int) = (↑y.length : Int)))
  (Q AExit.ret
    [((4 : Nat), AVal.bool false), ((10 : Nat), AVal.bool !decide ((↑x.length : Int) = (↑y.length : Int))),
      ((9 : Nat), AVal.int IntKind.i64 (↑y.length : Int)),
      ((8 : Nat), AVal.sl (1 : Nat) (0 : Nat) (9 : Nat) (0 : Nat) y.length none),
      ((7 : Nat), AVal.int IntKind.i64 (↑x.length : Int)),
      ((6 : Nat), AVal.sl (0 : Nat) (0 : Nat) (9 : Nat) (0 : Nat) x.length none), ((4 : Nat), AVal.bool false),
      ((0 : Nat), AVal.sl (0 : Nat) (0 : Nat) (9 : Nat) (0 : Nat) x.length none),
      ((1 : Nat), AVal.sl (1 : Nat) (0 : Nat) (9 : Nat) (0 : Nat) y.length none)]
    (AHeap.mk (2 : Nat)
      [((1 : Nat), ABlk.row (27 : Nat) pieceRow y RowMd.ro), ((0 : Nat), ABlk.row (27 : Nat) pieceRow x RowMd.ro)]))
  (KK
    [((10 : Nat), AVal.bool !decide ((↑x.length : Int) = (↑y.length : Int))),
      ((9 : Nat), AVal.int IntKind.i64 (↑y.length : Int)),
      ((8 : Nat), AVal.sl (1 : Nat) (0 : Nat) (9 : Nat) (0 : Nat) y.length none),
      ((7 : Nat), AVal.int IntKind.i64 (↑x.length : Int)),
      ((6 : Nat), AVal.sl (0 : Nat) (0 : Nat) (9 : Nat) (0 : Nat) x.length none), ((4 : Nat), AVal.bool false),
      ((0 : Nat), AVal.sl (0 : Nat) (0 : Nat) (9 : Nat) (0 : Nat) x.length none),
      ((1 : Nat), AVal.sl (1 : Nat) (0 : Nat) (9 : Nat) (0 : Nat) y.length none)]
    (AHeap.mk (2 : Nat)
      [((1 : Nat), ABlk.row (27 : Nat) pieceRow y RowMd.ro),
        ((0 : Nat), ABlk.row (27 : Nat) pieceRow x RowMd.ro)]))) := by kernel_rfl

set_option maxRecDepth 100000 in
theorem w_same_round (x y : List PieceR) (i : Nat) (QQ : AExit → Env → AHeap → Prop) : (wpC (TB.ctx Try.prog) 60 19 2 (lpC (blkC (seqR (seqL (tailN 2 (bodyC Try.f19)))))) [(5, .int .i64 i), (1, .sl 1 0 9 0 y.length none), (0, .sl 0 0 9 0 x.length none)] ⟨2, [(1, .row 27 pieceRow y .ro), (0, .row 27 pieceRow x .ro)]⟩ QQ
) = (branch (decide ((↑i : Int) < (↑x.length : Int)))
  (obl (decide ((0 : Int) ≤ (↑i : Int) ∧ (↑i : Int) < (↑x.length : Int)))
    (obl (decide ((0 : Nat) + (↑i : Int).toNat < x.length))
      (obl (decide ((0 : Int) ≤ (↑i : Int) ∧ (↑i : Int) < (↑y.length : Int)))
        (obl (decide ((0 : Nat) + (↑i : Int).toNat < y.length))
          (branch
            (!((x.getD ((0 : Nat) + (↑i : Int).toNat)
                      (PieceR.mk false false (0 : Int) (0 : Int) (0 : Int) (0 : Int) [] [] [])).st ==
                  (y.getD ((0 : Nat) + (↑i : Int).toNat)
                      (PieceR.mk false false (0 : Int) (0 : Int) (0 : Int) (0 : Int) [] [] [])).st &&
                ((x.getD ((0 : Nat) + (↑i : Int).toNat)
                        (PieceR.mk false false (0 : Int) (0 : Int) (0 : Int) (0 : Int) [] [] [])).en ==
                    (y.getD ((0 : Nat) + (↑i : Int).toNat)
                        (PieceR.mk false false (0 : Int) (0 : Int) (0 : Int) (0 : Int) [] [] [])).en &&
                  (decide
                      ((x.getD ((0 : Nat) + (↑i : Int).toNat)
                            (PieceR.mk false false (0 : Int) (0 : Int) (0 : Int) (0 : Int) [] [] [])).id =
                        (y.getD ((0 : Nat) + (↑i : Int).toNat)
                            (PieceR.mk false false (0 : Int) (0 : Int) (0 : Int) (0 : Int) [] [] [])).id) &&
                    (decide
                        ((x.getD ((0 : Nat) + (↑i : Int).toNat)
                              (PieceR.mk false false (0 : Int) (0 : Int) (0 : Int) (0 : Int) [] [] [])).total =
                          (y.getD ((0 : Nat) + (↑i : Int).toNat)
                              (PieceR.mk false false (0 : Int) (0 : Int) (0 : Int) (0 : Int) [] [] [])).total) &&
                      (decide
                          ((x.getD ((0 : Nat) + (↑i : Int).toNat)
                                (PieceR.mk false false (0 : Int) (0 : Int) (0 : Int) (0 : Int) [] [] [])).typ =
                            (y.getD ((0 : Nat) + (↑i : Int).toNat)
                                (PieceR.mk false false (0 : Int) (0 : Int) (0 : Int) (0 : Int) [] [] [])).typ) &&
                        (decide
                              ((x.getD ((0 : Nat) + (↑i : Int).toNat)
                                    (PieceR.mk false false (0 : Int) (0 : Int) (0 : Int) (0 : Int) [] [] [])).k =
                                (y.getD ((0 : Nat) + (↑i : Int).toNat)
                                    (PieceR.mk false false (0 : Int) (0 : Int) (0 : Int) (0 : Int) [] [] [])).k) &&
                            (decide
                                ((x.getD ((0 : Nat) + (↑i : Int).toNat)
                                      (PieceR.mk false false (0 : Int) (0 : Int) (0 : Int) (0 : Int) [] [] [])).lb =
                                  (y.getD ((0 : Nat) + (↑i : Int).toNat)
                                      (PieceR.mk false false (0 : Int) (0 : Int) (0 : Int) (0 : Int) [] [] [])).lb) &&
                              true) &&
                          (decide
                              ((x.getD ((0 : Nat) + (↑i : Int).toNat)
                                    (PieceR.mk false false (0 : Int) (0 : Int) (0 : Int) (0 : Int) [] [] [])).data =
                                (y.getD ((0 : Nat) + (↑i : Int).toNat)
                                    (PieceR.mk false false (0 : Int) (0 : Int) (0 : Int) (0 : Int) [] [] [])).data) &&
                            (decide
                                ((x.getD ((0 : Nat) + (↑i : Int).toNat)
                                      (PieceR.mk false false (0 : Int) (0 : Int) (0 : Int) (0 : Int) [] [] [])).sum =
                                  (y.getD ((0 : Nat) + (↑i : Int).toNat)
                                      (PieceR.mk false false (0 : Int) (0 : Int) (0 : Int) (0 : Int) [] [] [])).sum) &&
                              true)))))))))
            (QQ AExit.ret
              [((4 : Nat), AVal.bool false),
                ((25 : Nat),
                  AVal.bool
                    !((x.getD ((0 : Nat) + (↑i : Int).toNat)
                              (PieceR.mk false false (0 : Int) (0 : Int) (0 : Int) (0 : Int) [] [] [])).st ==
                          (y.getD ((0 : Nat) + (↑i : Int).toNat)
                              (PieceR.mk false false (0 : Int) (0 : Int) (0 : Int) (0 : Int) [] [] [])).st &&
                        ((x.getD ((0 : Nat) + (↑i : Int).toNat)
                                (PieceR.mk false false (0 : Int) (0 : Int) (0 : Int) (0 : Int) [] [] [])).en ==
                            (y.getD ((0 : Nat) + (↑i : Int).toNat)
                                (PieceR.mk false false (0 : Int) (0 : Int) (0 : Int) (0 : Int) [] [] [])).en &&
                          (decide
                              ((x.getD ((0 : Nat) + (↑i : Int).toNat)
                                    (PieceR.mk false false (0 : Int) (0 : Int) (0 : Int) (0 : Int) [] [] [])).id =
                                (y.getD ((0 : Nat) + (↑i : Int).toNat)
                                    (PieceR.mk false false (0 : Int) (0 : Int) (0 : Int) (0 : Int) [] [] [])).id) &&
                            (decide
                                ((x.getD ((0 : Nat) + (↑i : Int).toNat)
                                      (PieceR.mk false false (0 : Int) (0 : Int) (0 : Int) (0 : Int) [] [] [])).total =
                                  (y.getD ((0 : Nat) + (↑i : Int).toNat)
                                      (PieceR.mk false false (0 : Int) (0 : Int) (0 : Int) (0 : Int) [] []
                                        [])).total) &&
                              (decide
                                  ((x.getD ((0 : Nat) + (↑i : Int).toNat)
                                        (PieceR.mk false false (0 : Int) (0 : Int) (0 : Int) (0 : Int) [] [] [])).typ =
                                    (y.getD ((0 : Nat) + (↑i : Int).toNat)
                                        (PieceR.mk false false (0 : Int) (0 : Int) (0 : Int) (0 : Int) [] []
                                          [])).typ) &&
                                (decide
                                      ((x.getD ((0 : Nat) + (↑i : Int).toNat)
                                            (PieceR.mk false false (0 : Int) (0 : Int) (0 : Int) (0 : Int) [] []
                                              [])).k =
                                        (y.getD ((0 : Nat) + (↑i : Int).toNat)
                                            (PieceR.mk false false (0 : Int) (0 : Int) (0 : Int) (0 : Int) [] []
                                              [])).k) &&
                                    (decide
                                        ((x.getD ((0 : Nat) + (↑i : Int).toNat)
                                              (PieceR.mk false false (0 : Int) (0 : Int) (0 : Int) (0 : Int) [] []
                                                [])).lb =
                                          (y.getD ((0 : Nat) + (↑i : Int).toNat)
                                              (PieceR.mk false false (0 : Int) (0 : Int) (0 : Int) (0 : Int) [] []
                                                [])).lb) &&
                                      true) &&
                                  (decide
                                      ((x.getD ((0 : Nat) + (↑i : Int).toNat)
                                            (PieceR.mk false false (0 : Int) (0 : Int) (0 : Int) (0 : Int) [] []
                                              [])).data =
                                        (y.getD ((0 : Nat) + (↑i : Int).toNat)
                                            (PieceR.mk false false (0 : Int) (0 : Int) (0 : Int) (0 : Int) [] []
                                              [])).data) &&
                                    (decide
                                        ((x.getD ((0 : Nat) + (↑i : Int).toNat)
                                              (PieceR.mk false false (0 : Int) (0 : Int) (0 : Int) (0 : Int) [] []
                                                [])).sum =
                                          (y.getD ((0 : Nat) + (↑i : Int).toNat)
                                              (PieceR.mk false false (0 : Int) (0 : Int) (0 : Int) (0 : Int) [] []
                                                [])).sum) &&
                                      true))))))))),
                ((24 : Nat),
                  AVal.agg
                    [AVal.bool
                        (y.getD ((0 : Nat) + (↑i : Int).toNat)
                            (PieceR.mk false false (0 : Int) (0 : Int) (0 : Int) (0 : Int) [] [] [])).st,
                      AVal.bool
                        (y.getD ((0 : Nat) + (↑i : Int).toNat)
                            (PieceR.mk false false (0 : Int) (0 : Int) (0 : Int) (0 : Int) [] [] [])).en,
                      AVal.int IntKind.i64
                        (y.getD ((0 : Nat) + (↑i : Int).toNat)
                            (PieceR.mk false false (0 : Int) (0 : Int) (0 : Int) (0 : Int) [] [] [])).id,
                      AVal.int IntKind.i64
                        (y.getD ((0 : Nat) + (↑i : Int).toNat)
                            (PieceR.mk false false (0 : Int) (0 : Int) (0 : Int) (0 : Int) [] [] [])).total,
                      AVal.int IntKind.i64
                        (y.getD ((0 : Nat) + (↑i : Int).toNat)
                            (PieceR.mk false false (0 : Int) (0 : Int) (0 : Int) (0 : Int) [] [] [])).typ,
                      AVal.int IntKind.i64
                        (y.getD ((0 : Nat) + (↑i : Int).toNat)
                            (PieceR.mk false false (0 : Int) (0 : Int) (0 : Int) (0 : Int) [] [] [])).k,
                      AVal.str
                        (y.getD ((0 : Nat) + (↑i : Int).toNat)
                            (PieceR.mk false false (0 : Int) (0 : Int) (0 : Int) (0 : Int) [] [] [])).lb,
                      AVal.str
                        (y.getD ((0 : Nat) + (↑i : Int).toNat)
                            (PieceR.mk false false (0 : Int) (0 : Int) (0 : Int) (0 : Int) [] [] [])).data,
                      AVal.str
                        (y.getD ((0 : Nat) + (↑i : Int).toNat)
                            (PieceR.mk false false (0 : Int) (0 : Int) (0 : Int) (0 : Int) [] [] [])).sum]),
                ((23 : Nat), AVal.ptr (1 : Nat) ((0 : Nat) + (↑i : Int).toNat) (9 : Nat) (0 : Nat)),
                ((22 : Nat), AVal.int IntKind.i64 (↑i : Int)),
                ((21 : Nat), AVal.sl (1 : Nat) (0 : Nat) (9 : Nat) (0 : Nat) y.length none),
                ((20 : Nat),
                  AVal.agg
                    [AVal.bool
                        (x.getD ((0 : Nat) + (↑i : Int).toNat)
                            (PieceR.mk false false (0 : Int) (0 : Int) (0 : Int) (0 : Int) [] [] [])).st,
                      AVal.bool
                        (x.getD ((0 : Nat) + (↑i : Int).toNat)
                            (PieceR.mk false false (0 : Int) (0 : Int) (0 : Int) (0 : Int) [] [] [])).en,
                      AVal.int IntKind.i64
                        (x.getD ((0 : Nat) + (↑i : Int).toNat)
                            (PieceR.mk false false (0 : Int) (0 : Int) (0 : Int) (0 : Int) [] [] [])).id,
                      AVal.int IntKind.i64
                        (x.getD ((0 : Nat) + (↑i : Int).toNat)
                            (PieceR.mk false false (0 : Int) (0 : Int) (0 : Int) (0 : Int) [] [] [])).total,
                      AVal.int IntKind.i64
                        (x.getD ((0 : Nat) + (↑i : Int).toNat)
                            (PieceR.mk false false (0 : Int) (0 : Int) (0 : Int) (0 : Int) [] [] [])).typ,
                      AVal.int IntKind.i64
                        (x.getD ((0 : Nat) + (↑i : Int).toNat)
                            (PieceR.mk false false (0 : Int) (0 : Int) (0 : Int) (0 : Int) [] [] [])).k,
                      AVal.str
                        (x.getD ((0 : Nat) + (↑i : Int).toNat)
                            (PieceR.mk false false (0 : Int) (0 : Int) (0 : Int) (0 : Int) [] [] [])).lb,
                      AVal.str
                        (x.getD ((0 : Nat) + (↑i : Int).toNat)
                            (PieceR.mk false false (0 : Int) (0 : Int) (0 : Int) (0 : Int) [] [] [])).data,
                      AVal.str
                        (x.getD ((0 : Nat) + (↑i : Int).toNat)
                            (PieceR.mk false false (0 : Int) (0 : Int) (0 : Int) (0 : Int) [] [] [])).sum]),
                ((19 : Nat), AVal.ptr (0 : Nat) ((0 : Nat) + (↑i : Int).toNat) (9 : Nat) (0 : Nat)),
                ((18 : Nat), AVal.int IntKind.i64 (↑i : Int)),
                ((17 : Nat), AVal.sl (0 : Nat) (0 : Nat) (9 : Nat) (0 : Nat) x.length none),
                ((14 : Nat), AVal.bool (decide ((↑i : Int) < (↑x.length : Int)))),
                ((13 : Nat), AVal.int IntKind.i64 (↑x.length : Int)),
                ((12 : Nat), AVal.sl (0 : Nat) (0 : Nat) (9 : Nat) (0 : Nat) x.length none),
                ((11 : Nat), AVal.int IntKind.i64 (↑i : Int)), ((5 : Nat), AVal.int IntKind.i64 (↑i : Int)),
                ((1 : Nat), AVal.sl (1 : Nat) (0 : Nat) (9 : Nat) (0 : Nat) y.length none),
                ((0 : Nat), AVal.sl (0 : Nat) (0 : Nat) (9 : Nat) (0 : Nat) x.length none)]
              (AHeap.mk (11 : Nat)
                [((1 : Nat), ABlk.row (27 : Nat) pieceRow y RowMd.ro),
                  ((0 : Nat), ABlk.row (27 : Nat) pieceRow x RowMd.ro)]))
            (obl (inI64 ((↑i : Int) + (1 : Int)))
              (QQ AExit.normal
                [((5 : Nat), AVal.int IntKind.i64 ((↑i : Int) + (1 : Int))),
                  ((16 : Nat), AVal.int IntKind.i64 ((↑i : Int) + (1 : Int))),
                  ((15 : Nat), AVal.int IntKind.i64 (↑i : Int)),
                  ((25 : Nat),
                    AVal.bool
                      !((x.getD ((0 : Nat) + (↑i : Int).toNat)
                                (PieceR.mk false false (0 : Int) (0 : Int) (0 : Int) (0 : Int) [] [] [])).st ==
                            (y.getD ((0 : Nat) + (↑i : Int).toNat)
                                (PieceR.mk false false (0 : Int) (0 : Int) (0 : Int) (0 : Int) [] [] [])).st &&
                          ((x.getD ((0 : Nat) + (↑i : Int).toNat)
                                  (PieceR.mk false false (0 : Int) (0 : Int) (0 : Int) (0 : Int) [] [] [])).en ==
                              (y.getD ((0 : Nat) + (↑i : Int).toNat)
                                  (PieceR.mk false false (0 : Int) (0 : Int) (0 : Int) (0 : Int) [] [] [])).en &&
                            (decide
                                ((x.getD ((0 : Nat) + (↑i : Int).toNat)
                                      (PieceR.mk false false (0 : Int) (0 : Int) (0 : Int) (0 : Int) [] [] [])).id =
                                  (y.getD ((0 : Nat) + (↑i : Int).toNat)
                                      (PieceR.mk false false (0 : Int) (0 : Int) (0 : Int) (0 : Int) [] [] [])).id) &&
                              (decide
                                  ((x.getD ((0 : Nat) + (↑i : Int).toNat)
                                        (PieceR.mk false false (0 : Int) (0 : Int) (0 : Int) (0 : Int) [] []
                                          [])).total =
                                    (y.getD ((0 : Nat) + (↑i : Int).toNat)
                                        (PieceR.mk false false (0 : Int) (0 : Int) (0 : Int) (0 : Int) [] []
                                          [])).total) &&
                                (decide
                                    ((x.getD ((0 : Nat) + (↑i : Int).toNat)
                                          (PieceR.mk false false (0 : Int) (0 : Int) (0 : Int) (0 : Int) [] []
                                            [])).typ =
                                      (y.getD ((0 : Nat) + (↑i : Int).toNat)
                                          (PieceR.mk false false (0 : Int) (0 : Int) (0 : Int) (0 : Int) [] []
                                            [])).typ) &&
                                  (decide
                                        ((x.getD ((0 : Nat) + (↑i : Int).toNat)
                                              (PieceR.mk false false (0 : Int) (0 : Int) (0 : Int) (0 : Int) [] []
                                                [])).k =
                                          (y.getD ((0 : Nat) + (↑i : Int).toNat)
                                              (PieceR.mk false false (0 : Int) (0 : Int) (0 : Int) (0 : Int) [] []
                                                [])).k) &&
                                      (decide
                                          ((x.getD ((0 : Nat) + (↑i : Int).toNat)
                                                (PieceR.mk false false (0 : Int) (0 : Int) (0 : Int) (0 : Int) [] []
                                                  [])).lb =
                                            (y.getD ((0 : Nat) + (↑i : Int).toNat)
                                                (PieceR.mk false false (0 : Int) (0 : Int) (0 : Int) (0 : Int) [] []
                                                  [])).lb) &&
                                        true) &&
                                    (decide
                                        ((x.getD ((0 : Nat) + (↑i : Int).toNat)
                                              (PieceR.mk false false (0 : Int) (0 : Int) (0 : Int) (0 : Int) [] []
                                                [])).data =
                                          (y.getD ((0 : Nat) + (↑i : Int).toNat)
                                              (PieceR.mk false false (0 : Int) (0 : Int) (0 : Int) (0 : Int) [] []
                                                [])).data) &&
                                      (decide
                                          ((x.getD ((0 : Nat) + (↑i : Int).toNat)
                                                (PieceR.mk false false (0 : Int) (0 : Int) (0 : Int) (0 : Int) [] []
                                                  [])).sum =
                                            (y.getD ((0 : Nat) + (↑i : Int).toNat)
                                                (PieceR.mk false false (0 : Int) (0 : Int) (0 : Int) (0 : Int) [] []
                                                  [])).sum) &&
                                        true))))))))),
                  ((24 : Nat),
                    AVal.agg
                      [AVal.bool
                          (y.getD ((0 : Nat) + (↑i : Int).toNat)
                              (PieceR.mk false false (0 : Int) (0 : Int) (0 : Int) (0 : Int) [] [] [])).st,
                        AVal.bool
                          (y.getD ((0 : Nat) + (↑i : Int).toNat)
                              (PieceR.mk false false (0 : Int) (0 : Int) (0 : Int) (0 : Int) [] [] [])).en,
                        AVal.int IntKind.i64
                          (y.getD ((0 : Nat) + (↑i : Int).toNat)
                              (PieceR.mk false false (0 : Int) (0 : Int) (0 : Int) (0 : Int) [] [] [])).id,
                        AVal.int IntKind.i64
                          (y.getD ((0 : Nat) + (↑i : Int).toNat)
                              (PieceR.mk false false (0 : Int) (0 : Int) (0 : Int) (0 : Int) [] [] [])).total,
                        AVal.int IntKind.i64
                          (y.getD ((0 : Nat) + (↑i : Int).toNat)
                              (PieceR.mk false false (0 : Int) (0 : Int) (0 : Int) (0 : Int) [] [] [])).typ,
                        AVal.int IntKind.i64
                          (y.getD ((0 : Nat) + (↑i : Int).toNat)
                              (PieceR.mk false false (0 : Int) (0 : Int) (0 : Int) (0 : Int) [] [] [])).k,
                        AVal.str
                          (y.getD ((0 : Nat) + (↑i : Int).toNat)
                              (PieceR.mk false false (0 : Int) (0 : Int) (0 : Int) (0 : Int) [] [] [])).lb,
                        AVal.str
                          (y.getD ((0 : Nat) + (↑i : Int).toNat)
                              (PieceR.mk false false (0 : Int) (0 : Int) (0 : Int) (0 : Int) [] [] [])).data,
                        AVal.str
                          (y.getD ((0 : Nat) + (↑i : Int).toNat)
                              (PieceR.mk false false (0 : Int) (0 : Int) (0 : Int) (0 : Int) [] [] [])).sum]),
                  ((23 : Nat), AVal.ptr (1 : Nat) ((0 : Nat) + (↑i : Int).toNat) (9 : Nat) (0 : Nat)),
                  ((22 : Nat), AVal.int IntKind.i64 (↑i : Int)),
                  ((21 : Nat), AVal.sl (1 : Nat) (0 : Nat) (9 : Nat) (0 : Nat) y.length none),
                  ((20 : Nat),
                    AVal.agg
                      [AVal.bool
                          (x.getD ((0 : Nat) + (↑i : Int).toNat)
                              (PieceR.mk false false (0 : Int) (0 : Int) (0 : Int) (0 : Int) [] [] [])).st,
                        AVal.bool
                          (x.getD ((0 : Nat) + (↑i : Int).toNat)
                              (PieceR.mk false false (0 : Int) (0 : Int) (0 : Int) (0 : Int) [] [] [])).en,
                        AVal.int IntKind.i64
                          (x.getD ((0 : Nat) + (↑i : Int).toNat)
                              (PieceR.mk false false (0 : Int) (0 : Int) (0 : Int) (0 : Int) [] [] [])).id,
                        AVal.int IntKind.i64
                          (x.getD ((0 : Nat) + (↑i : Int).toNat)
                              (PieceR.mk false false (0 : Int) (0 : Int) (0 : Int) (0 : Int) [] [] [])).total,
                        AVal.int IntKind.i64
                          (x.getD ((0 : Nat) + (↑i : Int).toNat)
                              (PieceR.mk false false (0 : Int) (0 : Int) (0 : Int) (0 : Int) [] [] [])).typ,
                        AVal.int IntKind.i64
                          (x.getD ((0 : Nat) + (↑i : Int).toNat)
                              (PieceR.mk false false (0 : Int) (0 : Int) (0 : Int) (0 : Int) [] [] [])).k,
                        AVal.str
                          (x.getD ((0 : Nat) + (↑i : Int).toNat)
                              (PieceR.mk false false (0 : Int) (0 : Int) (0 : Int) (0 : Int) [] [] [])).lb,
                        AVal.str
                          (x.getD ((0 : Nat) + (↑i : Int).toNat)
                              (PieceR.mk false false (0 : Int) (0 : Int) (0 : Int) (0 : Int) [] [] [])).data,
                        AVal.str
                          (x.getD ((0 : Nat) + (↑i : Int).toNat)
                              (PieceR.mk false false (0 : Int) (0 : Int) (0 : Int) (0 : Int) [] [] [])).sum]),
                  ((19 : Nat), AVal.ptr (0 : Nat) ((0 : Nat) + (↑i : Int).toNat) (9 : Nat) (0 : Nat)),
                  ((18 : Nat), AVal.int IntKind.i64 (↑i : Int)),
                  ((17 : Nat), AVal.sl (0 : Nat) (0 : Nat) (9 : Nat) (0 : Nat) x.length none),
                  ((14 : Nat), AVal.bool (decide ((↑i : Int) < (↑x.length : Int)))),
                  ((13 : Nat), AVal.int IntKind.i64 (↑x.length : Int)),
                  ((12 : Nat), AVal.sl (0 : Nat) (0 : Nat) (9 : Nat) (0 : Nat) x.length none),
                  ((11 : Nat), AVal.int IntKind.i64 (↑i : Int)), ((5 : Nat), AVal.int IntKind.i64 (↑i : Int)),
                  ((1 : Nat), AVal.sl (1 : Nat) (0 : Nat) (9 : Nat) (0 : Nat) y.length none),
                  ((0 : Nat), AVal.sl (0 : Nat) (0 : Nat) (9 : Nat) (0 : Nat) x.length none)]
                (AHeap.mk (11 : Nat)
                  [((1 : Nat), ABlk.row (27 : Nat) pieceRow y RowMd.ro),
                    ((0 : Nat), ABlk.row (27 : Nat) pieceRow x RowMd.ro)]))))))))
  (QQ (AExit.exit (0 : Nat))
    [((14 : Nat), AVal.bool (decide ((↑i : Int) < (↑x.length : Int)))),
      ((13 : Nat), AVal.int IntKind.i64 (↑x.length : Int)),
      ((12 : Nat), AVal.sl (0 : Nat) (0 : Nat) (9 : Nat) (0 : Nat) x.length none),
      ((11 : Nat), AVal.int IntKind.i64 (↑i : Int)), ((5 : Nat), AVal.int IntKind.i64 (↑i : Int)),
      ((1 : Nat), AVal.sl (1 : Nat) (0 : Nat) (9 : Nat) (0 : Nat) y.length none),
      ((0 : Nat), AVal.sl (0 : Nat) (0 : Nat) (9 : Nat) (0 : Nat) x.length none)]
    (AHeap.mk (2 : Nat)
      [((1 : Nat), ABlk.row (27 : Nat) pieceRow y RowMd.ro),
        ((0 : Nat), ABlk.row (27 : Nat) pieceRow x RowMd.ro)]))) := by kernel_rfl

set_option maxRecDepth 100000 in
theorem w_same_start (x y : List PieceR) (E : Env) (QQ : AExit → Env → AHeap → Prop) : (wpC (TB.ctx Try.prog) 60 19 2 (seqL (seqL (tailN 2 (bodyC Try.f19)))) E ⟨2, [(1, .row 27 pieceRow y .ro), (0, .row 27 pieceRow x .ro)]⟩ QQ
) = (QQ AExit.normal (((5 : Nat), AVal.int IntKind.i64 (0 : Int)) :: E)
  (AHeap.mk (2 : Nat)
    [((1 : Nat), ABlk.row (27 : Nat) pieceRow y RowMd.ro),
      ((0 : Nat), ABlk.row (27 : Nat) pieceRow x RowMd.ro)])) := by kernel_rfl

set_option maxRecDepth 100000 in
theorem w_same_tail (x y : List PieceR) (E : Env) (QQ : AExit → Env → AHeap → Prop) : (wpC (TB.ctx Try.prog) 60 19 2 (seqR (tailN 2 (bodyC Try.f19))) E ⟨2, [(1, .row 27 pieceRow y .ro), (0, .row 27 pieceRow x .ro)]⟩ QQ
) = (QQ AExit.ret (((4 : Nat), AVal.bool true) :: E)
  (AHeap.mk (2 : Nat)
    [((1 : Nat), ABlk.row (27 : Nat) pieceRow y RowMd.ro),
      ((0 : Nat), ABlk.row (27 : Nat) pieceRow x RowMd.ro)])) := by kernel_rfl

set_option maxRecDepth 100000 in
theorem w_same_nn (K : Out → Prop) : (callC (TB.ctx Try.prog) 60 19 [.nils, .nils] ⟨0, []⟩ (fun o _ => K o)
) = (K (Out.ret (AVal.bool true))) := by kernel_rfl

set_option maxRecDepth 100000 in
theorem w_same_ns (n : Nat) (K : Out → Prop) : (callC (TB.ctx Try.prog) 60 19 [.nils, .sl 0 0 9 0 n none] ⟨1, []⟩ (fun o _ => K o)
) = (branch (!decide ((0 : Int) = (↑n : Int))) (K (Out.ret (AVal.bool false)))
  (K (Out.ret (AVal.bool true)))) := by kernel_rfl

set_option maxRecDepth 100000 in
theorem w_same_sn (n : Nat) (KK : Env → AHeap → Prop) (Q : AExit → Env → AHeap → Prop) : (wpN (TB.ctx Try.prog) 2 60 19 1 (bodyC Try.f19) (env0 [.sl 0 0 9 0 n none, .nils] 0) ⟨1, []⟩ KK Q
) = (branch (!decide ((↑n : Int) = (0 : Int)))
  (Q AExit.ret
    [((4 : Nat), AVal.bool false), ((10 : Nat), AVal.bool !decide ((↑n : Int) = (0 : Int))),
      ((9 : Nat), AVal.int IntKind.i64 (0 : Int)), ((8 : Nat), AVal.nils), ((7 : Nat), AVal.int IntKind.i64 (↑n : Int)),
      ((6 : Nat), AVal.sl (0 : Nat) (0 : Nat) (9 : Nat) (0 : Nat) n none), ((4 : Nat), AVal.bool false),
      ((0 : Nat), AVal.sl (0 : Nat) (0 : Nat) (9 : Nat) (0 : Nat) n none), ((1 : Nat), AVal.nils)]
    (AHeap.mk (1 : Nat) []))
  (KK
    [((10 : Nat), AVal.bool !decide ((↑n : Int) = (0 : Int))), ((9 : Nat), AVal.int IntKind.i64 (0 : Int)),
      ((8 : Nat), AVal.nils), ((7 : Nat), AVal.int IntKind.i64 (↑n : Int)),
      ((6 : Nat), AVal.sl (0 : Nat) (0 : Nat) (9 : Nat) (0 : Nat) n none), ((4 : Nat), AVal.bool false),
      ((0 : Nat), AVal.sl (0 : Nat) (0 : Nat) (9 : Nat) (0 : Nat) n none), ((1 : Nat), AVal.nils)]
    (AHeap.mk (1 : Nat) []))) := by kernel_rfl

end Go.Proofs.Ytcbkenicjmhkdaa
