/-
  Walks, printed: what calls come to, as they are reckoned.
-/
import Derived.Test.YtjacnjecggedhaaFlEm
namespace Go.Proofs.Ytjacnjecggedhaa
set_option linter.unusedVariables false
set_option linter.unusedSimpArgs false
open Go.RowKit Ev

set_option maxRecDepth 100000 in
theorem w_ol_00 (o : OddS) (n : Int) (Q : AExit → Env → AHeap → Prop) : (wpC (TF.ctx Try.prog) 400 9 1 fillL (o00 o n o13).1 (o00 o n o13).2 (canQ 1 ts13 Q)
) = (obl (inI64 (o.sp - (0 : Int)))
  (twice
    (obl (decide (o.p.lb.length + o.p.data.length + o.p.sum.length ≤ (9223372036854775000 : Nat)))
      (branch (!decide (gErr o.p.st o.p.en o.p.id o.p.total o.p.typ o.p.k o.p.lb o.p.data o.p.sum = (0 : Int)))
        (Q (AExit.exit (0 : Nat))
          [((4 : Nat), AVal.ptr (1 : Nat) (0 : Nat) (0 : Nat) (0 : Nat)),
            ((5 : Nat), AVal.ptr (2 : Nat) (0 : Nat) (0 : Nat) (0 : Nat)),
            ((6 : Nat), AVal.ptr (3 : Nat) (0 : Nat) (0 : Nat) (0 : Nat)),
            ((10 : Nat), AVal.ptr (4 : Nat) (0 : Nat) (0 : Nat) (0 : Nat)), ((11 : Nat), AVal.nils),
            ((12 : Nat),
              AVal.func (16 : Nat) []
                [AVal.ptr (1 : Nat) (0 : Nat) (0 : Nat) (0 : Nat), AVal.ptr (2 : Nat) (0 : Nat) (0 : Nat) (0 : Nat),
                  AVal.ptr (3 : Nat) (0 : Nat) (0 : Nat) (0 : Nat)]),
            ((13 : Nat), AVal.int IntKind.u64 (9 : Int))]
          (AHeap.mk (5 : Nat)
            [((0 : Nat),
                ABlk.cells (57 : Nat)
                  [AVal.bool o.p.st, AVal.bool o.p.en, AVal.int IntKind.i64 o.p.id, AVal.int IntKind.i64 o.p.total,
                    AVal.int IntKind.i64 o.p.typ, AVal.int IntKind.i64 o.p.k, AVal.str o.p.lb, AVal.str o.p.data,
                    AVal.str o.p.sum, AVal.bool o.last, AVal.bool o.again, AVal.int IntKind.i64 n]),
              ((1 : Nat),
                ABlk.cells (65 : Nat) [AVal.iface (55 : Nat) (AVal.ptr (0 : Nat) (0 : Nat) (0 : Nat) (0 : Nat))]),
              ((2 : Nat), ABlk.cells (33 : Nat) [AVal.int IntKind.u64 (0 : Int)]),
              ((3 : Nat), ABlk.cells (3 : Nat) [AVal.int IntKind.i64 (7 : Int)]),
              ((4 : Nat),
                ABlk.cells (70 : Nat)
                  [AVal.nils, AVal.int IntKind.i64 o.sp, AVal.bool false, AVal.int IntKind.i64 (0 : Int),
                    AVal.int IntKind.i64 (0 : Int), AVal.str []])]))
        (branch
          (decide
            (o.sp - (0 : Int) <
              (↑(gEnc o.p.st o.p.en o.p.id o.p.total o.p.typ o.p.k o.p.lb o.p.data o.p.sum).length : Int)))
          (Q (AExit.exit (0 : Nat))
            [((4 : Nat), AVal.ptr (1 : Nat) (0 : Nat) (0 : Nat) (0 : Nat)),
              ((5 : Nat), AVal.ptr (2 : Nat) (0 : Nat) (0 : Nat) (0 : Nat)),
              ((6 : Nat), AVal.ptr (3 : Nat) (0 : Nat) (0 : Nat) (0 : Nat)),
              ((10 : Nat), AVal.ptr (4 : Nat) (0 : Nat) (0 : Nat) (0 : Nat)), ((11 : Nat), AVal.nils),
              ((12 : Nat),
                AVal.func (16 : Nat) []
                  [AVal.ptr (1 : Nat) (0 : Nat) (0 : Nat) (0 : Nat), AVal.ptr (2 : Nat) (0 : Nat) (0 : Nat) (0 : Nat),
                    AVal.ptr (3 : Nat) (0 : Nat) (0 : Nat) (0 : Nat)]),
              ((13 : Nat), AVal.int IntKind.u64 (9 : Int))]
            (AHeap.mk (5 : Nat)
              [((0 : Nat),
                  ABlk.cells (57 : Nat)
                    [AVal.bool o.p.st, AVal.bool o.p.en, AVal.int IntKind.i64 o.p.id, AVal.int IntKind.i64 o.p.total,
                      AVal.int IntKind.i64 o.p.typ, AVal.int IntKind.i64 o.p.k, AVal.str o.p.lb, AVal.str o.p.data,
                      AVal.str o.p.sum, AVal.bool o.last, AVal.bool o.again, AVal.int IntKind.i64 n]),
                ((1 : Nat),
                  ABlk.cells (65 : Nat) [AVal.iface (55 : Nat) (AVal.ptr (0 : Nat) (0 : Nat) (0 : Nat) (0 : Nat))]),
                ((2 : Nat), ABlk.cells (33 : Nat) [AVal.int IntKind.u64 (0 : Int)]),
                ((3 : Nat), ABlk.cells (3 : Nat) [AVal.int IntKind.i64 (7 : Int)]),
                ((4 : Nat),
                  ABlk.cells (70 : Nat)
                    [AVal.nils, AVal.int IntKind.i64 o.sp, AVal.bool false, AVal.int IntKind.i64 (0 : Int),
                      AVal.int IntKind.i64 (0 : Int), AVal.str []])]))
          (obl
            (true &&
              decide
                ((0 : Nat) < (gEnc o.p.st o.p.en o.p.id o.p.total o.p.typ o.p.k o.p.lb o.p.data o.p.sum).length ∧
                  (1 : Nat) = (1 : Nat) ∧
                    (1 : Nat) = (1 : Nat) ∧
                      (0 : Nat) < (1 : Nat) ∧
                        (gEnc o.p.st o.p.en o.p.id o.p.total o.p.typ o.p.k o.p.lb o.p.data o.p.sum).length ≤
                            (9223372036854775807 : Nat) ∧
                          (gEnc o.p.st o.p.en o.p.id o.p.total o.p.typ o.p.k o.p.lb o.p.data o.p.sum).length *
                              (1 : Nat) ≤
                            (140737488355328 : Nat)))
            (branch o.p.st
              (branch o.last
                (Q (AExit.exit (2 : Nat))
                  [((4 : Nat), AVal.ptr (1 : Nat) (0 : Nat) (0 : Nat) (0 : Nat)),
                    ((5 : Nat), AVal.ptr (2 : Nat) (0 : Nat) (0 : Nat) (0 : Nat)),
                    ((6 : Nat), AVal.ptr (3 : Nat) (0 : Nat) (0 : Nat) (0 : Nat)),
                    ((10 : Nat), AVal.ptr (4 : Nat) (0 : Nat) (0 : Nat) (0 : Nat)),
                    ((11 : Nat), AVal.sl (5 : Nat) (0 : Nat) (1 : Nat) (0 : Nat) (1 : Nat) none),
                    ((12 : Nat),
                      AVal.func (16 : Nat) []
                        [AVal.ptr (1 : Nat) (0 : Nat) (0 : Nat) (0 : Nat),
                          AVal.ptr (2 : Nat) (0 : Nat) (0 : Nat) (0 : Nat),
                          AVal.ptr (3 : Nat) (0 : Nat) (0 : Nat) (0 : Nat)]),
                    ((13 : Nat), AVal.int IntKind.u64 (9 : Int))]
                  (AHeap.mk (7 : Nat)
                    [((0 : Nat),
                        ABlk.cells (57 : Nat)
                          [AVal.bool o.p.st, AVal.bool o.p.en, AVal.int IntKind.i64 o.p.id,
                            AVal.int IntKind.i64 o.p.total, AVal.int IntKind.i64 o.p.typ, AVal.int IntKind.i64 o.p.k,
                            AVal.str o.p.lb, AVal.str o.p.data, AVal.str o.p.sum, AVal.bool o.last, AVal.bool o.again,
                            AVal.int IntKind.i64 n]),
                      ((1 : Nat),
                        ABlk.cells (65 : Nat)
                          [AVal.iface (55 : Nat) (AVal.ptr (0 : Nat) (0 : Nat) (0 : Nat) (0 : Nat))]),
                      ((2 : Nat), ABlk.cells (33 : Nat) [AVal.int IntKind.u64 (0 : Int)]),
                      ((3 : Nat), ABlk.cells (3 : Nat) [AVal.int IntKind.i64 (7 : Int)]),
                      ((4 : Nat),
                        ABlk.cells (70 : Nat)
                          [AVal.sl (6 : Nat) (0 : Nat) (1 : Nat) (0 : Nat)
                              (gEnc o.p.st o.p.en o.p.id o.p.total o.p.typ o.p.k o.p.lb o.p.data o.p.sum).length none,
                            AVal.int IntKind.i64 o.sp, AVal.bool !o.p.en, AVal.int IntKind.i64 (1 : Int),
                            AVal.int IntKind.i64 (0 : Int), AVal.str []]),
                      ((5 : Nat), ABlk.row (33 : Nat) (intRow IntKind.u64) [(9 : Int)] RowMd.plain),
                      ((6 : Nat),
                        ABlk.row (5 : Nat) byteRow
                          (gEnc o.p.st o.p.en o.p.id o.p.total o.p.typ o.p.k o.p.lb o.p.data o.p.sum) RowMd.plain)]))
                (Q AExit.normal
                  [((4 : Nat), AVal.ptr (1 : Nat) (0 : Nat) (0 : Nat) (0 : Nat)),
                    ((5 : Nat), AVal.ptr (2 : Nat) (0 : Nat) (0 : Nat) (0 : Nat)),
                    ((6 : Nat), AVal.ptr (3 : Nat) (0 : Nat) (0 : Nat) (0 : Nat)),
                    ((10 : Nat), AVal.ptr (4 : Nat) (0 : Nat) (0 : Nat) (0 : Nat)), ((11 : Nat), AVal.nils),
                    ((12 : Nat),
                      AVal.func (16 : Nat) []
                        [AVal.ptr (1 : Nat) (0 : Nat) (0 : Nat) (0 : Nat),
                          AVal.ptr (2 : Nat) (0 : Nat) (0 : Nat) (0 : Nat),
                          AVal.ptr (3 : Nat) (0 : Nat) (0 : Nat) (0 : Nat)]),
                    ((13 : Nat), AVal.int IntKind.u64 (9 : Int))]
                  (AHeap.mk (6 : Nat)
                    [((0 : Nat),
                        ABlk.cells (57 : Nat)
                          [AVal.bool o.p.st, AVal.bool o.p.en, AVal.int IntKind.i64 o.p.id,
                            AVal.int IntKind.i64 o.p.total, AVal.int IntKind.i64 o.p.typ, AVal.int IntKind.i64 o.p.k,
                            AVal.str o.p.lb, AVal.str o.p.data, AVal.str o.p.sum, AVal.bool o.last, AVal.bool o.again,
                            AVal.int IntKind.i64 n]),
                      ((1 : Nat),
                        ABlk.cells (65 : Nat)
                          [AVal.iface (55 : Nat) (AVal.ptr (0 : Nat) (0 : Nat) (0 : Nat) (0 : Nat))]),
                      ((2 : Nat), ABlk.cells (33 : Nat) [AVal.int IntKind.u64 (0 : Int)]),
                      ((3 : Nat), ABlk.cells (3 : Nat) [AVal.int IntKind.i64 (7 : Int)]),
                      ((4 : Nat),
                        ABlk.cells (70 : Nat)
                          [AVal.sl (5 : Nat) (0 : Nat) (1 : Nat) (0 : Nat)
                              (gEnc o.p.st o.p.en o.p.id o.p.total o.p.typ o.p.k o.p.lb o.p.data o.p.sum).length none,
                            AVal.int IntKind.i64 o.sp, AVal.bool !o.p.en, AVal.int IntKind.i64 (1 : Int),
                            AVal.int IntKind.i64 (0 : Int), AVal.str []]),
                      ((5 : Nat),
                        ABlk.row (5 : Nat) byteRow
                          (gEnc o.p.st o.p.en o.p.id o.p.total o.p.typ o.p.k o.p.lb o.p.data o.p.sum) RowMd.plain)])))
              (branch o.last
                (Q (AExit.exit (2 : Nat))
                  [((4 : Nat), AVal.ptr (1 : Nat) (0 : Nat) (0 : Nat) (0 : Nat)),
                    ((5 : Nat), AVal.ptr (2 : Nat) (0 : Nat) (0 : Nat) (0 : Nat)),
                    ((6 : Nat), AVal.ptr (3 : Nat) (0 : Nat) (0 : Nat) (0 : Nat)),
                    ((10 : Nat), AVal.ptr (4 : Nat) (0 : Nat) (0 : Nat) (0 : Nat)),
                    ((11 : Nat), AVal.sl (5 : Nat) (0 : Nat) (1 : Nat) (0 : Nat) (1 : Nat) none),
                    ((12 : Nat),
                      AVal.func (16 : Nat) []
                        [AVal.ptr (1 : Nat) (0 : Nat) (0 : Nat) (0 : Nat),
                          AVal.ptr (2 : Nat) (0 : Nat) (0 : Nat) (0 : Nat),
                          AVal.ptr (3 : Nat) (0 : Nat) (0 : Nat) (0 : Nat)]),
                    ((13 : Nat), AVal.int IntKind.u64 (9 : Int))]
                  (AHeap.mk (7 : Nat)
                    [((0 : Nat),
                        ABlk.cells (57 : Nat)
                          [AVal.bool o.p.st, AVal.bool o.p.en, AVal.int IntKind.i64 o.p.id,
                            AVal.int IntKind.i64 o.p.total, AVal.int IntKind.i64 o.p.typ, AVal.int IntKind.i64 o.p.k,
                            AVal.str o.p.lb, AVal.str o.p.data, AVal.str o.p.sum, AVal.bool o.last, AVal.bool o.again,
                            AVal.int IntKind.i64 n]),
                      ((1 : Nat),
                        ABlk.cells (65 : Nat)
                          [AVal.iface (55 : Nat) (AVal.ptr (0 : Nat) (0 : Nat) (0 : Nat) (0 : Nat))]),
                      ((2 : Nat), ABlk.cells (33 : Nat) [AVal.int IntKind.u64 (0 : Int)]),
                      ((3 : Nat), ABlk.cells (3 : Nat) [AVal.int IntKind.i64 (7 : Int)]),
                      ((4 : Nat),
                        ABlk.cells (70 : Nat)
                          [AVal.sl (6 : Nat) (0 : Nat) (1 : Nat) (0 : Nat)
                              (gEnc o.p.st o.p.en o.p.id o.p.total o.p.typ o.p.k o.p.lb o.p.data o.p.sum).length none,
                            AVal.int IntKind.i64 o.sp, AVal.bool false, AVal.int IntKind.i64 (1 : Int),
                            AVal.int IntKind.i64 (0 : Int), AVal.str []]),
                      ((5 : Nat), ABlk.row (33 : Nat) (intRow IntKind.u64) [(9 : Int)] RowMd.plain),
                      ((6 : Nat),
                        ABlk.row (5 : Nat) byteRow
                          (gEnc o.p.st o.p.en o.p.id o.p.total o.p.typ o.p.k o.p.lb o.p.data o.p.sum) RowMd.plain)]))
                (Q AExit.normal
                  [((4 : Nat), AVal.ptr (1 : Nat) (0 : Nat) (0 : Nat) (0 : Nat)),
                    ((5 : Nat), AVal.ptr (2 : Nat) (0 : Nat) (0 : Nat) (0 : Nat)),
                    ((6 : Nat), AVal.ptr (3 : Nat) (0 : Nat) (0 : Nat) (0 : Nat)),
                    ((10 : Nat), AVal.ptr (4 : Nat) (0 : Nat) (0 : Nat) (0 : Nat)), ((11 : Nat), AVal.nils),
                    ((12 : Nat),
                      AVal.func (16 : Nat) []
                        [AVal.ptr (1 : Nat) (0 : Nat) (0 : Nat) (0 : Nat),
                          AVal.ptr (2 : Nat) (0 : Nat) (0 : Nat) (0 : Nat),
                          AVal.ptr (3 : Nat) (0 : Nat) (0 : Nat) (0 : Nat)]),
                    ((13 : Nat), AVal.int IntKind.u64 (9 : Int))]
                  (AHeap.mk (6 : Nat)
                    [((0 : Nat),
                        ABlk.cells (57 : Nat)
                          [AVal.bool o.p.st, AVal.bool o.p.en, AVal.int IntKind.i64 o.p.id,
                            AVal.int IntKind.i64 o.p.total, AVal.int IntKind.i64 o.p.typ, AVal.int IntKind.i64 o.p.k,
                            AVal.str o.p.lb, AVal.str o.p.data, AVal.str o.p.sum, AVal.bool o.last, AVal.bool o.again,
                            AVal.int IntKind.i64 n]),
                      ((1 : Nat),
                        ABlk.cells (65 : Nat)
                          [AVal.iface (55 : Nat) (AVal.ptr (0 : Nat) (0 : Nat) (0 : Nat) (0 : Nat))]),
                      ((2 : Nat), ABlk.cells (33 : Nat) [AVal.int IntKind.u64 (0 : Int)]),
                      ((3 : Nat), ABlk.cells (3 : Nat) [AVal.int IntKind.i64 (7 : Int)]),
                      ((4 : Nat),
                        ABlk.cells (70 : Nat)
                          [AVal.sl (5 : Nat) (0 : Nat) (1 : Nat) (0 : Nat)
                              (gEnc o.p.st o.p.en o.p.id o.p.total o.p.typ o.p.k o.p.lb o.p.data o.p.sum).length none,
                            AVal.int IntKind.i64 o.sp, AVal.bool false, AVal.int IntKind.i64 (1 : Int),
                            AVal.int IntKind.i64 (0 : Int), AVal.str []]),
                      ((5 : Nat),
                        ABlk.row (5 : Nat) byteRow
                          (gEnc o.p.st o.p.en o.p.id o.p.total o.p.typ o.p.k o.p.lb o.p.data o.p.sum)
                          RowMd.plain)])))))))))) := by kernel_rfl

set_option maxRecDepth 100000 in
theorem w_ol_10 (o : OddS) (n k : Int) (beg : Bool) (L : List UInt8) (Q : AExit → Env → AHeap → Prop) : (wpC (TF.ctx Try.prog) 400 9 1 fillL (o10 o n k beg L o13).1 (o10 o n k beg L o13).2 (canQ 1 ts13 Q)
) = (obl (inI64 (o.sp - (↑L.length : Int)))
  (twice
    (obl (decide (o.p.lb.length + o.p.data.length + o.p.sum.length ≤ (9223372036854775000 : Nat)))
      (branch (!decide (gErr o.p.st o.p.en o.p.id o.p.total o.p.typ o.p.k o.p.lb o.p.data o.p.sum = (0 : Int)))
        (Q (AExit.exit (0 : Nat))
          [((4 : Nat), AVal.ptr (1 : Nat) (0 : Nat) (0 : Nat) (0 : Nat)),
            ((5 : Nat), AVal.ptr (2 : Nat) (0 : Nat) (0 : Nat) (0 : Nat)),
            ((6 : Nat), AVal.ptr (3 : Nat) (0 : Nat) (0 : Nat) (0 : Nat)),
            ((10 : Nat), AVal.ptr (4 : Nat) (0 : Nat) (0 : Nat) (0 : Nat)), ((11 : Nat), AVal.nils),
            ((12 : Nat),
              AVal.func (16 : Nat) []
                [AVal.ptr (1 : Nat) (0 : Nat) (0 : Nat) (0 : Nat), AVal.ptr (2 : Nat) (0 : Nat) (0 : Nat) (0 : Nat),
                  AVal.ptr (3 : Nat) (0 : Nat) (0 : Nat) (0 : Nat)]),
            ((13 : Nat), AVal.int IntKind.u64 (9 : Int))]
          (AHeap.mk (6 : Nat)
            [((0 : Nat),
                ABlk.cells (57 : Nat)
                  [AVal.bool o.p.st, AVal.bool o.p.en, AVal.int IntKind.i64 o.p.id, AVal.int IntKind.i64 o.p.total,
                    AVal.int IntKind.i64 o.p.typ, AVal.int IntKind.i64 o.p.k, AVal.str o.p.lb, AVal.str o.p.data,
                    AVal.str o.p.sum, AVal.bool o.last, AVal.bool o.again, AVal.int IntKind.i64 n]),
              ((1 : Nat),
                ABlk.cells (65 : Nat) [AVal.iface (55 : Nat) (AVal.ptr (0 : Nat) (0 : Nat) (0 : Nat) (0 : Nat))]),
              ((2 : Nat), ABlk.cells (33 : Nat) [AVal.int IntKind.u64 (0 : Int)]),
              ((3 : Nat), ABlk.cells (3 : Nat) [AVal.int IntKind.i64 (7 : Int)]),
              ((4 : Nat),
                ABlk.cells (70 : Nat)
                  [AVal.sl (5 : Nat) (0 : Nat) (1 : Nat) (0 : Nat) L.length none, AVal.int IntKind.i64 o.sp,
                    AVal.bool beg, AVal.int IntKind.i64 k, AVal.int IntKind.i64 (0 : Int), AVal.str []]),
              ((5 : Nat), ABlk.row (5 : Nat) byteRow L RowMd.plain)]))
        (branch
          (decide
            (o.sp - (↑L.length : Int) <
              (↑(gEnc o.p.st o.p.en o.p.id o.p.total o.p.typ o.p.k o.p.lb o.p.data o.p.sum).length : Int)))
          (Q (AExit.exit (0 : Nat))
            [((4 : Nat), AVal.ptr (1 : Nat) (0 : Nat) (0 : Nat) (0 : Nat)),
              ((5 : Nat), AVal.ptr (2 : Nat) (0 : Nat) (0 : Nat) (0 : Nat)),
              ((6 : Nat), AVal.ptr (3 : Nat) (0 : Nat) (0 : Nat) (0 : Nat)),
              ((10 : Nat), AVal.ptr (4 : Nat) (0 : Nat) (0 : Nat) (0 : Nat)), ((11 : Nat), AVal.nils),
              ((12 : Nat),
                AVal.func (16 : Nat) []
                  [AVal.ptr (1 : Nat) (0 : Nat) (0 : Nat) (0 : Nat), AVal.ptr (2 : Nat) (0 : Nat) (0 : Nat) (0 : Nat),
                    AVal.ptr (3 : Nat) (0 : Nat) (0 : Nat) (0 : Nat)]),
              ((13 : Nat), AVal.int IntKind.u64 (9 : Int))]
            (AHeap.mk (6 : Nat)
              [((0 : Nat),
                  ABlk.cells (57 : Nat)
                    [AVal.bool o.p.st, AVal.bool o.p.en, AVal.int IntKind.i64 o.p.id, AVal.int IntKind.i64 o.p.total,
                      AVal.int IntKind.i64 o.p.typ, AVal.int IntKind.i64 o.p.k, AVal.str o.p.lb, AVal.str o.p.data,
                      AVal.str o.p.sum, AVal.bool o.last, AVal.bool o.again, AVal.int IntKind.i64 n]),
                ((1 : Nat),
                  ABlk.cells (65 : Nat) [AVal.iface (55 : Nat) (AVal.ptr (0 : Nat) (0 : Nat) (0 : Nat) (0 : Nat))]),
                ((2 : Nat), ABlk.cells (33 : Nat) [AVal.int IntKind.u64 (0 : Int)]),
                ((3 : Nat), ABlk.cells (3 : Nat) [AVal.int IntKind.i64 (7 : Int)]),
                ((4 : Nat),
                  ABlk.cells (70 : Nat)
                    [AVal.sl (5 : Nat) (0 : Nat) (1 : Nat) (0 : Nat) L.length none, AVal.int IntKind.i64 o.sp,
                      AVal.bool beg, AVal.int IntKind.i64 k, AVal.int IntKind.i64 (0 : Int), AVal.str []]),
                ((5 : Nat), ABlk.row (5 : Nat) byteRow L RowMd.plain)]))
          (branch (decide ((70000 : Int) ≤ k))
            (Q (AExit.exit (0 : Nat))
              [((4 : Nat), AVal.ptr (1 : Nat) (0 : Nat) (0 : Nat) (0 : Nat)),
                ((5 : Nat), AVal.ptr (2 : Nat) (0 : Nat) (0 : Nat) (0 : Nat)),
                ((6 : Nat), AVal.ptr (3 : Nat) (0 : Nat) (0 : Nat) (0 : Nat)),
                ((10 : Nat), AVal.ptr (4 : Nat) (0 : Nat) (0 : Nat) (0 : Nat)), ((11 : Nat), AVal.nils),
                ((12 : Nat),
                  AVal.func (16 : Nat) []
                    [AVal.ptr (1 : Nat) (0 : Nat) (0 : Nat) (0 : Nat), AVal.ptr (2 : Nat) (0 : Nat) (0 : Nat) (0 : Nat),
                      AVal.ptr (3 : Nat) (0 : Nat) (0 : Nat) (0 : Nat)]),
                ((13 : Nat), AVal.int IntKind.u64 (9 : Int))]
              (AHeap.mk (6 : Nat)
                [((0 : Nat),
                    ABlk.cells (57 : Nat)
                      [AVal.bool o.p.st, AVal.bool o.p.en, AVal.int IntKind.i64 o.p.id, AVal.int IntKind.i64 o.p.total,
                        AVal.int IntKind.i64 o.p.typ, AVal.int IntKind.i64 o.p.k, AVal.str o.p.lb, AVal.str o.p.data,
                        AVal.str o.p.sum, AVal.bool o.last, AVal.bool o.again, AVal.int IntKind.i64 n]),
                  ((1 : Nat),
                    ABlk.cells (65 : Nat) [AVal.iface (55 : Nat) (AVal.ptr (0 : Nat) (0 : Nat) (0 : Nat) (0 : Nat))]),
                  ((2 : Nat), ABlk.cells (33 : Nat) [AVal.int IntKind.u64 (0 : Int)]),
                  ((3 : Nat), ABlk.cells (3 : Nat) [AVal.int IntKind.i64 (7 : Int)]),
                  ((4 : Nat),
                    ABlk.cells (70 : Nat)
                      [AVal.sl (5 : Nat) (0 : Nat) (1 : Nat) (0 : Nat) L.length none, AVal.int IntKind.i64 o.sp,
                        AVal.bool beg, AVal.int IntKind.i64 k, AVal.int IntKind.i64 (0 : Int), AVal.str []]),
                  ((5 : Nat), ABlk.row (5 : Nat) byteRow L RowMd.plain)]))
            (obl (inI64 (k + (1 : Int)))
              (obl
                (true &&
                  decide
                    (L.length = L.length ∧
                      (1 : Nat) = (1 : Nat) ∧
                        (1 : Nat) = (1 : Nat) ∧
                          (0 : Nat) < (1 : Nat) ∧
                            (L ++ gEnc o.p.st o.p.en o.p.id o.p.total o.p.typ o.p.k o.p.lb o.p.data o.p.sum).length ≤
                                (9223372036854775807 : Nat) ∧
                              (L ++ gEnc o.p.st o.p.en o.p.id o.p.total o.p.typ o.p.k o.p.lb o.p.data o.p.sum).length *
                                  (1 : Nat) ≤
                                (140737488355328 : Nat)))
                (branch beg
                  (branch o.last
                    (Q (AExit.exit (2 : Nat))
                      [((4 : Nat), AVal.ptr (1 : Nat) (0 : Nat) (0 : Nat) (0 : Nat)),
                        ((5 : Nat), AVal.ptr (2 : Nat) (0 : Nat) (0 : Nat) (0 : Nat)),
                        ((6 : Nat), AVal.ptr (3 : Nat) (0 : Nat) (0 : Nat) (0 : Nat)),
                        ((10 : Nat), AVal.ptr (4 : Nat) (0 : Nat) (0 : Nat) (0 : Nat)),
                        ((11 : Nat), AVal.sl (5 : Nat) (0 : Nat) (1 : Nat) (0 : Nat) (1 : Nat) none),
                        ((12 : Nat),
                          AVal.func (16 : Nat) []
                            [AVal.ptr (1 : Nat) (0 : Nat) (0 : Nat) (0 : Nat),
                              AVal.ptr (2 : Nat) (0 : Nat) (0 : Nat) (0 : Nat),
                              AVal.ptr (3 : Nat) (0 : Nat) (0 : Nat) (0 : Nat)]),
                        ((13 : Nat), AVal.int IntKind.u64 (9 : Int))]
                      (AHeap.mk (7 : Nat)
                        [((0 : Nat),
                            ABlk.cells (57 : Nat)
                              [AVal.bool o.p.st, AVal.bool o.p.en, AVal.int IntKind.i64 o.p.id,
                                AVal.int IntKind.i64 o.p.total, AVal.int IntKind.i64 o.p.typ,
                                AVal.int IntKind.i64 o.p.k, AVal.str o.p.lb, AVal.str o.p.data, AVal.str o.p.sum,
                                AVal.bool o.last, AVal.bool o.again, AVal.int IntKind.i64 n]),
                          ((1 : Nat),
                            ABlk.cells (65 : Nat)
                              [AVal.iface (55 : Nat) (AVal.ptr (0 : Nat) (0 : Nat) (0 : Nat) (0 : Nat))]),
                          ((2 : Nat), ABlk.cells (33 : Nat) [AVal.int IntKind.u64 (0 : Int)]),
                          ((3 : Nat), ABlk.cells (3 : Nat) [AVal.int IntKind.i64 (7 : Int)]),
                          ((4 : Nat),
                            ABlk.cells (70 : Nat)
                              [AVal.sl (6 : Nat) (0 : Nat) (1 : Nat) (0 : Nat)
                                  (L ++
                                      gEnc o.p.st o.p.en o.p.id o.p.total o.p.typ o.p.k o.p.lb o.p.data o.p.sum).length
                                  none,
                                AVal.int IntKind.i64 o.sp, AVal.bool true, AVal.int IntKind.i64 (k + (1 : Int)),
                                AVal.int IntKind.i64 (0 : Int), AVal.str []]),
                          ((5 : Nat), ABlk.row (33 : Nat) (intRow IntKind.u64) [(9 : Int)] RowMd.plain),
                          ((6 : Nat),
                            ABlk.row (5 : Nat) byteRow
                              (L ++ gEnc o.p.st o.p.en o.p.id o.p.total o.p.typ o.p.k o.p.lb o.p.data o.p.sum)
                              RowMd.plain)]))
                    (Q AExit.normal
                      [((4 : Nat), AVal.ptr (1 : Nat) (0 : Nat) (0 : Nat) (0 : Nat)),
                        ((5 : Nat), AVal.ptr (2 : Nat) (0 : Nat) (0 : Nat) (0 : Nat)),
                        ((6 : Nat), AVal.ptr (3 : Nat) (0 : Nat) (0 : Nat) (0 : Nat)),
                        ((10 : Nat), AVal.ptr (4 : Nat) (0 : Nat) (0 : Nat) (0 : Nat)), ((11 : Nat), AVal.nils),
                        ((12 : Nat),
                          AVal.func (16 : Nat) []
                            [AVal.ptr (1 : Nat) (0 : Nat) (0 : Nat) (0 : Nat),
                              AVal.ptr (2 : Nat) (0 : Nat) (0 : Nat) (0 : Nat),
                              AVal.ptr (3 : Nat) (0 : Nat) (0 : Nat) (0 : Nat)]),
                        ((13 : Nat), AVal.int IntKind.u64 (9 : Int))]
                      (AHeap.mk (6 : Nat)
                        [((0 : Nat),
                            ABlk.cells (57 : Nat)
                              [AVal.bool o.p.st, AVal.bool o.p.en, AVal.int IntKind.i64 o.p.id,
                                AVal.int IntKind.i64 o.p.total, AVal.int IntKind.i64 o.p.typ,
                                AVal.int IntKind.i64 o.p.k, AVal.str o.p.lb, AVal.str o.p.data, AVal.str o.p.sum,
                                AVal.bool o.last, AVal.bool o.again, AVal.int IntKind.i64 n]),
                          ((1 : Nat),
                            ABlk.cells (65 : Nat)
                              [AVal.iface (55 : Nat) (AVal.ptr (0 : Nat) (0 : Nat) (0 : Nat) (0 : Nat))]),
                          ((2 : Nat), ABlk.cells (33 : Nat) [AVal.int IntKind.u64 (0 : Int)]),
                          ((3 : Nat), ABlk.cells (3 : Nat) [AVal.int IntKind.i64 (7 : Int)]),
                          ((4 : Nat),
                            ABlk.cells (70 : Nat)
                              [AVal.sl (5 : Nat) (0 : Nat) (1 : Nat) (0 : Nat)
                                  (L ++
                                      gEnc o.p.st o.p.en o.p.id o.p.total o.p.typ o.p.k o.p.lb o.p.data o.p.sum).length
                                  none,
                                AVal.int IntKind.i64 o.sp, AVal.bool true, AVal.int IntKind.i64 (k + (1 : Int)),
                                AVal.int IntKind.i64 (0 : Int), AVal.str []]),
                          ((5 : Nat),
                            ABlk.row (5 : Nat) byteRow
                              (L ++ gEnc o.p.st o.p.en o.p.id o.p.total o.p.typ o.p.k o.p.lb o.p.data o.p.sum)
                              RowMd.plain)])))
                  (branch o.p.st
                    (branch o.last
                      (Q (AExit.exit (2 : Nat))
                        [((4 : Nat), AVal.ptr (1 : Nat) (0 : Nat) (0 : Nat) (0 : Nat)),
                          ((5 : Nat), AVal.ptr (2 : Nat) (0 : Nat) (0 : Nat) (0 : Nat)),
                          ((6 : Nat), AVal.ptr (3 : Nat) (0 : Nat) (0 : Nat) (0 : Nat)),
                          ((10 : Nat), AVal.ptr (4 : Nat) (0 : Nat) (0 : Nat) (0 : Nat)),
                          ((11 : Nat), AVal.sl (5 : Nat) (0 : Nat) (1 : Nat) (0 : Nat) (1 : Nat) none),
                          ((12 : Nat),
                            AVal.func (16 : Nat) []
                              [AVal.ptr (1 : Nat) (0 : Nat) (0 : Nat) (0 : Nat),
                                AVal.ptr (2 : Nat) (0 : Nat) (0 : Nat) (0 : Nat),
                                AVal.ptr (3 : Nat) (0 : Nat) (0 : Nat) (0 : Nat)]),
                          ((13 : Nat), AVal.int IntKind.u64 (9 : Int))]
                        (AHeap.mk (7 : Nat)
                          [((0 : Nat),
                              ABlk.cells (57 : Nat)
                                [AVal.bool o.p.st, AVal.bool o.p.en, AVal.int IntKind.i64 o.p.id,
                                  AVal.int IntKind.i64 o.p.total, AVal.int IntKind.i64 o.p.typ,
                                  AVal.int IntKind.i64 o.p.k, AVal.str o.p.lb, AVal.str o.p.data, AVal.str o.p.sum,
                                  AVal.bool o.last, AVal.bool o.again, AVal.int IntKind.i64 n]),
                            ((1 : Nat),
                              ABlk.cells (65 : Nat)
                                [AVal.iface (55 : Nat) (AVal.ptr (0 : Nat) (0 : Nat) (0 : Nat) (0 : Nat))]),
                            ((2 : Nat), ABlk.cells (33 : Nat) [AVal.int IntKind.u64 (0 : Int)]),
                            ((3 : Nat), ABlk.cells (3 : Nat) [AVal.int IntKind.i64 (7 : Int)]),
                            ((4 : Nat),
                              ABlk.cells (70 : Nat)
                                [AVal.sl (6 : Nat) (0 : Nat) (1 : Nat) (0 : Nat)
                                    (L ++
                                        gEnc o.p.st o.p.en o.p.id o.p.total o.p.typ o.p.k o.p.lb o.p.data
                                          o.p.sum).length
                                    none,
                                  AVal.int IntKind.i64 o.sp, AVal.bool !o.p.en, AVal.int IntKind.i64 (k + (1 : Int)),
                                  AVal.int IntKind.i64 (0 : Int), AVal.str []]),
                            ((5 : Nat), ABlk.row (33 : Nat) (intRow IntKind.u64) [(9 : Int)] RowMd.plain),
                            ((6 : Nat),
                              ABlk.row (5 : Nat) byteRow
                                (L ++ gEnc o.p.st o.p.en o.p.id o.p.total o.p.typ o.p.k o.p.lb o.p.data o.p.sum)
                                RowMd.plain)]))
                      (Q AExit.normal
                        [((4 : Nat), AVal.ptr (1 : Nat) (0 : Nat) (0 : Nat) (0 : Nat)),
                          ((5 : Nat), AVal.ptr (2 : Nat) (0 : Nat) (0 : Nat) (0 : Nat)),
                          ((6 : Nat), AVal.ptr (3 : Nat) (0 : Nat) (0 : Nat) (0 : Nat)),
                          ((10 : Nat), AVal.ptr (4 : Nat) (0 : Nat) (0 : Nat) (0 : Nat)), ((11 : Nat), AVal.nils),
                          ((12 : Nat),
                            AVal.func (16 : Nat) []
                              [AVal.ptr (1 : Nat) (0 : Nat) (0 : Nat) (0 : Nat),
                                AVal.ptr (2 : Nat) (0 : Nat) (0 : Nat) (0 : Nat),
                                AVal.ptr (3 : Nat) (0 : Nat) (0 : Nat) (0 : Nat)]),
                          ((13 : Nat), AVal.int IntKind.u64 (9 : Int))]
                        (AHeap.mk (6 : Nat)
                          [((0 : Nat),
                              ABlk.cells (57 : Nat)
                                [AVal.bool o.p.st, AVal.bool o.p.en, AVal.int IntKind.i64 o.p.id,
                                  AVal.int IntKind.i64 o.p.total, AVal.int IntKind.i64 o.p.typ,
                                  AVal.int IntKind.i64 o.p.k, AVal.str o.p.lb, AVal.str o.p.data, AVal.str o.p.sum,
                                  AVal.bool o.last, AVal.bool o.again, AVal.int IntKind.i64 n]),
                            ((1 : Nat),
                              ABlk.cells (65 : Nat)
                                [AVal.iface (55 : Nat) (AVal.ptr (0 : Nat) (0 : Nat) (0 : Nat) (0 : Nat))]),
                            ((2 : Nat), ABlk.cells (33 : Nat) [AVal.int IntKind.u64 (0 : Int)]),
                            ((3 : Nat), ABlk.cells (3 : Nat) [AVal.int IntKind.i64 (7 : Int)]),
                            ((4 : Nat),
                              ABlk.cells (70 : Nat)
                                [AVal.sl (5 : Nat) (0 : Nat) (1 : Nat) (0 : Nat)
                                    (L ++
                                        gEnc o.p.st o.p.en o.p.id o.p.total o.p.typ o.p.k o.p.lb o.p.data
                                          o.p.sum).length
                                    none,
                                  AVal.int IntKind.i64 o.sp, AVal.bool !o.p.en, AVal.int IntKind.i64 (k + (1 : Int)),
                                  AVal.int IntKind.i64 (0 : Int), AVal.str []]),
                            ((5 : Nat),
                              ABlk.row (5 : Nat) byteRow
                                (L ++ gEnc o.p.st o.p.en o.p.id o.p.total o.p.typ o.p.k o.p.lb o.p.data o.p.sum)
                                RowMd.plain)])))
                    (branch o.last
                      (Q (AExit.exit (2 : Nat))
                        [((4 : Nat), AVal.ptr (1 : Nat) (0 : Nat) (0 : Nat) (0 : Nat)),
                          ((5 : Nat), AVal.ptr (2 : Nat) (0 : Nat) (0 : Nat) (0 : Nat)),
                          ((6 : Nat), AVal.ptr (3 : Nat) (0 : Nat) (0 : Nat) (0 : Nat)),
                          ((10 : Nat), AVal.ptr (4 : Nat) (0 : Nat) (0 : Nat) (0 : Nat)),
                          ((11 : Nat), AVal.sl (5 : Nat) (0 : Nat) (1 : Nat) (0 : Nat) (1 : Nat) none),
                          ((12 : Nat),
                            AVal.func (16 : Nat) []
                              [AVal.ptr (1 : Nat) (0 : Nat) (0 : Nat) (0 : Nat),
                                AVal.ptr (2 : Nat) (0 : Nat) (0 : Nat) (0 : Nat),
                                AVal.ptr (3 : Nat) (0 : Nat) (0 : Nat) (0 : Nat)]),
                          ((13 : Nat), AVal.int IntKind.u64 (9 : Int))]
                        (AHeap.mk (7 : Nat)
                          [((0 : Nat),
                              ABlk.cells (57 : Nat)
                                [AVal.bool o.p.st, AVal.bool o.p.en, AVal.int IntKind.i64 o.p.id,
                                  AVal.int IntKind.i64 o.p.total, AVal.int IntKind.i64 o.p.typ,
                                  AVal.int IntKind.i64 o.p.k, AVal.str o.p.lb, AVal.str o.p.data, AVal.str o.p.sum,
                                  AVal.bool o.last, AVal.bool o.again, AVal.int IntKind.i64 n]),
                            ((1 : Nat),
                              ABlk.cells (65 : Nat)
                                [AVal.iface (55 : Nat) (AVal.ptr (0 : Nat) (0 : Nat) (0 : Nat) (0 : Nat))]),
                            ((2 : Nat), ABlk.cells (33 : Nat) [AVal.int IntKind.u64 (0 : Int)]),
                            ((3 : Nat), ABlk.cells (3 : Nat) [AVal.int IntKind.i64 (7 : Int)]),
                            ((4 : Nat),
                              ABlk.cells (70 : Nat)
                                [AVal.sl (6 : Nat) (0 : Nat) (1 : Nat) (0 : Nat)
                                    (L ++
                                        gEnc o.p.st o.p.en o.p.id o.p.total o.p.typ o.p.k o.p.lb o.p.data
                                          o.p.sum).length
                                    none,
                                  AVal.int IntKind.i64 o.sp, AVal.bool false, AVal.int IntKind.i64 (k + (1 : Int)),
                                  AVal.int IntKind.i64 (0 : Int), AVal.str []]),
                            ((5 : Nat), ABlk.row (33 : Nat) (intRow IntKind.u64) [(9 : Int)] RowMd.plain),
                            ((6 : Nat),
                              ABlk.row (5 : Nat) byteRow
                                (L ++ gEnc o.p.st o.p.en o.p.id o.p.total o.p.typ o.p.k o.p.lb o.p.data o.p.sum)
                                RowMd.plain)]))
                      (Q AExit.normal
                        [((4 : Nat), AVal.ptr (1 : Nat) (0 : Nat) (0 : Nat) (0 : Nat)),
                          ((5 : Nat), AVal.ptr (2 : Nat) (0 : Nat) (0 : Nat) (0 : Nat)),
                          ((6 : Nat), AVal.ptr (3 : Nat) (0 : Nat) (0 : Nat) (0 : Nat)),
                          ((10 : Nat), AVal.ptr (4 : Nat) (0 : Nat) (0 : Nat) (0 : Nat)), ((11 : Nat), AVal.nils),
                          ((12 : Nat),
                            AVal.func (16 : Nat) []
                              [AVal.ptr (1 : Nat) (0 : Nat) (0 : Nat) (0 : Nat),
                                AVal.ptr (2 : Nat) (0 : Nat) (0 : Nat) (0 : Nat),
                                AVal.ptr (3 : Nat) (0 : Nat) (0 : Nat) (0 : Nat)]),
                          ((13 : Nat), AVal.int IntKind.u64 (9 : Int))]
                        (AHeap.mk (6 : Nat)
                          [((0 : Nat),
                              ABlk.cells (57 : Nat)
                                [AVal.bool o.p.st, AVal.bool o.p.en, AVal.int IntKind.i64 o.p.id,
                                  AVal.int IntKind.i64 o.p.total, AVal.int IntKind.i64 o.p.typ,
                                  AVal.int IntKind.i64 o.p.k, AVal.str o.p.lb, AVal.str o.p.data, AVal.str o.p.sum,
                                  AVal.bool o.last, AVal.bool o.again, AVal.int IntKind.i64 n]),
                            ((1 : Nat),
                              ABlk.cells (65 : Nat)
                                [AVal.iface (55 : Nat) (AVal.ptr (0 : Nat) (0 : Nat) (0 : Nat) (0 : Nat))]),
                            ((2 : Nat), ABlk.cells (33 : Nat) [AVal.int IntKind.u64 (0 : Int)]),
                            ((3 : Nat), ABlk.cells (3 : Nat) [AVal.int IntKind.i64 (7 : Int)]),
                            ((4 : Nat),
                              ABlk.cells (70 : Nat)
                                [AVal.sl (5 : Nat) (0 : Nat) (1 : Nat) (0 : Nat)
                                    (L ++
                                        gEnc o.p.st o.p.en o.p.id o.p.total o.p.typ o.p.k o.p.lb o.p.data
                                          o.p.sum).length
                                    none,
                                  AVal.int IntKind.i64 o.sp, AVal.bool false, AVal.int IntKind.i64 (k + (1 : Int)),
                                  AVal.int IntKind.i64 (0 : Int), AVal.str []]),
                            ((5 : Nat),
                              ABlk.row (5 : Nat) byteRow
                                (L ++ gEnc o.p.st o.p.en o.p.id o.p.total o.p.typ o.p.k o.p.lb o.p.data o.p.sum)
                                RowMd.plain)]))))))))))))) := by kernel_rfl

set_option maxRecDepth 100000 in
theorem w_ol_11 (o : OddS) (n k : Int) (beg : Bool) (L : List UInt8) (S : List Int) (Q : AExit → Env → AHeap → Prop) : (wpC (TF.ctx Try.prog) 400 9 1 fillL (o11 o n k beg L S o13).1 (o11 o n k beg L S o13).2 (canQ 1 ts13 Q)
) = (obl (inI64 (o.sp - (↑L.length : Int)))
  (twice
    (obl (decide (o.p.lb.length + o.p.data.length + o.p.sum.length ≤ (9223372036854775000 : Nat)))
      (branch (!decide (gErr o.p.st o.p.en o.p.id o.p.total o.p.typ o.p.k o.p.lb o.p.data o.p.sum = (0 : Int)))
        (Q (AExit.exit (0 : Nat))
          [((4 : Nat), AVal.ptr (1 : Nat) (0 : Nat) (0 : Nat) (0 : Nat)),
            ((5 : Nat), AVal.ptr (2 : Nat) (0 : Nat) (0 : Nat) (0 : Nat)),
            ((6 : Nat), AVal.ptr (3 : Nat) (0 : Nat) (0 : Nat) (0 : Nat)),
            ((10 : Nat), AVal.ptr (4 : Nat) (0 : Nat) (0 : Nat) (0 : Nat)),
            ((11 : Nat), AVal.sl (5 : Nat) (0 : Nat) (1 : Nat) (0 : Nat) S.length none),
            ((12 : Nat),
              AVal.func (16 : Nat) []
                [AVal.ptr (1 : Nat) (0 : Nat) (0 : Nat) (0 : Nat), AVal.ptr (2 : Nat) (0 : Nat) (0 : Nat) (0 : Nat),
                  AVal.ptr (3 : Nat) (0 : Nat) (0 : Nat) (0 : Nat)]),
            ((13 : Nat), AVal.int IntKind.u64 (9 : Int))]
          (AHeap.mk (7 : Nat)
            [((0 : Nat),
                ABlk.cells (57 : Nat)
                  [AVal.bool o.p.st, AVal.bool o.p.en, AVal.int IntKind.i64 o.p.id, AVal.int IntKind.i64 o.p.total,
                    AVal.int IntKind.i64 o.p.typ, AVal.int IntKind.i64 o.p.k, AVal.str o.p.lb, AVal.str o.p.data,
                    AVal.str o.p.sum, AVal.bool o.last, AVal.bool o.again, AVal.int IntKind.i64 n]),
              ((1 : Nat),
                ABlk.cells (65 : Nat) [AVal.iface (55 : Nat) (AVal.ptr (0 : Nat) (0 : Nat) (0 : Nat) (0 : Nat))]),
              ((2 : Nat), ABlk.cells (33 : Nat) [AVal.int IntKind.u64 (0 : Int)]),
              ((3 : Nat), ABlk.cells (3 : Nat) [AVal.int IntKind.i64 (7 : Int)]),
              ((4 : Nat),
                ABlk.cells (70 : Nat)
                  [AVal.sl (6 : Nat) (0 : Nat) (1 : Nat) (0 : Nat) L.length none, AVal.int IntKind.i64 o.sp,
                    AVal.bool beg, AVal.int IntKind.i64 k, AVal.int IntKind.i64 (0 : Int), AVal.str []]),
              ((5 : Nat), ABlk.row (33 : Nat) (intRow IntKind.u64) S RowMd.plain),
              ((6 : Nat), ABlk.row (5 : Nat) byteRow L RowMd.plain)]))
        (branch
          (decide
            (o.sp - (↑L.length : Int) <
              (↑(gEnc o.p.st o.p.en o.p.id o.p.total o.p.typ o.p.k o.p.lb o.p.data o.p.sum).length : Int)))
          (Q (AExit.exit (0 : Nat))
            [((4 : Nat), AVal.ptr (1 : Nat) (0 : Nat) (0 : Nat) (0 : Nat)),
              ((5 : Nat), AVal.ptr (2 : Nat) (0 : Nat) (0 : Nat) (0 : Nat)),
              ((6 : Nat), AVal.ptr (3 : Nat) (0 : Nat) (0 : Nat) (0 : Nat)),
              ((10 : Nat), AVal.ptr (4 : Nat) (0 : Nat) (0 : Nat) (0 : Nat)),
              ((11 : Nat), AVal.sl (5 : Nat) (0 : Nat) (1 : Nat) (0 : Nat) S.length none),
              ((12 : Nat),
                AVal.func (16 : Nat) []
                  [AVal.ptr (1 : Nat) (0 : Nat) (0 : Nat) (0 : Nat), AVal.ptr (2 : Nat) (0 : Nat) (0 : Nat) (0 : Nat),
                    AVal.ptr (3 : Nat) (0 : Nat) (0 : Nat) (0 : Nat)]),
              ((13 : Nat), AVal.int IntKind.u64 (9 : Int))]
            (AHeap.mk (7 : Nat)
              [((0 : Nat),
                  ABlk.cells (57 : Nat)
                    [AVal.bool o.p.st, AVal.bool o.p.en, AVal.int IntKind.i64 o.p.id, AVal.int IntKind.i64 o.p.total,
                      AVal.int IntKind.i64 o.p.typ, AVal.int IntKind.i64 o.p.k, AVal.str o.p.lb, AVal.str o.p.data,
                      AVal.str o.p.sum, AVal.bool o.last, AVal.bool o.again, AVal.int IntKind.i64 n]),
                ((1 : Nat),
                  ABlk.cells (65 : Nat) [AVal.iface (55 : Nat) (AVal.ptr (0 : Nat) (0 : Nat) (0 : Nat) (0 : Nat))]),
                ((2 : Nat), ABlk.cells (33 : Nat) [AVal.int IntKind.u64 (0 : Int)]),
                ((3 : Nat), ABlk.cells (3 : Nat) [AVal.int IntKind.i64 (7 : Int)]),
                ((4 : Nat),
                  ABlk.cells (70 : Nat)
                    [AVal.sl (6 : Nat) (0 : Nat) (1 : Nat) (0 : Nat) L.length none, AVal.int IntKind.i64 o.sp,
                      AVal.bool beg, AVal.int IntKind.i64 k, AVal.int IntKind.i64 (0 : Int), AVal.str []]),
                ((5 : Nat), ABlk.row (33 : Nat) (intRow IntKind.u64) S RowMd.plain),
                ((6 : Nat), ABlk.row (5 : Nat) byteRow L RowMd.plain)]))
          (branch (decide ((70000 : Int) ≤ k))
            (Q (AExit.exit (0 : Nat))
              [((4 : Nat), AVal.ptr (1 : Nat) (0 : Nat) (0 : Nat) (0 : Nat)),
                ((5 : Nat), AVal.ptr (2 : Nat) (0 : Nat) (0 : Nat) (0 : Nat)),
                ((6 : Nat), AVal.ptr (3 : Nat) (0 : Nat) (0 : Nat) (0 : Nat)),
                ((10 : Nat), AVal.ptr (4 : Nat) (0 : Nat) (0 : Nat) (0 : Nat)),
                ((11 : Nat), AVal.sl (5 : Nat) (0 : Nat) (1 : Nat) (0 : Nat) S.length none),
                ((12 : Nat),
                  AVal.func (16 : Nat) []
                    [AVal.ptr (1 : Nat) (0 : Nat) (0 : Nat) (0 : Nat), AVal.ptr (2 : Nat) (0 : Nat) (0 : Nat) (0 : Nat),
                      AVal.ptr (3 : Nat) (0 : Nat) (0 : Nat) (0 : Nat)]),
                ((13 : Nat), AVal.int IntKind.u64 (9 : Int))]
              (AHeap.mk (7 : Nat)
                [((0 : Nat),
                    ABlk.cells (57 : Nat)
                      [AVal.bool o.p.st, AVal.bool o.p.en, AVal.int IntKind.i64 o.p.id, AVal.int IntKind.i64 o.p.total,
                        AVal.int IntKind.i64 o.p.typ, AVal.int IntKind.i64 o.p.k, AVal.str o.p.lb, AVal.str o.p.data,
                        AVal.str o.p.sum, AVal.bool o.last, AVal.bool o.again, AVal.int IntKind.i64 n]),
                  ((1 : Nat),
                    ABlk.cells (65 : Nat) [AVal.iface (55 : Nat) (AVal.ptr (0 : Nat) (0 : Nat) (0 : Nat) (0 : Nat))]),
                  ((2 : Nat), ABlk.cells (33 : Nat) [AVal.int IntKind.u64 (0 : Int)]),
                  ((3 : Nat), ABlk.cells (3 : Nat) [AVal.int IntKind.i64 (7 : Int)]),
                  ((4 : Nat),
                    ABlk.cells (70 : Nat)
                      [AVal.sl (6 : Nat) (0 : Nat) (1 : Nat) (0 : Nat) L.length none, AVal.int IntKind.i64 o.sp,
                        AVal.bool beg, AVal.int IntKind.i64 k, AVal.int IntKind.i64 (0 : Int), AVal.str []]),
                  ((5 : Nat), ABlk.row (33 : Nat) (intRow IntKind.u64) S RowMd.plain),
                  ((6 : Nat), ABlk.row (5 : Nat) byteRow L RowMd.plain)]))
            (obl (inI64 (k + (1 : Int)))
              (obl
                (true &&
                  decide
                    (L.length = L.length ∧
                      (1 : Nat) = (1 : Nat) ∧
                        (1 : Nat) = (1 : Nat) ∧
                          (0 : Nat) < (1 : Nat) ∧
                            (L ++ gEnc o.p.st o.p.en o.p.id o.p.total o.p.typ o.p.k o.p.lb o.p.data o.p.sum).length ≤
                                (9223372036854775807 : Nat) ∧
                              (L ++ gEnc o.p.st o.p.en o.p.id o.p.total o.p.typ o.p.k o.p.lb o.p.data o.p.sum).length *
                                  (1 : Nat) ≤
                                (140737488355328 : Nat)))
                (branch beg
                  (branch o.last
                    (obl
                      (true &&
                        decide
                          (S.length = S.length ∧
                            (1 : Nat) = (1 : Nat) ∧
                              (1 : Nat) = (1 : Nat) ∧
                                (0 : Nat) < (1 : Nat) ∧
                                  (S ++ [(9 : Int)]).length ≤ (9223372036854775807 : Nat) ∧
                                    (S ++ [(9 : Int)]).length * (8 : Nat) ≤ (140737488355328 : Nat)))
                      (Q (AExit.exit (2 : Nat))
                        [((4 : Nat), AVal.ptr (1 : Nat) (0 : Nat) (0 : Nat) (0 : Nat)),
                          ((5 : Nat), AVal.ptr (2 : Nat) (0 : Nat) (0 : Nat) (0 : Nat)),
                          ((6 : Nat), AVal.ptr (3 : Nat) (0 : Nat) (0 : Nat) (0 : Nat)),
                          ((10 : Nat), AVal.ptr (4 : Nat) (0 : Nat) (0 : Nat) (0 : Nat)),
                          ((11 : Nat), AVal.sl (5 : Nat) (0 : Nat) (1 : Nat) (0 : Nat) (S ++ [(9 : Int)]).length none),
                          ((12 : Nat),
                            AVal.func (16 : Nat) []
                              [AVal.ptr (1 : Nat) (0 : Nat) (0 : Nat) (0 : Nat),
                                AVal.ptr (2 : Nat) (0 : Nat) (0 : Nat) (0 : Nat),
                                AVal.ptr (3 : Nat) (0 : Nat) (0 : Nat) (0 : Nat)]),
                          ((13 : Nat), AVal.int IntKind.u64 (9 : Int))]
                        (AHeap.mk (7 : Nat)
                          [((0 : Nat),
                              ABlk.cells (57 : Nat)
                                [AVal.bool o.p.st, AVal.bool o.p.en, AVal.int IntKind.i64 o.p.id,
                                  AVal.int IntKind.i64 o.p.total, AVal.int IntKind.i64 o.p.typ,
                                  AVal.int IntKind.i64 o.p.k, AVal.str o.p.lb, AVal.str o.p.data, AVal.str o.p.sum,
                                  AVal.bool o.last, AVal.bool o.again, AVal.int IntKind.i64 n]),
                            ((1 : Nat),
                              ABlk.cells (65 : Nat)
                                [AVal.iface (55 : Nat) (AVal.ptr (0 : Nat) (0 : Nat) (0 : Nat) (0 : Nat))]),
                            ((2 : Nat), ABlk.cells (33 : Nat) [AVal.int IntKind.u64 (0 : Int)]),
                            ((3 : Nat), ABlk.cells (3 : Nat) [AVal.int IntKind.i64 (7 : Int)]),
                            ((4 : Nat),
                              ABlk.cells (70 : Nat)
                                [AVal.sl (6 : Nat) (0 : Nat) (1 : Nat) (0 : Nat)
                                    (L ++
                                        gEnc o.p.st o.p.en o.p.id o.p.total o.p.typ o.p.k o.p.lb o.p.data
                                          o.p.sum).length
                                    none,
                                  AVal.int IntKind.i64 o.sp, AVal.bool true, AVal.int IntKind.i64 (k + (1 : Int)),
                                  AVal.int IntKind.i64 (0 : Int), AVal.str []]),
                            ((5 : Nat), ABlk.row (33 : Nat) (intRow IntKind.u64) (S ++ [(9 : Int)]) RowMd.plain),
                            ((6 : Nat),
                              ABlk.row (5 : Nat) byteRow
                                (L ++ gEnc o.p.st o.p.en o.p.id o.p.total o.p.typ o.p.k o.p.lb o.p.data o.p.sum)
                                RowMd.plain)])))
                    (Q AExit.normal
                      [((4 : Nat), AVal.ptr (1 : Nat) (0 : Nat) (0 : Nat) (0 : Nat)),
                        ((5 : Nat), AVal.ptr (2 : Nat) (0 : Nat) (0 : Nat) (0 : Nat)),
                        ((6 : Nat), AVal.ptr (3 : Nat) (0 : Nat) (0 : Nat) (0 : Nat)),
                        ((10 : Nat), AVal.ptr (4 : Nat) (0 : Nat) (0 : Nat) (0 : Nat)),
                        ((11 : Nat), AVal.sl (5 : Nat) (0 : Nat) (1 : Nat) (0 : Nat) S.length none),
                        ((12 : Nat),
                          AVal.func (16 : Nat) []
                            [AVal.ptr (1 : Nat) (0 : Nat) (0 : Nat) (0 : Nat),
                              AVal.ptr (2 : Nat) (0 : Nat) (0 : Nat) (0 : Nat),
                              AVal.ptr (3 : Nat) (0 : Nat) (0 : Nat) (0 : Nat)]),
                        ((13 : Nat), AVal.int IntKind.u64 (9 : Int))]
                      (AHeap.mk (7 : Nat)
                        [((0 : Nat),
                            ABlk.cells (57 : Nat)
                              [AVal.bool o.p.st, AVal.bool o.p.en, AVal.int IntKind.i64 o.p.id,
                                AVal.int IntKind.i64 o.p.total, AVal.int IntKind.i64 o.p.typ,
                                AVal.int IntKind.i64 o.p.k, AVal.str o.p.lb, AVal.str o.p.data, AVal.str o.p.sum,
                                AVal.bool o.last, AVal.bool o.again, AVal.int IntKind.i64 n]),
                          ((1 : Nat),
                            ABlk.cells (65 : Nat)
                              [AVal.iface (55 : Nat) (AVal.ptr (0 : Nat) (0 : Nat) (0 : Nat) (0 : Nat))]),
                          ((2 : Nat), ABlk.cells (33 : Nat) [AVal.int IntKind.u64 (0 : Int)]),
                          ((3 : Nat), ABlk.cells (3 : Nat) [AVal.int IntKind.i64 (7 : Int)]),
                          ((4 : Nat),
                            ABlk.cells (70 : Nat)
                              [AVal.sl (6 : Nat) (0 : Nat) (1 : Nat) (0 : Nat)
                                  (L ++
                                      gEnc o.p.st o.p.en o.p.id o.p.total o.p.typ o.p.k o.p.lb o.p.data o.p.sum).length
                                  none,
                                AVal.int IntKind.i64 o.sp, AVal.bool true, AVal.int IntKind.i64 (k + (1 : Int)),
                                AVal.int IntKind.i64 (0 : Int), AVal.str []]),
                          ((5 : Nat), ABlk.row (33 : Nat) (intRow IntKind.u64) S RowMd.plain),
                          ((6 : Nat),
                            ABlk.row (5 : Nat) byteRow
                              (L ++ gEnc o.p.st o.p.en o.p.id o.p.total o.p.typ o.p.k o.p.lb o.p.data o.p.sum)
                              RowMd.plain)])))
                  (branch o.p.st
                    (branch o.last
                      (obl
                        (true &&
                          decide
                            (S.length = S.length ∧
                              (1 : Nat) = (1 : Nat) ∧
                                (1 : Nat) = (1 : Nat) ∧
                                  (0 : Nat) < (1 : Nat) ∧
                                    (S ++ [(9 : Int)]).length ≤ (9223372036854775807 : Nat) ∧
                                      (S ++ [(9 : Int)]).length * (8 : Nat) ≤ (140737488355328 : Nat)))
                        (Q (AExit.exit (2 : Nat))
                          [((4 : Nat), AVal.ptr (1 : Nat) (0 : Nat) (0 : Nat) (0 : Nat)),
                            ((5 : Nat), AVal.ptr (2 : Nat) (0 : Nat) (0 : Nat) (0 : Nat)),
                            ((6 : Nat), AVal.ptr (3 : Nat) (0 : Nat) (0 : Nat) (0 : Nat)),
                            ((10 : Nat), AVal.ptr (4 : Nat) (0 : Nat) (0 : Nat) (0 : Nat)),
                            ((11 : Nat),
                              AVal.sl (5 : Nat) (0 : Nat) (1 : Nat) (0 : Nat) (S ++ [(9 : Int)]).length none),
                            ((12 : Nat),
                              AVal.func (16 : Nat) []
                                [AVal.ptr (1 : Nat) (0 : Nat) (0 : Nat) (0 : Nat),
                                  AVal.ptr (2 : Nat) (0 : Nat) (0 : Nat) (0 : Nat),
                                  AVal.ptr (3 : Nat) (0 : Nat) (0 : Nat) (0 : Nat)]),
                            ((13 : Nat), AVal.int IntKind.u64 (9 : Int))]
                          (AHeap.mk (7 : Nat)
                            [((0 : Nat),
                                ABlk.cells (57 : Nat)
                                  [AVal.bool o.p.st, AVal.bool o.p.en, AVal.int IntKind.i64 o.p.id,
                                    AVal.int IntKind.i64 o.p.total, AVal.int IntKind.i64 o.p.typ,
                                    AVal.int IntKind.i64 o.p.k, AVal.str o.p.lb, AVal.str o.p.data, AVal.str o.p.sum,
                                    AVal.bool o.last, AVal.bool o.again, AVal.int IntKind.i64 n]),
                              ((1 : Nat),
                                ABlk.cells (65 : Nat)
                                  [AVal.iface (55 : Nat) (AVal.ptr (0 : Nat) (0 : Nat) (0 : Nat) (0 : Nat))]),
                              ((2 : Nat), ABlk.cells (33 : Nat) [AVal.int IntKind.u64 (0 : Int)]),
                              ((3 : Nat), ABlk.cells (3 : Nat) [AVal.int IntKind.i64 (7 : Int)]),
                              ((4 : Nat),
                                ABlk.cells (70 : Nat)
                                  [AVal.sl (6 : Nat) (0 : Nat) (1 : Nat) (0 : Nat)
                                      (L ++
                                          gEnc o.p.st o.p.en o.p.id o.p.total o.p.typ o.p.k o.p.lb o.p.data
                                            o.p.sum).length
                                      none,
                                    AVal.int IntKind.i64 o.sp, AVal.bool !o.p.en, AVal.int IntKind.i64 (k + (1 : Int)),
                                    AVal.int IntKind.i64 (0 : Int), AVal.str []]),
                              ((5 : Nat), ABlk.row (33 : Nat) (intRow IntKind.u64) (S ++ [(9 : Int)]) RowMd.plain),
                              ((6 : Nat),
                                ABlk.row (5 : Nat) byteRow
                                  (L ++ gEnc o.p.st o.p.en o.p.id o.p.total o.p.typ o.p.k o.p.lb o.p.data o.p.sum)
                                  RowMd.plain)])))
                      (Q AExit.normal
                        [((4 : Nat), AVal.ptr (1 : Nat) (0 : Nat) (0 : Nat) (0 : Nat)),
                          ((5 : Nat), AVal.ptr (2 : Nat) (0 : Nat) (0 : Nat) (0 : Nat)),
                          ((6 : Nat), AVal.ptr (3 : Nat) (0 : Nat) (0 : Nat) (0 : Nat)),
                          ((10 : Nat), AVal.ptr (4 : Nat) (0 : Nat) (0 : Nat) (0 : Nat)),
                          ((11 : Nat), AVal.sl (5 : Nat) (0 : Nat) (1 : Nat) (0 : Nat) S.length none),
                          ((12 : Nat),
                            AVal.func (16 : Nat) []
                              [AVal.ptr (1 : Nat) (0 : Nat) (0 : Nat) (0 : Nat),
                                AVal.ptr (2 : Nat) (0 : Nat) (0 : Nat) (0 : Nat),
                                AVal.ptr (3 : Nat) (0 : Nat) (0 : Nat) (0 : Nat)]),
                          ((13 : Nat), AVal.int IntKind.u64 (9 : Int))]
                        (AHeap.mk (7 : Nat)
                          [((0 : Nat),
                              ABlk.cells (57 : Nat)
                                [AVal.bool o.p.st, AVal.bool o.p.en, AVal.int IntKind.i64 o.p.id,
                                  AVal.int IntKind.i64 o.p.total, AVal.int IntKind.i64 o.p.typ,
                                  AVal.int IntKind.i64 o.p.k, AVal.str o.p.lb, AVal.str o.p.data, AVal.str o.p.sum,
                                  AVal.bool o.last, AVal.bool o.again, AVal.int IntKind.i64 n]),
                            ((1 : Nat),
                              ABlk.cells (65 : Nat)
                                [AVal.iface (55 : Nat) (AVal.ptr (0 : Nat) (0 : Nat) (0 : Nat) (0 : Nat))]),
                            ((2 : Nat), ABlk.cells (33 : Nat) [AVal.int IntKind.u64 (0 : Int)]),
                            ((3 : Nat), ABlk.cells (3 : Nat) [AVal.int IntKind.i64 (7 : Int)]),
                            ((4 : Nat),
                              ABlk.cells (70 : Nat)
                                [AVal.sl (6 : Nat) (0 : Nat) (1 : Nat) (0 : Nat)
                                    (L ++
                                        gEnc o.p.st o.p.en o.p.id o.p.total o.p.typ o.p.k o.p.lb o.p.data
                                          o.p.sum).length
                                    none,
                                  AVal.int IntKind.i64 o.sp, AVal.bool !o.p.en, AVal.int IntKind.i64 (k + (1 : Int)),
                                  AVal.int IntKind.i64 (0 : Int), AVal.str []]),
                            ((5 : Nat), ABlk.row (33 : Nat) (intRow IntKind.u64) S RowMd.plain),
                            ((6 : Nat),
                              ABlk.row (5 : Nat) byteRow
                                (L ++ gEnc o.p.st o.p.en o.p.id o.p.total o.p.typ o.p.k o.p.lb o.p.data o.p.sum)
                                RowMd.plain)])))
                    (branch o.last
                      (obl
                        (true &&
                          decide
                            (S.length = S.length ∧
                              (1 : Nat) = (1 : Nat) ∧
                                (1 : Nat) = (1 : Nat) ∧
                                  (0 : Nat) < (1 : Nat) ∧
                                    (S ++ [(9 : Int)]).length ≤ (9223372036854775807 : Nat) ∧
                                      (S ++ [(9 : Int)]).length * (8 : Nat) ≤ (140737488355328 : Nat)))
                        (Q (AExit.exit (2 : Nat))
                          [((4 : Nat), AVal.ptr (1 : Nat) (0 : Nat) (0 : Nat) (0 : Nat)),
                            ((5 : Nat), AVal.ptr (2 : Nat) (0 : Nat) (0 : Nat) (0 : Nat)),
                            ((6 : Nat), AVal.ptr (3 : Nat) (0 : Nat) (0 : Nat) (0 : Nat)),
                            ((10 : Nat), AVal.ptr (4 : Nat) (0 : Nat) (0 : Nat) (0 : Nat)),
                            ((11 : Nat),
                              AVal.sl (5 : Nat) (0 : Nat) (1 : Nat) (0 : Nat) (S ++ [(9 : Int)]).length none),
                            ((12 : Nat),
                              AVal.func (16 : Nat) []
                                [AVal.ptr (1 : Nat) (0 : Nat) (0 : Nat) (0 : Nat),
                                  AVal.ptr (2 : Nat) (0 : Nat) (0 : Nat) (0 : Nat),
                                  AVal.ptr (3 : Nat) (0 : Nat) (0 : Nat) (0 : Nat)]),
                            ((13 : Nat), AVal.int IntKind.u64 (9 : Int))]
                          (AHeap.mk (7 : Nat)
                            [((0 : Nat),
                                ABlk.cells (57 : Nat)
                                  [AVal.bool o.p.st, AVal.bool o.p.en, AVal.int IntKind.i64 o.p.id,
                                    AVal.int IntKind.i64 o.p.total, AVal.int IntKind.i64 o.p.typ,
                                    AVal.int IntKind.i64 o.p.k, AVal.str o.p.lb, AVal.str o.p.data, AVal.str o.p.sum,
                                    AVal.bool o.last, AVal.bool o.again, AVal.int IntKind.i64 n]),
                              ((1 : Nat),
                                ABlk.cells (65 : Nat)
                                  [AVal.iface (55 : Nat) (AVal.ptr (0 : Nat) (0 : Nat) (0 : Nat) (0 : Nat))]),
                              ((2 : Nat), ABlk.cells (33 : Nat) [AVal.int IntKind.u64 (0 : Int)]),
                              ((3 : Nat), ABlk.cells (3 : Nat) [AVal.int IntKind.i64 (7 : Int)]),
                              ((4 : Nat),
                                ABlk.cells (70 : Nat)
                                  [AVal.sl (6 : Nat) (0 : Nat) (1 : Nat) (0 : Nat)
                                      (L ++
                                          gEnc o.p.st o.p.en o.p.id o.p.total o.p.typ o.p.k o.p.lb o.p.data
                                            o.p.sum).length
                                      none,
                                    AVal.int IntKind.i64 o.sp, AVal.bool false, AVal.int IntKind.i64 (k + (1 : Int)),
                                    AVal.int IntKind.i64 (0 : Int), AVal.str []]),
                              ((5 : Nat), ABlk.row (33 : Nat) (intRow IntKind.u64) (S ++ [(9 : Int)]) RowMd.plain),
                              ((6 : Nat),
                                ABlk.row (5 : Nat) byteRow
                                  (L ++ gEnc o.p.st o.p.en o.p.id o.p.total o.p.typ o.p.k o.p.lb o.p.data o.p.sum)
                                  RowMd.plain)])))
                      (Q AExit.normal
                        [((4 : Nat), AVal.ptr (1 : Nat) (0 : Nat) (0 : Nat) (0 : Nat)),
                          ((5 : Nat), AVal.ptr (2 : Nat) (0 : Nat) (0 : Nat) (0 : Nat)),
                          ((6 : Nat), AVal.ptr (3 : Nat) (0 : Nat) (0 : Nat) (0 : Nat)),
                          ((10 : Nat), AVal.ptr (4 : Nat) (0 : Nat) (0 : Nat) (0 : Nat)),
                          ((11 : Nat), AVal.sl (5 : Nat) (0 : Nat) (1 : Nat) (0 : Nat) S.length none),
                          ((12 : Nat),
                            AVal.func (16 : Nat) []
                              [AVal.ptr (1 : Nat) (0 : Nat) (0 : Nat) (0 : Nat),
                                AVal.ptr (2 : Nat) (0 : Nat) (0 : Nat) (0 : Nat),
                                AVal.ptr (3 : Nat) (0 : Nat) (0 : Nat) (0 : Nat)]),
                          ((13 : Nat), AVal.int IntKind.u64 (9 : Int))]
                        (AHeap.mk (7 : Nat)
                          [((0 : Nat),
                              ABlk.cells (57 : Nat)
                                [AVal.bool o.p.st, AVal.bool o.p.en, AVal.int IntKind.i64 o.p.id,
                                  AVal.int IntKind.i64 o.p.total, AVal.int IntKind.i64 o.p.typ,
                                  AVal.int IntKind.i64 o.p.k, AVal.str o.p.lb, AVal.str o.p.data, AVal.str o.p.sum,
                                  AVal.bool o.last, AVal.bool o.again, AVal.int IntKind.i64 n]),
                            ((1 : Nat),
                              ABlk.cells (65 : Nat)
                                [AVal.iface (55 : Nat) (AVal.ptr (0 : Nat) (0 : Nat) (0 : Nat) (0 : Nat))]),
                            ((2 : Nat), ABlk.cells (33 : Nat) [AVal.int IntKind.u64 (0 : Int)]),
                            ((3 : Nat), ABlk.cells (3 : Nat) [AVal.int IntKind.i64 (7 : Int)]),
                            ((4 : Nat),
                              ABlk.cells (70 : Nat)
                                [AVal.sl (6 : Nat) (0 : Nat) (1 : Nat) (0 : Nat)
                                    (L ++
                                        gEnc o.p.st o.p.en o.p.id o.p.total o.p.typ o.p.k o.p.lb o.p.data
                                          o.p.sum).length
                                    none,
                                  AVal.int IntKind.i64 o.sp, AVal.bool false, AVal.int IntKind.i64 (k + (1 : Int)),
                                  AVal.int IntKind.i64 (0 : Int), AVal.str []]),
                            ((5 : Nat), ABlk.row (33 : Nat) (intRow IntKind.u64) S RowMd.plain),
                            ((6 : Nat),
                              ABlk.row (5 : Nat) byteRow
                                (L ++ gEnc o.p.st o.p.en o.p.id o.p.total o.p.typ o.p.k o.p.lb o.p.data o.p.sum)
                                RowMd.plain)]))))))))))))) := by kernel_rfl

end Go.Proofs.Ytjacnjecggedhaa
