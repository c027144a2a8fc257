/-
  Walks, printed: what calls come to, as they are reckoned.
-/
import Derived.Test.YtjacnjecggedhaaFlEm
namespace Go.Proofs.Ytjacnjecggedhaa
set_option linter.unusedVariables false
set_option linter.unusedSimpArgs false
open Go.RowKit Ev

set_option maxRecDepth 100000 in
theorem w_oe0 (p : PieceR) (last again : Bool) (sp : Int) (Q : AExit → Env → AHeap → Prop) : (wpC (TF.ctx Try.prog) 400 9 1 (codeAt [false] fillB) (env0 (oddA sp) 0) ⟨1, [(0, oddB p last again 0)]⟩ (canQ 1 ts0 Q)
) = (Q AExit.normal
  [((3 : Nat), AVal.int IntKind.i64 sp), ((4 : Nat), AVal.ptr (1 : Nat) (0 : Nat) (0 : Nat) (0 : Nat)),
    ((5 : Nat), AVal.ptr (2 : Nat) (0 : Nat) (0 : Nat) (0 : Nat)),
    ((6 : Nat), AVal.ptr (3 : Nat) (0 : Nat) (0 : Nat) (0 : Nat))]
  (AHeap.mk (4 : Nat)
    [((0 : Nat),
        ABlk.cells (57 : Nat)
          [AVal.bool p.st, AVal.bool p.en, AVal.int IntKind.i64 p.id, AVal.int IntKind.i64 p.total,
            AVal.int IntKind.i64 p.typ, AVal.int IntKind.i64 p.k, AVal.str p.lb, AVal.str p.data, AVal.str p.sum,
            AVal.bool last, AVal.bool again, AVal.int IntKind.i64 (0 : Int)]),
      ((1 : Nat), ABlk.cells (65 : Nat) [AVal.iface (55 : Nat) (AVal.ptr (0 : Nat) (0 : Nat) (0 : Nat) (0 : Nat))]),
      ((2 : Nat), ABlk.cells (33 : Nat) [AVal.int IntKind.u64 (0 : Int)]),
      ((3 : Nat), ABlk.cells (3 : Nat) [AVal.int IntKind.i64 (7 : Int)])])) := by kernel_rfl

set_option maxRecDepth 100000 in
theorem w_oe1 (p : PieceR) (last again : Bool) (sp : Int) (K : Out → AHeap → Prop) (Q : AExit → Env → AHeap → Prop) : (wpC (TF.ctx Try.prog) 400 9 1 (seqL fillI) (oE0 sp) ⟨4, oH0 p last again 0 0⟩ (canQ 1 tsA (qRet (endA (TF.ctx Try.prog).P Try.f9 K) Q))
) = (branch (decide (sp < (1 : Int)))
  (K (Out.ret (AVal.tup [AVal.str [], AVal.nils]))
    (AHeap.mk (1 : Nat)
      [((0 : Nat),
          ABlk.cells (57 : Nat)
            [AVal.bool p.st, AVal.bool p.en, AVal.int IntKind.i64 p.id, AVal.int IntKind.i64 p.total,
              AVal.int IntKind.i64 p.typ, AVal.int IntKind.i64 p.k, AVal.str p.lb, AVal.str p.data, AVal.str p.sum,
              AVal.bool last, AVal.bool again, AVal.int IntKind.i64 (0 : Int)])]))
  (Q AExit.normal
    [((3 : Nat), AVal.int IntKind.i64 sp), ((4 : Nat), AVal.ptr (1 : Nat) (0 : Nat) (0 : Nat) (0 : Nat)),
      ((5 : Nat), AVal.ptr (2 : Nat) (0 : Nat) (0 : Nat) (0 : Nat)),
      ((6 : Nat), AVal.ptr (3 : Nat) (0 : Nat) (0 : Nat) (0 : Nat))]
    (AHeap.mk (4 : Nat)
      [((0 : Nat),
          ABlk.cells (57 : Nat)
            [AVal.bool p.st, AVal.bool p.en, AVal.int IntKind.i64 p.id, AVal.int IntKind.i64 p.total,
              AVal.int IntKind.i64 p.typ, AVal.int IntKind.i64 p.k, AVal.str p.lb, AVal.str p.data, AVal.str p.sum,
              AVal.bool last, AVal.bool again, AVal.int IntKind.i64 (0 : Int)]),
        ((1 : Nat), ABlk.cells (65 : Nat) [AVal.iface (55 : Nat) (AVal.ptr (0 : Nat) (0 : Nat) (0 : Nat) (0 : Nat))]),
        ((2 : Nat), ABlk.cells (33 : Nat) [AVal.int IntKind.u64 (0 : Int)]),
        ((3 : Nat), ABlk.cells (3 : Nat) [AVal.int IntKind.i64 (7 : Int)])]))) := by kernel_rfl

set_option maxRecDepth 100000 in
theorem w_oe1b (o : OddS) (It : Env → AHeap → Prop) (Q : AExit → Env → AHeap → Prop) : (wpN (TF.ctx Try.prog) 4 400 9 1 (seqR fillI) (oE0 o.sp) ⟨4, oH0 o.p o.last o.again 0 0⟩ (fun E H => canonK 1 [4, 5, 6, 10, 11, 12] E H It) Q
) = (It
  [((4 : Nat), AVal.ptr (1 : Nat) (0 : Nat) (0 : Nat) (0 : Nat)),
    ((5 : Nat), AVal.ptr (2 : Nat) (0 : Nat) (0 : Nat) (0 : Nat)),
    ((6 : Nat), AVal.ptr (3 : Nat) (0 : Nat) (0 : Nat) (0 : Nat)),
    ((10 : Nat), AVal.ptr (4 : Nat) (0 : Nat) (0 : Nat) (0 : Nat)), ((11 : Nat), AVal.nils),
    ((12 : Nat),
      AVal.func (16 : Nat) []
        [AVal.ptr (1 : Nat) (0 : Nat) (0 : Nat) (0 : Nat), AVal.ptr (2 : Nat) (0 : Nat) (0 : Nat) (0 : Nat),
          AVal.ptr (3 : Nat) (0 : Nat) (0 : Nat) (0 : Nat)])]
  (AHeap.mk (5 : Nat)
    [((0 : Nat),
        ABlk.cells (57 : Nat)
          [AVal.bool o.p.st, AVal.bool o.p.en, AVal.int IntKind.i64 o.p.id, AVal.int IntKind.i64 o.p.total,
            AVal.int IntKind.i64 o.p.typ, AVal.int IntKind.i64 o.p.k, AVal.str o.p.lb, AVal.str o.p.data,
            AVal.str o.p.sum, AVal.bool o.last, AVal.bool o.again, AVal.int IntKind.i64 (0 : Int)]),
      ((1 : Nat), ABlk.cells (65 : Nat) [AVal.iface (55 : Nat) (AVal.ptr (0 : Nat) (0 : Nat) (0 : Nat) (0 : Nat))]),
      ((2 : Nat), ABlk.cells (33 : Nat) [AVal.int IntKind.u64 (0 : Int)]),
      ((3 : Nat), ABlk.cells (3 : Nat) [AVal.int IntKind.i64 (7 : Int)]),
      ((4 : Nat),
        ABlk.cells (70 : Nat)
          [AVal.nils, AVal.int IntKind.i64 o.sp, AVal.bool false, AVal.int IntKind.i64 (0 : Int),
            AVal.int IntKind.i64 (0 : Int), AVal.str []])])) := by kernel_rfl

set_option maxRecDepth 100000 in
theorem w_oe2 (o : OddS) (Q : AExit → Env → AHeap → Prop) : (wpC (TF.ctx Try.prog) 400 9 1 (seqL (seqL (tailN 5 fillI))) (o00 o 0 []).1 (o00 o 0 []).2 (canQ 1 ts14 Q)
) = (same o.again
  (Q AExit.normal
    [((4 : Nat), AVal.ptr (1 : Nat) (0 : Nat) (0 : Nat) (0 : Nat)),
      ((5 : Nat), AVal.ptr (2 : Nat) (0 : Nat) (0 : Nat) (0 : Nat)),
      ((6 : Nat), AVal.ptr (3 : Nat) (0 : Nat) (0 : Nat) (0 : Nat)),
      ((10 : Nat), AVal.ptr (4 : Nat) (0 : Nat) (0 : Nat) (0 : Nat)), ((11 : Nat), AVal.nils),
      ((12 : Nat),
        AVal.func (16 : Nat) []
          [AVal.ptr (1 : Nat) (0 : Nat) (0 : Nat) (0 : Nat), AVal.ptr (2 : Nat) (0 : Nat) (0 : Nat) (0 : Nat),
            AVal.ptr (3 : Nat) (0 : Nat) (0 : Nat) (0 : Nat)]),
      ((13 : Nat), AVal.int IntKind.u64 (9 : Int)), ((14 : Nat), AVal.bool true)]
    (AHeap.mk (5 : Nat)
      [((0 : Nat),
          ABlk.cells (57 : Nat)
            [AVal.bool o.p.st, AVal.bool o.p.en, AVal.int IntKind.i64 o.p.id, AVal.int IntKind.i64 o.p.total,
              AVal.int IntKind.i64 o.p.typ, AVal.int IntKind.i64 o.p.k, AVal.str o.p.lb, AVal.str o.p.data,
              AVal.str o.p.sum, AVal.bool o.last, AVal.bool o.again, AVal.int IntKind.i64 (1 : Int)]),
        ((1 : Nat), ABlk.cells (65 : Nat) [AVal.iface (55 : Nat) (AVal.ptr (0 : Nat) (0 : Nat) (0 : Nat) (0 : Nat))]),
        ((2 : Nat), ABlk.cells (33 : Nat) [AVal.int IntKind.u64 (0 : Int)]),
        ((3 : Nat), ABlk.cells (3 : Nat) [AVal.int IntKind.i64 (7 : Int)]),
        ((4 : Nat),
          ABlk.cells (70 : Nat)
            [AVal.nils, AVal.int IntKind.i64 o.sp, AVal.bool false, AVal.int IntKind.i64 (0 : Int),
              AVal.int IntKind.i64 (0 : Int), AVal.str []])]))) := by kernel_rfl

set_option maxRecDepth 100000 in
theorem w_o7_00 (o : OddS) (n : Int) (sm : Bool) (Q : AExit → Env → AHeap → Prop) : (wpC (TF.ctx Try.prog) 400 9 1 (seqL fillO) (o00 o n (o14 sm)).1 (o00 o n (o14 sm)).2 (canQ 1 ts13 Q)
) = (branch sm
  (Q AExit.normal
    [((4 : Nat), AVal.ptr (1 : Nat) (0 : Nat) (0 : Nat) (0 : Nat)),
      ((5 : Nat), AVal.ptr (2 : Nat) (0 : Nat) (0 : Nat) (0 : Nat)),
      ((6 : Nat), AVal.ptr (3 : Nat) (0 : Nat) (0 : Nat) (0 : Nat)),
      ((10 : Nat), AVal.ptr (4 : Nat) (0 : Nat) (0 : Nat) (0 : Nat)), ((11 : Nat), AVal.nils),
      ((12 : Nat),
        AVal.func (16 : Nat) []
          [AVal.ptr (1 : Nat) (0 : Nat) (0 : Nat) (0 : Nat), AVal.ptr (2 : Nat) (0 : Nat) (0 : Nat) (0 : Nat),
            AVal.ptr (3 : Nat) (0 : Nat) (0 : Nat) (0 : Nat)]),
      ((13 : Nat), AVal.int IntKind.u64 (9 : Int))]
    (AHeap.mk (5 : Nat)
      [((0 : Nat),
          ABlk.cells (57 : Nat)
            [AVal.bool o.p.st, AVal.bool o.p.en, AVal.int IntKind.i64 o.p.id, AVal.int IntKind.i64 o.p.total,
              AVal.int IntKind.i64 o.p.typ, AVal.int IntKind.i64 o.p.k, AVal.str o.p.lb, AVal.str o.p.data,
              AVal.str o.p.sum, AVal.bool o.last, AVal.bool o.again, AVal.int IntKind.i64 n]),
        ((1 : Nat), ABlk.cells (65 : Nat) [AVal.iface (55 : Nat) (AVal.ptr (0 : Nat) (0 : Nat) (0 : Nat) (0 : Nat))]),
        ((2 : Nat), ABlk.cells (33 : Nat) [AVal.int IntKind.u64 (0 : Int)]),
        ((3 : Nat), ABlk.cells (3 : Nat) [AVal.int IntKind.i64 (7 : Int)]),
        ((4 : Nat),
          ABlk.cells (70 : Nat)
            [AVal.nils, AVal.int IntKind.i64 o.sp, AVal.bool false, AVal.int IntKind.i64 (0 : Int),
              AVal.int IntKind.i64 (0 : Int), AVal.str []])]))
  (Q (AExit.exit (0 : Nat))
    [((4 : Nat), AVal.ptr (1 : Nat) (0 : Nat) (0 : Nat) (0 : Nat)),
      ((5 : Nat), AVal.ptr (2 : Nat) (0 : Nat) (0 : Nat) (0 : Nat)),
      ((6 : Nat), AVal.ptr (3 : Nat) (0 : Nat) (0 : Nat) (0 : Nat)),
      ((10 : Nat), AVal.ptr (4 : Nat) (0 : Nat) (0 : Nat) (0 : Nat)), ((11 : Nat), AVal.nils),
      ((12 : Nat),
        AVal.func (16 : Nat) []
          [AVal.ptr (1 : Nat) (0 : Nat) (0 : Nat) (0 : Nat), AVal.ptr (2 : Nat) (0 : Nat) (0 : Nat) (0 : Nat),
            AVal.ptr (3 : Nat) (0 : Nat) (0 : Nat) (0 : Nat)]),
      ((13 : Nat), AVal.int IntKind.u64 (9 : Int))]
    (AHeap.mk (5 : Nat)
      [((0 : Nat),
          ABlk.cells (57 : Nat)
            [AVal.bool o.p.st, AVal.bool o.p.en, AVal.int IntKind.i64 o.p.id, AVal.int IntKind.i64 o.p.total,
              AVal.int IntKind.i64 o.p.typ, AVal.int IntKind.i64 o.p.k, AVal.str o.p.lb, AVal.str o.p.data,
              AVal.str o.p.sum, AVal.bool o.last, AVal.bool o.again, AVal.int IntKind.i64 n]),
        ((1 : Nat), ABlk.cells (65 : Nat) [AVal.iface (55 : Nat) (AVal.ptr (0 : Nat) (0 : Nat) (0 : Nat) (0 : Nat))]),
        ((2 : Nat), ABlk.cells (33 : Nat) [AVal.int IntKind.u64 (0 : Int)]),
        ((3 : Nat), ABlk.cells (3 : Nat) [AVal.int IntKind.i64 (7 : Int)]),
        ((4 : Nat),
          ABlk.cells (70 : Nat)
            [AVal.nils, AVal.int IntKind.i64 o.sp, AVal.bool false, AVal.int IntKind.i64 (0 : Int),
              AVal.int IntKind.i64 (0 : Int), AVal.str []])]))) := by kernel_rfl

set_option maxRecDepth 100000 in
theorem w_o7_11 (o : OddS) (n k : Int) (beg : Bool) (L : List UInt8) (S : List Int) (sm : Bool) (Q : AExit → Env → AHeap → Prop) : (wpC (TF.ctx Try.prog) 400 9 1 (seqL fillO) (o11 o n k beg L S (o14 sm)).1 (o11 o n k beg L S (o14 sm)).2 (canQ 1 ts13 Q)
) = (branch sm
  (Q AExit.normal
    [((4 : Nat), AVal.ptr (1 : Nat) (0 : Nat) (0 : Nat) (0 : Nat)),
      ((5 : Nat), AVal.ptr (2 : Nat) (0 : Nat) (0 : Nat) (0 : Nat)),
      ((6 : Nat), AVal.ptr (3 : Nat) (0 : Nat) (0 : Nat) (0 : Nat)),
      ((10 : Nat), AVal.ptr (4 : Nat) (0 : Nat) (0 : Nat) (0 : Nat)),
      ((11 : Nat), AVal.sl (5 : Nat) (0 : Nat) (1 : Nat) (0 : Nat) S.length none),
      ((12 : Nat),
        AVal.func (16 : Nat) []
          [AVal.ptr (1 : Nat) (0 : Nat) (0 : Nat) (0 : Nat), AVal.ptr (2 : Nat) (0 : Nat) (0 : Nat) (0 : Nat),
            AVal.ptr (3 : Nat) (0 : Nat) (0 : Nat) (0 : Nat)]),
      ((13 : Nat), AVal.int IntKind.u64 (9 : Int))]
    (AHeap.mk (7 : Nat)
      [((0 : Nat),
          ABlk.cells (57 : Nat)
            [AVal.bool o.p.st, AVal.bool o.p.en, AVal.int IntKind.i64 o.p.id, AVal.int IntKind.i64 o.p.total,
              AVal.int IntKind.i64 o.p.typ, AVal.int IntKind.i64 o.p.k, AVal.str o.p.lb, AVal.str o.p.data,
              AVal.str o.p.sum, AVal.bool o.last, AVal.bool o.again, AVal.int IntKind.i64 n]),
        ((1 : Nat), ABlk.cells (65 : Nat) [AVal.iface (55 : Nat) (AVal.ptr (0 : Nat) (0 : Nat) (0 : Nat) (0 : Nat))]),
        ((2 : Nat), ABlk.cells (33 : Nat) [AVal.int IntKind.u64 (0 : Int)]),
        ((3 : Nat), ABlk.cells (3 : Nat) [AVal.int IntKind.i64 (7 : Int)]),
        ((4 : Nat),
          ABlk.cells (70 : Nat)
            [AVal.sl (6 : Nat) (0 : Nat) (1 : Nat) (0 : Nat) L.length none, AVal.int IntKind.i64 o.sp, AVal.bool beg,
              AVal.int IntKind.i64 k, AVal.int IntKind.i64 (0 : Int), AVal.str []]),
        ((5 : Nat), ABlk.row (33 : Nat) (intRow IntKind.u64) S RowMd.plain),
        ((6 : Nat), ABlk.row (5 : Nat) byteRow L RowMd.plain)]))
  (Q (AExit.exit (0 : Nat))
    [((4 : Nat), AVal.ptr (1 : Nat) (0 : Nat) (0 : Nat) (0 : Nat)),
      ((5 : Nat), AVal.ptr (2 : Nat) (0 : Nat) (0 : Nat) (0 : Nat)),
      ((6 : Nat), AVal.ptr (3 : Nat) (0 : Nat) (0 : Nat) (0 : Nat)),
      ((10 : Nat), AVal.ptr (4 : Nat) (0 : Nat) (0 : Nat) (0 : Nat)),
      ((11 : Nat), AVal.sl (5 : Nat) (0 : Nat) (1 : Nat) (0 : Nat) S.length none),
      ((12 : Nat),
        AVal.func (16 : Nat) []
          [AVal.ptr (1 : Nat) (0 : Nat) (0 : Nat) (0 : Nat), AVal.ptr (2 : Nat) (0 : Nat) (0 : Nat) (0 : Nat),
            AVal.ptr (3 : Nat) (0 : Nat) (0 : Nat) (0 : Nat)]),
      ((13 : Nat), AVal.int IntKind.u64 (9 : Int))]
    (AHeap.mk (7 : Nat)
      [((0 : Nat),
          ABlk.cells (57 : Nat)
            [AVal.bool o.p.st, AVal.bool o.p.en, AVal.int IntKind.i64 o.p.id, AVal.int IntKind.i64 o.p.total,
              AVal.int IntKind.i64 o.p.typ, AVal.int IntKind.i64 o.p.k, AVal.str o.p.lb, AVal.str o.p.data,
              AVal.str o.p.sum, AVal.bool o.last, AVal.bool o.again, AVal.int IntKind.i64 n]),
        ((1 : Nat), ABlk.cells (65 : Nat) [AVal.iface (55 : Nat) (AVal.ptr (0 : Nat) (0 : Nat) (0 : Nat) (0 : Nat))]),
        ((2 : Nat), ABlk.cells (33 : Nat) [AVal.int IntKind.u64 (0 : Int)]),
        ((3 : Nat), ABlk.cells (3 : Nat) [AVal.int IntKind.i64 (7 : Int)]),
        ((4 : Nat),
          ABlk.cells (70 : Nat)
            [AVal.sl (6 : Nat) (0 : Nat) (1 : Nat) (0 : Nat) L.length none, AVal.int IntKind.i64 o.sp, AVal.bool beg,
              AVal.int IntKind.i64 k, AVal.int IntKind.i64 (0 : Int), AVal.str []]),
        ((5 : Nat), ABlk.row (33 : Nat) (intRow IntKind.u64) S RowMd.plain),
        ((6 : Nat), ABlk.row (5 : Nat) byteRow L RowMd.plain)]))) := by kernel_rfl

set_option maxRecDepth 100000 in
theorem w_o8_11 (o : OddS) (n k : Int) (beg : Bool) (L : List UInt8) (S : List Int) (Q : AExit → Env → AHeap → Prop) : (wpC (TF.ctx Try.prog) 400 9 1 (seqR (seqR fillO)) (o11 o n k beg L S o13).1 (o11 o n k beg L S o13).2 (canQ 1 ts14 Q)
) = (obl (inI64 (n + (1 : Int)))
  (branch o.again
    (Q AExit.normal
      [((4 : Nat), AVal.ptr (1 : Nat) (0 : Nat) (0 : Nat) (0 : Nat)),
        ((5 : Nat), AVal.ptr (2 : Nat) (0 : Nat) (0 : Nat) (0 : Nat)),
        ((6 : Nat), AVal.ptr (3 : Nat) (0 : Nat) (0 : Nat) (0 : Nat)),
        ((10 : Nat), AVal.ptr (4 : Nat) (0 : Nat) (0 : Nat) (0 : Nat)),
        ((11 : Nat), AVal.sl (5 : Nat) (0 : Nat) (1 : Nat) (0 : Nat) S.length none),
        ((12 : Nat),
          AVal.func (16 : Nat) []
            [AVal.ptr (1 : Nat) (0 : Nat) (0 : Nat) (0 : Nat), AVal.ptr (2 : Nat) (0 : Nat) (0 : Nat) (0 : Nat),
              AVal.ptr (3 : Nat) (0 : Nat) (0 : Nat) (0 : Nat)]),
        ((13 : Nat), AVal.int IntKind.u64 (9 : Int)), ((14 : Nat), AVal.bool true)]
      (AHeap.mk (7 : Nat)
        [((0 : Nat),
            ABlk.cells (57 : Nat)
              [AVal.bool o.p.st, AVal.bool o.p.en, AVal.int IntKind.i64 o.p.id, AVal.int IntKind.i64 o.p.total,
                AVal.int IntKind.i64 o.p.typ, AVal.int IntKind.i64 o.p.k, AVal.str o.p.lb, AVal.str o.p.data,
                AVal.str o.p.sum, AVal.bool o.last, AVal.bool o.again, AVal.int IntKind.i64 (n + (1 : Int))]),
          ((1 : Nat), ABlk.cells (65 : Nat) [AVal.iface (55 : Nat) (AVal.ptr (0 : Nat) (0 : Nat) (0 : Nat) (0 : Nat))]),
          ((2 : Nat), ABlk.cells (33 : Nat) [AVal.int IntKind.u64 (0 : Int)]),
          ((3 : Nat), ABlk.cells (3 : Nat) [AVal.int IntKind.i64 (7 : Int)]),
          ((4 : Nat),
            ABlk.cells (70 : Nat)
              [AVal.sl (6 : Nat) (0 : Nat) (1 : Nat) (0 : Nat) L.length none, AVal.int IntKind.i64 o.sp, AVal.bool beg,
                AVal.int IntKind.i64 k, AVal.int IntKind.i64 (0 : Int), AVal.str []]),
          ((5 : Nat), ABlk.row (33 : Nat) (intRow IntKind.u64) S RowMd.plain),
          ((6 : Nat), ABlk.row (5 : Nat) byteRow L RowMd.plain)]))
    (Q AExit.normal
      [((4 : Nat), AVal.ptr (1 : Nat) (0 : Nat) (0 : Nat) (0 : Nat)),
        ((5 : Nat), AVal.ptr (2 : Nat) (0 : Nat) (0 : Nat) (0 : Nat)),
        ((6 : Nat), AVal.ptr (3 : Nat) (0 : Nat) (0 : Nat) (0 : Nat)),
        ((10 : Nat), AVal.ptr (4 : Nat) (0 : Nat) (0 : Nat) (0 : Nat)),
        ((11 : Nat), AVal.sl (5 : Nat) (0 : Nat) (1 : Nat) (0 : Nat) S.length none),
        ((12 : Nat),
          AVal.func (16 : Nat) []
            [AVal.ptr (1 : Nat) (0 : Nat) (0 : Nat) (0 : Nat), AVal.ptr (2 : Nat) (0 : Nat) (0 : Nat) (0 : Nat),
              AVal.ptr (3 : Nat) (0 : Nat) (0 : Nat) (0 : Nat)]),
        ((13 : Nat), AVal.int IntKind.u64 (9 : Int)), ((14 : Nat), AVal.bool (decide (n + (1 : Int) = (1 : Int))))]
      (AHeap.mk (7 : Nat)
        [((0 : Nat),
            ABlk.cells (57 : Nat)
              [AVal.bool o.p.st, AVal.bool o.p.en, AVal.int IntKind.i64 o.p.id, AVal.int IntKind.i64 o.p.total,
                AVal.int IntKind.i64 o.p.typ, AVal.int IntKind.i64 o.p.k, AVal.str o.p.lb, AVal.str o.p.data,
                AVal.str o.p.sum, AVal.bool o.last, AVal.bool o.again, AVal.int IntKind.i64 (n + (1 : Int))]),
          ((1 : Nat), ABlk.cells (65 : Nat) [AVal.iface (55 : Nat) (AVal.ptr (0 : Nat) (0 : Nat) (0 : Nat) (0 : Nat))]),
          ((2 : Nat), ABlk.cells (33 : Nat) [AVal.int IntKind.u64 (0 : Int)]),
          ((3 : Nat), ABlk.cells (3 : Nat) [AVal.int IntKind.i64 (7 : Int)]),
          ((4 : Nat),
            ABlk.cells (70 : Nat)
              [AVal.sl (6 : Nat) (0 : Nat) (1 : Nat) (0 : Nat) L.length none, AVal.int IntKind.i64 o.sp, AVal.bool beg,
                AVal.int IntKind.i64 k, AVal.int IntKind.i64 (0 : Int), AVal.str []]),
          ((5 : Nat), ABlk.row (33 : Nat) (intRow IntKind.u64) S RowMd.plain),
          ((6 : Nat), ABlk.row (5 : Nat) byteRow L RowMd.plain)])))) := by kernel_rfl

set_option maxRecDepth 100000 in
theorem w_o9_00 (o : OddS) (n : Int) (K : Out → AHeap → Prop) : (wpC (TF.ctx Try.prog) 400 9 1 (seqR (tailN 5 fillI)) (o00 o n o13).1 (o00 o n o13).2 (canQ 1 ts89 (endA (TF.ctx Try.prog).P Try.f9 K))
) = (K (Out.ret (AVal.tup [AVal.str [], AVal.nils]))
  (AHeap.mk (1 : Nat)
    [((0 : Nat),
        ABlk.cells (57 : Nat)
          [AVal.bool o.p.st, AVal.bool o.p.en, AVal.int IntKind.i64 o.p.id, AVal.int IntKind.i64 o.p.total,
            AVal.int IntKind.i64 o.p.typ, AVal.int IntKind.i64 o.p.k, AVal.str o.p.lb, AVal.str o.p.data,
            AVal.str o.p.sum, AVal.bool o.last, AVal.bool o.again, AVal.int IntKind.i64 n])])) := by kernel_rfl

set_option maxRecDepth 100000 in
theorem w_o9_10 (o : OddS) (n k : Int) (beg : Bool) (L : List UInt8) (K : Out → AHeap → Prop) : (wpC (TF.ctx Try.prog) 400 9 1 (seqR (tailN 5 fillI)) (o10 o n k beg L o13).1 (o10 o n k beg L o13).2 (canQ 1 ts89 (endA (TF.ctx Try.prog).P Try.f9 K))
) = (obl (decide ((0 : Nat) + L.length ≤ L.length))
  (K (Out.ret (AVal.tup [AVal.str (List.take L.length (List.drop (0 : Nat) L)), AVal.nils]))
    (AHeap.mk (1 : Nat)
      [((0 : Nat),
          ABlk.cells (57 : Nat)
            [AVal.bool o.p.st, AVal.bool o.p.en, AVal.int IntKind.i64 o.p.id, AVal.int IntKind.i64 o.p.total,
              AVal.int IntKind.i64 o.p.typ, AVal.int IntKind.i64 o.p.k, AVal.str o.p.lb, AVal.str o.p.data,
              AVal.str o.p.sum, AVal.bool o.last, AVal.bool o.again, AVal.int IntKind.i64 n])]))) := by kernel_rfl

set_option maxRecDepth 100000 in
theorem w_o9_11 (o : OddS) (n k : Int) (beg : Bool) (L : List UInt8) (S : List Int) (K : Out → AHeap → Prop) : (wpC (TF.ctx Try.prog) 400 9 1 (seqR (tailN 5 fillI)) (o11 o n k beg L S o13).1 (o11 o n k beg L S o13).2 (canQ 1 ts89 (endA (TF.ctx Try.prog).P Try.f9 K))
) = (obl (decide ((0 : Nat) + L.length ≤ L.length))
  (K
    (Out.ret
      (AVal.tup
        [AVal.str (List.take L.length (List.drop (0 : Nat) L)),
          AVal.sl (1 : Nat) (0 : Nat) (1 : Nat) (0 : Nat) S.length none]))
    (AHeap.mk (2 : Nat)
      [((0 : Nat),
          ABlk.cells (57 : Nat)
            [AVal.bool o.p.st, AVal.bool o.p.en, AVal.int IntKind.i64 o.p.id, AVal.int IntKind.i64 o.p.total,
              AVal.int IntKind.i64 o.p.typ, AVal.int IntKind.i64 o.p.k, AVal.str o.p.lb, AVal.str o.p.data,
              AVal.str o.p.sum, AVal.bool o.last, AVal.bool o.again, AVal.int IntKind.i64 n]),
        ((1 : Nat), ABlk.row (33 : Nat) (intRow IntKind.u64) S RowMd.plain)]))) := by kernel_rfl

end Go.Proofs.Ytjacnjecggedhaa
