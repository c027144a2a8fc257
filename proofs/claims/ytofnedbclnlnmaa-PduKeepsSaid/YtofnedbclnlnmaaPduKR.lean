/-
  Walks, printed: what calls come to, as they are reckoned.
-/
import Derived.Test.YtofnedbclnlnmaaPduOk4
namespace Go.Proofs.Ytofnedbclnlnmaa
set_option linter.unusedVariables false
set_option linter.unusedSimpArgs false
open Go.RowKit Ev

set_option maxRecDepth 100000 in
theorem w_kround (s : List UInt8) (n : Int) (L : Nat) (first : Int) (turned : Bool) (i : Int) (d : List UInt8) (k : Int) (lb : List UInt8) (at_ : Int) (bits : Int) (typ : Int) (kind : Int) (l0 : Int) (l1 : Int) (l2 : Int) (l3 : Int) (l4 : Int) (l5 : Int) (data : List UInt8) (base : Nat) (Q : AExit → Env → AHeap → Prop) : (wpC (TP4.ctx Try.prog) 100 6 base (loopOf Try.f6 0) [(3, .ptr 0 0 0 0), (5, .ptr 1 0 0 0), (8, .ptr 2 0 0 0), (9, .str s), (11, .int .i64 n), (12, .sl 3 0 1 0 L none), (13, .int .i64 first), (14, .bool turned), (15, .int .i64 i)] ⟨4, [(3, .row 5 byteRow d .strish), (2, .cells 23 [.int .i64 k, .str lb]), (1, .cells 45 [.int .u16 at_, .int .u32 bits]), (0, .cells 37 [.int .u16 typ, .int .u8 kind, .int .u8 l0, .int .u8 l1, .int .u8 l2, .int .u8 l3, .int .u8 l4, .int .u8 l5, .str data])]⟩ (fun x E H => Q x (restr [3, 5, 8, 9, 11, 12, 13, 14, 15] E) (restrH [3, 2, 1, 0] 4 H))
) = (branch (decide (i < (32 : Int)))
  (obl (inI64 (first + i))
    (obl (inI64 ((8 : Int) * (↑L : Int)))
      (branch (decide (first + i < (8 : Int) * (↑L : Int)))
        (obl (decide ((0 : Int) ≤ i))
          (branch (decide (bitsA BinOp.and IntKind.u32 (bits / pow2 IntKind.u32 i) (1 : Int) = (1 : Int)))
            (obl (inI64 (first + i))
              (obl (decide ((0 : Int) ≤ first + i ∧ (0 : Int) < (8 : Int)) && inI64 ((first + i) / (8 : Int)))
                (obl (decide ((0 : Int) ≤ (first + i) / (8 : Int) ∧ (first + i) / (8 : Int) < (↑L : Int)))
                  (obl (decide ((0 : Nat) + ((first + i) / (8 : Int)).toNat < d.length))
                    (obl (inI64 (first + i))
                      (obl (decide ((0 : Int) ≤ first + i ∧ (0 : Int) < (8 : Int)))
                        (obl (decide ((0 : Int) ≤ (first + i) % (8 : Int)))
                          (obl (decide ((0 : Int) ≤ (first + i) / (8 : Int) ∧ (first + i) / (8 : Int) < (↑L : Int)))
                            (obl
                              (decide ((0 : Nat) + ((first + i) / (8 : Int)).toNat < d.length) &&
                                decide
                                  ((0 : Int) ≤
                                      bitsA BinOp.xor IntKind.u8
                                        (↑(UInt8.toNat
                                              (d.getD ((0 : Nat) + ((first + i) / (8 : Int)).toNat) (0 : UInt8))) :
                                          Int)
                                        ((128 : Int) / pow2 IntKind.u8 ((first + i) % (8 : Int))) ∧
                                    bitsA BinOp.xor IntKind.u8
                                        (↑(UInt8.toNat
                                              (d.getD ((0 : Nat) + ((first + i) / (8 : Int)).toNat) (0 : UInt8))) :
                                          Int)
                                        ((128 : Int) / pow2 IntKind.u8 ((first + i) % (8 : Int))) <
                                      (256 : Int)))
                              (obl (inI64 (i + (1 : Int)))
                                (Q AExit.normal
                                  [((3 : Nat), AVal.ptr (0 : Nat) (0 : Nat) (0 : Nat) (0 : Nat)),
                                    ((5 : Nat), AVal.ptr (1 : Nat) (0 : Nat) (0 : Nat) (0 : Nat)),
                                    ((8 : Nat), AVal.ptr (2 : Nat) (0 : Nat) (0 : Nat) (0 : Nat)),
                                    ((9 : Nat), AVal.str s), ((11 : Nat), AVal.int IntKind.i64 n),
                                    ((12 : Nat), AVal.sl (3 : Nat) (0 : Nat) (1 : Nat) (0 : Nat) L none),
                                    ((13 : Nat), AVal.int IntKind.i64 first), ((14 : Nat), AVal.bool true),
                                    ((15 : Nat), AVal.int IntKind.i64 (i + (1 : Int)))]
                                  (AHeap.mk (4 : Nat)
                                    [((3 : Nat),
                                        ABlk.row (5 : Nat) byteRow
                                          (d.set ((0 : Nat) + ((first + i) / (8 : Int)).toNat)
                                            (UInt8.ofNat
                                              (bitsA BinOp.xor IntKind.u8
                                                  (↑(UInt8.toNat
                                                        (d.getD ((0 : Nat) + ((first + i) / (8 : Int)).toNat)
                                                          (0 : UInt8))) :
                                                    Int)
                                                  ((128 : Int) / pow2 IntKind.u8 ((first + i) % (8 : Int)))).toNat))
                                          RowMd.strish),
                                      ((2 : Nat), ABlk.cells (23 : Nat) [AVal.int IntKind.i64 k, AVal.str lb]),
                                      ((1 : Nat),
                                        ABlk.cells (45 : Nat) [AVal.int IntKind.u16 at_, AVal.int IntKind.u32 bits]),
                                      ((0 : Nat),
                                        ABlk.cells (37 : Nat)
                                          [AVal.int IntKind.u16 typ, AVal.int IntKind.u8 kind, AVal.int IntKind.u8 l0,
                                            AVal.int IntKind.u8 l1, AVal.int IntKind.u8 l2, AVal.int IntKind.u8 l3,
                                            AVal.int IntKind.u8 l4, AVal.int IntKind.u8 l5, AVal.str data])]))))))))))))
            (obl (inI64 (i + (1 : Int)))
              (Q AExit.normal
                [((3 : Nat), AVal.ptr (0 : Nat) (0 : Nat) (0 : Nat) (0 : Nat)),
                  ((5 : Nat), AVal.ptr (1 : Nat) (0 : Nat) (0 : Nat) (0 : Nat)),
                  ((8 : Nat), AVal.ptr (2 : Nat) (0 : Nat) (0 : Nat) (0 : Nat)), ((9 : Nat), AVal.str s),
                  ((11 : Nat), AVal.int IntKind.i64 n),
                  ((12 : Nat), AVal.sl (3 : Nat) (0 : Nat) (1 : Nat) (0 : Nat) L none),
                  ((13 : Nat), AVal.int IntKind.i64 first), ((14 : Nat), AVal.bool turned),
                  ((15 : Nat), AVal.int IntKind.i64 (i + (1 : Int)))]
                (AHeap.mk (4 : Nat)
                  [((3 : Nat), ABlk.row (5 : Nat) byteRow d RowMd.strish),
                    ((2 : Nat), ABlk.cells (23 : Nat) [AVal.int IntKind.i64 k, AVal.str lb]),
                    ((1 : Nat), ABlk.cells (45 : Nat) [AVal.int IntKind.u16 at_, AVal.int IntKind.u32 bits]),
                    ((0 : Nat),
                      ABlk.cells (37 : Nat)
                        [AVal.int IntKind.u16 typ, AVal.int IntKind.u8 kind, AVal.int IntKind.u8 l0,
                          AVal.int IntKind.u8 l1, AVal.int IntKind.u8 l2, AVal.int IntKind.u8 l3,
                          AVal.int IntKind.u8 l4, AVal.int IntKind.u8 l5, AVal.str data])])))))
        (Q (AExit.exit (0 : Nat))
          [((3 : Nat), AVal.ptr (0 : Nat) (0 : Nat) (0 : Nat) (0 : Nat)),
            ((5 : Nat), AVal.ptr (1 : Nat) (0 : Nat) (0 : Nat) (0 : Nat)),
            ((8 : Nat), AVal.ptr (2 : Nat) (0 : Nat) (0 : Nat) (0 : Nat)), ((9 : Nat), AVal.str s),
            ((11 : Nat), AVal.int IntKind.i64 n), ((12 : Nat), AVal.sl (3 : Nat) (0 : Nat) (1 : Nat) (0 : Nat) L none),
            ((13 : Nat), AVal.int IntKind.i64 first), ((14 : Nat), AVal.bool turned),
            ((15 : Nat), AVal.int IntKind.i64 i)]
          (AHeap.mk (4 : Nat)
            [((3 : Nat), ABlk.row (5 : Nat) byteRow d RowMd.strish),
              ((2 : Nat), ABlk.cells (23 : Nat) [AVal.int IntKind.i64 k, AVal.str lb]),
              ((1 : Nat), ABlk.cells (45 : Nat) [AVal.int IntKind.u16 at_, AVal.int IntKind.u32 bits]),
              ((0 : Nat),
                ABlk.cells (37 : Nat)
                  [AVal.int IntKind.u16 typ, AVal.int IntKind.u8 kind, AVal.int IntKind.u8 l0, AVal.int IntKind.u8 l1,
                    AVal.int IntKind.u8 l2, AVal.int IntKind.u8 l3, AVal.int IntKind.u8 l4, AVal.int IntKind.u8 l5,
                    AVal.str data])])))))
  (Q (AExit.exit (0 : Nat))
    [((3 : Nat), AVal.ptr (0 : Nat) (0 : Nat) (0 : Nat) (0 : Nat)),
      ((5 : Nat), AVal.ptr (1 : Nat) (0 : Nat) (0 : Nat) (0 : Nat)),
      ((8 : Nat), AVal.ptr (2 : Nat) (0 : Nat) (0 : Nat) (0 : Nat)), ((9 : Nat), AVal.str s),
      ((11 : Nat), AVal.int IntKind.i64 n), ((12 : Nat), AVal.sl (3 : Nat) (0 : Nat) (1 : Nat) (0 : Nat) L none),
      ((13 : Nat), AVal.int IntKind.i64 first), ((14 : Nat), AVal.bool turned), ((15 : Nat), AVal.int IntKind.i64 i)]
    (AHeap.mk (4 : Nat)
      [((3 : Nat), ABlk.row (5 : Nat) byteRow d RowMd.strish),
        ((2 : Nat), ABlk.cells (23 : Nat) [AVal.int IntKind.i64 k, AVal.str lb]),
        ((1 : Nat), ABlk.cells (45 : Nat) [AVal.int IntKind.u16 at_, AVal.int IntKind.u32 bits]),
        ((0 : Nat),
          ABlk.cells (37 : Nat)
            [AVal.int IntKind.u16 typ, AVal.int IntKind.u8 kind, AVal.int IntKind.u8 l0, AVal.int IntKind.u8 l1,
              AVal.int IntKind.u8 l2, AVal.int IntKind.u8 l3, AVal.int IntKind.u8 l4, AVal.int IntKind.u8 l5,
              AVal.str data])]))) := by kernel_rfl

end Go.Proofs.Ytofnedbclnlnmaa
