/-
  Walks, printed: what calls come to, as they are reckoned.
-/
import Derived.Test.YtofnedbclnlnmaaPduKLc
namespace Go.Proofs.Ytofnedbclnlnmaa
set_option linter.unusedVariables false
set_option linter.unusedSimpArgs false
open Go.RowKit Ev

set_option maxRecDepth 100000 in
theorem w_keeps (typ kind l0 l1 l2 l3 l4 l5 other at_ bits : Int) (data : List UInt8) (K : Out → Prop) : (callC ((TP4.addLc 6 0 (lcK (List.take (min (data.length : Int) (5000 : Int)).toNat data))).ctx Try.prog) 100 6 [.agg [.int .u16 typ, .int .u8 kind, .int .u8 l0, .int .u8 l1, .int .u8 l2, .int .u8 l3, .int .u8 l4, .int .u8 l5, .str data], .int .u16 other, .agg [.int .u16 at_, .int .u32 bits]] ⟨0, []⟩ (fun o _ => K o)
) = (obl
  (decide
    ((0 : Int) ≤ min (↑data.length : Int) (5000 : Int) ∧ min (↑data.length : Int) (5000 : Int) ≤ (↑data.length : Int)))
  (obl (decide ((0 : Int) ≤ kind))
    (obl (inI64 typ)
      (obl
        (decide ((List.take (min (↑data.length : Int) (5000 : Int)).toNat data).length ≤ (9223372036854775000 : Nat)))
        (branch
          (!decide
              (pErr typ (labK kind) (labB kind (List.map (fun n => UInt8.ofNat n.toNat) [l0, l1, l2, l3, l4, l5]))
                  (↑(List.take (min (↑data.length : Int) (5000 : Int)).toNat data).length : Int) =
                (0 : Int)))
          (K (Out.ret (AVal.bool false)))
          (branch
            (!decide
                ((↑(pSum typ (labK kind) (labB kind (List.map (fun n => UInt8.ofNat n.toNat) [l0, l1, l2, l3, l4, l5]))
                          (List.take (min (↑data.length : Int) (5000 : Int)).toNat data)).length :
                    Int) =
                  (4 : Int)))
            (K (Out.ret (AVal.bool false)))
            (obl (inI64 typ)
              (obl
                (decide
                  ((List.take (min (↑data.length : Int) (5000 : Int)).toNat data).length ≤ (9223372036854775000 : Nat)))
                (branch
                  (!decide
                      (pRight
                          (pTotal (labK kind)
                            (labB kind (List.map (fun n => UInt8.ofNat n.toNat) [l0, l1, l2, l3, l4, l5]))
                            (↑(List.take (min (↑data.length : Int) (5000 : Int)).toNat data).length : Int))
                          typ (labK kind) (labB kind (List.map (fun n => UInt8.ofNat n.toNat) [l0, l1, l2, l3, l4, l5]))
                          (List.take (min (↑data.length : Int) (5000 : Int)).toNat data)
                          (pSum typ (labK kind)
                            (labB kind (List.map (fun n => UInt8.ofNat n.toNat) [l0, l1, l2, l3, l4, l5]))
                            (List.take (min (↑data.length : Int) (5000 : Int)).toNat data)) =
                        (0 : Int)))
                  (K (Out.ret (AVal.bool false)))
                  (obl (inI64 other)
                    (branch
                      (!decide
                          (other =
                            pTotal (labK kind)
                              (labB kind (List.map (fun n => UInt8.ofNat n.toNat) [l0, l1, l2, l3, l4, l5]))
                              (↑(List.take (min (↑data.length : Int) (5000 : Int)).toNat data).length : Int)))
                      (obl (inI64 other)
                        (obl (inI64 typ)
                          (obl
                            (decide
                              ((List.take (min (↑data.length : Int) (5000 : Int)).toNat data).length ≤
                                (9223372036854775000 : Nat)))
                            (branch
                              (!decide
                                  (pRight other typ (labK kind)
                                      (labB kind (List.map (fun n => UInt8.ofNat n.toNat) [l0, l1, l2, l3, l4, l5]))
                                      (List.take (min (↑data.length : Int) (5000 : Int)).toNat data)
                                      (pSum typ (labK kind)
                                        (labB kind (List.map (fun n => UInt8.ofNat n.toNat) [l0, l1, l2, l3, l4, l5]))
                                        (List.take (min (↑data.length : Int) (5000 : Int)).toNat data)) =
                                    (4 : Int)))
                              (K (Out.ret (AVal.bool false)))
                              (branch
                                (decide
                                  ((↑(List.take (min (↑data.length : Int) (5000 : Int)).toNat data).length : Int) =
                                    (0 : Int)))
                                (K (Out.ret (AVal.bool true)))
                                (obl
                                  (decide
                                    ((List.take (min (↑data.length : Int) (5000 : Int)).toNat data).length ≤
                                      (140737488355328 : Nat)))
                                  (obl (inI64 at_)
                                    (obl
                                      (inI64
                                        ((8 : Int) *
                                          (↑(List.take (min (↑data.length : Int) (5000 : Int)).toNat data).length :
                                            Int)))
                                      (obl
                                        (decide
                                          ((0 : Int) ≤ at_ ∧
                                            (0 : Int) <
                                              (8 : Int) *
                                                (↑(List.take (min (↑data.length : Int) (5000 : Int)).toNat
                                                        data).length :
                                                  Int)))
                                        ((AHeap.mk (4 : Nat)
                                                  [((3 : Nat),
                                                      ABlk.row (5 : Nat) byteRow
                                                        (List.take (min (↑data.length : Int) (5000 : Int)).toNat data)
                                                        RowMd.strish),
                                                    ((2 : Nat),
                                                      ABlk.cells (23 : Nat)
                                                        [AVal.int IntKind.i64 (labK kind),
                                                          AVal.str
                                                            (labB kind
                                                              (List.map (fun n => UInt8.ofNat n.toNat)
                                                                [l0, l1, l2, l3, l4, l5]))]),
                                                    ((2 : Nat),
                                                      ABlk.cells (23 : Nat)
                                                        [AVal.int IntKind.i64 (0 : Int), AVal.str []]),
                                                    ((1 : Nat),
                                                      ABlk.cells (45 : Nat)
                                                        (cellsOfA
                                                          (AVal.agg
                                                            [AVal.int IntKind.u16 at_, AVal.int IntKind.u32 bits]))),
                                                    ((0 : Nat),
                                                      ABlk.cells (37 : Nat)
                                                        (cellsOfA
                                                          (AVal.agg
                                                            [AVal.int IntKind.u16 typ, AVal.int IntKind.u8 kind,
                                                              AVal.int IntKind.u8 l0, AVal.int IntKind.u8 l1,
                                                              AVal.int IntKind.u8 l2, AVal.int IntKind.u8 l3,
                                                              AVal.int IntKind.u8 l4, AVal.int IntKind.u8 l5,
                                                              AVal.str data])))]).get
                                              (3 : Nat) =
                                            some
                                              (ABlk.row (5 : Nat) byteRow
                                                (List.take (min (↑data.length : Int) (5000 : Int)).toNat data)
                                                RowMd.strish) ∧
                                          true = true ∧
                                            obl
                                              (preK (List.take (min (↑data.length : Int) (5000 : Int)).toNat data)
                                                (SK.mk
                                                  (pSum typ (labK kind)
                                                    (labB kind
                                                      (List.map (fun n => UInt8.ofNat n.toNat)
                                                        [l0, l1, l2, l3, l4, l5]))
                                                    (List.take (min (↑data.length : Int) (5000 : Int)).toNat data))
                                                  (pTotal (labK kind)
                                                    (labB kind
                                                      (List.map (fun n => UInt8.ofNat n.toNat)
                                                        [l0, l1, l2, l3, l4, l5]))
                                                    (↑(List.take (min (↑data.length : Int) (5000 : Int)).toNat
                                                            data).length :
                                                      Int))
                                                  (List.take (min (↑data.length : Int) (5000 : Int)).toNat data).length
                                                  (at_ %
                                                    ((8 : Int) *
                                                      (↑(List.take (min (↑data.length : Int) (5000 : Int)).toNat
                                                              data).length :
                                                        Int)))
                                                  false (0 : Int)
                                                  (List.take (min (↑data.length : Int) (5000 : Int)).toNat data)
                                                  (labK kind)
                                                  (labB kind
                                                    (List.map (fun n => UInt8.ofNat n.toNat) [l0, l1, l2, l3, l4, l5]))
                                                  at_ bits typ kind l0 l1 l2 l3 l4 l5 data))
                                              (∀ (d' : List UInt8) (t' : Bool) (i' : Int),
                                                d'.length =
                                                    (List.take (min (↑data.length : Int) (5000 : Int)).toNat
                                                        data).length →
                                                  (∀ (pre : List UInt8),
                                                      Crc.sum (pre ++ d') =
                                                          Crc.sum
                                                            (pre ++
                                                              List.take (min (↑data.length : Int) (5000 : Int)).toNat
                                                                data) ↔
                                                        t' = false) →
                                                    obl (inI64 typ)
                                                      (obl
                                                        (decide
                                                          ((0 : Nat) +
                                                              (List.take (min (↑data.length : Int) (5000 : Int)).toNat
                                                                  data).length ≤
                                                            d'.length))
                                                        (obl
                                                          (decide
                                                            ((List.take
                                                                  (List.take
                                                                      (min (↑data.length : Int) (5000 : Int)).toNat
                                                                      data).length
                                                                  (List.drop (0 : Nat) d')).length ≤
                                                              (9223372036854775000 : Nat)))
                                                          (K
                                                            (Out.ret
                                                              (AVal.bool
                                                                (decide
                                                                    (pRight
                                                                        (pTotal (labK kind)
                                                                          (labB kind
                                                                            (List.map (fun n => UInt8.ofNat n.toNat)
                                                                              [l0, l1, l2, l3, l4, l5]))
                                                                          (↑(List.take
                                                                                  (min (↑data.length : Int)
                                                                                      (5000 : Int)).toNat
                                                                                  data).length :
                                                                            Int))
                                                                        typ (labK kind)
                                                                        (labB kind
                                                                          (List.map (fun n => UInt8.ofNat n.toNat)
                                                                            [l0, l1, l2, l3, l4, l5]))
                                                                        (List.take
                                                                          (List.take
                                                                              (min (↑data.length : Int)
                                                                                  (5000 : Int)).toNat
                                                                              data).length
                                                                          (List.drop (0 : Nat) d'))
                                                                        (pSum typ (labK kind)
                                                                          (labB kind
                                                                            (List.map (fun n => UInt8.ofNat n.toNat)
                                                                              [l0, l1, l2, l3, l4, l5]))
                                                                          (List.take
                                                                            (min (↑data.length : Int)
                                                                                (5000 : Int)).toNat
                                                                            data)) =
                                                                      (0 : Int)) ==
                                                                  !t')))))))))))))))))
                      (branch
                        (decide
                          ((↑(List.take (min (↑data.length : Int) (5000 : Int)).toNat data).length : Int) = (0 : Int)))
                        (K (Out.ret (AVal.bool true)))
                        (obl
                          (decide
                            ((List.take (min (↑data.length : Int) (5000 : Int)).toNat data).length ≤
                              (140737488355328 : Nat)))
                          (obl (inI64 at_)
                            (obl
                              (inI64
                                ((8 : Int) *
                                  (↑(List.take (min (↑data.length : Int) (5000 : Int)).toNat data).length : Int)))
                              (obl
                                (decide
                                  ((0 : Int) ≤ at_ ∧
                                    (0 : Int) <
                                      (8 : Int) *
                                        (↑(List.take (min (↑data.length : Int) (5000 : Int)).toNat data).length : Int)))
                                ((AHeap.mk (4 : Nat)
                                          [((3 : Nat),
                                              ABlk.row (5 : Nat) byteRow
                                                (List.take (min (↑data.length : Int) (5000 : Int)).toNat data)
                                                RowMd.strish),
                                            ((2 : Nat),
                                              ABlk.cells (23 : Nat)
                                                [AVal.int IntKind.i64 (labK kind),
                                                  AVal.str
                                                    (labB kind
                                                      (List.map (fun n => UInt8.ofNat n.toNat)
                                                        [l0, l1, l2, l3, l4, l5]))]),
                                            ((2 : Nat),
                                              ABlk.cells (23 : Nat) [AVal.int IntKind.i64 (0 : Int), AVal.str []]),
                                            ((1 : Nat),
                                              ABlk.cells (45 : Nat)
                                                (cellsOfA
                                                  (AVal.agg [AVal.int IntKind.u16 at_, AVal.int IntKind.u32 bits]))),
                                            ((0 : Nat),
                                              ABlk.cells (37 : Nat)
                                                (cellsOfA
                                                  (AVal.agg
                                                    [AVal.int IntKind.u16 typ, AVal.int IntKind.u8 kind,
                                                      AVal.int IntKind.u8 l0, AVal.int IntKind.u8 l1,
                                                      AVal.int IntKind.u8 l2, AVal.int IntKind.u8 l3,
                                                      AVal.int IntKind.u8 l4, AVal.int IntKind.u8 l5,
                                                      AVal.str data])))]).get
                                      (3 : Nat) =
                                    some
                                      (ABlk.row (5 : Nat) byteRow
                                        (List.take (min (↑data.length : Int) (5000 : Int)).toNat data) RowMd.strish) ∧
                                  true = true ∧
                                    obl
                                      (preK (List.take (min (↑data.length : Int) (5000 : Int)).toNat data)
                                        (SK.mk
                                          (pSum typ (labK kind)
                                            (labB kind
                                              (List.map (fun n => UInt8.ofNat n.toNat) [l0, l1, l2, l3, l4, l5]))
                                            (List.take (min (↑data.length : Int) (5000 : Int)).toNat data))
                                          (pTotal (labK kind)
                                            (labB kind
                                              (List.map (fun n => UInt8.ofNat n.toNat) [l0, l1, l2, l3, l4, l5]))
                                            (↑(List.take (min (↑data.length : Int) (5000 : Int)).toNat data).length :
                                              Int))
                                          (List.take (min (↑data.length : Int) (5000 : Int)).toNat data).length
                                          (at_ %
                                            ((8 : Int) *
                                              (↑(List.take (min (↑data.length : Int) (5000 : Int)).toNat data).length :
                                                Int)))
                                          false (0 : Int) (List.take (min (↑data.length : Int) (5000 : Int)).toNat data)
                                          (labK kind)
                                          (labB kind (List.map (fun n => UInt8.ofNat n.toNat) [l0, l1, l2, l3, l4, l5]))
                                          at_ bits typ kind l0 l1 l2 l3 l4 l5 data))
                                      (∀ (d' : List UInt8) (t' : Bool) (i' : Int),
                                        d'.length =
                                            (List.take (min (↑data.length : Int) (5000 : Int)).toNat data).length →
                                          (∀ (pre : List UInt8),
                                              Crc.sum (pre ++ d') =
                                                  Crc.sum
                                                    (pre ++
                                                      List.take (min (↑data.length : Int) (5000 : Int)).toNat data) ↔
                                                t' = false) →
                                            obl (inI64 typ)
                                              (obl
                                                (decide
                                                  ((0 : Nat) +
                                                      (List.take (min (↑data.length : Int) (5000 : Int)).toNat
                                                          data).length ≤
                                                    d'.length))
                                                (obl
                                                  (decide
                                                    ((List.take
                                                          (List.take (min (↑data.length : Int) (5000 : Int)).toNat
                                                              data).length
                                                          (List.drop (0 : Nat) d')).length ≤
                                                      (9223372036854775000 : Nat)))
                                                  (K
                                                    (Out.ret
                                                      (AVal.bool
                                                        (decide
                                                            (pRight
                                                                (pTotal (labK kind)
                                                                  (labB kind
                                                                    (List.map (fun n => UInt8.ofNat n.toNat)
                                                                      [l0, l1, l2, l3, l4, l5]))
                                                                  (↑(List.take
                                                                          (min (↑data.length : Int) (5000 : Int)).toNat
                                                                          data).length :
                                                                    Int))
                                                                typ (labK kind)
                                                                (labB kind
                                                                  (List.map (fun n => UInt8.ofNat n.toNat)
                                                                    [l0, l1, l2, l3, l4, l5]))
                                                                (List.take
                                                                  (List.take
                                                                      (min (↑data.length : Int) (5000 : Int)).toNat
                                                                      data).length
                                                                  (List.drop (0 : Nat) d'))
                                                                (pSum typ (labK kind)
                                                                  (labB kind
                                                                    (List.map (fun n => UInt8.ofNat n.toNat)
                                                                      [l0, l1, l2, l3, l4, l5]))
                                                                  (List.take
                                                                    (min (↑data.length : Int) (5000 : Int)).toNat
                                                                    data)) =
                                                              (0 : Int)) ==
                                                          !t')))))))))))))))))))))))) := by kernel_rfl

end Go.Proofs.Ytofnedbclnlnmaa
