/-
  Walks, printed: what calls come to, as they are reckoned.
-/
import Derived.Test.YtofnedbclnlnmaaPduOk4
namespace Go.Proofs.Ytofnedbclnlnmaa
set_option linter.unusedVariables false
set_option linter.unusedSimpArgs false
open Go.RowKit Ev

set_option maxRecDepth 100000 in
theorem w_tells (typ k n : Int) (b s : List UInt8) (K : Out → Prop) : (callC (TP4.ctx Try.prog) 100 3 [.int .i64 typ, .agg [.int .i64 k, .str b], .agg [.str s, .int .u32 n]] ⟨0, []⟩ (fun o _ => K o)
) = (obl (decide ((0 : Int) ≤ n))
  (obl (decide ((textOf s n).length ≤ (9223372036854775000 : Nat)))
    (obl (decide ((textOf s n).length ≤ (9223372036854775000 : Nat)))
      (branch (decide (pTotal k b (↑(textOf s n).length : Int) = pTotal k b (↑(textOf s n).length : Int)))
        (branch (decide (pTotal k b typ = pTotal k b typ))
          (branch (decide (pSum typ k b (textOf s n) = pSum typ k b (textOf s n)))
            (branch (decide (pErr typ k b (↑(textOf s n).length : Int) = pErr typ k b (↑(textOf s n).length : Int)))
              (K (Out.ret (AVal.bool true))) (K (Out.ret (AVal.bool false))))
            (K (Out.ret (AVal.bool false))))
          (K (Out.ret (AVal.bool false))))
        (K (Out.ret (AVal.bool false))))))) := by kernel_rfl

set_option maxRecDepth 100000 in
theorem w_lright (total typ k : Int) (b data sum : List UInt8) (K : Out → Prop) : (callC (TP4.ctx Try.prog) 100 5 [.agg [.int .i64 total, .int .i64 typ, .int .i64 k, .str b, .str data, .str sum]] ⟨0, []⟩ (fun o _ => K o)
) = (obl
  (decide
    ((0 : Int) ≤ min (↑data.length : Int) (70000 : Int) ∧
      min (↑data.length : Int) (70000 : Int) ≤ (↑data.length : Int)))
  (obl (decide ((List.take (min (↑data.length : Int) (70000 : Int)).toNat data).length ≤ (9223372036854775000 : Nat)))
    (obl (decide ((List.take (min (↑data.length : Int) (70000 : Int)).toNat data).length ≤ (9223372036854775000 : Nat)))
      (branch
        (decide
          (pRight total typ k b (List.take (min (↑data.length : Int) (70000 : Int)).toNat data) sum =
            pRight total typ k b (List.take (min (↑data.length : Int) (70000 : Int)).toNat data) sum))
        (K (Out.ret (AVal.bool true))) (K (Out.ret (AVal.bool false))))))) := by kernel_rfl

set_option maxRecDepth 100000 in
theorem w_sums (typ kind bits l0 l1 l2 l3 l4 l5 : Int) (data : List UInt8) (K : Out → Prop) : (callC (TP4.ctx Try.prog) 100 7 [.agg [.int .u16 typ, .int .u8 kind, .int .u8 l0, .int .u8 l1, .int .u8 l2, .int .u8 l3, .int .u8 l4, .int .u8 l5, .str data], .int .u32 bits] ⟨0, []⟩ (fun o _ => K o)
) = (obl
  (decide
    ((0 : Int) ≤ min (↑data.length : Int) (2000 : Int) ∧ min (↑data.length : Int) (2000 : Int) ≤ (↑data.length : Int)))
  (obl (decide ((0 : Int) ≤ kind))
    (obl (inI64 typ)
      (obl
        (decide ((List.take (min (↑data.length : Int) (2000 : Int)).toNat data).length ≤ (9223372036854775000 : Nat)))
        (branch
          (!decide
              (pErr typ (labK kind) (labB kind (List.map (fun n => UInt8.ofNat n.toNat) [l0, l1, l2, l3, l4, l5]))
                  (↑(List.take (min (↑data.length : Int) (2000 : Int)).toNat data).length : Int) =
                (0 : Int)))
          (K (Out.ret (AVal.bool false)))
          (branch
            (!decide
                ((↑(pSum typ (labK kind) (labB kind (List.map (fun n => UInt8.ofNat n.toNat) [l0, l1, l2, l3, l4, l5]))
                          (List.take (min (↑data.length : Int) (2000 : Int)).toNat data)).length :
                    Int) =
                  (4 : Int)))
            (K (Out.ret (AVal.bool false)))
            (obl
              (decide
                ((0 : Int) ≤ (0 : Int) ∧
                  (0 : Int) <
                    (↑(pSum typ (labK kind)
                            (labB kind (List.map (fun n => UInt8.ofNat n.toNat) [l0, l1, l2, l3, l4, l5]))
                            (List.take (min (↑data.length : Int) (2000 : Int)).toNat data)).length :
                      Int)))
              (obl
                (decide
                  ((0 : Int) ≤ (1 : Int) ∧
                    (1 : Int) <
                      (↑(pSum typ (labK kind)
                              (labB kind (List.map (fun n => UInt8.ofNat n.toNat) [l0, l1, l2, l3, l4, l5]))
                              (List.take (min (↑data.length : Int) (2000 : Int)).toNat data)).length :
                        Int)))
                (obl
                  (decide
                    ((0 : Int) ≤ (2 : Int) ∧
                      (2 : Int) <
                        (↑(pSum typ (labK kind)
                                (labB kind (List.map (fun n => UInt8.ofNat n.toNat) [l0, l1, l2, l3, l4, l5]))
                                (List.take (min (↑data.length : Int) (2000 : Int)).toNat data)).length :
                          Int)))
                  (obl
                    (decide
                      ((0 : Int) ≤ (3 : Int) ∧
                        (3 : Int) <
                          (↑(pSum typ (labK kind)
                                  (labB kind (List.map (fun n => UInt8.ofNat n.toNat) [l0, l1, l2, l3, l4, l5]))
                                  (List.take (min (↑data.length : Int) (2000 : Int)).toNat data)).length :
                            Int)))
                    (obl (inI64 typ)
                      (obl
                        (decide
                          ((List.take (min (↑data.length : Int) (2000 : Int)).toNat data).length ≤
                            (9223372036854775000 : Nat)))
                        (branch (decide (bits = (0 : Int)))
                          (branch
                            (decide
                              (pRight
                                  (pTotal (labK kind)
                                    (labB kind (List.map (fun n => UInt8.ofNat n.toNat) [l0, l1, l2, l3, l4, l5]))
                                    (↑(List.take (min (↑data.length : Int) (2000 : Int)).toNat data).length : Int))
                                  typ (labK kind)
                                  (labB kind (List.map (fun n => UInt8.ofNat n.toNat) [l0, l1, l2, l3, l4, l5]))
                                  (List.take (min (↑data.length : Int) (2000 : Int)).toNat data)
                                  (four
                                    (bitsA BinOp.xor IntKind.u32
                                      (bitsA BinOp.or IntKind.u32
                                        (bitsA BinOp.or IntKind.u32
                                          (bitsA BinOp.or IntKind.u32
                                            ((↑((pSum typ (labK kind)
                                                              (labB kind
                                                                (List.map (fun n => UInt8.ofNat n.toNat)
                                                                  [l0, l1, l2, l3, l4, l5]))
                                                              (List.take (min (↑data.length : Int) (2000 : Int)).toNat
                                                                data)).getD
                                                          (0 : Nat) (0 : UInt8)).toNat :
                                                    Int) %
                                                  (4294967296 : Int) *
                                                (16777216 : Int) %
                                              (4294967296 : Int))
                                            ((↑((pSum typ (labK kind)
                                                              (labB kind
                                                                (List.map (fun n => UInt8.ofNat n.toNat)
                                                                  [l0, l1, l2, l3, l4, l5]))
                                                              (List.take (min (↑data.length : Int) (2000 : Int)).toNat
                                                                data)).getD
                                                          (1 : Nat) (0 : UInt8)).toNat :
                                                    Int) %
                                                  (4294967296 : Int) *
                                                (65536 : Int) %
                                              (4294967296 : Int)))
                                          ((↑((pSum typ (labK kind)
                                                            (labB kind
                                                              (List.map (fun n => UInt8.ofNat n.toNat)
                                                                [l0, l1, l2, l3, l4, l5]))
                                                            (List.take (min (↑data.length : Int) (2000 : Int)).toNat
                                                              data)).getD
                                                        (2 : Nat) (0 : UInt8)).toNat :
                                                  Int) %
                                                (4294967296 : Int) *
                                              (256 : Int) %
                                            (4294967296 : Int)))
                                        ((↑((pSum typ (labK kind)
                                                      (labB kind
                                                        (List.map (fun n => UInt8.ofNat n.toNat)
                                                          [l0, l1, l2, l3, l4, l5]))
                                                      (List.take (min (↑data.length : Int) (2000 : Int)).toNat
                                                        data)).getD
                                                  (3 : Nat) (0 : UInt8)).toNat :
                                            Int) %
                                          (4294967296 : Int)))
                                      bits)) =
                                (0 : Int)))
                            (K (Out.ret (AVal.bool true)))
                            (branch (!decide (bits = (0 : Int)))
                              (K
                                (Out.ret
                                  (AVal.bool
                                    (decide
                                      (pRight
                                          (pTotal (labK kind)
                                            (labB kind
                                              (List.map (fun n => UInt8.ofNat n.toNat) [l0, l1, l2, l3, l4, l5]))
                                            (↑(List.take (min (↑data.length : Int) (2000 : Int)).toNat data).length :
                                              Int))
                                          typ (labK kind)
                                          (labB kind (List.map (fun n => UInt8.ofNat n.toNat) [l0, l1, l2, l3, l4, l5]))
                                          (List.take (min (↑data.length : Int) (2000 : Int)).toNat data)
                                          (four
                                            (bitsA BinOp.xor IntKind.u32
                                              (bitsA BinOp.or IntKind.u32
                                                (bitsA BinOp.or IntKind.u32
                                                  (bitsA BinOp.or IntKind.u32
                                                    ((↑((pSum typ (labK kind)
                                                                      (labB kind
                                                                        (List.map (fun n => UInt8.ofNat n.toNat)
                                                                          [l0, l1, l2, l3, l4, l5]))
                                                                      (List.take
                                                                        (min (↑data.length : Int) (2000 : Int)).toNat
                                                                        data)).getD
                                                                  (0 : Nat) (0 : UInt8)).toNat :
                                                            Int) %
                                                          (4294967296 : Int) *
                                                        (16777216 : Int) %
                                                      (4294967296 : Int))
                                                    ((↑((pSum typ (labK kind)
                                                                      (labB kind
                                                                        (List.map (fun n => UInt8.ofNat n.toNat)
                                                                          [l0, l1, l2, l3, l4, l5]))
                                                                      (List.take
                                                                        (min (↑data.length : Int) (2000 : Int)).toNat
                                                                        data)).getD
                                                                  (1 : Nat) (0 : UInt8)).toNat :
                                                            Int) %
                                                          (4294967296 : Int) *
                                                        (65536 : Int) %
                                                      (4294967296 : Int)))
                                                  ((↑((pSum typ (labK kind)
                                                                    (labB kind
                                                                      (List.map (fun n => UInt8.ofNat n.toNat)
                                                                        [l0, l1, l2, l3, l4, l5]))
                                                                    (List.take
                                                                      (min (↑data.length : Int) (2000 : Int)).toNat
                                                                      data)).getD
                                                                (2 : Nat) (0 : UInt8)).toNat :
                                                          Int) %
                                                        (4294967296 : Int) *
                                                      (256 : Int) %
                                                    (4294967296 : Int)))
                                                ((↑((pSum typ (labK kind)
                                                              (labB kind
                                                                (List.map (fun n => UInt8.ofNat n.toNat)
                                                                  [l0, l1, l2, l3, l4, l5]))
                                                              (List.take (min (↑data.length : Int) (2000 : Int)).toNat
                                                                data)).getD
                                                          (3 : Nat) (0 : UInt8)).toNat :
                                                    Int) %
                                                  (4294967296 : Int)))
                                              bits)) =
                                        (10 : Int))))))
                              (K (Out.ret (AVal.bool false)))))
                          (branch (!decide (bits = (0 : Int)))
                            (K
                              (Out.ret
                                (AVal.bool
                                  (decide
                                    (pRight
                                        (pTotal (labK kind)
                                          (labB kind (List.map (fun n => UInt8.ofNat n.toNat) [l0, l1, l2, l3, l4, l5]))
                                          (↑(List.take (min (↑data.length : Int) (2000 : Int)).toNat data).length :
                                            Int))
                                        typ (labK kind)
                                        (labB kind (List.map (fun n => UInt8.ofNat n.toNat) [l0, l1, l2, l3, l4, l5]))
                                        (List.take (min (↑data.length : Int) (2000 : Int)).toNat data)
                                        (four
                                          (bitsA BinOp.xor IntKind.u32
                                            (bitsA BinOp.or IntKind.u32
                                              (bitsA BinOp.or IntKind.u32
                                                (bitsA BinOp.or IntKind.u32
                                                  ((↑((pSum typ (labK kind)
                                                                    (labB kind
                                                                      (List.map (fun n => UInt8.ofNat n.toNat)
                                                                        [l0, l1, l2, l3, l4, l5]))
                                                                    (List.take
                                                                      (min (↑data.length : Int) (2000 : Int)).toNat
                                                                      data)).getD
                                                                (0 : Nat) (0 : UInt8)).toNat :
                                                          Int) %
                                                        (4294967296 : Int) *
                                                      (16777216 : Int) %
                                                    (4294967296 : Int))
                                                  ((↑((pSum typ (labK kind)
                                                                    (labB kind
                                                                      (List.map (fun n => UInt8.ofNat n.toNat)
                                                                        [l0, l1, l2, l3, l4, l5]))
                                                                    (List.take
                                                                      (min (↑data.length : Int) (2000 : Int)).toNat
                                                                      data)).getD
                                                                (1 : Nat) (0 : UInt8)).toNat :
                                                          Int) %
                                                        (4294967296 : Int) *
                                                      (65536 : Int) %
                                                    (4294967296 : Int)))
                                                ((↑((pSum typ (labK kind)
                                                                  (labB kind
                                                                    (List.map (fun n => UInt8.ofNat n.toNat)
                                                                      [l0, l1, l2, l3, l4, l5]))
                                                                  (List.take
                                                                    (min (↑data.length : Int) (2000 : Int)).toNat
                                                                    data)).getD
                                                              (2 : Nat) (0 : UInt8)).toNat :
                                                        Int) %
                                                      (4294967296 : Int) *
                                                    (256 : Int) %
                                                  (4294967296 : Int)))
                                              ((↑((pSum typ (labK kind)
                                                            (labB kind
                                                              (List.map (fun n => UInt8.ofNat n.toNat)
                                                                [l0, l1, l2, l3, l4, l5]))
                                                            (List.take (min (↑data.length : Int) (2000 : Int)).toNat
                                                              data)).getD
                                                        (3 : Nat) (0 : UInt8)).toNat :
                                                  Int) %
                                                (4294967296 : Int)))
                                            bits)) =
                                      (10 : Int))))))
                            (K (Out.ret (AVal.bool false))))))))))))))))) := by kernel_rfl

set_option maxRecDepth 100000 in
theorem w_known (K : Out → Prop) : (callC (TP4.ctx Try.prog) 100 8 [] ⟨0, []⟩ (fun o _ => K o)
) = (obl (decide ((65527 : Nat) ≤ (repN (65527 : Nat) (0 : UInt8)).length))
  (obl
    (decide
      ((List.take (65527 : Nat) (List.drop (0 : Nat) (repN (65527 : Nat) (0 : UInt8)))).length ≤
        (9223372036854775000 : Nat)))
    (obl (decide ((65528 : Nat) ≤ (repN (65528 : Nat) (0 : UInt8)).length))
      (obl
        (decide
          ((List.take (65528 : Nat) (List.drop (0 : Nat) (repN (65528 : Nat) (0 : UInt8)))).length ≤
            (9223372036854775000 : Nat)))
        (branch
          (decide
            (pErr (0 : Int) (0 : Int)
                [(97 : UInt8), (98 : UInt8), (99 : UInt8), (100 : UInt8), (101 : UInt8), (102 : UInt8)]
                (↑(List.take (65527 : Nat) (List.drop (0 : Nat) (repN (65527 : Nat) (0 : UInt8)))).length : Int) =
              (0 : Int)))
          (branch
            (decide
              ((↑(pSum (0 : Int) (0 : Int)
                        [(97 : UInt8), (98 : UInt8), (99 : UInt8), (100 : UInt8), (101 : UInt8), (102 : UInt8)]
                        (List.take (65527 : Nat) (List.drop (0 : Nat) (repN (65527 : Nat) (0 : UInt8))))).length :
                  Int) =
                (4 : Int)))
            (branch
              (decide
                (pErr (0 : Int) (0 : Int)
                    [(97 : UInt8), (98 : UInt8), (99 : UInt8), (100 : UInt8), (101 : UInt8), (102 : UInt8)]
                    (↑(List.take (65528 : Nat) (List.drop (0 : Nat) (repN (65528 : Nat) (0 : UInt8)))).length : Int) =
                  (3 : Int)))
              (K (Out.ret (AVal.bool true))) (K (Out.ret (AVal.bool false))))
            (K (Out.ret (AVal.bool false))))
          (K (Out.ret (AVal.bool false)))))))) := by kernel_rfl

end Go.Proofs.Ytofnedbclnlnmaa
