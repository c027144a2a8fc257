/-
  Walks, printed: what calls come to, as they are reckoned.
-/
import Derived.Test.YtjacnjecggedhaaGseD3
namespace Go.Proofs.Ytjacnjecggedhaa
set_option linter.unusedVariables false
set_option linter.unusedSimpArgs false
open Go.RowKit Ev

set_option maxRecDepth 100000 in
theorem w_dec (s : List UInt8) (K : Out → Prop) : (wpD (TR4.ctx Try.prog) 100 28 39 10 6 3 [.tmp 2, .tmp 3, .tmp 4] Try.f28 (seqL (bodyC Try.f28)) (seqR (seqR (bodyC Try.f28))) (seqR (bodyC Try.f39)) [.str s] ⟨0, []⟩ (fun o _ => K o)
) = (branch (decide (s = []))
  (K
    (Out.ret
      (AVal.tup
        [AVal.agg
            [AVal.bool false, AVal.bool false, AVal.int IntKind.i64 (0 : Int), AVal.int IntKind.i64 (0 : Int),
              AVal.int IntKind.i64 (0 : Int), AVal.int IntKind.i64 (0 : Int), AVal.str [], AVal.str [], AVal.str []],
          AVal.int IntKind.i64 (0 : Int), AVal.int IntKind.i64 (5 : Int)])))
  (obl (decide ((0 : Int) ≤ (0 : Int) ∧ (0 : Int) < (↑s.length : Int)))
    (branch (decide ((↑(s.getD (0 : Nat) (0 : UInt8)).toNat : Int) < (16 : Int)))
      (K
        (Out.ret
          (AVal.tup
            [AVal.agg
                [AVal.bool false, AVal.bool false, AVal.int IntKind.i64 (0 : Int), AVal.int IntKind.i64 (0 : Int),
                  AVal.int IntKind.i64 (0 : Int), AVal.int IntKind.i64 (0 : Int), AVal.str [], AVal.str [],
                  AVal.str []],
              AVal.int IntKind.i64 (0 : Int), AVal.int IntKind.i64 (5 : Int)])))
      (branch (decide ((↑s.length : Int) < (2 : Int)))
        (K
          (Out.ret
            (AVal.tup
              [AVal.agg
                  [AVal.bool false, AVal.bool false, AVal.int IntKind.i64 (0 : Int), AVal.int IntKind.i64 (0 : Int),
                    AVal.int IntKind.i64 (0 : Int), AVal.int IntKind.i64 (0 : Int), AVal.str [], AVal.str [],
                    AVal.str []],
                AVal.int IntKind.i64 (0 : Int), AVal.int IntKind.i64 (4 : Int)])))
        (branch
          (decide
            ((↑(List.drop (2 : Nat) s).length : Int) < bitsA BinOp.and IntKind.i64 (w16 s (0 : Nat)) (4095 : Int)))
          (K
            (Out.ret
              (AVal.tup
                [AVal.agg
                    [AVal.bool false, AVal.bool false, AVal.int IntKind.i64 (0 : Int), AVal.int IntKind.i64 (0 : Int),
                      AVal.int IntKind.i64 (0 : Int), AVal.int IntKind.i64 (0 : Int), AVal.str [], AVal.str [],
                      AVal.str []],
                  AVal.int IntKind.i64 (0 : Int), AVal.int IntKind.i64 (4 : Int)])))
          (obl (decide ((0 : Int) ≤ bitsA BinOp.and IntKind.i64 (w16 s (0 : Nat)) (4095 : Int)))
            (obl (decide ((0 : Int) ≤ (0 : Int) ∧ (0 : Int) < (↑s.length : Int)))
              (obl (decide ((0 : Int) ≤ (0 : Int) ∧ (0 : Int) < (↑s.length : Int)))
                (branch
                  (!!decide
                        (bitsA BinOp.and IntKind.u8 (↑(s.getD (0 : Nat) (0 : UInt8)).toNat : Int) (128 : Int) =
                          (0 : Int)))
                  (branch (!decide (bitsA BinOp.and IntKind.i64 (w16 s (0 : Nat) / (4096 : Int)) (3 : Int) = (3 : Int)))
                    (K
                      (Out.ret
                        (AVal.tup
                          [AVal.agg
                              [AVal.bool false, AVal.bool false, AVal.int IntKind.i64 (0 : Int),
                                AVal.int IntKind.i64 (0 : Int), AVal.int IntKind.i64 (0 : Int),
                                AVal.int IntKind.i64 (0 : Int), AVal.str [], AVal.str [], AVal.str []],
                            AVal.int IntKind.i64 (0 : Int), AVal.int IntKind.i64 (4 : Int)])))
                    (obl
                      (decide
                        ((List.take (bitsA BinOp.and IntKind.i64 (w16 s (0 : Nat)) (4095 : Int)).toNat
                              (List.drop (2 : Nat) s)).length ≤
                          (9223372036854775807 : Nat)))
                      (branch
                        (rOk
                          (!decide
                              (bitsA BinOp.and IntKind.u8 (↑(s.getD (0 : Nat) (0 : UInt8)).toNat : Int) (128 : Int) =
                                (0 : Int)))
                          (!decide
                              (bitsA BinOp.and IntKind.u8 (↑(s.getD (0 : Nat) (0 : UInt8)).toNat : Int) (64 : Int) =
                                (0 : Int)))
                          (bitsA BinOp.and IntKind.i64 (w16 s (0 : Nat) / (4096 : Int)) (3 : Int))
                          (List.take (bitsA BinOp.and IntKind.i64 (w16 s (0 : Nat)) (4095 : Int)).toNat
                            (List.drop (2 : Nat) s)))
                        (obl
                          (inI64
                            ((2 : Int) +
                              (↑(List.take (bitsA BinOp.and IntKind.i64 (w16 s (0 : Nat)) (4095 : Int)).toNat
                                      (List.drop (2 : Nat) s)).length :
                                Int)))
                          (K
                            (Out.ret
                              (AVal.tup
                                [AVal.agg
                                    [AVal.bool
                                        !decide
                                            (bitsA BinOp.and IntKind.u8 (↑(s.getD (0 : Nat) (0 : UInt8)).toNat : Int)
                                                (128 : Int) =
                                              (0 : Int)),
                                      AVal.bool
                                        !decide
                                            (bitsA BinOp.and IntKind.u8 (↑(s.getD (0 : Nat) (0 : UInt8)).toNat : Int)
                                                (64 : Int) =
                                              (0 : Int)),
                                      AVal.int IntKind.i64
                                        (rId
                                          (!decide
                                              (bitsA BinOp.and IntKind.u8 (↑(s.getD (0 : Nat) (0 : UInt8)).toNat : Int)
                                                  (128 : Int) =
                                                (0 : Int)))
                                          (!decide
                                              (bitsA BinOp.and IntKind.u8 (↑(s.getD (0 : Nat) (0 : UInt8)).toNat : Int)
                                                  (64 : Int) =
                                                (0 : Int)))
                                          (List.take (bitsA BinOp.and IntKind.i64 (w16 s (0 : Nat)) (4095 : Int)).toNat
                                            (List.drop (2 : Nat) s))),
                                      AVal.int IntKind.i64
                                        (rTotal
                                          (!decide
                                              (bitsA BinOp.and IntKind.u8 (↑(s.getD (0 : Nat) (0 : UInt8)).toNat : Int)
                                                  (128 : Int) =
                                                (0 : Int)))
                                          (!decide
                                              (bitsA BinOp.and IntKind.u8 (↑(s.getD (0 : Nat) (0 : UInt8)).toNat : Int)
                                                  (64 : Int) =
                                                (0 : Int)))
                                          (List.take (bitsA BinOp.and IntKind.i64 (w16 s (0 : Nat)) (4095 : Int)).toNat
                                            (List.drop (2 : Nat) s))),
                                      AVal.int IntKind.i64
                                        (rTyp
                                          (!decide
                                              (bitsA BinOp.and IntKind.u8 (↑(s.getD (0 : Nat) (0 : UInt8)).toNat : Int)
                                                  (128 : Int) =
                                                (0 : Int)))
                                          (!decide
                                              (bitsA BinOp.and IntKind.u8 (↑(s.getD (0 : Nat) (0 : UInt8)).toNat : Int)
                                                  (64 : Int) =
                                                (0 : Int)))
                                          (List.take (bitsA BinOp.and IntKind.i64 (w16 s (0 : Nat)) (4095 : Int)).toNat
                                            (List.drop (2 : Nat) s))),
                                      AVal.int IntKind.i64
                                        (rK
                                          (!decide
                                              (bitsA BinOp.and IntKind.u8 (↑(s.getD (0 : Nat) (0 : UInt8)).toNat : Int)
                                                  (128 : Int) =
                                                (0 : Int)))
                                          (bitsA BinOp.and IntKind.i64 (w16 s (0 : Nat) / (4096 : Int)) (3 : Int))),
                                      AVal.str
                                        (rLb
                                          (!decide
                                              (bitsA BinOp.and IntKind.u8 (↑(s.getD (0 : Nat) (0 : UInt8)).toNat : Int)
                                                  (128 : Int) =
                                                (0 : Int)))
                                          (!decide
                                              (bitsA BinOp.and IntKind.u8 (↑(s.getD (0 : Nat) (0 : UInt8)).toNat : Int)
                                                  (64 : Int) =
                                                (0 : Int)))
                                          (bitsA BinOp.and IntKind.i64 (w16 s (0 : Nat) / (4096 : Int)) (3 : Int))
                                          (List.take (bitsA BinOp.and IntKind.i64 (w16 s (0 : Nat)) (4095 : Int)).toNat
                                            (List.drop (2 : Nat) s))),
                                      AVal.str
                                        (rData
                                          (!decide
                                              (bitsA BinOp.and IntKind.u8 (↑(s.getD (0 : Nat) (0 : UInt8)).toNat : Int)
                                                  (128 : Int) =
                                                (0 : Int)))
                                          (!decide
                                              (bitsA BinOp.and IntKind.u8 (↑(s.getD (0 : Nat) (0 : UInt8)).toNat : Int)
                                                  (64 : Int) =
                                                (0 : Int)))
                                          (bitsA BinOp.and IntKind.i64 (w16 s (0 : Nat) / (4096 : Int)) (3 : Int))
                                          (List.take (bitsA BinOp.and IntKind.i64 (w16 s (0 : Nat)) (4095 : Int)).toNat
                                            (List.drop (2 : Nat) s))),
                                      AVal.str
                                        (rSum
                                          (!decide
                                              (bitsA BinOp.and IntKind.u8 (↑(s.getD (0 : Nat) (0 : UInt8)).toNat : Int)
                                                  (128 : Int) =
                                                (0 : Int)))
                                          (!decide
                                              (bitsA BinOp.and IntKind.u8 (↑(s.getD (0 : Nat) (0 : UInt8)).toNat : Int)
                                                  (64 : Int) =
                                                (0 : Int)))
                                          (List.take (bitsA BinOp.and IntKind.i64 (w16 s (0 : Nat)) (4095 : Int)).toNat
                                            (List.drop (2 : Nat) s)))],
                                  AVal.int IntKind.i64
                                    ((2 : Int) +
                                      (↑(List.take (bitsA BinOp.and IntKind.i64 (w16 s (0 : Nat)) (4095 : Int)).toNat
                                              (List.drop (2 : Nat) s)).length :
                                        Int)),
                                  AVal.int IntKind.i64 (0 : Int)]))))
                        (K
                          (Out.ret
                            (AVal.tup
                              [AVal.agg
                                  [AVal.bool false, AVal.bool false, AVal.int IntKind.i64 (0 : Int),
                                    AVal.int IntKind.i64 (0 : Int), AVal.int IntKind.i64 (0 : Int),
                                    AVal.int IntKind.i64 (0 : Int), AVal.str [], AVal.str [], AVal.str []],
                                AVal.int IntKind.i64 (0 : Int), AVal.int IntKind.i64 (4 : Int)]))))))
                  (obl
                    (decide
                      ((List.take (bitsA BinOp.and IntKind.i64 (w16 s (0 : Nat)) (4095 : Int)).toNat
                            (List.drop (2 : Nat) s)).length ≤
                        (9223372036854775807 : Nat)))
                    (branch
                      (rOk
                        (!decide
                            (bitsA BinOp.and IntKind.u8 (↑(s.getD (0 : Nat) (0 : UInt8)).toNat : Int) (128 : Int) =
                              (0 : Int)))
                        (!decide
                            (bitsA BinOp.and IntKind.u8 (↑(s.getD (0 : Nat) (0 : UInt8)).toNat : Int) (64 : Int) =
                              (0 : Int)))
                        (bitsA BinOp.and IntKind.i64 (w16 s (0 : Nat) / (4096 : Int)) (3 : Int))
                        (List.take (bitsA BinOp.and IntKind.i64 (w16 s (0 : Nat)) (4095 : Int)).toNat
                          (List.drop (2 : Nat) s)))
                      (obl
                        (inI64
                          ((2 : Int) +
                            (↑(List.take (bitsA BinOp.and IntKind.i64 (w16 s (0 : Nat)) (4095 : Int)).toNat
                                    (List.drop (2 : Nat) s)).length :
                              Int)))
                        (K
                          (Out.ret
                            (AVal.tup
                              [AVal.agg
                                  [AVal.bool
                                      !decide
                                          (bitsA BinOp.and IntKind.u8 (↑(s.getD (0 : Nat) (0 : UInt8)).toNat : Int)
                                              (128 : Int) =
                                            (0 : Int)),
                                    AVal.bool
                                      !decide
                                          (bitsA BinOp.and IntKind.u8 (↑(s.getD (0 : Nat) (0 : UInt8)).toNat : Int)
                                              (64 : Int) =
                                            (0 : Int)),
                                    AVal.int IntKind.i64
                                      (rId
                                        (!decide
                                            (bitsA BinOp.and IntKind.u8 (↑(s.getD (0 : Nat) (0 : UInt8)).toNat : Int)
                                                (128 : Int) =
                                              (0 : Int)))
                                        (!decide
                                            (bitsA BinOp.and IntKind.u8 (↑(s.getD (0 : Nat) (0 : UInt8)).toNat : Int)
                                                (64 : Int) =
                                              (0 : Int)))
                                        (List.take (bitsA BinOp.and IntKind.i64 (w16 s (0 : Nat)) (4095 : Int)).toNat
                                          (List.drop (2 : Nat) s))),
                                    AVal.int IntKind.i64
                                      (rTotal
                                        (!decide
                                            (bitsA BinOp.and IntKind.u8 (↑(s.getD (0 : Nat) (0 : UInt8)).toNat : Int)
                                                (128 : Int) =
                                              (0 : Int)))
                                        (!decide
                                            (bitsA BinOp.and IntKind.u8 (↑(s.getD (0 : Nat) (0 : UInt8)).toNat : Int)
                                                (64 : Int) =
                                              (0 : Int)))
                                        (List.take (bitsA BinOp.and IntKind.i64 (w16 s (0 : Nat)) (4095 : Int)).toNat
                                          (List.drop (2 : Nat) s))),
                                    AVal.int IntKind.i64
                                      (rTyp
                                        (!decide
                                            (bitsA BinOp.and IntKind.u8 (↑(s.getD (0 : Nat) (0 : UInt8)).toNat : Int)
                                                (128 : Int) =
                                              (0 : Int)))
                                        (!decide
                                            (bitsA BinOp.and IntKind.u8 (↑(s.getD (0 : Nat) (0 : UInt8)).toNat : Int)
                                                (64 : Int) =
                                              (0 : Int)))
                                        (List.take (bitsA BinOp.and IntKind.i64 (w16 s (0 : Nat)) (4095 : Int)).toNat
                                          (List.drop (2 : Nat) s))),
                                    AVal.int IntKind.i64
                                      (rK
                                        (!decide
                                            (bitsA BinOp.and IntKind.u8 (↑(s.getD (0 : Nat) (0 : UInt8)).toNat : Int)
                                                (128 : Int) =
                                              (0 : Int)))
                                        (bitsA BinOp.and IntKind.i64 (w16 s (0 : Nat) / (4096 : Int)) (3 : Int))),
                                    AVal.str
                                      (rLb
                                        (!decide
                                            (bitsA BinOp.and IntKind.u8 (↑(s.getD (0 : Nat) (0 : UInt8)).toNat : Int)
                                                (128 : Int) =
                                              (0 : Int)))
                                        (!decide
                                            (bitsA BinOp.and IntKind.u8 (↑(s.getD (0 : Nat) (0 : UInt8)).toNat : Int)
                                                (64 : Int) =
                                              (0 : Int)))
                                        (bitsA BinOp.and IntKind.i64 (w16 s (0 : Nat) / (4096 : Int)) (3 : Int))
                                        (List.take (bitsA BinOp.and IntKind.i64 (w16 s (0 : Nat)) (4095 : Int)).toNat
                                          (List.drop (2 : Nat) s))),
                                    AVal.str
                                      (rData
                                        (!decide
                                            (bitsA BinOp.and IntKind.u8 (↑(s.getD (0 : Nat) (0 : UInt8)).toNat : Int)
                                                (128 : Int) =
                                              (0 : Int)))
                                        (!decide
                                            (bitsA BinOp.and IntKind.u8 (↑(s.getD (0 : Nat) (0 : UInt8)).toNat : Int)
                                                (64 : Int) =
                                              (0 : Int)))
                                        (bitsA BinOp.and IntKind.i64 (w16 s (0 : Nat) / (4096 : Int)) (3 : Int))
                                        (List.take (bitsA BinOp.and IntKind.i64 (w16 s (0 : Nat)) (4095 : Int)).toNat
                                          (List.drop (2 : Nat) s))),
                                    AVal.str
                                      (rSum
                                        (!decide
                                            (bitsA BinOp.and IntKind.u8 (↑(s.getD (0 : Nat) (0 : UInt8)).toNat : Int)
                                                (128 : Int) =
                                              (0 : Int)))
                                        (!decide
                                            (bitsA BinOp.and IntKind.u8 (↑(s.getD (0 : Nat) (0 : UInt8)).toNat : Int)
                                                (64 : Int) =
                                              (0 : Int)))
                                        (List.take (bitsA BinOp.and IntKind.i64 (w16 s (0 : Nat)) (4095 : Int)).toNat
                                          (List.drop (2 : Nat) s)))],
                                AVal.int IntKind.i64
                                  ((2 : Int) +
                                    (↑(List.take (bitsA BinOp.and IntKind.i64 (w16 s (0 : Nat)) (4095 : Int)).toNat
                                            (List.drop (2 : Nat) s)).length :
                                      Int)),
                                AVal.int IntKind.i64 (0 : Int)]))))
                      (K
                        (Out.ret
                          (AVal.tup
                            [AVal.agg
                                [AVal.bool false, AVal.bool false, AVal.int IntKind.i64 (0 : Int),
                                  AVal.int IntKind.i64 (0 : Int), AVal.int IntKind.i64 (0 : Int),
                                  AVal.int IntKind.i64 (0 : Int), AVal.str [], AVal.str [], AVal.str []],
                              AVal.int IntKind.i64 (0 : Int),
                              AVal.int IntKind.i64 (4 : Int)])))))))))))))) := by kernel_rfl

end Go.Proofs.Ytjacnjecggedhaa
