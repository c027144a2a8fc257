/-
  Walks, printed: what calls come to, as they are reckoned.
-/
import Derived.Test.YtcbkenicjmhkdaaGseR2
namespace Go.Proofs.Ytcbkenicjmhkdaa
set_option linter.unusedVariables false
set_option linter.unusedSimpArgs false
open Go.RowKit Ev

set_option maxRecDepth 100000 in
theorem w_rdec2_tt (s : List UInt8) (n k : Int) (v42_1 v41_2 v40_3 v39_4 v38_5 v37_6 v36_7 v35_9 v34_10 v33_11 v32_13 v31_14 v5_15 v30_16 v29_17 v28_18 v27_19 v26_20 v25_21 v24_22 v23_23 v21_24 v20_25 v19_26 v17_27 v16_28 v13_29 v15_30 v13_31 v14_32 v13_33 v13_34 v12_35 v11_36 : AVal) (K : Out → Prop) : (wpC (TD.ctx Try.prog) 93 16 0 (tailN 7 (bodyC Try.f16)) ((8, .ptr 10 0 0 0) :: (42, v42_1) :: (41, v41_2) :: (40, v40_3) :: (39, v39_4) :: (38, v38_5) :: (37, v37_6) :: (36, v36_7) :: (7, .int .i64 k) :: (35, v35_9) :: (34, v34_10) :: (33, v33_11) :: (6, .int .i64 n) :: (32, v32_13) :: (31, v31_14) :: (5, v5_15) :: (30, v30_16) :: (29, v29_17) :: (28, v28_18) :: (27, v27_19) :: (26, v26_20) :: (25, v25_21) :: (24, v24_22) :: (23, v23_23) :: (21, v21_24) :: (20, v20_25) :: (19, v19_26) :: (17, v17_27) :: (16, v16_28) :: (13, v13_29) :: (15, v15_30) :: (13, v13_31) :: (14, v14_32) :: (13, v13_33) :: (13, v13_34) :: (12, v12_35) :: (11, v11_36) :: (4, .int .i64 0) :: (3, .int .i64 0) :: (2, .ptr 0 0 0 0) :: (0, .str s) :: []) ⟨11, [(10, .cells 27 [.bool true, .bool true, .int .i64 0, .int .i64 0, .int .i64 0, .int .i64 0, .str [], .str [], .str []]), (10, .cells 27 [.bool false, .bool false, .int .i64 0, .int .i64 0, .int .i64 0, .int .i64 0, .str [], .str [], .str []]), (0, .cells 27 [.bool false, .bool false, .int .i64 0, .int .i64 0, .int .i64 0, .int .i64 0, .str [], .str [], .str []])]⟩ (endA (TD.ctx Try.prog).P Try.f16 (fun o _ => K o))
) = (obl (inI64 ((2 : Int) + n))
  (branch (decide ((↑s.length : Int) < (2 : Int) + n))
    (K
      (Out.ret
        (AVal.tup
          [AVal.agg
              [AVal.bool false, AVal.bool false, AVal.int IntKind.i64 (0 : Int), AVal.int IntKind.i64 (0 : Int),
                AVal.int IntKind.i64 (0 : Int), AVal.int IntKind.i64 (0 : Int), AVal.str [], AVal.str [], AVal.str []],
            AVal.int IntKind.i64 (0 : Int), AVal.int IntKind.i64 (4 : Int)])))
    (obl (inI64 ((2 : Int) + n))
      (obl (decide ((0 : Int) ≤ (2 : Int) ∧ (2 : Int) ≤ (2 : Int) + n ∧ (2 : Int) + n ≤ (↑s.length : Int)))
        (obl (inI64 ((2 : Int) + lSize k))
          (branch
            (decide ((↑(List.drop (2 : Nat) (List.take ((2 : Int) + n).toNat s)).length : Int) < (2 : Int) + lSize k))
            (K
              (Out.ret
                (AVal.tup
                  [AVal.agg
                      [AVal.bool false, AVal.bool false, AVal.int IntKind.i64 (0 : Int), AVal.int IntKind.i64 (0 : Int),
                        AVal.int IntKind.i64 (0 : Int), AVal.int IntKind.i64 (0 : Int), AVal.str [], AVal.str [],
                        AVal.str []],
                    AVal.int IntKind.i64 (0 : Int), AVal.int IntKind.i64 (4 : Int)])))
            (obl
              (decide
                ((0 : Int) ≤ (0 : Int) ∧
                  (0 : Int) < (↑(List.drop (2 : Nat) (List.take ((2 : Int) + n).toNat s)).length : Int)))
              (obl
                (inI64
                  (↑((List.drop (2 : Nat) (List.take ((2 : Int) + n).toNat s)).getD (0 : Nat) (0 : UInt8)).toNat : Int))
                (obl
                  (inI64
                    ((↑((List.drop (2 : Nat) (List.take ((2 : Int) + n).toNat s)).getD (0 : Nat) (0 : UInt8)).toNat :
                        Int) *
                      (256 : Int)))
                  (obl
                    (decide
                      ((0 : Int) ≤ (1 : Int) ∧
                        (1 : Int) < (↑(List.drop (2 : Nat) (List.take ((2 : Int) + n).toNat s)).length : Int)))
                    (obl
                      (inI64
                        (↑((List.drop (2 : Nat) (List.take ((2 : Int) + n).toNat s)).getD (1 : Nat) (0 : UInt8)).toNat :
                          Int))
                      (obl
                        (inI64
                          ((↑((List.drop (2 : Nat) (List.take ((2 : Int) + n).toNat s)).getD (0 : Nat)
                                      (0 : UInt8)).toNat :
                                Int) *
                              (256 : Int) +
                            (↑((List.drop (2 : Nat) (List.take ((2 : Int) + n).toNat s)).getD (1 : Nat)
                                    (0 : UInt8)).toNat :
                              Int)))
                        (obl (inI64 ((2 : Int) + lSize k))
                          (obl
                            (decide
                              ((0 : Int) ≤ (2 : Int) ∧
                                (2 : Int) ≤ (2 : Int) + lSize k ∧
                                  (2 : Int) + lSize k ≤
                                    (↑(List.drop (2 : Nat) (List.take ((2 : Int) + n).toNat s)).length : Int)))
                            (obl (inI64 ((2 : Int) + lSize k))
                              (obl
                                (decide
                                  ((0 : Int) ≤ (2 : Int) + lSize k ∧
                                    (2 : Int) + lSize k ≤
                                      (↑(List.drop (2 : Nat) (List.take ((2 : Int) + n).toNat s)).length : Int)))
                                (obl (inI64 ((2 : Int) + n))
                                  (K
                                    (Out.ret
                                      (AVal.tup
                                        [AVal.agg
                                            [AVal.bool true, AVal.bool true, AVal.int IntKind.i64 (0 : Int),
                                              AVal.int IntKind.i64 (0 : Int),
                                              AVal.int IntKind.i64
                                                ((↑((List.drop (2 : Nat) (List.take ((2 : Int) + n).toNat s)).getD
                                                            (0 : Nat) (0 : UInt8)).toNat :
                                                      Int) *
                                                    (256 : Int) +
                                                  (↑((List.drop (2 : Nat) (List.take ((2 : Int) + n).toNat s)).getD
                                                          (1 : Nat) (0 : UInt8)).toNat :
                                                    Int)),
                                              AVal.int IntKind.i64 k,
                                              AVal.str
                                                (List.drop (2 : Nat)
                                                  (List.take ((2 : Int) + lSize k).toNat
                                                    (List.drop (2 : Nat) (List.take ((2 : Int) + n).toNat s)))),
                                              AVal.str
                                                (List.drop ((2 : Int) + lSize k).toNat
                                                  (List.drop (2 : Nat) (List.take ((2 : Int) + n).toNat s))),
                                              AVal.str []],
                                          AVal.int IntKind.i64 ((2 : Int) + n),
                                          AVal.int IntKind.i64 (0 : Int)])))))))))))))))))))) := by kernel_rfl

set_option maxRecDepth 100000 in
theorem w_rdec2_tf (s : List UInt8) (n k : Int) (v42_1 v41_2 v40_3 v39_4 v38_5 v37_6 v36_7 v35_9 v34_10 v33_11 v32_13 v31_14 v5_15 v30_16 v29_17 v28_18 v27_19 v26_20 v25_21 v24_22 v23_23 v21_24 v20_25 v19_26 v17_27 v16_28 v13_29 v15_30 v13_31 v14_32 v13_33 v13_34 v12_35 v11_36 : AVal) (K : Out → Prop) : (wpC (TD.ctx Try.prog) 93 16 0 (tailN 7 (bodyC Try.f16)) ((8, .ptr 10 0 0 0) :: (42, v42_1) :: (41, v41_2) :: (40, v40_3) :: (39, v39_4) :: (38, v38_5) :: (37, v37_6) :: (36, v36_7) :: (7, .int .i64 k) :: (35, v35_9) :: (34, v34_10) :: (33, v33_11) :: (6, .int .i64 n) :: (32, v32_13) :: (31, v31_14) :: (5, v5_15) :: (30, v30_16) :: (29, v29_17) :: (28, v28_18) :: (27, v27_19) :: (26, v26_20) :: (25, v25_21) :: (24, v24_22) :: (23, v23_23) :: (21, v21_24) :: (20, v20_25) :: (19, v19_26) :: (17, v17_27) :: (16, v16_28) :: (13, v13_29) :: (15, v15_30) :: (13, v13_31) :: (14, v14_32) :: (13, v13_33) :: (13, v13_34) :: (12, v12_35) :: (11, v11_36) :: (4, .int .i64 0) :: (3, .int .i64 0) :: (2, .ptr 0 0 0 0) :: (0, .str s) :: []) ⟨11, [(10, .cells 27 [.bool true, .bool false, .int .i64 0, .int .i64 0, .int .i64 0, .int .i64 0, .str [], .str [], .str []]), (10, .cells 27 [.bool false, .bool false, .int .i64 0, .int .i64 0, .int .i64 0, .int .i64 0, .str [], .str [], .str []]), (0, .cells 27 [.bool false, .bool false, .int .i64 0, .int .i64 0, .int .i64 0, .int .i64 0, .str [], .str [], .str []])]⟩ (endA (TD.ctx Try.prog).P Try.f16 (fun o _ => K o))
) = (obl (inI64 ((2 : Int) + n))
  (branch (decide ((↑s.length : Int) < (2 : Int) + n))
    (K
      (Out.ret
        (AVal.tup
          [AVal.agg
              [AVal.bool false, AVal.bool false, AVal.int IntKind.i64 (0 : Int), AVal.int IntKind.i64 (0 : Int),
                AVal.int IntKind.i64 (0 : Int), AVal.int IntKind.i64 (0 : Int), AVal.str [], AVal.str [], AVal.str []],
            AVal.int IntKind.i64 (0 : Int), AVal.int IntKind.i64 (4 : Int)])))
    (obl (inI64 ((2 : Int) + n))
      (obl (decide ((0 : Int) ≤ (2 : Int) ∧ (2 : Int) ≤ (2 : Int) + n ∧ (2 : Int) + n ≤ (↑s.length : Int)))
        (branch (decide ((↑(List.drop (2 : Nat) (List.take ((2 : Int) + n).toNat s)).length : Int) < (1 : Int)))
          (K
            (Out.ret
              (AVal.tup
                [AVal.agg
                    [AVal.bool false, AVal.bool false, AVal.int IntKind.i64 (0 : Int), AVal.int IntKind.i64 (0 : Int),
                      AVal.int IntKind.i64 (0 : Int), AVal.int IntKind.i64 (0 : Int), AVal.str [], AVal.str [],
                      AVal.str []],
                  AVal.int IntKind.i64 (0 : Int), AVal.int IntKind.i64 (4 : Int)])))
          (obl
            (decide
              ((0 : Int) ≤ (0 : Int) ∧
                (0 : Int) < (↑(List.drop (2 : Nat) (List.take ((2 : Int) + n).toNat s)).length : Int)))
            (obl
              (inI64
                (↑((List.drop (2 : Nat) (List.take ((2 : Int) + n).toNat s)).getD (0 : Nat) (0 : UInt8)).toNat : Int))
              (obl
                (decide
                  ((0 : Int) ≤ (1 : Int) ∧
                    (1 : Int) ≤ (↑(List.drop (2 : Nat) (List.take ((2 : Int) + n).toNat s)).length : Int)))
                (branch
                  (decide
                    ((↑(List.drop (1 : Nat) (List.drop (2 : Nat) (List.take ((2 : Int) + n).toNat s))).length : Int) <
                      (2 : Int)))
                  (K
                    (Out.ret
                      (AVal.tup
                        [AVal.agg
                            [AVal.bool false, AVal.bool false, AVal.int IntKind.i64 (0 : Int),
                              AVal.int IntKind.i64 (0 : Int), AVal.int IntKind.i64 (0 : Int),
                              AVal.int IntKind.i64 (0 : Int), AVal.str [], AVal.str [], AVal.str []],
                          AVal.int IntKind.i64 (0 : Int), AVal.int IntKind.i64 (4 : Int)])))
                  (obl
                    (decide
                      ((0 : Int) ≤ (0 : Int) ∧
                        (0 : Int) <
                          (↑(List.drop (1 : Nat) (List.drop (2 : Nat) (List.take ((2 : Int) + n).toNat s))).length :
                            Int)))
                    (obl
                      (inI64
                        (↑((List.drop (1 : Nat) (List.drop (2 : Nat) (List.take ((2 : Int) + n).toNat s))).getD
                                (0 : Nat) (0 : UInt8)).toNat :
                          Int))
                      (obl
                        (inI64
                          ((↑((List.drop (1 : Nat) (List.drop (2 : Nat) (List.take ((2 : Int) + n).toNat s))).getD
                                    (0 : Nat) (0 : UInt8)).toNat :
                              Int) *
                            (256 : Int)))
                        (obl
                          (decide
                            ((0 : Int) ≤ (1 : Int) ∧
                              (1 : Int) <
                                (↑(List.drop (1 : Nat)
                                        (List.drop (2 : Nat) (List.take ((2 : Int) + n).toNat s))).length :
                                  Int)))
                          (obl
                            (inI64
                              (↑((List.drop (1 : Nat) (List.drop (2 : Nat) (List.take ((2 : Int) + n).toNat s))).getD
                                      (1 : Nat) (0 : UInt8)).toNat :
                                Int))
                            (obl
                              (inI64
                                ((↑((List.drop (1 : Nat) (List.drop (2 : Nat) (List.take ((2 : Int) + n).toNat s))).getD
                                            (0 : Nat) (0 : UInt8)).toNat :
                                      Int) *
                                    (256 : Int) +
                                  (↑((List.drop (1 : Nat)
                                              (List.drop (2 : Nat) (List.take ((2 : Int) + n).toNat s))).getD
                                          (1 : Nat) (0 : UInt8)).toNat :
                                    Int)))
                              (obl
                                (decide
                                  ((0 : Int) ≤ (2 : Int) ∧
                                    (2 : Int) ≤
                                      (↑(List.drop (1 : Nat)
                                              (List.drop (2 : Nat) (List.take ((2 : Int) + n).toNat s))).length :
                                        Int)))
                                (obl (inI64 ((2 : Int) + lSize k))
                                  (branch
                                    (decide
                                      ((↑(List.drop (2 : Nat)
                                                (List.drop (1 : Nat)
                                                  (List.drop (2 : Nat) (List.take ((2 : Int) + n).toNat s)))).length :
                                          Int) <
                                        (2 : Int) + lSize k))
                                    (K
                                      (Out.ret
                                        (AVal.tup
                                          [AVal.agg
                                              [AVal.bool false, AVal.bool false, AVal.int IntKind.i64 (0 : Int),
                                                AVal.int IntKind.i64 (0 : Int), AVal.int IntKind.i64 (0 : Int),
                                                AVal.int IntKind.i64 (0 : Int), AVal.str [], AVal.str [], AVal.str []],
                                            AVal.int IntKind.i64 (0 : Int), AVal.int IntKind.i64 (4 : Int)])))
                                    (obl
                                      (decide
                                        ((0 : Int) ≤ (0 : Int) ∧
                                          (0 : Int) <
                                            (↑(List.drop (2 : Nat)
                                                    (List.drop (1 : Nat)
                                                      (List.drop (2 : Nat)
                                                        (List.take ((2 : Int) + n).toNat s)))).length :
                                              Int)))
                                      (obl
                                        (inI64
                                          (↑((List.drop (2 : Nat)
                                                      (List.drop (1 : Nat)
                                                        (List.drop (2 : Nat) (List.take ((2 : Int) + n).toNat s)))).getD
                                                  (0 : Nat) (0 : UInt8)).toNat :
                                            Int))
                                        (obl
                                          (inI64
                                            ((↑((List.drop (2 : Nat)
                                                          (List.drop (1 : Nat)
                                                            (List.drop (2 : Nat)
                                                              (List.take ((2 : Int) + n).toNat s)))).getD
                                                      (0 : Nat) (0 : UInt8)).toNat :
                                                Int) *
                                              (256 : Int)))
                                          (obl
                                            (decide
                                              ((0 : Int) ≤ (1 : Int) ∧
                                                (1 : Int) <
                                                  (↑(List.drop (2 : Nat)
                                                          (List.drop (1 : Nat)
                                                            (List.drop (2 : Nat)
                                                              (List.take ((2 : Int) + n).toNat s)))).length :
                                                    Int)))
                                            (obl
                                              (inI64
                                                (↑((List.drop (2 : Nat)
                                                            (List.drop (1 : Nat)
                                                              (List.drop (2 : Nat)
                                                                (List.take ((2 : Int) + n).toNat s)))).getD
                                                        (1 : Nat) (0 : UInt8)).toNat :
                                                  Int))
                                              (obl
                                                (inI64
                                                  ((↑((List.drop (2 : Nat)
                                                                  (List.drop (1 : Nat)
                                                                    (List.drop (2 : Nat)
                                                                      (List.take ((2 : Int) + n).toNat s)))).getD
                                                              (0 : Nat) (0 : UInt8)).toNat :
                                                        Int) *
                                                      (256 : Int) +
                                                    (↑((List.drop (2 : Nat)
                                                                (List.drop (1 : Nat)
                                                                  (List.drop (2 : Nat)
                                                                    (List.take ((2 : Int) + n).toNat s)))).getD
                                                            (1 : Nat) (0 : UInt8)).toNat :
                                                      Int)))
                                                (obl (inI64 ((2 : Int) + lSize k))
                                                  (obl
                                                    (decide
                                                      ((0 : Int) ≤ (2 : Int) ∧
                                                        (2 : Int) ≤ (2 : Int) + lSize k ∧
                                                          (2 : Int) + lSize k ≤
                                                            (↑(List.drop (2 : Nat)
                                                                    (List.drop (1 : Nat)
                                                                      (List.drop (2 : Nat)
                                                                        (List.take ((2 : Int) + n).toNat s)))).length :
                                                              Int)))
                                                    (obl (inI64 ((2 : Int) + lSize k))
                                                      (obl
                                                        (decide
                                                          ((0 : Int) ≤ (2 : Int) + lSize k ∧
                                                            (2 : Int) + lSize k ≤
                                                              (↑(List.drop (2 : Nat)
                                                                      (List.drop (1 : Nat)
                                                                        (List.drop (2 : Nat)
                                                                          (List.take ((2 : Int) + n).toNat
                                                                            s)))).length :
                                                                Int)))
                                                        (obl (inI64 ((2 : Int) + n))
                                                          (K
                                                            (Out.ret
                                                              (AVal.tup
                                                                [AVal.agg
                                                                    [AVal.bool true, AVal.bool false,
                                                                      AVal.int IntKind.i64
                                                                        (↑((List.drop (2 : Nat)
                                                                                    (List.take ((2 : Int) + n).toNat
                                                                                      s)).getD
                                                                                (0 : Nat) (0 : UInt8)).toNat :
                                                                          Int),
                                                                      AVal.int IntKind.i64
                                                                        ((↑((List.drop (1 : Nat)
                                                                                        (List.drop (2 : Nat)
                                                                                          (List.take
                                                                                            ((2 : Int) + n).toNat
                                                                                            s))).getD
                                                                                    (0 : Nat) (0 : UInt8)).toNat :
                                                                              Int) *
                                                                            (256 : Int) +
                                                                          (↑((List.drop (1 : Nat)
                                                                                      (List.drop (2 : Nat)
                                                                                        (List.take ((2 : Int) + n).toNat
                                                                                          s))).getD
                                                                                  (1 : Nat) (0 : UInt8)).toNat :
                                                                            Int)),
                                                                      AVal.int IntKind.i64
                                                                        ((↑((List.drop (2 : Nat)
                                                                                        (List.drop (1 : Nat)
                                                                                          (List.drop (2 : Nat)
                                                                                            (List.take
                                                                                              ((2 : Int) + n).toNat
                                                                                              s)))).getD
                                                                                    (0 : Nat) (0 : UInt8)).toNat :
                                                                              Int) *
                                                                            (256 : Int) +
                                                                          (↑((List.drop (2 : Nat)
                                                                                      (List.drop (1 : Nat)
                                                                                        (List.drop (2 : Nat)
                                                                                          (List.take
                                                                                            ((2 : Int) + n).toNat
                                                                                            s)))).getD
                                                                                  (1 : Nat) (0 : UInt8)).toNat :
                                                                            Int)),
                                                                      AVal.int IntKind.i64 k,
                                                                      AVal.str
                                                                        (List.drop (2 : Nat)
                                                                          (List.take ((2 : Int) + lSize k).toNat
                                                                            (List.drop (2 : Nat)
                                                                              (List.drop (1 : Nat)
                                                                                (List.drop (2 : Nat)
                                                                                  (List.take ((2 : Int) + n).toNat
                                                                                    s)))))),
                                                                      AVal.str
                                                                        (List.drop ((2 : Int) + lSize k).toNat
                                                                          (List.drop (2 : Nat)
                                                                            (List.drop (1 : Nat)
                                                                              (List.drop (2 : Nat)
                                                                                (List.take ((2 : Int) + n).toNat s))))),
                                                                      AVal.str []],
                                                                  AVal.int IntKind.i64 ((2 : Int) + n),
                                                                  AVal.int IntKind.i64
                                                                    (0 :
                                                                      Int)])))))))))))))))))))))))))))))))) := by kernel_rfl

set_option maxRecDepth 100000 in
theorem w_rdec2_ft (s : List UInt8) (n k : Int) (v42_1 v41_2 v40_3 v39_4 v38_5 v37_6 v36_7 v35_9 v34_10 v33_11 v32_13 v31_14 v5_15 v30_16 v29_17 v28_18 v27_19 v26_20 v25_21 v24_22 v23_23 v21_24 v20_25 v19_26 v17_27 v16_28 v13_29 v15_30 v13_31 v14_32 v13_33 v13_34 v12_35 v11_36 : AVal) (K : Out → Prop) : (wpC (TD.ctx Try.prog) 93 16 0 (tailN 7 (bodyC Try.f16)) ((8, .ptr 10 0 0 0) :: (42, v42_1) :: (41, v41_2) :: (40, v40_3) :: (39, v39_4) :: (38, v38_5) :: (37, v37_6) :: (36, v36_7) :: (7, .int .i64 k) :: (35, v35_9) :: (34, v34_10) :: (33, v33_11) :: (6, .int .i64 n) :: (32, v32_13) :: (31, v31_14) :: (5, v5_15) :: (30, v30_16) :: (29, v29_17) :: (28, v28_18) :: (27, v27_19) :: (26, v26_20) :: (25, v25_21) :: (24, v24_22) :: (23, v23_23) :: (21, v21_24) :: (20, v20_25) :: (19, v19_26) :: (17, v17_27) :: (16, v16_28) :: (13, v13_29) :: (15, v15_30) :: (13, v13_31) :: (14, v14_32) :: (13, v13_33) :: (13, v13_34) :: (12, v12_35) :: (11, v11_36) :: (4, .int .i64 0) :: (3, .int .i64 0) :: (2, .ptr 0 0 0 0) :: (0, .str s) :: []) ⟨11, [(10, .cells 27 [.bool false, .bool true, .int .i64 0, .int .i64 0, .int .i64 0, .int .i64 0, .str [], .str [], .str []]), (10, .cells 27 [.bool false, .bool false, .int .i64 0, .int .i64 0, .int .i64 0, .int .i64 0, .str [], .str [], .str []]), (0, .cells 27 [.bool false, .bool false, .int .i64 0, .int .i64 0, .int .i64 0, .int .i64 0, .str [], .str [], .str []])]⟩ (endA (TD.ctx Try.prog).P Try.f16 (fun o _ => K o))
) = (obl (inI64 ((2 : Int) + n))
  (branch (decide ((↑s.length : Int) < (2 : Int) + n))
    (K
      (Out.ret
        (AVal.tup
          [AVal.agg
              [AVal.bool false, AVal.bool false, AVal.int IntKind.i64 (0 : Int), AVal.int IntKind.i64 (0 : Int),
                AVal.int IntKind.i64 (0 : Int), AVal.int IntKind.i64 (0 : Int), AVal.str [], AVal.str [], AVal.str []],
            AVal.int IntKind.i64 (0 : Int), AVal.int IntKind.i64 (4 : Int)])))
    (branch (!decide (k = (3 : Int)))
      (K
        (Out.ret
          (AVal.tup
            [AVal.agg
                [AVal.bool false, AVal.bool false, AVal.int IntKind.i64 (0 : Int), AVal.int IntKind.i64 (0 : Int),
                  AVal.int IntKind.i64 (0 : Int), AVal.int IntKind.i64 (0 : Int), AVal.str [], AVal.str [],
                  AVal.str []],
              AVal.int IntKind.i64 (0 : Int), AVal.int IntKind.i64 (4 : Int)])))
      (obl (inI64 ((2 : Int) + n))
        (obl (decide ((0 : Int) ≤ (2 : Int) ∧ (2 : Int) ≤ (2 : Int) + n ∧ (2 : Int) + n ≤ (↑s.length : Int)))
          (branch (decide ((↑(List.drop (2 : Nat) (List.take ((2 : Int) + n).toNat s)).length : Int) < (1 : Int)))
            (K
              (Out.ret
                (AVal.tup
                  [AVal.agg
                      [AVal.bool false, AVal.bool false, AVal.int IntKind.i64 (0 : Int), AVal.int IntKind.i64 (0 : Int),
                        AVal.int IntKind.i64 (0 : Int), AVal.int IntKind.i64 (0 : Int), AVal.str [], AVal.str [],
                        AVal.str []],
                    AVal.int IntKind.i64 (0 : Int), AVal.int IntKind.i64 (4 : Int)])))
            (obl
              (decide
                ((0 : Int) ≤ (0 : Int) ∧
                  (0 : Int) < (↑(List.drop (2 : Nat) (List.take ((2 : Int) + n).toNat s)).length : Int)))
              (obl
                (inI64
                  (↑((List.drop (2 : Nat) (List.take ((2 : Int) + n).toNat s)).getD (0 : Nat) (0 : UInt8)).toNat : Int))
                (obl
                  (decide
                    ((0 : Int) ≤ (1 : Int) ∧
                      (1 : Int) ≤ (↑(List.drop (2 : Nat) (List.take ((2 : Int) + n).toNat s)).length : Int)))
                  (branch
                    (decide
                      ((↑(List.drop (1 : Nat) (List.drop (2 : Nat) (List.take ((2 : Int) + n).toNat s))).length : Int) <
                        (4 : Int)))
                    (K
                      (Out.ret
                        (AVal.tup
                          [AVal.agg
                              [AVal.bool false, AVal.bool false, AVal.int IntKind.i64 (0 : Int),
                                AVal.int IntKind.i64 (0 : Int), AVal.int IntKind.i64 (0 : Int),
                                AVal.int IntKind.i64 (0 : Int), AVal.str [], AVal.str [], AVal.str []],
                            AVal.int IntKind.i64 (0 : Int), AVal.int IntKind.i64 (4 : Int)])))
                    (obl
                      (inI64
                        ((↑(List.drop (1 : Nat) (List.drop (2 : Nat) (List.take ((2 : Int) + n).toNat s))).length :
                            Int) -
                          (4 : Int)))
                      (obl
                        (decide
                          ((0 : Int) ≤
                              (↑(List.drop (1 : Nat) (List.drop (2 : Nat) (List.take ((2 : Int) + n).toNat s))).length :
                                  Int) -
                                (4 : Int) ∧
                            (↑(List.drop (1 : Nat) (List.drop (2 : Nat) (List.take ((2 : Int) + n).toNat s))).length :
                                  Int) -
                                (4 : Int) ≤
                              (↑(List.drop (1 : Nat) (List.drop (2 : Nat) (List.take ((2 : Int) + n).toNat s))).length :
                                Int)))
                        (obl
                          (inI64
                            ((↑(List.drop (1 : Nat) (List.drop (2 : Nat) (List.take ((2 : Int) + n).toNat s))).length :
                                Int) -
                              (4 : Int)))
                          (obl
                            (decide
                              ((0 : Int) ≤
                                  (↑(List.drop (1 : Nat)
                                            (List.drop (2 : Nat) (List.take ((2 : Int) + n).toNat s))).length :
                                      Int) -
                                    (4 : Int) ∧
                                (↑(List.drop (1 : Nat)
                                            (List.drop (2 : Nat) (List.take ((2 : Int) + n).toNat s))).length :
                                      Int) -
                                    (4 : Int) ≤
                                  (↑(List.drop (1 : Nat)
                                          (List.drop (2 : Nat) (List.take ((2 : Int) + n).toNat s))).length :
                                    Int)))
                            (obl (inI64 ((2 : Int) + n))
                              (K
                                (Out.ret
                                  (AVal.tup
                                    [AVal.agg
                                        [AVal.bool false, AVal.bool true,
                                          AVal.int IntKind.i64
                                            (↑((List.drop (2 : Nat) (List.take ((2 : Int) + n).toNat s)).getD (0 : Nat)
                                                    (0 : UInt8)).toNat :
                                              Int),
                                          AVal.int IntKind.i64 (0 : Int), AVal.int IntKind.i64 (0 : Int),
                                          AVal.int IntKind.i64 (0 : Int), AVal.str [],
                                          AVal.str
                                            (List.take
                                              ((↑(List.drop (1 : Nat)
                                                          (List.drop (2 : Nat)
                                                            (List.take ((2 : Int) + n).toNat s))).length :
                                                    Int) -
                                                  (4 : Int)).toNat
                                              (List.drop (1 : Nat)
                                                (List.drop (2 : Nat) (List.take ((2 : Int) + n).toNat s)))),
                                          AVal.str
                                            (List.drop
                                              ((↑(List.drop (1 : Nat)
                                                          (List.drop (2 : Nat)
                                                            (List.take ((2 : Int) + n).toNat s))).length :
                                                    Int) -
                                                  (4 : Int)).toNat
                                              (List.drop (1 : Nat)
                                                (List.drop (2 : Nat) (List.take ((2 : Int) + n).toNat s))))],
                                      AVal.int IntKind.i64 ((2 : Int) + n),
                                      AVal.int IntKind.i64 (0 : Int)])))))))))))))))))) := by kernel_rfl

set_option maxRecDepth 100000 in
theorem w_rdec2_ff (s : List UInt8) (n k : Int) (v42_1 v41_2 v40_3 v39_4 v38_5 v37_6 v36_7 v35_9 v34_10 v33_11 v32_13 v31_14 v5_15 v30_16 v29_17 v28_18 v27_19 v26_20 v25_21 v24_22 v23_23 v21_24 v20_25 v19_26 v17_27 v16_28 v13_29 v15_30 v13_31 v14_32 v13_33 v13_34 v12_35 v11_36 : AVal) (K : Out → Prop) : (wpC (TD.ctx Try.prog) 93 16 0 (tailN 7 (bodyC Try.f16)) ((8, .ptr 10 0 0 0) :: (42, v42_1) :: (41, v41_2) :: (40, v40_3) :: (39, v39_4) :: (38, v38_5) :: (37, v37_6) :: (36, v36_7) :: (7, .int .i64 k) :: (35, v35_9) :: (34, v34_10) :: (33, v33_11) :: (6, .int .i64 n) :: (32, v32_13) :: (31, v31_14) :: (5, v5_15) :: (30, v30_16) :: (29, v29_17) :: (28, v28_18) :: (27, v27_19) :: (26, v26_20) :: (25, v25_21) :: (24, v24_22) :: (23, v23_23) :: (21, v21_24) :: (20, v20_25) :: (19, v19_26) :: (17, v17_27) :: (16, v16_28) :: (13, v13_29) :: (15, v15_30) :: (13, v13_31) :: (14, v14_32) :: (13, v13_33) :: (13, v13_34) :: (12, v12_35) :: (11, v11_36) :: (4, .int .i64 0) :: (3, .int .i64 0) :: (2, .ptr 0 0 0 0) :: (0, .str s) :: []) ⟨11, [(10, .cells 27 [.bool false, .bool false, .int .i64 0, .int .i64 0, .int .i64 0, .int .i64 0, .str [], .str [], .str []]), (10, .cells 27 [.bool false, .bool false, .int .i64 0, .int .i64 0, .int .i64 0, .int .i64 0, .str [], .str [], .str []]), (0, .cells 27 [.bool false, .bool false, .int .i64 0, .int .i64 0, .int .i64 0, .int .i64 0, .str [], .str [], .str []])]⟩ (endA (TD.ctx Try.prog).P Try.f16 (fun o _ => K o))
) = (obl (inI64 ((2 : Int) + n))
  (branch (decide ((↑s.length : Int) < (2 : Int) + n))
    (K
      (Out.ret
        (AVal.tup
          [AVal.agg
              [AVal.bool false, AVal.bool false, AVal.int IntKind.i64 (0 : Int), AVal.int IntKind.i64 (0 : Int),
                AVal.int IntKind.i64 (0 : Int), AVal.int IntKind.i64 (0 : Int), AVal.str [], AVal.str [], AVal.str []],
            AVal.int IntKind.i64 (0 : Int), AVal.int IntKind.i64 (4 : Int)])))
    (branch (!decide (k = (3 : Int)))
      (K
        (Out.ret
          (AVal.tup
            [AVal.agg
                [AVal.bool false, AVal.bool false, AVal.int IntKind.i64 (0 : Int), AVal.int IntKind.i64 (0 : Int),
                  AVal.int IntKind.i64 (0 : Int), AVal.int IntKind.i64 (0 : Int), AVal.str [], AVal.str [],
                  AVal.str []],
              AVal.int IntKind.i64 (0 : Int), AVal.int IntKind.i64 (4 : Int)])))
      (obl (inI64 ((2 : Int) + n))
        (obl (decide ((0 : Int) ≤ (2 : Int) ∧ (2 : Int) ≤ (2 : Int) + n ∧ (2 : Int) + n ≤ (↑s.length : Int)))
          (branch (decide ((↑(List.drop (2 : Nat) (List.take ((2 : Int) + n).toNat s)).length : Int) < (1 : Int)))
            (K
              (Out.ret
                (AVal.tup
                  [AVal.agg
                      [AVal.bool false, AVal.bool false, AVal.int IntKind.i64 (0 : Int), AVal.int IntKind.i64 (0 : Int),
                        AVal.int IntKind.i64 (0 : Int), AVal.int IntKind.i64 (0 : Int), AVal.str [], AVal.str [],
                        AVal.str []],
                    AVal.int IntKind.i64 (0 : Int), AVal.int IntKind.i64 (4 : Int)])))
            (obl
              (decide
                ((0 : Int) ≤ (0 : Int) ∧
                  (0 : Int) < (↑(List.drop (2 : Nat) (List.take ((2 : Int) + n).toNat s)).length : Int)))
              (obl
                (inI64
                  (↑((List.drop (2 : Nat) (List.take ((2 : Int) + n).toNat s)).getD (0 : Nat) (0 : UInt8)).toNat : Int))
                (obl
                  (decide
                    ((0 : Int) ≤ (1 : Int) ∧
                      (1 : Int) ≤ (↑(List.drop (2 : Nat) (List.take ((2 : Int) + n).toNat s)).length : Int)))
                  (obl (inI64 ((2 : Int) + n))
                    (K
                      (Out.ret
                        (AVal.tup
                          [AVal.agg
                              [AVal.bool false, AVal.bool false,
                                AVal.int IntKind.i64
                                  (↑((List.drop (2 : Nat) (List.take ((2 : Int) + n).toNat s)).getD (0 : Nat)
                                          (0 : UInt8)).toNat :
                                    Int),
                                AVal.int IntKind.i64 (0 : Int), AVal.int IntKind.i64 (0 : Int),
                                AVal.int IntKind.i64 (0 : Int), AVal.str [],
                                AVal.str
                                  (List.drop (1 : Nat) (List.drop (2 : Nat) (List.take ((2 : Int) + n).toNat s))),
                                AVal.str []],
                            AVal.int IntKind.i64 ((2 : Int) + n),
                            AVal.int IntKind.i64 (0 : Int)]))))))))))))) := by kernel_rfl

end Go.Proofs.Ytcbkenicjmhkdaa
