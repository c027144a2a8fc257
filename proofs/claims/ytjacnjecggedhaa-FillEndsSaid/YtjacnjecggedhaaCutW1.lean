/-
  Walks, printed: what calls come to, as they are reckoned.
-/
import Derived.Test.YtjacnjecggedhaaCutOk0
namespace Go.Proofs.Ytjacnjecggedhaa
set_option linter.unusedVariables false
set_option linter.unusedSimpArgs false
open Go.RowKit Ev

set_option maxRecDepth 100000 in
theorem w_next (typ k at_ id lk space : Int) (b data lb : List UInt8) (whole : Bool) (K : Out → Prop) : (callC (TC0.ctx Try.prog) 100 78 [.agg [.int .i64 typ, .int .i64 k, .str b, .str data, .int .i64 at_, .int .i64 id], .agg [.int .i64 lk, .str lb], .int .i64 space, .bool whole] ⟨0, []⟩ (fun o _ => K o)
) = (branch (!cMay typ k b data at_ id)
  (K
    (Out.ret
      (AVal.tup
        [AVal.agg
            [AVal.bool false, AVal.bool false, AVal.int IntKind.i64 (0 : Int), AVal.int IntKind.i64 (0 : Int),
              AVal.int IntKind.i64 (0 : Int), AVal.int IntKind.i64 (0 : Int), AVal.str [], AVal.str [], AVal.str []],
          AVal.agg
            [AVal.int IntKind.i64 typ, AVal.int IntKind.i64 k, AVal.str b, AVal.str data, AVal.int IntKind.i64 at_,
              AVal.int IntKind.i64 id],
          AVal.int IntKind.i64 (2 : Int)])))
  (branch (!decide ((if lOk lk lb = true then (0 : Int) else (2 : Int)) = (0 : Int)))
    (K
      (Out.ret
        (AVal.tup
          [AVal.agg
              [AVal.bool false, AVal.bool false, AVal.int IntKind.i64 (0 : Int), AVal.int IntKind.i64 (0 : Int),
                AVal.int IntKind.i64 (0 : Int), AVal.int IntKind.i64 (0 : Int), AVal.str [], AVal.str [], AVal.str []],
            AVal.agg
              [AVal.int IntKind.i64 typ, AVal.int IntKind.i64 k, AVal.str b, AVal.str data, AVal.int IntKind.i64 at_,
                AVal.int IntKind.i64 id],
            AVal.int IntKind.i64 (2 : Int)])))
    (branch (decide (at_ = (0 : Int)))
      (branch (!(decide (lk = k) && (decide (lb = b) && true)))
        (branch (!decide (lk = (3 : Int)))
          (K
            (Out.ret
              (AVal.tup
                [AVal.agg
                    [AVal.bool false, AVal.bool false, AVal.int IntKind.i64 (0 : Int), AVal.int IntKind.i64 (0 : Int),
                      AVal.int IntKind.i64 (0 : Int), AVal.int IntKind.i64 (0 : Int), AVal.str [], AVal.str [],
                      AVal.str []],
                  AVal.agg
                    [AVal.int IntKind.i64 typ, AVal.int IntKind.i64 k, AVal.str b, AVal.str data,
                      AVal.int IntKind.i64 at_, AVal.int IntKind.i64 id],
                  AVal.int IntKind.i64 (2 : Int)])))
          (obl (inI64 ((↑data.length : Int) - at_))
            (branch (decide (at_ = (0 : Int)))
              (obl (inI64 (at_ + ((↑data.length : Int) - at_)))
                (obl (inI64 ((4 : Int) + lSize lk))
                  (obl (inI64 ((4 : Int) + lSize lk + ((↑data.length : Int) - at_)))
                    (branch
                      (decide
                        ((4 : Int) + lSize lk + ((↑data.length : Int) - at_) ≤ max (0 : Int) (min space (4097 : Int))))
                      (K
                        (Out.ret
                          (AVal.tup
                            [AVal.agg
                                [AVal.bool true, AVal.bool true, AVal.int IntKind.i64 (0 : Int),
                                  AVal.int IntKind.i64 (0 : Int), AVal.int IntKind.i64 typ, AVal.int IntKind.i64 lk,
                                  AVal.str lb, AVal.str data, AVal.str []],
                              AVal.agg
                                [AVal.int IntKind.i64 typ, AVal.int IntKind.i64 k, AVal.str b, AVal.str data,
                                  AVal.int IntKind.i64 (at_ + ((↑data.length : Int) - at_)), AVal.int IntKind.i64 id],
                              AVal.int IntKind.i64 (0 : Int)])))
                      (obl (inI64 (max (0 : Int) (min space (4097 : Int)) - (7 : Int)))
                        (obl (inI64 (max (0 : Int) (min space (4097 : Int)) - (7 : Int) - lSize lk))
                          (obl (inI64 ((↑data.length : Int) - at_ - (1 : Int)))
                            (branch whole
                              (K
                                (Out.ret
                                  (AVal.tup
                                    [AVal.agg
                                        [AVal.bool false, AVal.bool false, AVal.int IntKind.i64 (0 : Int),
                                          AVal.int IntKind.i64 (0 : Int), AVal.int IntKind.i64 (0 : Int),
                                          AVal.int IntKind.i64 (0 : Int), AVal.str [], AVal.str [], AVal.str []],
                                      AVal.agg
                                        [AVal.int IntKind.i64 typ, AVal.int IntKind.i64 k, AVal.str b, AVal.str data,
                                          AVal.int IntKind.i64 at_, AVal.int IntKind.i64 id],
                                      AVal.int IntKind.i64 (12 : Int)])))
                              (branch
                                (decide
                                  (min (max (0 : Int) (min space (4097 : Int)) - (7 : Int) - lSize lk)
                                      ((↑data.length : Int) - at_ - (1 : Int)) <
                                    (1 : Int)))
                                (K
                                  (Out.ret
                                    (AVal.tup
                                      [AVal.agg
                                          [AVal.bool false, AVal.bool false, AVal.int IntKind.i64 (0 : Int),
                                            AVal.int IntKind.i64 (0 : Int), AVal.int IntKind.i64 (0 : Int),
                                            AVal.int IntKind.i64 (0 : Int), AVal.str [], AVal.str [], AVal.str []],
                                        AVal.agg
                                          [AVal.int IntKind.i64 typ, AVal.int IntKind.i64 k, AVal.str b, AVal.str data,
                                            AVal.int IntKind.i64 at_, AVal.int IntKind.i64 id],
                                        AVal.int IntKind.i64 (12 : Int)])))
                                (obl
                                  (inI64
                                    (at_ +
                                      min (max (0 : Int) (min space (4097 : Int)) - (7 : Int) - lSize lk)
                                        ((↑data.length : Int) - at_ - (1 : Int))))
                                  (obl
                                    (decide
                                      ((0 : Int) ≤
                                          min (max (0 : Int) (min space (4097 : Int)) - (7 : Int) - lSize lk)
                                            ((↑data.length : Int) - at_ - (1 : Int)) ∧
                                        min (max (0 : Int) (min space (4097 : Int)) - (7 : Int) - lSize lk)
                                            ((↑data.length : Int) - at_ - (1 : Int)) ≤
                                          (↑data.length : Int)))
                                    (K
                                      (Out.ret
                                        (AVal.tup
                                          [AVal.agg
                                              [AVal.bool true, AVal.bool false, AVal.int IntKind.i64 id,
                                                AVal.int IntKind.i64 (pTotal lk lb ((↑data.length : Int) - at_)),
                                                AVal.int IntKind.i64 typ, AVal.int IntKind.i64 lk, AVal.str lb,
                                                AVal.str
                                                  (List.take
                                                    (min (max (0 : Int) (min space (4097 : Int)) - (7 : Int) - lSize lk)
                                                        ((↑data.length : Int) - at_ - (1 : Int))).toNat
                                                    data),
                                                AVal.str []],
                                            AVal.agg
                                              [AVal.int IntKind.i64 typ, AVal.int IntKind.i64 lk, AVal.str lb,
                                                AVal.str data,
                                                AVal.int IntKind.i64
                                                  (at_ +
                                                    min (max (0 : Int) (min space (4097 : Int)) - (7 : Int) - lSize lk)
                                                      ((↑data.length : Int) - at_ - (1 : Int))),
                                                AVal.int IntKind.i64 id],
                                            AVal.int IntKind.i64 (0 : Int)]))))))))))))))
              (obl (inI64 ((7 : Int) + ((↑data.length : Int) - at_)))
                (branch (decide (max (0 : Int) (min space (4097 : Int)) < (7 : Int) + ((↑data.length : Int) - at_)))
                  (obl (inI64 (max (0 : Int) (min space (4097 : Int)) - (3 : Int)))
                    (obl (inI64 ((↑data.length : Int) - at_ - (1 : Int)))
                      (branch
                        (decide
                          (min (max (0 : Int) (min space (4097 : Int)) - (3 : Int))
                              ((↑data.length : Int) - at_ - (1 : Int)) <
                            (1 : Int)))
                        (K
                          (Out.ret
                            (AVal.tup
                              [AVal.agg
                                  [AVal.bool false, AVal.bool false, AVal.int IntKind.i64 (0 : Int),
                                    AVal.int IntKind.i64 (0 : Int), AVal.int IntKind.i64 (0 : Int),
                                    AVal.int IntKind.i64 (0 : Int), AVal.str [], AVal.str [], AVal.str []],
                                AVal.agg
                                  [AVal.int IntKind.i64 typ, AVal.int IntKind.i64 k, AVal.str b, AVal.str data,
                                    AVal.int IntKind.i64 at_, AVal.int IntKind.i64 id],
                                AVal.int IntKind.i64 (12 : Int)])))
                        (obl
                          (inI64
                            (at_ +
                              min (max (0 : Int) (min space (4097 : Int)) - (3 : Int))
                                ((↑data.length : Int) - at_ - (1 : Int))))
                          (obl
                            (decide
                              ((0 : Int) ≤ at_ ∧
                                at_ ≤
                                    at_ +
                                      min (max (0 : Int) (min space (4097 : Int)) - (3 : Int))
                                        ((↑data.length : Int) - at_ - (1 : Int)) ∧
                                  at_ +
                                      min (max (0 : Int) (min space (4097 : Int)) - (3 : Int))
                                        ((↑data.length : Int) - at_ - (1 : Int)) ≤
                                    (↑data.length : Int)))
                            (obl
                              (inI64
                                (at_ +
                                  min (max (0 : Int) (min space (4097 : Int)) - (3 : Int))
                                    ((↑data.length : Int) - at_ - (1 : Int))))
                              (K
                                (Out.ret
                                  (AVal.tup
                                    [AVal.agg
                                        [AVal.bool false, AVal.bool false, AVal.int IntKind.i64 id,
                                          AVal.int IntKind.i64 (0 : Int), AVal.int IntKind.i64 (0 : Int),
                                          AVal.int IntKind.i64 (0 : Int), AVal.str [],
                                          AVal.str
                                            (List.drop at_.toNat
                                              (List.take
                                                (at_ +
                                                    min (max (0 : Int) (min space (4097 : Int)) - (3 : Int))
                                                      ((↑data.length : Int) - at_ - (1 : Int))).toNat
                                                data)),
                                          AVal.str []],
                                      AVal.agg
                                        [AVal.int IntKind.i64 typ, AVal.int IntKind.i64 k, AVal.str b, AVal.str data,
                                          AVal.int IntKind.i64
                                            (at_ +
                                              min (max (0 : Int) (min space (4097 : Int)) - (3 : Int))
                                                ((↑data.length : Int) - at_ - (1 : Int))),
                                          AVal.int IntKind.i64 id],
                                      AVal.int IntKind.i64 (0 : Int)])))))))))
                  (obl (decide (data.length ≤ (9223372036854775000 : Nat)))
                    (obl (decide ((0 : Int) ≤ at_ ∧ at_ ≤ (↑data.length : Int)))
                      (obl (inI64 (at_ + ((↑data.length : Int) - at_)))
                        (branch (decide (pErr typ k b (↑data.length : Int) = (0 : Int)))
                          (K
                            (Out.ret
                              (AVal.tup
                                [AVal.agg
                                    [AVal.bool false, AVal.bool true, AVal.int IntKind.i64 id,
                                      AVal.int IntKind.i64 (0 : Int), AVal.int IntKind.i64 (0 : Int),
                                      AVal.int IntKind.i64 (0 : Int), AVal.str [], AVal.str (List.drop at_.toNat data),
                                      AVal.str (pSum typ k b data)],
                                  AVal.agg
                                    [AVal.int IntKind.i64 typ, AVal.int IntKind.i64 k, AVal.str b, AVal.str data,
                                      AVal.int IntKind.i64 (at_ + ((↑data.length : Int) - at_)),
                                      AVal.int IntKind.i64 id],
                                  AVal.int IntKind.i64 (0 : Int)])))
                          (obl (inI64 (max (0 : Int) (min space (4097 : Int)) - (3 : Int)))
                            (obl (inI64 ((↑data.length : Int) - at_ - (1 : Int)))
                              (branch
                                (decide
                                  (min (max (0 : Int) (min space (4097 : Int)) - (3 : Int))
                                      ((↑data.length : Int) - at_ - (1 : Int)) <
                                    (1 : Int)))
                                (K
                                  (Out.ret
                                    (AVal.tup
                                      [AVal.agg
                                          [AVal.bool false, AVal.bool false, AVal.int IntKind.i64 (0 : Int),
                                            AVal.int IntKind.i64 (0 : Int), AVal.int IntKind.i64 (0 : Int),
                                            AVal.int IntKind.i64 (0 : Int), AVal.str [], AVal.str [], AVal.str []],
                                        AVal.agg
                                          [AVal.int IntKind.i64 typ, AVal.int IntKind.i64 k, AVal.str b, AVal.str data,
                                            AVal.int IntKind.i64 at_, AVal.int IntKind.i64 id],
                                        AVal.int IntKind.i64 (12 : Int)])))
                                (obl
                                  (inI64
                                    (at_ +
                                      min (max (0 : Int) (min space (4097 : Int)) - (3 : Int))
                                        ((↑data.length : Int) - at_ - (1 : Int))))
                                  (obl
                                    (decide
                                      ((0 : Int) ≤ at_ ∧
                                        at_ ≤
                                            at_ +
                                              min (max (0 : Int) (min space (4097 : Int)) - (3 : Int))
                                                ((↑data.length : Int) - at_ - (1 : Int)) ∧
                                          at_ +
                                              min (max (0 : Int) (min space (4097 : Int)) - (3 : Int))
                                                ((↑data.length : Int) - at_ - (1 : Int)) ≤
                                            (↑data.length : Int)))
                                    (obl
                                      (inI64
                                        (at_ +
                                          min (max (0 : Int) (min space (4097 : Int)) - (3 : Int))
                                            ((↑data.length : Int) - at_ - (1 : Int))))
                                      (K
                                        (Out.ret
                                          (AVal.tup
                                            [AVal.agg
                                                [AVal.bool false, AVal.bool false, AVal.int IntKind.i64 id,
                                                  AVal.int IntKind.i64 (0 : Int), AVal.int IntKind.i64 (0 : Int),
                                                  AVal.int IntKind.i64 (0 : Int), AVal.str [],
                                                  AVal.str
                                                    (List.drop at_.toNat
                                                      (List.take
                                                        (at_ +
                                                            min (max (0 : Int) (min space (4097 : Int)) - (3 : Int))
                                                              ((↑data.length : Int) - at_ - (1 : Int))).toNat
                                                        data)),
                                                  AVal.str []],
                                              AVal.agg
                                                [AVal.int IntKind.i64 typ, AVal.int IntKind.i64 k, AVal.str b,
                                                  AVal.str data,
                                                  AVal.int IntKind.i64
                                                    (at_ +
                                                      min (max (0 : Int) (min space (4097 : Int)) - (3 : Int))
                                                        ((↑data.length : Int) - at_ - (1 : Int))),
                                                  AVal.int IntKind.i64 id],
                                              AVal.int IntKind.i64 (0 : Int)]))))))))))))))))))
        (obl (inI64 ((↑data.length : Int) - at_))
          (branch (decide (at_ = (0 : Int)))
            (obl (inI64 (at_ + ((↑data.length : Int) - at_)))
              (obl (inI64 ((4 : Int) + lSize lk))
                (obl (inI64 ((4 : Int) + lSize lk + ((↑data.length : Int) - at_)))
                  (branch
                    (decide
                      ((4 : Int) + lSize lk + ((↑data.length : Int) - at_) ≤ max (0 : Int) (min space (4097 : Int))))
                    (K
                      (Out.ret
                        (AVal.tup
                          [AVal.agg
                              [AVal.bool true, AVal.bool true, AVal.int IntKind.i64 (0 : Int),
                                AVal.int IntKind.i64 (0 : Int), AVal.int IntKind.i64 typ, AVal.int IntKind.i64 lk,
                                AVal.str lb, AVal.str data, AVal.str []],
                            AVal.agg
                              [AVal.int IntKind.i64 typ, AVal.int IntKind.i64 k, AVal.str b, AVal.str data,
                                AVal.int IntKind.i64 (at_ + ((↑data.length : Int) - at_)), AVal.int IntKind.i64 id],
                            AVal.int IntKind.i64 (0 : Int)])))
                    (obl (inI64 (max (0 : Int) (min space (4097 : Int)) - (7 : Int)))
                      (obl (inI64 (max (0 : Int) (min space (4097 : Int)) - (7 : Int) - lSize lk))
                        (obl (inI64 ((↑data.length : Int) - at_ - (1 : Int)))
                          (branch whole
                            (K
                              (Out.ret
                                (AVal.tup
                                  [AVal.agg
                                      [AVal.bool false, AVal.bool false, AVal.int IntKind.i64 (0 : Int),
                                        AVal.int IntKind.i64 (0 : Int), AVal.int IntKind.i64 (0 : Int),
                                        AVal.int IntKind.i64 (0 : Int), AVal.str [], AVal.str [], AVal.str []],
                                    AVal.agg
                                      [AVal.int IntKind.i64 typ, AVal.int IntKind.i64 k, AVal.str b, AVal.str data,
                                        AVal.int IntKind.i64 at_, AVal.int IntKind.i64 id],
                                    AVal.int IntKind.i64 (12 : Int)])))
                            (branch
                              (decide
                                (min (max (0 : Int) (min space (4097 : Int)) - (7 : Int) - lSize lk)
                                    ((↑data.length : Int) - at_ - (1 : Int)) <
                                  (1 : Int)))
                              (K
                                (Out.ret
                                  (AVal.tup
                                    [AVal.agg
                                        [AVal.bool false, AVal.bool false, AVal.int IntKind.i64 (0 : Int),
                                          AVal.int IntKind.i64 (0 : Int), AVal.int IntKind.i64 (0 : Int),
                                          AVal.int IntKind.i64 (0 : Int), AVal.str [], AVal.str [], AVal.str []],
                                      AVal.agg
                                        [AVal.int IntKind.i64 typ, AVal.int IntKind.i64 k, AVal.str b, AVal.str data,
                                          AVal.int IntKind.i64 at_, AVal.int IntKind.i64 id],
                                      AVal.int IntKind.i64 (12 : Int)])))
                              (obl
                                (inI64
                                  (at_ +
                                    min (max (0 : Int) (min space (4097 : Int)) - (7 : Int) - lSize lk)
                                      ((↑data.length : Int) - at_ - (1 : Int))))
                                (obl
                                  (decide
                                    ((0 : Int) ≤
                                        min (max (0 : Int) (min space (4097 : Int)) - (7 : Int) - lSize lk)
                                          ((↑data.length : Int) - at_ - (1 : Int)) ∧
                                      min (max (0 : Int) (min space (4097 : Int)) - (7 : Int) - lSize lk)
                                          ((↑data.length : Int) - at_ - (1 : Int)) ≤
                                        (↑data.length : Int)))
                                  (K
                                    (Out.ret
                                      (AVal.tup
                                        [AVal.agg
                                            [AVal.bool true, AVal.bool false, AVal.int IntKind.i64 id,
                                              AVal.int IntKind.i64 (pTotal lk lb ((↑data.length : Int) - at_)),
                                              AVal.int IntKind.i64 typ, AVal.int IntKind.i64 lk, AVal.str lb,
                                              AVal.str
                                                (List.take
                                                  (min (max (0 : Int) (min space (4097 : Int)) - (7 : Int) - lSize lk)
                                                      ((↑data.length : Int) - at_ - (1 : Int))).toNat
                                                  data),
                                              AVal.str []],
                                          AVal.agg
                                            [AVal.int IntKind.i64 typ, AVal.int IntKind.i64 lk, AVal.str lb,
                                              AVal.str data,
                                              AVal.int IntKind.i64
                                                (at_ +
                                                  min (max (0 : Int) (min space (4097 : Int)) - (7 : Int) - lSize lk)
                                                    ((↑data.length : Int) - at_ - (1 : Int))),
                                              AVal.int IntKind.i64 id],
                                          AVal.int IntKind.i64 (0 : Int)]))))))))))))))
            (obl (inI64 ((7 : Int) + ((↑data.length : Int) - at_)))
              (branch (decide (max (0 : Int) (min space (4097 : Int)) < (7 : Int) + ((↑data.length : Int) - at_)))
                (obl (inI64 (max (0 : Int) (min space (4097 : Int)) - (3 : Int)))
                  (obl (inI64 ((↑data.length : Int) - at_ - (1 : Int)))
                    (branch
                      (decide
                        (min (max (0 : Int) (min space (4097 : Int)) - (3 : Int))
                            ((↑data.length : Int) - at_ - (1 : Int)) <
                          (1 : Int)))
                      (K
                        (Out.ret
                          (AVal.tup
                            [AVal.agg
                                [AVal.bool false, AVal.bool false, AVal.int IntKind.i64 (0 : Int),
                                  AVal.int IntKind.i64 (0 : Int), AVal.int IntKind.i64 (0 : Int),
                                  AVal.int IntKind.i64 (0 : Int), AVal.str [], AVal.str [], AVal.str []],
                              AVal.agg
                                [AVal.int IntKind.i64 typ, AVal.int IntKind.i64 k, AVal.str b, AVal.str data,
                                  AVal.int IntKind.i64 at_, AVal.int IntKind.i64 id],
                              AVal.int IntKind.i64 (12 : Int)])))
                      (obl
                        (inI64
                          (at_ +
                            min (max (0 : Int) (min space (4097 : Int)) - (3 : Int))
                              ((↑data.length : Int) - at_ - (1 : Int))))
                        (obl
                          (decide
                            ((0 : Int) ≤ at_ ∧
                              at_ ≤
                                  at_ +
                                    min (max (0 : Int) (min space (4097 : Int)) - (3 : Int))
                                      ((↑data.length : Int) - at_ - (1 : Int)) ∧
                                at_ +
                                    min (max (0 : Int) (min space (4097 : Int)) - (3 : Int))
                                      ((↑data.length : Int) - at_ - (1 : Int)) ≤
                                  (↑data.length : Int)))
                          (obl
                            (inI64
                              (at_ +
                                min (max (0 : Int) (min space (4097 : Int)) - (3 : Int))
                                  ((↑data.length : Int) - at_ - (1 : Int))))
                            (K
                              (Out.ret
                                (AVal.tup
                                  [AVal.agg
                                      [AVal.bool false, AVal.bool false, AVal.int IntKind.i64 id,
                                        AVal.int IntKind.i64 (0 : Int), AVal.int IntKind.i64 (0 : Int),
                                        AVal.int IntKind.i64 (0 : Int), AVal.str [],
                                        AVal.str
                                          (List.drop at_.toNat
                                            (List.take
                                              (at_ +
                                                  min (max (0 : Int) (min space (4097 : Int)) - (3 : Int))
                                                    ((↑data.length : Int) - at_ - (1 : Int))).toNat
                                              data)),
                                        AVal.str []],
                                    AVal.agg
                                      [AVal.int IntKind.i64 typ, AVal.int IntKind.i64 k, AVal.str b, AVal.str data,
                                        AVal.int IntKind.i64
                                          (at_ +
                                            min (max (0 : Int) (min space (4097 : Int)) - (3 : Int))
                                              ((↑data.length : Int) - at_ - (1 : Int))),
                                        AVal.int IntKind.i64 id],
                                    AVal.int IntKind.i64 (0 : Int)])))))))))
                (obl (decide (data.length ≤ (9223372036854775000 : Nat)))
                  (obl (decide ((0 : Int) ≤ at_ ∧ at_ ≤ (↑data.length : Int)))
                    (obl (inI64 (at_ + ((↑data.length : Int) - at_)))
                      (branch (decide (pErr typ k b (↑data.length : Int) = (0 : Int)))
                        (K
                          (Out.ret
                            (AVal.tup
                              [AVal.agg
                                  [AVal.bool false, AVal.bool true, AVal.int IntKind.i64 id,
                                    AVal.int IntKind.i64 (0 : Int), AVal.int IntKind.i64 (0 : Int),
                                    AVal.int IntKind.i64 (0 : Int), AVal.str [], AVal.str (List.drop at_.toNat data),
                                    AVal.str (pSum typ k b data)],
                                AVal.agg
                                  [AVal.int IntKind.i64 typ, AVal.int IntKind.i64 k, AVal.str b, AVal.str data,
                                    AVal.int IntKind.i64 (at_ + ((↑data.length : Int) - at_)), AVal.int IntKind.i64 id],
                                AVal.int IntKind.i64 (0 : Int)])))
                        (obl (inI64 (max (0 : Int) (min space (4097 : Int)) - (3 : Int)))
                          (obl (inI64 ((↑data.length : Int) - at_ - (1 : Int)))
                            (branch
                              (decide
                                (min (max (0 : Int) (min space (4097 : Int)) - (3 : Int))
                                    ((↑data.length : Int) - at_ - (1 : Int)) <
                                  (1 : Int)))
                              (K
                                (Out.ret
                                  (AVal.tup
                                    [AVal.agg
                                        [AVal.bool false, AVal.bool false, AVal.int IntKind.i64 (0 : Int),
                                          AVal.int IntKind.i64 (0 : Int), AVal.int IntKind.i64 (0 : Int),
                                          AVal.int IntKind.i64 (0 : Int), AVal.str [], AVal.str [], AVal.str []],
                                      AVal.agg
                                        [AVal.int IntKind.i64 typ, AVal.int IntKind.i64 k, AVal.str b, AVal.str data,
                                          AVal.int IntKind.i64 at_, AVal.int IntKind.i64 id],
                                      AVal.int IntKind.i64 (12 : Int)])))
                              (obl
                                (inI64
                                  (at_ +
                                    min (max (0 : Int) (min space (4097 : Int)) - (3 : Int))
                                      ((↑data.length : Int) - at_ - (1 : Int))))
                                (obl
                                  (decide
                                    ((0 : Int) ≤ at_ ∧
                                      at_ ≤
                                          at_ +
                                            min (max (0 : Int) (min space (4097 : Int)) - (3 : Int))
                                              ((↑data.length : Int) - at_ - (1 : Int)) ∧
                                        at_ +
                                            min (max (0 : Int) (min space (4097 : Int)) - (3 : Int))
                                              ((↑data.length : Int) - at_ - (1 : Int)) ≤
                                          (↑data.length : Int)))
                                  (obl
                                    (inI64
                                      (at_ +
                                        min (max (0 : Int) (min space (4097 : Int)) - (3 : Int))
                                          ((↑data.length : Int) - at_ - (1 : Int))))
                                    (K
                                      (Out.ret
                                        (AVal.tup
                                          [AVal.agg
                                              [AVal.bool false, AVal.bool false, AVal.int IntKind.i64 id,
                                                AVal.int IntKind.i64 (0 : Int), AVal.int IntKind.i64 (0 : Int),
                                                AVal.int IntKind.i64 (0 : Int), AVal.str [],
                                                AVal.str
                                                  (List.drop at_.toNat
                                                    (List.take
                                                      (at_ +
                                                          min (max (0 : Int) (min space (4097 : Int)) - (3 : Int))
                                                            ((↑data.length : Int) - at_ - (1 : Int))).toNat
                                                      data)),
                                                AVal.str []],
                                            AVal.agg
                                              [AVal.int IntKind.i64 typ, AVal.int IntKind.i64 k, AVal.str b,
                                                AVal.str data,
                                                AVal.int IntKind.i64
                                                  (at_ +
                                                    min (max (0 : Int) (min space (4097 : Int)) - (3 : Int))
                                                      ((↑data.length : Int) - at_ - (1 : Int))),
                                                AVal.int IntKind.i64 id],
                                            AVal.int IntKind.i64 (0 : Int)]))))))))))))))))))
      (obl (inI64 ((↑data.length : Int) - at_))
        (branch (decide (at_ = (0 : Int)))
          (obl (inI64 (at_ + ((↑data.length : Int) - at_)))
            (obl (inI64 ((4 : Int) + lSize lk))
              (obl (inI64 ((4 : Int) + lSize lk + ((↑data.length : Int) - at_)))
                (branch
                  (decide
                    ((4 : Int) + lSize lk + ((↑data.length : Int) - at_) ≤ max (0 : Int) (min space (4097 : Int))))
                  (K
                    (Out.ret
                      (AVal.tup
                        [AVal.agg
                            [AVal.bool true, AVal.bool true, AVal.int IntKind.i64 (0 : Int),
                              AVal.int IntKind.i64 (0 : Int), AVal.int IntKind.i64 typ, AVal.int IntKind.i64 lk,
                              AVal.str lb, AVal.str data, AVal.str []],
                          AVal.agg
                            [AVal.int IntKind.i64 typ, AVal.int IntKind.i64 k, AVal.str b, AVal.str data,
                              AVal.int IntKind.i64 (at_ + ((↑data.length : Int) - at_)), AVal.int IntKind.i64 id],
                          AVal.int IntKind.i64 (0 : Int)])))
                  (obl (inI64 (max (0 : Int) (min space (4097 : Int)) - (7 : Int)))
                    (obl (inI64 (max (0 : Int) (min space (4097 : Int)) - (7 : Int) - lSize lk))
                      (obl (inI64 ((↑data.length : Int) - at_ - (1 : Int)))
                        (branch whole
                          (K
                            (Out.ret
                              (AVal.tup
                                [AVal.agg
                                    [AVal.bool false, AVal.bool false, AVal.int IntKind.i64 (0 : Int),
                                      AVal.int IntKind.i64 (0 : Int), AVal.int IntKind.i64 (0 : Int),
                                      AVal.int IntKind.i64 (0 : Int), AVal.str [], AVal.str [], AVal.str []],
                                  AVal.agg
                                    [AVal.int IntKind.i64 typ, AVal.int IntKind.i64 k, AVal.str b, AVal.str data,
                                      AVal.int IntKind.i64 at_, AVal.int IntKind.i64 id],
                                  AVal.int IntKind.i64 (12 : Int)])))
                          (branch
                            (decide
                              (min (max (0 : Int) (min space (4097 : Int)) - (7 : Int) - lSize lk)
                                  ((↑data.length : Int) - at_ - (1 : Int)) <
                                (1 : Int)))
                            (K
                              (Out.ret
                                (AVal.tup
                                  [AVal.agg
                                      [AVal.bool false, AVal.bool false, AVal.int IntKind.i64 (0 : Int),
                                        AVal.int IntKind.i64 (0 : Int), AVal.int IntKind.i64 (0 : Int),
                                        AVal.int IntKind.i64 (0 : Int), AVal.str [], AVal.str [], AVal.str []],
                                    AVal.agg
                                      [AVal.int IntKind.i64 typ, AVal.int IntKind.i64 k, AVal.str b, AVal.str data,
                                        AVal.int IntKind.i64 at_, AVal.int IntKind.i64 id],
                                    AVal.int IntKind.i64 (12 : Int)])))
                            (obl
                              (inI64
                                (at_ +
                                  min (max (0 : Int) (min space (4097 : Int)) - (7 : Int) - lSize lk)
                                    ((↑data.length : Int) - at_ - (1 : Int))))
                              (obl
                                (decide
                                  ((0 : Int) ≤
                                      min (max (0 : Int) (min space (4097 : Int)) - (7 : Int) - lSize lk)
                                        ((↑data.length : Int) - at_ - (1 : Int)) ∧
                                    min (max (0 : Int) (min space (4097 : Int)) - (7 : Int) - lSize lk)
                                        ((↑data.length : Int) - at_ - (1 : Int)) ≤
                                      (↑data.length : Int)))
                                (K
                                  (Out.ret
                                    (AVal.tup
                                      [AVal.agg
                                          [AVal.bool true, AVal.bool false, AVal.int IntKind.i64 id,
                                            AVal.int IntKind.i64 (pTotal lk lb ((↑data.length : Int) - at_)),
                                            AVal.int IntKind.i64 typ, AVal.int IntKind.i64 lk, AVal.str lb,
                                            AVal.str
                                              (List.take
                                                (min (max (0 : Int) (min space (4097 : Int)) - (7 : Int) - lSize lk)
                                                    ((↑data.length : Int) - at_ - (1 : Int))).toNat
                                                data),
                                            AVal.str []],
                                        AVal.agg
                                          [AVal.int IntKind.i64 typ, AVal.int IntKind.i64 lk, AVal.str lb,
                                            AVal.str data,
                                            AVal.int IntKind.i64
                                              (at_ +
                                                min (max (0 : Int) (min space (4097 : Int)) - (7 : Int) - lSize lk)
                                                  ((↑data.length : Int) - at_ - (1 : Int))),
                                            AVal.int IntKind.i64 id],
                                        AVal.int IntKind.i64 (0 : Int)]))))))))))))))
          (obl (inI64 ((7 : Int) + ((↑data.length : Int) - at_)))
            (branch (decide (max (0 : Int) (min space (4097 : Int)) < (7 : Int) + ((↑data.length : Int) - at_)))
              (obl (inI64 (max (0 : Int) (min space (4097 : Int)) - (3 : Int)))
                (obl (inI64 ((↑data.length : Int) - at_ - (1 : Int)))
                  (branch
                    (decide
                      (min (max (0 : Int) (min space (4097 : Int)) - (3 : Int))
                          ((↑data.length : Int) - at_ - (1 : Int)) <
                        (1 : Int)))
                    (K
                      (Out.ret
                        (AVal.tup
                          [AVal.agg
                              [AVal.bool false, AVal.bool false, AVal.int IntKind.i64 (0 : Int),
                                AVal.int IntKind.i64 (0 : Int), AVal.int IntKind.i64 (0 : Int),
                                AVal.int IntKind.i64 (0 : Int), AVal.str [], AVal.str [], AVal.str []],
                            AVal.agg
                              [AVal.int IntKind.i64 typ, AVal.int IntKind.i64 k, AVal.str b, AVal.str data,
                                AVal.int IntKind.i64 at_, AVal.int IntKind.i64 id],
                            AVal.int IntKind.i64 (12 : Int)])))
                    (obl
                      (inI64
                        (at_ +
                          min (max (0 : Int) (min space (4097 : Int)) - (3 : Int))
                            ((↑data.length : Int) - at_ - (1 : Int))))
                      (obl
                        (decide
                          ((0 : Int) ≤ at_ ∧
                            at_ ≤
                                at_ +
                                  min (max (0 : Int) (min space (4097 : Int)) - (3 : Int))
                                    ((↑data.length : Int) - at_ - (1 : Int)) ∧
                              at_ +
                                  min (max (0 : Int) (min space (4097 : Int)) - (3 : Int))
                                    ((↑data.length : Int) - at_ - (1 : Int)) ≤
                                (↑data.length : Int)))
                        (obl
                          (inI64
                            (at_ +
                              min (max (0 : Int) (min space (4097 : Int)) - (3 : Int))
                                ((↑data.length : Int) - at_ - (1 : Int))))
                          (K
                            (Out.ret
                              (AVal.tup
                                [AVal.agg
                                    [AVal.bool false, AVal.bool false, AVal.int IntKind.i64 id,
                                      AVal.int IntKind.i64 (0 : Int), AVal.int IntKind.i64 (0 : Int),
                                      AVal.int IntKind.i64 (0 : Int), AVal.str [],
                                      AVal.str
                                        (List.drop at_.toNat
                                          (List.take
                                            (at_ +
                                                min (max (0 : Int) (min space (4097 : Int)) - (3 : Int))
                                                  ((↑data.length : Int) - at_ - (1 : Int))).toNat
                                            data)),
                                      AVal.str []],
                                  AVal.agg
                                    [AVal.int IntKind.i64 typ, AVal.int IntKind.i64 k, AVal.str b, AVal.str data,
                                      AVal.int IntKind.i64
                                        (at_ +
                                          min (max (0 : Int) (min space (4097 : Int)) - (3 : Int))
                                            ((↑data.length : Int) - at_ - (1 : Int))),
                                      AVal.int IntKind.i64 id],
                                  AVal.int IntKind.i64 (0 : Int)])))))))))
              (obl (decide (data.length ≤ (9223372036854775000 : Nat)))
                (obl (decide ((0 : Int) ≤ at_ ∧ at_ ≤ (↑data.length : Int)))
                  (obl (inI64 (at_ + ((↑data.length : Int) - at_)))
                    (branch (decide (pErr typ k b (↑data.length : Int) = (0 : Int)))
                      (K
                        (Out.ret
                          (AVal.tup
                            [AVal.agg
                                [AVal.bool false, AVal.bool true, AVal.int IntKind.i64 id,
                                  AVal.int IntKind.i64 (0 : Int), AVal.int IntKind.i64 (0 : Int),
                                  AVal.int IntKind.i64 (0 : Int), AVal.str [], AVal.str (List.drop at_.toNat data),
                                  AVal.str (pSum typ k b data)],
                              AVal.agg
                                [AVal.int IntKind.i64 typ, AVal.int IntKind.i64 k, AVal.str b, AVal.str data,
                                  AVal.int IntKind.i64 (at_ + ((↑data.length : Int) - at_)), AVal.int IntKind.i64 id],
                              AVal.int IntKind.i64 (0 : Int)])))
                      (obl (inI64 (max (0 : Int) (min space (4097 : Int)) - (3 : Int)))
                        (obl (inI64 ((↑data.length : Int) - at_ - (1 : Int)))
                          (branch
                            (decide
                              (min (max (0 : Int) (min space (4097 : Int)) - (3 : Int))
                                  ((↑data.length : Int) - at_ - (1 : Int)) <
                                (1 : Int)))
                            (K
                              (Out.ret
                                (AVal.tup
                                  [AVal.agg
                                      [AVal.bool false, AVal.bool false, AVal.int IntKind.i64 (0 : Int),
                                        AVal.int IntKind.i64 (0 : Int), AVal.int IntKind.i64 (0 : Int),
                                        AVal.int IntKind.i64 (0 : Int), AVal.str [], AVal.str [], AVal.str []],
                                    AVal.agg
                                      [AVal.int IntKind.i64 typ, AVal.int IntKind.i64 k, AVal.str b, AVal.str data,
                                        AVal.int IntKind.i64 at_, AVal.int IntKind.i64 id],
                                    AVal.int IntKind.i64 (12 : Int)])))
                            (obl
                              (inI64
                                (at_ +
                                  min (max (0 : Int) (min space (4097 : Int)) - (3 : Int))
                                    ((↑data.length : Int) - at_ - (1 : Int))))
                              (obl
                                (decide
                                  ((0 : Int) ≤ at_ ∧
                                    at_ ≤
                                        at_ +
                                          min (max (0 : Int) (min space (4097 : Int)) - (3 : Int))
                                            ((↑data.length : Int) - at_ - (1 : Int)) ∧
                                      at_ +
                                          min (max (0 : Int) (min space (4097 : Int)) - (3 : Int))
                                            ((↑data.length : Int) - at_ - (1 : Int)) ≤
                                        (↑data.length : Int)))
                                (obl
                                  (inI64
                                    (at_ +
                                      min (max (0 : Int) (min space (4097 : Int)) - (3 : Int))
                                        ((↑data.length : Int) - at_ - (1 : Int))))
                                  (K
                                    (Out.ret
                                      (AVal.tup
                                        [AVal.agg
                                            [AVal.bool false, AVal.bool false, AVal.int IntKind.i64 id,
                                              AVal.int IntKind.i64 (0 : Int), AVal.int IntKind.i64 (0 : Int),
                                              AVal.int IntKind.i64 (0 : Int), AVal.str [],
                                              AVal.str
                                                (List.drop at_.toNat
                                                  (List.take
                                                    (at_ +
                                                        min (max (0 : Int) (min space (4097 : Int)) - (3 : Int))
                                                          ((↑data.length : Int) - at_ - (1 : Int))).toNat
                                                    data)),
                                              AVal.str []],
                                          AVal.agg
                                            [AVal.int IntKind.i64 typ, AVal.int IntKind.i64 k, AVal.str b,
                                              AVal.str data,
                                              AVal.int IntKind.i64
                                                (at_ +
                                                  min (max (0 : Int) (min space (4097 : Int)) - (3 : Int))
                                                    ((↑data.length : Int) - at_ - (1 : Int))),
                                              AVal.int IntKind.i64 id],
                                          AVal.int IntKind.i64 (0 : Int)])))))))))))))))))))) := by kernel_rfl

end Go.Proofs.Ytjacnjecggedhaa
