/-
  Walks, printed: what calls come to, as they are reckoned.
-/
import Derived.Test.YtcbkenicjmhkdaaGseR1
namespace Go.Proofs.Ytcbkenicjmhkdaa
set_option linter.unusedVariables false
set_option linter.unusedSimpArgs false
open Go.RowKit Ev

set_option maxRecDepth 100000 in
theorem w_rdec1 (s : List UInt8) (KK : Env → AHeap → Prop) (K : Out → Prop) : (wpN (TD.ctx Try.prog) 7 100 16 0 (bodyC Try.f16) (env0 [.str s] 0) ⟨0, []⟩ KK (endA Try.prog Try.f16 (fun o _ => K o))
) = (branch (decide (s = []))
  (K
    (Out.ret
      (AVal.tup
        [AVal.agg
            [AVal.bool false, AVal.bool false, AVal.int IntKind.i64 (0 : Int), AVal.int IntKind.i64 (0 : Int),
              AVal.int IntKind.i64 (0 : Int), AVal.int IntKind.i64 (0 : Int), AVal.str [], AVal.str [], AVal.str []],
          AVal.int IntKind.i64 (0 : Int), AVal.int IntKind.i64 (5 : Int)])))
  (obl (decide ((0 : Int) ≤ (0 : Int) ∧ (0 : Int) < (↑s.length : Int)))
    (branch (decide ((↑(s.getD (0 : Nat) (0 : UInt8)).toNat : Int) < (16 : Int)))
      (K
        (Out.ret
          (AVal.tup
            [AVal.agg
                [AVal.bool false, AVal.bool false, AVal.int IntKind.i64 (0 : Int), AVal.int IntKind.i64 (0 : Int),
                  AVal.int IntKind.i64 (0 : Int), AVal.int IntKind.i64 (0 : Int), AVal.str [], AVal.str [],
                  AVal.str []],
              AVal.int IntKind.i64 (0 : Int), AVal.int IntKind.i64 (5 : Int)])))
      (branch (decide ((↑s.length : Int) < (2 : Int)))
        (K
          (Out.ret
            (AVal.tup
              [AVal.agg
                  [AVal.bool false, AVal.bool false, AVal.int IntKind.i64 (0 : Int), AVal.int IntKind.i64 (0 : Int),
                    AVal.int IntKind.i64 (0 : Int), AVal.int IntKind.i64 (0 : Int), AVal.str [], AVal.str [],
                    AVal.str []],
                AVal.int IntKind.i64 (0 : Int), AVal.int IntKind.i64 (4 : Int)])))
        (obl (decide ((0 : Int) ≤ (0 : Int) ∧ (0 : Int) < (↑s.length : Int)))
          (obl (inI64 (↑(s.getD (0 : Nat) (0 : UInt8)).toNat : Int))
            (obl (inI64 ((↑(s.getD (0 : Nat) (0 : UInt8)).toNat : Int) * (256 : Int)))
              (obl (decide ((0 : Int) ≤ (1 : Int) ∧ (1 : Int) < (↑s.length : Int)))
                (obl (inI64 (↑(s.getD (1 : Nat) (0 : UInt8)).toNat : Int))
                  (obl
                    (inI64
                      ((↑(s.getD (0 : Nat) (0 : UInt8)).toNat : Int) * (256 : Int) +
                        (↑(s.getD (1 : Nat) (0 : UInt8)).toNat : Int)))
                    (obl
                      (decide
                          ((0 : Int) ≤
                              (↑(s.getD (0 : Nat) (0 : UInt8)).toNat : Int) * (256 : Int) +
                                (↑(s.getD (1 : Nat) (0 : UInt8)).toNat : Int) ∧
                            (0 : Int) < (4096 : Int)) &&
                        inI64
                          (((↑(s.getD (0 : Nat) (0 : UInt8)).toNat : Int) * (256 : Int) +
                              (↑(s.getD (1 : Nat) (0 : UInt8)).toNat : Int)) /
                            (4096 : Int)))
                      (obl
                        (decide
                            ((0 : Int) ≤
                                (↑(s.getD (0 : Nat) (0 : UInt8)).toNat : Int) * (256 : Int) +
                                  (↑(s.getD (1 : Nat) (0 : UInt8)).toNat : Int) ∧
                              (0 : Int) < (16384 : Int)) &&
                          inI64
                            (((↑(s.getD (0 : Nat) (0 : UInt8)).toNat : Int) * (256 : Int) +
                                (↑(s.getD (1 : Nat) (0 : UInt8)).toNat : Int)) /
                              (16384 : Int)))
                        (KK
                          [((8 : Nat), AVal.ptr (10 : Nat) (0 : Nat) (0 : Nat) (0 : Nat)),
                            ((42 : Nat),
                              AVal.agg
                                [AVal.bool
                                    (decide
                                      ((32768 : Int) ≤
                                        (↑(s.getD (0 : Nat) (0 : UInt8)).toNat : Int) * (256 : Int) +
                                          (↑(s.getD (1 : Nat) (0 : UInt8)).toNat : Int))),
                                  AVal.bool
                                    (decide
                                      (((↑(s.getD (0 : Nat) (0 : UInt8)).toNat : Int) * (256 : Int) +
                                              (↑(s.getD (1 : Nat) (0 : UInt8)).toNat : Int)) /
                                            (16384 : Int) %
                                          (2 : Int) =
                                        (1 : Int))),
                                  AVal.int IntKind.i64 (0 : Int), AVal.int IntKind.i64 (0 : Int),
                                  AVal.int IntKind.i64 (0 : Int), AVal.int IntKind.i64 (0 : Int), AVal.str [],
                                  AVal.str [], AVal.str []]),
                            ((41 : Nat),
                              AVal.bool
                                (decide
                                  (((↑(s.getD (0 : Nat) (0 : UInt8)).toNat : Int) * (256 : Int) +
                                          (↑(s.getD (1 : Nat) (0 : UInt8)).toNat : Int)) /
                                        (16384 : Int) %
                                      (2 : Int) =
                                    (1 : Int)))),
                            ((40 : Nat),
                              AVal.int IntKind.i64
                                (((↑(s.getD (0 : Nat) (0 : UInt8)).toNat : Int) * (256 : Int) +
                                      (↑(s.getD (1 : Nat) (0 : UInt8)).toNat : Int)) /
                                    (16384 : Int) %
                                  (2 : Int))),
                            ((39 : Nat),
                              AVal.int IntKind.i64
                                (((↑(s.getD (0 : Nat) (0 : UInt8)).toNat : Int) * (256 : Int) +
                                    (↑(s.getD (1 : Nat) (0 : UInt8)).toNat : Int)) /
                                  (16384 : Int))),
                            ((38 : Nat),
                              AVal.int IntKind.i64
                                ((↑(s.getD (0 : Nat) (0 : UInt8)).toNat : Int) * (256 : Int) +
                                  (↑(s.getD (1 : Nat) (0 : UInt8)).toNat : Int))),
                            ((37 : Nat),
                              AVal.bool
                                (decide
                                  ((32768 : Int) ≤
                                    (↑(s.getD (0 : Nat) (0 : UInt8)).toNat : Int) * (256 : Int) +
                                      (↑(s.getD (1 : Nat) (0 : UInt8)).toNat : Int)))),
                            ((36 : Nat),
                              AVal.int IntKind.i64
                                ((↑(s.getD (0 : Nat) (0 : UInt8)).toNat : Int) * (256 : Int) +
                                  (↑(s.getD (1 : Nat) (0 : UInt8)).toNat : Int))),
                            ((7 : Nat),
                              AVal.int IntKind.i64
                                (((↑(s.getD (0 : Nat) (0 : UInt8)).toNat : Int) * (256 : Int) +
                                      (↑(s.getD (1 : Nat) (0 : UInt8)).toNat : Int)) /
                                    (4096 : Int) %
                                  (4 : Int))),
                            ((35 : Nat),
                              AVal.int IntKind.i64
                                (((↑(s.getD (0 : Nat) (0 : UInt8)).toNat : Int) * (256 : Int) +
                                      (↑(s.getD (1 : Nat) (0 : UInt8)).toNat : Int)) /
                                    (4096 : Int) %
                                  (4 : Int))),
                            ((34 : Nat),
                              AVal.int IntKind.i64
                                (((↑(s.getD (0 : Nat) (0 : UInt8)).toNat : Int) * (256 : Int) +
                                    (↑(s.getD (1 : Nat) (0 : UInt8)).toNat : Int)) /
                                  (4096 : Int))),
                            ((33 : Nat),
                              AVal.int IntKind.i64
                                ((↑(s.getD (0 : Nat) (0 : UInt8)).toNat : Int) * (256 : Int) +
                                  (↑(s.getD (1 : Nat) (0 : UInt8)).toNat : Int))),
                            ((6 : Nat),
                              AVal.int IntKind.i64
                                (((↑(s.getD (0 : Nat) (0 : UInt8)).toNat : Int) * (256 : Int) +
                                    (↑(s.getD (1 : Nat) (0 : UInt8)).toNat : Int)) %
                                  (4096 : Int))),
                            ((32 : Nat),
                              AVal.int IntKind.i64
                                (((↑(s.getD (0 : Nat) (0 : UInt8)).toNat : Int) * (256 : Int) +
                                    (↑(s.getD (1 : Nat) (0 : UInt8)).toNat : Int)) %
                                  (4096 : Int))),
                            ((31 : Nat),
                              AVal.int IntKind.i64
                                ((↑(s.getD (0 : Nat) (0 : UInt8)).toNat : Int) * (256 : Int) +
                                  (↑(s.getD (1 : Nat) (0 : UInt8)).toNat : Int))),
                            ((5 : Nat),
                              AVal.int IntKind.i64
                                ((↑(s.getD (0 : Nat) (0 : UInt8)).toNat : Int) * (256 : Int) +
                                  (↑(s.getD (1 : Nat) (0 : UInt8)).toNat : Int))),
                            ((30 : Nat),
                              AVal.int IntKind.i64
                                ((↑(s.getD (0 : Nat) (0 : UInt8)).toNat : Int) * (256 : Int) +
                                  (↑(s.getD (1 : Nat) (0 : UInt8)).toNat : Int))),
                            ((29 : Nat), AVal.int IntKind.i64 (↑(s.getD (1 : Nat) (0 : UInt8)).toNat : Int)),
                            ((28 : Nat), AVal.int IntKind.u8 (↑(s.getD (1 : Nat) (0 : UInt8)).toNat : Int)),
                            ((27 : Nat), AVal.str s),
                            ((26 : Nat),
                              AVal.int IntKind.i64 ((↑(s.getD (0 : Nat) (0 : UInt8)).toNat : Int) * (256 : Int))),
                            ((25 : Nat), AVal.int IntKind.i64 (↑(s.getD (0 : Nat) (0 : UInt8)).toNat : Int)),
                            ((24 : Nat), AVal.int IntKind.u8 (↑(s.getD (0 : Nat) (0 : UInt8)).toNat : Int)),
                            ((23 : Nat), AVal.str s), ((21 : Nat), AVal.bool (decide ((↑s.length : Int) < (2 : Int)))),
                            ((20 : Nat), AVal.int IntKind.i64 (↑s.length : Int)), ((19 : Nat), AVal.str s),
                            ((17 : Nat),
                              AVal.bool (decide ((↑(s.getD (0 : Nat) (0 : UInt8)).toNat : Int) < (16 : Int)))),
                            ((16 : Nat),
                              AVal.bool (decide ((↑(s.getD (0 : Nat) (0 : UInt8)).toNat : Int) < (16 : Int)))),
                            ((13 : Nat), AVal.bool false),
                            ((15 : Nat), AVal.int IntKind.u8 (↑(s.getD (0 : Nat) (0 : UInt8)).toNat : Int)),
                            ((13 : Nat), AVal.bool false), ((14 : Nat), AVal.str s), ((13 : Nat), AVal.bool false),
                            ((13 : Nat), AVal.bool (decide (s = []))), ((12 : Nat), AVal.bool (decide (s = []))),
                            ((11 : Nat), AVal.str s), ((4 : Nat), AVal.int IntKind.i64 (0 : Int)),
                            ((3 : Nat), AVal.int IntKind.i64 (0 : Int)),
                            ((2 : Nat), AVal.ptr (0 : Nat) (0 : Nat) (0 : Nat) (0 : Nat)), ((0 : Nat), AVal.str s)]
                          (AHeap.mk (11 : Nat)
                            [((10 : Nat),
                                ABlk.cells (27 : Nat)
                                  [AVal.bool
                                      (decide
                                        ((32768 : Int) ≤
                                          (↑(s.getD (0 : Nat) (0 : UInt8)).toNat : Int) * (256 : Int) +
                                            (↑(s.getD (1 : Nat) (0 : UInt8)).toNat : Int))),
                                    AVal.bool
                                      (decide
                                        (((↑(s.getD (0 : Nat) (0 : UInt8)).toNat : Int) * (256 : Int) +
                                                (↑(s.getD (1 : Nat) (0 : UInt8)).toNat : Int)) /
                                              (16384 : Int) %
                                            (2 : Int) =
                                          (1 : Int))),
                                    AVal.int IntKind.i64 (0 : Int), AVal.int IntKind.i64 (0 : Int),
                                    AVal.int IntKind.i64 (0 : Int), AVal.int IntKind.i64 (0 : Int), AVal.str [],
                                    AVal.str [], AVal.str []]),
                              ((10 : Nat),
                                ABlk.cells (27 : Nat)
                                  [AVal.bool false, AVal.bool false, AVal.int IntKind.i64 (0 : Int),
                                    AVal.int IntKind.i64 (0 : Int), AVal.int IntKind.i64 (0 : Int),
                                    AVal.int IntKind.i64 (0 : Int), AVal.str [], AVal.str [], AVal.str []]),
                              ((0 : Nat),
                                ABlk.cells (27 : Nat)
                                  [AVal.bool false, AVal.bool false, AVal.int IntKind.i64 (0 : Int),
                                    AVal.int IntKind.i64 (0 : Int), AVal.int IntKind.i64 (0 : Int),
                                    AVal.int IntKind.i64 (0 : Int), AVal.str [], AVal.str [],
                                    AVal.str []])])))))))))))))) := by kernel_rfl

end Go.Proofs.Ytcbkenicjmhkdaa
