/-
  Walks, printed: what calls come to, as they are reckoned.
-/
import Derived.Test.YtjacnjecggedhaaPduOk1
namespace Go.Proofs.Ytjacnjecggedhaa
set_option linter.unusedVariables false
set_option linter.unusedSimpArgs false
open Go.RowKit Ev

set_option maxRecDepth 100000 in
theorem w_sum (typ k : Int) (b data : List UInt8) (K : Out → Prop) : (callC (TP1.ctx Try.prog) 100 86 [.int .i64 typ, .agg [.int .i64 k, .str b], .str data] ⟨0, []⟩ (fun o _ => K o)
) = (branch (decide (typ < (0 : Int))) (K (Out.ret (AVal.tup [AVal.str [], AVal.int IntKind.i64 (2 : Int)])))
  (branch (decide ((65535 : Int) < typ)) (K (Out.ret (AVal.tup [AVal.str [], AVal.int IntKind.i64 (2 : Int)])))
    (branch (!decide ((if lOk k b = true then (0 : Int) else (2 : Int)) = (0 : Int)))
      (K (Out.ret (AVal.tup [AVal.str [], AVal.int IntKind.i64 (2 : Int)])))
      (obl (inI64 ((2 : Int) + lSize k))
        (obl (inI64 ((2 : Int) + lSize k + (↑data.length : Int)))
          (branch (decide ((65535 : Int) < (2 : Int) + lSize k + (↑data.length : Int)))
            (K (Out.ret (AVal.tup [AVal.str [], AVal.int IntKind.i64 (3 : Int)])))
            (obl
              (decide
                ((two ((2 : Int) + lSize k + (↑data.length : Int))).length + (two typ).length + b.length + data.length ≤
                  (9223372036854775807 : Nat)))
              (obl
                (decide
                  ((two ((2 : Int) + lSize k + (↑data.length : Int)) ++ two typ ++ b ++ data).length ≤
                    (9223372036854775807 : Nat)))
                (K
                  (Out.ret
                    (AVal.tup
                      [AVal.str
                          [UInt8.ofNat
                              (crcN (two ((2 : Int) + lSize k + (↑data.length : Int)) ++ two typ ++ b ++ data) /
                                    (16777216 : Int) %
                                  (256 : Int)).toNat,
                            UInt8.ofNat
                              (crcN (two ((2 : Int) + lSize k + (↑data.length : Int)) ++ two typ ++ b ++ data) /
                                    (65536 : Int) %
                                  (256 : Int)).toNat,
                            UInt8.ofNat
                              (crcN (two ((2 : Int) + lSize k + (↑data.length : Int)) ++ two typ ++ b ++ data) /
                                    (256 : Int) %
                                  (256 : Int)).toNat,
                            UInt8.ofNat
                              (crcN (two ((2 : Int) + lSize k + (↑data.length : Int)) ++ two typ ++ b ++ data) %
                                  (256 : Int)).toNat],
                        AVal.int IntKind.i64 (0 : Int)]))))))))))) := by kernel_rfl

set_option maxRecDepth 100000 in
theorem w_rsum (typ k : Int) (b data : List UInt8) (K : Out → Prop) : (callC (TP1.ctx Try.prog) 100 37 [.int .i64 typ, .agg [.int .i64 k, .str b], .str data] ⟨0, []⟩ (fun o _ => K o)
) = (branch (decide (typ < (0 : Int))) (K (Out.ret (AVal.tup [AVal.str [], AVal.int IntKind.i64 (2 : Int)])))
  (branch (decide ((65535 : Int) < typ)) (K (Out.ret (AVal.tup [AVal.str [], AVal.int IntKind.i64 (2 : Int)])))
    (branch (!lOk k b) (K (Out.ret (AVal.tup [AVal.str [], AVal.int IntKind.i64 (2 : Int)])))
      (obl (inI64 ((2 : Int) + lSize k))
        (obl (inI64 ((2 : Int) + lSize k + (↑data.length : Int)))
          (branch (decide ((65535 : Int) < (2 : Int) + lSize k + (↑data.length : Int)))
            (K (Out.ret (AVal.tup [AVal.str [], AVal.int IntKind.i64 (3 : Int)])))
            (obl
              (decide
                ((0 : Int) ≤ (2 : Int) + lSize k + (↑data.length : Int) ∧
                  (2 : Int) + lSize k + (↑data.length : Int) ≤ (9223372036854775807 : Int)))
              (obl (decide ((0 : Int) ≤ typ ∧ typ ≤ (9223372036854775807 : Int)))
                (obl
                  (decide
                    ((↑((two ((2 : Int) + lSize k + (↑data.length : Int)) ++ two typ).length + b.length) : Int) ≤
                      (9223372036854775807 : Int)))
                  (obl
                    (decide
                      ((↑((two ((2 : Int) + lSize k + (↑data.length : Int)) ++ two typ ++ b).length + data.length) :
                          Int) ≤
                        (9223372036854775807 : Int)))
                    (obl
                      (decide
                        ((two ((2 : Int) + lSize k + (↑data.length : Int)) ++ two typ ++ b ++ data).length ≤
                          (9223372036854775807 : Nat)))
                      (obl
                        (inI64
                          (crcN (two ((2 : Int) + lSize k + (↑data.length : Int)) ++ two typ ++ b ++ data) /
                              (65536 : Int) %
                            (4294967296 : Int)))
                        (obl
                          (decide
                            ((0 : Int) ≤
                                crcN (two ((2 : Int) + lSize k + (↑data.length : Int)) ++ two typ ++ b ++ data) /
                                    (65536 : Int) %
                                  (4294967296 : Int) ∧
                              crcN (two ((2 : Int) + lSize k + (↑data.length : Int)) ++ two typ ++ b ++ data) /
                                    (65536 : Int) %
                                  (4294967296 : Int) ≤
                                (9223372036854775807 : Int)))
                          (obl
                            (inI64
                              (crcN (two ((2 : Int) + lSize k + (↑data.length : Int)) ++ two typ ++ b ++ data) %
                                (65536 : Int)))
                            (obl
                              (decide
                                ((0 : Int) ≤
                                    crcN (two ((2 : Int) + lSize k + (↑data.length : Int)) ++ two typ ++ b ++ data) %
                                      (65536 : Int) ∧
                                  crcN (two ((2 : Int) + lSize k + (↑data.length : Int)) ++ two typ ++ b ++ data) %
                                      (65536 : Int) ≤
                                    (9223372036854775807 : Int)))
                              (K
                                (Out.ret
                                  (AVal.tup
                                    [AVal.str
                                        (two
                                            (crcN
                                                  (two ((2 : Int) + lSize k + (↑data.length : Int)) ++ two typ ++ b ++
                                                    data) /
                                                (65536 : Int) %
                                              (4294967296 : Int)) ++
                                          two
                                            (crcN
                                                (two ((2 : Int) + lSize k + (↑data.length : Int)) ++ two typ ++ b ++
                                                  data) %
                                              (65536 : Int))),
                                      AVal.int IntKind.i64 (0 : Int)])))))))))))))))))) := by kernel_rfl

end Go.Proofs.Ytjacnjecggedhaa
