/-
  Walks, printed: what calls come to, as they are reckoned.
-/
import Derived.Test.YtcbkenicjmhkdaaGseR7
namespace Go.Proofs.Ytcbkenicjmhkdaa
set_option linter.unusedVariables false
set_option linter.unusedSimpArgs false
open Go.RowKit Ev

set_option maxRecDepth 100000 in
theorem w_renc_tt (id total typ k : Int) (lb data sum : List UInt8) (K : Out → Prop) : (callC (TE2.ctx Try.prog) 100 13 [.agg [.bool true, .bool true, .int .i64 id, .int .i64 total, .int .i64 typ, .int .i64 k, .str lb, .str data, .str sum]] ⟨0, []⟩ (fun o _ => K o)
) = (branch (!gMay true true id total typ k lb sum)
  (K (Out.ret (AVal.tup [AVal.str [], AVal.int IntKind.i64 (2 : Int)])))
  (obl
    (decide
      (lb.length + data.length + sum.length ≤ (9223372036854775000 : Nat) ∧
        (true = true → (0 : Int) ≤ typ ∧ typ ≤ (65535 : Int)) ∧
          (true = true ∧ true = false → (0 : Int) ≤ total ∧ total ≤ (65535 : Int))))
    (branch (decide ((4095 : Int) < (↑(rBody true true id total typ lb data sum).length : Int)))
      (K (Out.ret (AVal.tup [AVal.str [], AVal.int IntKind.i64 (3 : Int)])))
      (obl (inI64 ((↑(rBody true true id total typ lb data sum).length : Int) + (32768 : Int)))
        (obl (inI64 (k * (4096 : Int)))
          (obl (inI64 ((↑(rBody true true id total typ lb data sum).length : Int) + (32768 : Int) + k * (4096 : Int)))
            (obl
              (inI64
                ((↑(rBody true true id total typ lb data sum).length : Int) + (32768 : Int) + k * (4096 : Int) +
                  (16384 : Int)))
              (obl
                (decide
                  ((0 : Int) ≤
                      (↑(rBody true true id total typ lb data sum).length : Int) + (32768 : Int) + k * (4096 : Int) +
                        (16384 : Int) ∧
                    (↑(rBody true true id total typ lb data sum).length : Int) + (32768 : Int) + k * (4096 : Int) +
                        (16384 : Int) ≤
                      (9223372036854775807 : Int)))
                (obl
                  (decide
                    ((↑((two
                                ((↑(rBody true true id total typ lb data sum).length : Int) + (32768 : Int) +
                                    k * (4096 : Int) +
                                  (16384 : Int))).length +
                            (rBody true true id total typ lb data sum).length) :
                        Int) ≤
                      (9223372036854775807 : Int)))
                  (K
                    (Out.ret
                      (AVal.tup
                        [AVal.str
                            (two
                                ((↑(rBody true true id total typ lb data sum).length : Int) + (32768 : Int) +
                                    k * (4096 : Int) +
                                  (16384 : Int)) ++
                              rBody true true id total typ lb data sum),
                          AVal.int IntKind.i64 (0 : Int)])))))))))))) := by kernel_rfl

set_option maxRecDepth 100000 in
theorem w_renc_tf (id total typ k : Int) (lb data sum : List UInt8) (K : Out → Prop) : (callC (TE2.ctx Try.prog) 100 13 [.agg [.bool true, .bool false, .int .i64 id, .int .i64 total, .int .i64 typ, .int .i64 k, .str lb, .str data, .str sum]] ⟨0, []⟩ (fun o _ => K o)
) = (branch (!gMay true false id total typ k lb sum)
  (K (Out.ret (AVal.tup [AVal.str [], AVal.int IntKind.i64 (2 : Int)])))
  (obl
    (decide
      (lb.length + data.length + sum.length ≤ (9223372036854775000 : Nat) ∧
        (true = true → (0 : Int) ≤ typ ∧ typ ≤ (65535 : Int)) ∧
          (true = true ∧ false = false → (0 : Int) ≤ total ∧ total ≤ (65535 : Int))))
    (branch (decide ((4095 : Int) < (↑(rBody true false id total typ lb data sum).length : Int)))
      (K (Out.ret (AVal.tup [AVal.str [], AVal.int IntKind.i64 (3 : Int)])))
      (obl (inI64 ((↑(rBody true false id total typ lb data sum).length : Int) + (32768 : Int)))
        (obl (inI64 (k * (4096 : Int)))
          (obl (inI64 ((↑(rBody true false id total typ lb data sum).length : Int) + (32768 : Int) + k * (4096 : Int)))
            (obl
              (decide
                ((0 : Int) ≤
                    (↑(rBody true false id total typ lb data sum).length : Int) + (32768 : Int) + k * (4096 : Int) ∧
                  (↑(rBody true false id total typ lb data sum).length : Int) + (32768 : Int) + k * (4096 : Int) ≤
                    (9223372036854775807 : Int)))
              (obl
                (decide
                  ((↑((two
                              ((↑(rBody true false id total typ lb data sum).length : Int) + (32768 : Int) +
                                k * (4096 : Int))).length +
                          (rBody true false id total typ lb data sum).length) :
                      Int) ≤
                    (9223372036854775807 : Int)))
                (K
                  (Out.ret
                    (AVal.tup
                      [AVal.str
                          (two
                              ((↑(rBody true false id total typ lb data sum).length : Int) + (32768 : Int) +
                                k * (4096 : Int)) ++
                            rBody true false id total typ lb data sum),
                        AVal.int IntKind.i64 (0 : Int)]))))))))))) := by kernel_rfl

set_option maxRecDepth 100000 in
theorem w_renc_ft (id total typ k : Int) (lb data sum : List UInt8) (K : Out → Prop) : (callC (TE2.ctx Try.prog) 100 13 [.agg [.bool false, .bool true, .int .i64 id, .int .i64 total, .int .i64 typ, .int .i64 k, .str lb, .str data, .str sum]] ⟨0, []⟩ (fun o _ => K o)
) = (branch (!gMay false true id total typ k lb sum)
  (K (Out.ret (AVal.tup [AVal.str [], AVal.int IntKind.i64 (2 : Int)])))
  (obl
    (decide
      (lb.length + data.length + sum.length ≤ (9223372036854775000 : Nat) ∧
        (false = true → (0 : Int) ≤ typ ∧ typ ≤ (65535 : Int)) ∧
          (false = true ∧ true = false → (0 : Int) ≤ total ∧ total ≤ (65535 : Int))))
    (branch (decide ((4095 : Int) < (↑(rBody false true id total typ lb data sum).length : Int)))
      (K (Out.ret (AVal.tup [AVal.str [], AVal.int IntKind.i64 (3 : Int)])))
      (obl (inI64 ((↑(rBody false true id total typ lb data sum).length : Int) + (12288 : Int)))
        (obl (inI64 ((↑(rBody false true id total typ lb data sum).length : Int) + (12288 : Int) + (16384 : Int)))
          (obl
            (decide
              ((0 : Int) ≤ (↑(rBody false true id total typ lb data sum).length : Int) + (12288 : Int) + (16384 : Int) ∧
                (↑(rBody false true id total typ lb data sum).length : Int) + (12288 : Int) + (16384 : Int) ≤
                  (9223372036854775807 : Int)))
            (obl
              (decide
                ((↑((two
                            ((↑(rBody false true id total typ lb data sum).length : Int) + (12288 : Int) +
                              (16384 : Int))).length +
                        (rBody false true id total typ lb data sum).length) :
                    Int) ≤
                  (9223372036854775807 : Int)))
              (K
                (Out.ret
                  (AVal.tup
                    [AVal.str
                        (two
                            ((↑(rBody false true id total typ lb data sum).length : Int) + (12288 : Int) +
                              (16384 : Int)) ++
                          rBody false true id total typ lb data sum),
                      AVal.int IntKind.i64 (0 : Int)])))))))))) := by kernel_rfl

set_option maxRecDepth 100000 in
theorem w_renc_ff (id total typ k : Int) (lb data sum : List UInt8) (K : Out → Prop) : (callC (TE2.ctx Try.prog) 100 13 [.agg [.bool false, .bool false, .int .i64 id, .int .i64 total, .int .i64 typ, .int .i64 k, .str lb, .str data, .str sum]] ⟨0, []⟩ (fun o _ => K o)
) = (branch (!gMay false false id total typ k lb sum)
  (K (Out.ret (AVal.tup [AVal.str [], AVal.int IntKind.i64 (2 : Int)])))
  (obl
    (decide
      (lb.length + data.length + sum.length ≤ (9223372036854775000 : Nat) ∧
        (false = true → (0 : Int) ≤ typ ∧ typ ≤ (65535 : Int)) ∧
          (false = true ∧ false = false → (0 : Int) ≤ total ∧ total ≤ (65535 : Int))))
    (branch (decide ((4095 : Int) < (↑(rBody false false id total typ lb data sum).length : Int)))
      (K (Out.ret (AVal.tup [AVal.str [], AVal.int IntKind.i64 (3 : Int)])))
      (obl (inI64 ((↑(rBody false false id total typ lb data sum).length : Int) + (12288 : Int)))
        (obl
          (decide
            ((0 : Int) ≤ (↑(rBody false false id total typ lb data sum).length : Int) + (12288 : Int) ∧
              (↑(rBody false false id total typ lb data sum).length : Int) + (12288 : Int) ≤
                (9223372036854775807 : Int)))
          (obl
            (decide
              ((↑((two ((↑(rBody false false id total typ lb data sum).length : Int) + (12288 : Int))).length +
                      (rBody false false id total typ lb data sum).length) :
                  Int) ≤
                (9223372036854775807 : Int)))
            (K
              (Out.ret
                (AVal.tup
                  [AVal.str
                      (two ((↑(rBody false false id total typ lb data sum).length : Int) + (12288 : Int)) ++
                        rBody false false id total typ lb data sum),
                    AVal.int IntKind.i64 (0 : Int)]))))))))) := by kernel_rfl

set_option maxRecDepth 100000 in
theorem w_again8 (s : List UInt8) (at_ : Int) (K : Out → Prop) : (callC (TE2.ctx Try.prog) 100 3 [.str s, .int .u16 at_] ⟨0, []⟩ (fun o _ => K o)
) = (obl
  (decide ((0 : Int) ≤ min (↑s.length : Int) (9000 : Int) ∧ min (↑s.length : Int) (9000 : Int) ≤ (↑s.length : Int)))
  (obl (decide ((List.take (min (↑s.length : Int) (9000 : Int)).toNat s).length ≤ (9223372036854775000 : Nat)))
    (branch (!decide ((dec (List.take (min (↑s.length : Int) (9000 : Int)).toNat s)).e = (0 : Int)))
      (branch (decide ((dec (List.take (min (↑s.length : Int) (9000 : Int)).toNat s)).n = (0 : Int)))
        (branch
          ((dec (List.take (min (↑s.length : Int) (9000 : Int)).toNat s)).p.st == false &&
            ((dec (List.take (min (↑s.length : Int) (9000 : Int)).toNat s)).p.en == false &&
              (decide ((dec (List.take (min (↑s.length : Int) (9000 : Int)).toNat s)).p.id = (0 : Int)) &&
                (decide ((dec (List.take (min (↑s.length : Int) (9000 : Int)).toNat s)).p.total = (0 : Int)) &&
                  (decide ((dec (List.take (min (↑s.length : Int) (9000 : Int)).toNat s)).p.typ = (0 : Int)) &&
                    (decide ((dec (List.take (min (↑s.length : Int) (9000 : Int)).toNat s)).p.k = (0 : Int)) &&
                        (decide ((dec (List.take (min (↑s.length : Int) (9000 : Int)).toNat s)).p.lb = []) && true) &&
                      (decide ((dec (List.take (min (↑s.length : Int) (9000 : Int)).toNat s)).p.data = []) &&
                        (decide ((dec (List.take (min (↑s.length : Int) (9000 : Int)).toNat s)).p.sum = []) &&
                          true))))))))
          (branch (decide ((dec (List.take (min (↑s.length : Int) (9000 : Int)).toNat s)).e = (4 : Int)))
            (K (Out.ret (AVal.bool true)))
            (K
              (Out.ret
                (AVal.bool (decide ((dec (List.take (min (↑s.length : Int) (9000 : Int)).toNat s)).e = (5 : Int)))))))
          (K (Out.ret (AVal.bool false))))
        (K (Out.ret (AVal.bool false))))
      (obl
        (decide
          ((dec (List.take (min (↑s.length : Int) (9000 : Int)).toNat s)).p.lb.length +
                (dec (List.take (min (↑s.length : Int) (9000 : Int)).toNat s)).p.data.length +
              (dec (List.take (min (↑s.length : Int) (9000 : Int)).toNat s)).p.sum.length ≤
            (9223372036854775000 : Nat)))
        (branch
          (!decide
              (gErr (dec (List.take (min (↑s.length : Int) (9000 : Int)).toNat s)).p.st
                  (dec (List.take (min (↑s.length : Int) (9000 : Int)).toNat s)).p.en
                  (dec (List.take (min (↑s.length : Int) (9000 : Int)).toNat s)).p.id
                  (dec (List.take (min (↑s.length : Int) (9000 : Int)).toNat s)).p.total
                  (dec (List.take (min (↑s.length : Int) (9000 : Int)).toNat s)).p.typ
                  (dec (List.take (min (↑s.length : Int) (9000 : Int)).toNat s)).p.k
                  (dec (List.take (min (↑s.length : Int) (9000 : Int)).toNat s)).p.lb
                  (dec (List.take (min (↑s.length : Int) (9000 : Int)).toNat s)).p.data
                  (dec (List.take (min (↑s.length : Int) (9000 : Int)).toNat s)).p.sum =
                (0 : Int)))
          (K (Out.ret (AVal.bool false)))
          (branch (decide ((dec (List.take (min (↑s.length : Int) (9000 : Int)).toNat s)).n < (2 : Int)))
            (K (Out.ret (AVal.bool false)))
            (branch
              (decide
                ((↑(List.take (min (↑s.length : Int) (9000 : Int)).toNat s).length : Int) <
                  (dec (List.take (min (↑s.length : Int) (9000 : Int)).toNat s)).n))
              (K (Out.ret (AVal.bool false)))
              (obl
                (decide
                  ((0 : Int) ≤ (dec (List.take (min (↑s.length : Int) (9000 : Int)).toNat s)).n ∧
                    (dec (List.take (min (↑s.length : Int) (9000 : Int)).toNat s)).n ≤
                      (↑(List.take (min (↑s.length : Int) (9000 : Int)).toNat s).length : Int)))
                (branch
                  (!decide
                      (gEnc (dec (List.take (min (↑s.length : Int) (9000 : Int)).toNat s)).p.st
                          (dec (List.take (min (↑s.length : Int) (9000 : Int)).toNat s)).p.en
                          (dec (List.take (min (↑s.length : Int) (9000 : Int)).toNat s)).p.id
                          (dec (List.take (min (↑s.length : Int) (9000 : Int)).toNat s)).p.total
                          (dec (List.take (min (↑s.length : Int) (9000 : Int)).toNat s)).p.typ
                          (dec (List.take (min (↑s.length : Int) (9000 : Int)).toNat s)).p.k
                          (dec (List.take (min (↑s.length : Int) (9000 : Int)).toNat s)).p.lb
                          (dec (List.take (min (↑s.length : Int) (9000 : Int)).toNat s)).p.data
                          (dec (List.take (min (↑s.length : Int) (9000 : Int)).toNat s)).p.sum =
                        List.take (dec (List.take (min (↑s.length : Int) (9000 : Int)).toNat s)).n.toNat
                          (List.take (min (↑s.length : Int) (9000 : Int)).toNat s)))
                  (K (Out.ret (AVal.bool false)))
                  (obl (inI64 at_)
                    (obl (inI64 ((dec (List.take (min (↑s.length : Int) (9000 : Int)).toNat s)).n - (1 : Int)))
                      (obl
                        (decide
                          ((0 : Int) ≤ at_ ∧
                            (0 : Int) < (dec (List.take (min (↑s.length : Int) (9000 : Int)).toNat s)).n - (1 : Int)))
                        (obl
                          (inI64
                            ((1 : Int) +
                              at_ % ((dec (List.take (min (↑s.length : Int) (9000 : Int)).toNat s)).n - (1 : Int))))
                          (obl
                            (decide
                              ((0 : Int) ≤
                                  (1 : Int) +
                                    at_ %
                                      ((dec (List.take (min (↑s.length : Int) (9000 : Int)).toNat s)).n - (1 : Int)) ∧
                                (1 : Int) +
                                    at_ %
                                      ((dec (List.take (min (↑s.length : Int) (9000 : Int)).toNat s)).n - (1 : Int)) ≤
                                  (↑(List.take (min (↑s.length : Int) (9000 : Int)).toNat s).length : Int)))
                            (obl
                              (decide
                                ((List.take
                                      ((1 : Int) +
                                          at_ %
                                            ((dec (List.take (min (↑s.length : Int) (9000 : Int)).toNat s)).n -
                                              (1 : Int))).toNat
                                      (List.take (min (↑s.length : Int) (9000 : Int)).toNat s)).length ≤
                                  (9223372036854775000 : Nat)))
                              (K
                                (Out.ret
                                  (AVal.bool
                                    (decide
                                      (dec
                                          (List.take
                                            ((1 : Int) +
                                                at_ %
                                                  ((dec (List.take (min (↑s.length : Int) (9000 : Int)).toNat s)).n -
                                                    (1 : Int))).toNat
                                            (List.take (min (↑s.length : Int) (9000 : Int)).toNat s)) =
                                        Dec.mk zeroP (0 : Int) (4 : Int))))))))))))))))))))) := by kernel_rfl

end Go.Proofs.Ytcbkenicjmhkdaa
