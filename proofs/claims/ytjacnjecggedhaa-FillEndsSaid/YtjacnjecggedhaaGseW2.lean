/-
  Walks, printed: what calls come to, as they are reckoned.
-/
import Derived.Test.YtjacnjecggedhaaGseOk1
namespace Go.Proofs.Ytjacnjecggedhaa
set_option linter.unusedVariables false
set_option linter.unusedSimpArgs false
open Go.RowKit Ev

set_option maxRecDepth 100000 in
theorem w_enc_tt (id total typ k : Int) (lb data sum : List UInt8) (K : Out → Prop) : (callC (TG1.ctx Try.prog) 100 21 [.agg [.bool true, .bool true, .int .i64 id, .int .i64 total, .int .i64 typ, .int .i64 k, .str lb, .str data, .str sum]] ⟨0, []⟩ (fun o _ => K o)
) = (branch (!gMay true true id total typ k lb sum)
  (K (Out.ret (AVal.tup [AVal.str [], AVal.int IntKind.i64 (2 : Int)])))
  (obl (decide ((↑((two typ).length + lb.length) : Int) ≤ (9223372036854775807 : Int)))
    (obl (decide ((↑((0 : Nat) + (two typ ++ lb).length) : Int) ≤ (9223372036854775807 : Int)))
      (obl (decide ((↑(data.length + sum.length) : Int) ≤ (9223372036854775807 : Int)))
        (obl (decide ((↑(([] ++ (two typ ++ lb)).length + (data ++ sum).length) : Int) ≤ (9223372036854775807 : Int)))
          (branch (decide ((4095 : Int) < (↑([] ++ (two typ ++ lb) ++ (data ++ sum)).length : Int)))
            (K (Out.ret (AVal.tup [AVal.str [], AVal.int IntKind.i64 (3 : Int)])))
            (obl (true && inI64 (k * (16 : Int)))
              (obl
                (decide
                  ((↑([UInt8.ofNat
                                (bitsA BinOp.or IntKind.u8
                                    (bitsA BinOp.or IntKind.u8
                                      (bitsA BinOp.or IntKind.u8 (128 : Int) (k * (16 : Int) % (256 : Int))) (64 : Int))
                                    ((↑([] ++ (two typ ++ lb) ++ (data ++ sum)).length : Int) / (256 : Int) %
                                      (256 : Int))).toNat,
                              UInt8.ofNat
                                ((↑([] ++ (two typ ++ lb) ++ (data ++ sum)).length : Int) % (256 : Int)).toNat].length +
                          ([] ++ (two typ ++ lb) ++ (data ++ sum)).length) :
                      Int) ≤
                    (9223372036854775807 : Int)))
                (K
                  (Out.ret
                    (AVal.tup
                      [AVal.str
                          ([UInt8.ofNat
                                (bitsA BinOp.or IntKind.u8
                                    (bitsA BinOp.or IntKind.u8
                                      (bitsA BinOp.or IntKind.u8 (128 : Int) (k * (16 : Int) % (256 : Int))) (64 : Int))
                                    ((↑([] ++ (two typ ++ lb) ++ (data ++ sum)).length : Int) / (256 : Int) %
                                      (256 : Int))).toNat,
                              UInt8.ofNat
                                ((↑([] ++ (two typ ++ lb) ++ (data ++ sum)).length : Int) % (256 : Int)).toNat] ++
                            ([] ++ (two typ ++ lb) ++ (data ++ sum))),
                        AVal.int IntKind.i64 (0 : Int)]))))))))))) := by kernel_rfl

set_option maxRecDepth 100000 in
theorem w_enc_tf (id total typ k : Int) (lb data sum : List UInt8) (K : Out → Prop) : (callC (TG1.ctx Try.prog) 100 21 [.agg [.bool true, .bool false, .int .i64 id, .int .i64 total, .int .i64 typ, .int .i64 k, .str lb, .str data, .str sum]] ⟨0, []⟩ (fun o _ => K o)
) = (branch (!gMay true false id total typ k lb sum)
  (K (Out.ret (AVal.tup [AVal.str [], AVal.int IntKind.i64 (2 : Int)])))
  (obl (decide ((↑((two typ).length + lb.length) : Int) ≤ (9223372036854775807 : Int)))
    (obl
      (decide
        ((↑(([] ++ [UInt8.ofNat (id % (256 : Int)).toNat] ++ two total).length + (two typ ++ lb).length) : Int) ≤
          (9223372036854775807 : Int)))
      (obl (decide ((↑(data.length + sum.length) : Int) ≤ (9223372036854775807 : Int)))
        (obl
          (decide
            ((↑(([] ++ [UInt8.ofNat (id % (256 : Int)).toNat] ++ two total ++ (two typ ++ lb)).length +
                    (data ++ sum).length) :
                Int) ≤
              (9223372036854775807 : Int)))
          (branch
            (decide
              ((4095 : Int) <
                (↑([] ++ [UInt8.ofNat (id % (256 : Int)).toNat] ++ two total ++ (two typ ++ lb) ++
                        (data ++ sum)).length :
                  Int)))
            (K (Out.ret (AVal.tup [AVal.str [], AVal.int IntKind.i64 (3 : Int)])))
            (obl (true && inI64 (k * (16 : Int)))
              (obl
                (decide
                  ((↑([UInt8.ofNat
                                (bitsA BinOp.or IntKind.u8
                                    (bitsA BinOp.or IntKind.u8 (128 : Int) (k * (16 : Int) % (256 : Int)))
                                    ((↑([] ++ [UInt8.ofNat (id % (256 : Int)).toNat] ++ two total ++ (two typ ++ lb) ++
                                                (data ++ sum)).length :
                                          Int) /
                                        (256 : Int) %
                                      (256 : Int))).toNat,
                              UInt8.ofNat
                                ((↑([] ++ [UInt8.ofNat (id % (256 : Int)).toNat] ++ two total ++ (two typ ++ lb) ++
                                            (data ++ sum)).length :
                                      Int) %
                                    (256 : Int)).toNat].length +
                          ([] ++ [UInt8.ofNat (id % (256 : Int)).toNat] ++ two total ++ (two typ ++ lb) ++
                              (data ++ sum)).length) :
                      Int) ≤
                    (9223372036854775807 : Int)))
                (K
                  (Out.ret
                    (AVal.tup
                      [AVal.str
                          ([UInt8.ofNat
                                (bitsA BinOp.or IntKind.u8
                                    (bitsA BinOp.or IntKind.u8 (128 : Int) (k * (16 : Int) % (256 : Int)))
                                    ((↑([] ++ [UInt8.ofNat (id % (256 : Int)).toNat] ++ two total ++ (two typ ++ lb) ++
                                                (data ++ sum)).length :
                                          Int) /
                                        (256 : Int) %
                                      (256 : Int))).toNat,
                              UInt8.ofNat
                                ((↑([] ++ [UInt8.ofNat (id % (256 : Int)).toNat] ++ two total ++ (two typ ++ lb) ++
                                            (data ++ sum)).length :
                                      Int) %
                                    (256 : Int)).toNat] ++
                            ([] ++ [UInt8.ofNat (id % (256 : Int)).toNat] ++ two total ++ (two typ ++ lb) ++
                              (data ++ sum))),
                        AVal.int IntKind.i64 (0 : Int)]))))))))))) := by kernel_rfl

set_option maxRecDepth 100000 in
theorem w_enc_ft (id total typ k : Int) (lb data sum : List UInt8) (K : Out → Prop) : (callC (TG1.ctx Try.prog) 100 21 [.agg [.bool false, .bool true, .int .i64 id, .int .i64 total, .int .i64 typ, .int .i64 k, .str lb, .str data, .str sum]] ⟨0, []⟩ (fun o _ => K o)
) = (branch (!gMay false true id total typ k lb sum)
  (K (Out.ret (AVal.tup [AVal.str [], AVal.int IntKind.i64 (2 : Int)])))
  (obl (decide ((↑(data.length + sum.length) : Int) ≤ (9223372036854775807 : Int)))
    (obl
      (decide
        ((↑(([] ++ [UInt8.ofNat (id % (256 : Int)).toNat]).length + (data ++ sum).length) : Int) ≤
          (9223372036854775807 : Int)))
      (branch (decide ((4095 : Int) < (↑([] ++ [UInt8.ofNat (id % (256 : Int)).toNat] ++ (data ++ sum)).length : Int)))
        (K (Out.ret (AVal.tup [AVal.str [], AVal.int IntKind.i64 (3 : Int)])))
        (obl
          (decide
            ((↑([UInt8.ofNat
                          (bitsA BinOp.or IntKind.u8 (112 : Int)
                              ((↑([] ++ [UInt8.ofNat (id % (256 : Int)).toNat] ++ (data ++ sum)).length : Int) /
                                  (256 : Int) %
                                (256 : Int))).toNat,
                        UInt8.ofNat
                          ((↑([] ++ [UInt8.ofNat (id % (256 : Int)).toNat] ++ (data ++ sum)).length : Int) %
                              (256 : Int)).toNat].length +
                    ([] ++ [UInt8.ofNat (id % (256 : Int)).toNat] ++ (data ++ sum)).length) :
                Int) ≤
              (9223372036854775807 : Int)))
          (K
            (Out.ret
              (AVal.tup
                [AVal.str
                    ([UInt8.ofNat
                          (bitsA BinOp.or IntKind.u8 (112 : Int)
                              ((↑([] ++ [UInt8.ofNat (id % (256 : Int)).toNat] ++ (data ++ sum)).length : Int) /
                                  (256 : Int) %
                                (256 : Int))).toNat,
                        UInt8.ofNat
                          ((↑([] ++ [UInt8.ofNat (id % (256 : Int)).toNat] ++ (data ++ sum)).length : Int) %
                              (256 : Int)).toNat] ++
                      ([] ++ [UInt8.ofNat (id % (256 : Int)).toNat] ++ (data ++ sum))),
                  AVal.int IntKind.i64 (0 : Int)])))))))) := by kernel_rfl

set_option maxRecDepth 100000 in
theorem w_enc_ff (id total typ k : Int) (lb data sum : List UInt8) (K : Out → Prop) : (callC (TG1.ctx Try.prog) 100 21 [.agg [.bool false, .bool false, .int .i64 id, .int .i64 total, .int .i64 typ, .int .i64 k, .str lb, .str data, .str sum]] ⟨0, []⟩ (fun o _ => K o)
) = (branch (!gMay false false id total typ k lb sum)
  (K (Out.ret (AVal.tup [AVal.str [], AVal.int IntKind.i64 (2 : Int)])))
  (obl (decide ((↑(data.length + sum.length) : Int) ≤ (9223372036854775807 : Int)))
    (obl
      (decide
        ((↑(([] ++ [UInt8.ofNat (id % (256 : Int)).toNat]).length + (data ++ sum).length) : Int) ≤
          (9223372036854775807 : Int)))
      (branch (decide ((4095 : Int) < (↑([] ++ [UInt8.ofNat (id % (256 : Int)).toNat] ++ (data ++ sum)).length : Int)))
        (K (Out.ret (AVal.tup [AVal.str [], AVal.int IntKind.i64 (3 : Int)])))
        (obl
          (decide
            ((↑([UInt8.ofNat
                          (bitsA BinOp.or IntKind.u8 (48 : Int)
                              ((↑([] ++ [UInt8.ofNat (id % (256 : Int)).toNat] ++ (data ++ sum)).length : Int) /
                                  (256 : Int) %
                                (256 : Int))).toNat,
                        UInt8.ofNat
                          ((↑([] ++ [UInt8.ofNat (id % (256 : Int)).toNat] ++ (data ++ sum)).length : Int) %
                              (256 : Int)).toNat].length +
                    ([] ++ [UInt8.ofNat (id % (256 : Int)).toNat] ++ (data ++ sum)).length) :
                Int) ≤
              (9223372036854775807 : Int)))
          (K
            (Out.ret
              (AVal.tup
                [AVal.str
                    ([UInt8.ofNat
                          (bitsA BinOp.or IntKind.u8 (48 : Int)
                              ((↑([] ++ [UInt8.ofNat (id % (256 : Int)).toNat] ++ (data ++ sum)).length : Int) /
                                  (256 : Int) %
                                (256 : Int))).toNat,
                        UInt8.ofNat
                          ((↑([] ++ [UInt8.ofNat (id % (256 : Int)).toNat] ++ (data ++ sum)).length : Int) %
                              (256 : Int)).toNat] ++
                      ([] ++ [UInt8.ofNat (id % (256 : Int)).toNat] ++ (data ++ sum))),
                  AVal.int IntKind.i64 (0 : Int)])))))))) := by kernel_rfl

end Go.Proofs.Ytjacnjecggedhaa
