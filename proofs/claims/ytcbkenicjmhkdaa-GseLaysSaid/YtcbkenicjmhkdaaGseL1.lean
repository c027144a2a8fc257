/-
  Walks, printed: what calls come to, as they are reckoned.
-/
import Derived.Test.YtcbkenicjmhkdaaGseR9
namespace Go.Proofs.Ytcbkenicjmhkdaa
set_option linter.unusedVariables false
set_option linter.unusedSimpArgs false
open Go.RowKit Ev

set_option maxRecDepth 100000 in
theorem w_lays (st en : Bool) (id total typ k : Int) (lb data sum : List UInt8) (zeros : Int) (K : Out → Prop) : (callC (TE.ctx Try.prog) 100 4 [.agg [.bool st, .bool en, .int .i64 id, .int .i64 total, .int .i64 typ, .int .i64 k, .str lb, .str data, .str sum], .int .u16 zeros] ⟨0, []⟩ (fun o _ => K o)
) = (obl (inI64 zeros)
  (obl (decide ((0 : Int) ≤ zeros ∧ (0 : Int) < (4200 : Int)))
    (obl
      (decide
        ((0 : Int) ≤ zeros % (4200 : Int) ∧
          zeros % (4200 : Int) = zeros % (4200 : Int) ∧
            zeros % (4200 : Int) ≤ (9223372036854775807 : Int) ∧
              (1 : Int) * (zeros % (4200 : Int)) ≤ (281474976710656 : Int) ∧
                (1 : Nat) = (1 : Nat) ∧ (0 : Nat) < (1 : Nat)))
      (obl (decide ((0 : Nat) + (zeros % (4200 : Int)).toNat ≤ (repN (zeros % (4200 : Int)).toNat (0 : UInt8)).length))
        (obl
          (decide
            ((↑((List.take (4500 : Nat) data).length +
                    (List.take (zeros % (4200 : Int)).toNat
                        (List.drop (0 : Nat) (repN (zeros % (4200 : Int)).toNat (0 : UInt8)))).length) :
                Int) ≤
              (9223372036854775807 : Int)))
          (obl
            (decide
              ((List.take (20 : Nat) lb).length +
                    (List.take (4500 : Nat) data ++
                        List.take (zeros % (4200 : Int)).toNat
                          (List.drop (0 : Nat) (repN (zeros % (4200 : Int)).toNat (0 : UInt8)))).length +
                  (List.take (20 : Nat) sum).length ≤
                (9223372036854775000 : Nat)))
            (obl
              (decide
                ((List.take (20 : Nat) lb).length +
                      (List.take (4500 : Nat) data ++
                          List.take (zeros % (4200 : Int)).toNat
                            (List.drop (0 : Nat) (repN (zeros % (4200 : Int)).toNat (0 : UInt8)))).length +
                    (List.take (20 : Nat) sum).length ≤
                  (9223372036854775000 : Nat)))
              (obl
                (decide
                  ((List.take (20 : Nat) lb).length +
                        (List.take (4500 : Nat) data ++
                            List.take (zeros % (4200 : Int)).toNat
                              (List.drop (0 : Nat) (repN (zeros % (4200 : Int)).toNat (0 : UInt8)))).length +
                      (List.take (20 : Nat) sum).length ≤
                    (9223372036854775000 : Nat)))
                (branch
                  (decide
                    (gEnc st en id total typ k (List.take (20 : Nat) lb)
                        (List.take (4500 : Nat) data ++
                          List.take (zeros % (4200 : Int)).toNat
                            (List.drop (0 : Nat) (repN (zeros % (4200 : Int)).toNat (0 : UInt8))))
                        (List.take (20 : Nat) sum) =
                      gEnc st en id total typ k (List.take (20 : Nat) lb)
                        (List.take (4500 : Nat) data ++
                          List.take (zeros % (4200 : Int)).toNat
                            (List.drop (0 : Nat) (repN (zeros % (4200 : Int)).toNat (0 : UInt8))))
                        (List.take (20 : Nat) sum)))
                  (branch
                    (decide
                      (gErr st en id total typ k (List.take (20 : Nat) lb)
                          (List.take (4500 : Nat) data ++
                            List.take (zeros % (4200 : Int)).toNat
                              (List.drop (0 : Nat) (repN (zeros % (4200 : Int)).toNat (0 : UInt8))))
                          (List.take (20 : Nat) sum) =
                        gErr st en id total typ k (List.take (20 : Nat) lb)
                          (List.take (4500 : Nat) data ++
                            List.take (zeros % (4200 : Int)).toNat
                              (List.drop (0 : Nat) (repN (zeros % (4200 : Int)).toNat (0 : UInt8))))
                          (List.take (20 : Nat) sum)))
                    (obl
                      (decide
                        ((List.take (20 : Nat) lb).length +
                              (List.take (4500 : Nat) data ++
                                  List.take (zeros % (4200 : Int)).toNat
                                    (List.drop (0 : Nat) (repN (zeros % (4200 : Int)).toNat (0 : UInt8)))).length +
                            (List.take (20 : Nat) sum).length ≤
                          (9223372036854775000 : Nat)))
                      (branch
                        (decide
                          (gErr st en id total typ k (List.take (20 : Nat) lb)
                              (List.take (4500 : Nat) data ++
                                List.take (zeros % (4200 : Int)).toNat
                                  (List.drop (0 : Nat) (repN (zeros % (4200 : Int)).toNat (0 : UInt8))))
                              (List.take (20 : Nat) sum) =
                            gErr st en id total typ k (List.take (20 : Nat) lb)
                              (List.take (4500 : Nat) data ++
                                List.take (zeros % (4200 : Int)).toNat
                                  (List.drop (0 : Nat) (repN (zeros % (4200 : Int)).toNat (0 : UInt8))))
                              (List.take (20 : Nat) sum)))
                        (branch
                          (decide
                            ((↑(gEnc st en id total typ k (List.take (20 : Nat) lb)
                                      (List.take (4500 : Nat) data ++
                                        List.take (zeros % (4200 : Int)).toNat
                                          (List.drop (0 : Nat) (repN (zeros % (4200 : Int)).toNat (0 : UInt8))))
                                      (List.take (20 : Nat) sum)).length :
                                Int) =
                              (↑(gEnc st en id total typ k (List.take (20 : Nat) lb)
                                      (List.take (4500 : Nat) data ++
                                        List.take (zeros % (4200 : Int)).toNat
                                          (List.drop (0 : Nat) (repN (zeros % (4200 : Int)).toNat (0 : UInt8))))
                                      (List.take (20 : Nat) sum)).length :
                                Int)))
                          (branch
                            (decide
                              (gErr st en id total typ k (List.take (20 : Nat) lb)
                                  (List.take (4500 : Nat) data ++
                                    List.take (zeros % (4200 : Int)).toNat
                                      (List.drop (0 : Nat) (repN (zeros % (4200 : Int)).toNat (0 : UInt8))))
                                  (List.take (20 : Nat) sum) =
                                gErr st en id total typ k (List.take (20 : Nat) lb)
                                  (List.take (4500 : Nat) data ++
                                    List.take (zeros % (4200 : Int)).toNat
                                      (List.drop (0 : Nat) (repN (zeros % (4200 : Int)).toNat (0 : UInt8))))
                                  (List.take (20 : Nat) sum)))
                            (K (Out.ret (AVal.bool true))) (K (Out.ret (AVal.bool false))))
                          (K (Out.ret (AVal.bool false))))
                        (K (Out.ret (AVal.bool false)))))
                    (K (Out.ret (AVal.bool false))))
                  (K (Out.ret (AVal.bool false)))))))))))) := by kernel_rfl

end Go.Proofs.Ytcbkenicjmhkdaa
