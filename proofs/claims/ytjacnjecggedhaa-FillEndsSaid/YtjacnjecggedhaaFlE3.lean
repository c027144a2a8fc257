/-
  Walks, printed: what calls come to, as they are reckoned.
-/
import Derived.Test.YtjacnjecggedhaaFlEL2
namespace Go.Proofs.Ytjacnjecggedhaa
set_option linter.unusedVariables false
set_option linter.unusedSimpArgs false
open Go.RowKit Ev

set_option maxRecDepth 100000 in
theorem w_ends (p : PieceR) (s0 s1 : Bool) (sp : Int) (K : Out → Prop) : (callC (TO.ctx Try.prog) 100 7 [.agg [.bool p.st, .bool p.en, .int .i64 p.id, .int .i64 p.total, .int .i64 p.typ, .int .i64 p.k, .str p.lb, .str p.data, .str p.sum], .agg [.bool s0, .bool s1], .int .u16 sp] ⟨0, []⟩ (fun o _ => K o)
) = (obl
  (decide
    ((0 : Int) ≤ min (↑p.data.length : Int) (4500 : Int) ∧
      min (↑p.data.length : Int) (4500 : Int) ≤ (↑p.data.length : Int)))
  (obl
    (decide
      ((0 : Int) ≤ min (↑p.lb.length : Int) (20 : Int) ∧ min (↑p.lb.length : Int) (20 : Int) ≤ (↑p.lb.length : Int)))
    (obl
      (decide
        ((0 : Int) ≤ min (↑p.sum.length : Int) (20 : Int) ∧
          min (↑p.sum.length : Int) (20 : Int) ≤ (↑p.sum.length : Int)))
      (obl (inI64 sp)
        (obl (decide ((0 : Int) ≤ sp ∧ (0 : Int) < (7300 : Int)))
          (obl
            (decide
              ((List.take (min (↑p.data.length : Int) (4500 : Int)).toNat p.data).length ≤ (4500 : Nat) ∧
                (List.take (min (↑p.lb.length : Int) (20 : Int)).toNat p.lb).length ≤ (20 : Nat) ∧
                  (List.take (min (↑p.sum.length : Int) (20 : Int)).toNat p.sum).length ≤ (20 : Nat) ∧
                    sp % (7300 : Int) ≤ (7300 : Int)))
            (branch
              (decide
                (oddSent
                    (OddS.mk
                      (PieceR.mk p.st p.en p.id p.total p.typ p.k
                        (List.take (min (↑p.lb.length : Int) (20 : Int)).toNat p.lb)
                        (List.take (min (↑p.data.length : Int) (4500 : Int)).toNat p.data)
                        (List.take (min (↑p.sum.length : Int) (20 : Int)).toNat p.sum))
                      s0 s1 (sp % (7300 : Int))) =
                  (0 : Nat)))
              (obl
                (decide
                  ((List.take (min (↑p.lb.length : Int) (20 : Int)).toNat p.lb).length +
                        (List.take (min (↑p.data.length : Int) (4500 : Int)).toNat p.data).length +
                      (List.take (min (↑p.sum.length : Int) (20 : Int)).toNat p.sum).length ≤
                    (9223372036854775000 : Nat)))
                (branch
                  (!decide
                      (gErr p.st p.en p.id p.total p.typ p.k
                          (List.take (min (↑p.lb.length : Int) (20 : Int)).toNat p.lb)
                          (List.take (min (↑p.data.length : Int) (4500 : Int)).toNat p.data)
                          (List.take (min (↑p.sum.length : Int) (20 : Int)).toNat p.sum) =
                        (0 : Int)))
                  (branch
                    (decide
                      (repL
                          (oddK
                            (OddS.mk
                              (PieceR.mk p.st p.en p.id p.total p.typ p.k
                                (List.take (min (↑p.lb.length : Int) (20 : Int)).toNat p.lb)
                                (List.take (min (↑p.data.length : Int) (4500 : Int)).toNat p.data)
                                (List.take (min (↑p.sum.length : Int) (20 : Int)).toNat p.sum))
                              s0 s1 (sp % (7300 : Int))))
                          (oT
                            (OddS.mk
                              (PieceR.mk p.st p.en p.id p.total p.typ p.k
                                (List.take (min (↑p.lb.length : Int) (20 : Int)).toNat p.lb)
                                (List.take (min (↑p.data.length : Int) (4500 : Int)).toNat p.data)
                                (List.take (min (↑p.sum.length : Int) (20 : Int)).toNat p.sum))
                              s0 s1 (sp % (7300 : Int)))) =
                        []))
                    (K (Out.ret (AVal.bool true))) (K (Out.ret (AVal.bool false))))
                  (branch
                    (decide
                      ((↑(gEnc p.st p.en p.id p.total p.typ p.k
                                (List.take (min (↑p.lb.length : Int) (20 : Int)).toNat p.lb)
                                (List.take (min (↑p.data.length : Int) (4500 : Int)).toNat p.data)
                                (List.take (min (↑p.sum.length : Int) (20 : Int)).toNat p.sum)).length :
                          Int) <
                        (1 : Int)))
                    (K (Out.ret (AVal.bool false)))
                    (obl (inI64 sp)
                      (obl (decide ((0 : Int) ≤ sp ∧ (0 : Int) < (7300 : Int)))
                        (branch
                          (decide
                            ((↑(repL
                                      (oddK
                                        (OddS.mk
                                          (PieceR.mk p.st p.en p.id p.total p.typ p.k
                                            (List.take (min (↑p.lb.length : Int) (20 : Int)).toNat p.lb)
                                            (List.take (min (↑p.data.length : Int) (4500 : Int)).toNat p.data)
                                            (List.take (min (↑p.sum.length : Int) (20 : Int)).toNat p.sum))
                                          s0 s1 (sp % (7300 : Int))))
                                      (oT
                                        (OddS.mk
                                          (PieceR.mk p.st p.en p.id p.total p.typ p.k
                                            (List.take (min (↑p.lb.length : Int) (20 : Int)).toNat p.lb)
                                            (List.take (min (↑p.data.length : Int) (4500 : Int)).toNat p.data)
                                            (List.take (min (↑p.sum.length : Int) (20 : Int)).toNat p.sum))
                                          s0 s1 (sp % (7300 : Int))))).length :
                                Int) ≤
                              sp % (7300 : Int)))
                          (obl
                            (decide
                              ((0 : Int) ≤
                                  (↑(repL
                                          (oddK
                                            (OddS.mk
                                              (PieceR.mk p.st p.en p.id p.total p.typ p.k
                                                (List.take (min (↑p.lb.length : Int) (20 : Int)).toNat p.lb)
                                                (List.take (min (↑p.data.length : Int) (4500 : Int)).toNat p.data)
                                                (List.take (min (↑p.sum.length : Int) (20 : Int)).toNat p.sum))
                                              s0 s1 (sp % (7300 : Int))))
                                          (oT
                                            (OddS.mk
                                              (PieceR.mk p.st p.en p.id p.total p.typ p.k
                                                (List.take (min (↑p.lb.length : Int) (20 : Int)).toNat p.lb)
                                                (List.take (min (↑p.data.length : Int) (4500 : Int)).toNat p.data)
                                                (List.take (min (↑p.sum.length : Int) (20 : Int)).toNat p.sum))
                                              s0 s1 (sp % (7300 : Int))))).length :
                                    Int) ∧
                                (0 : Int) <
                                  (↑(gEnc p.st p.en p.id p.total p.typ p.k
                                          (List.take (min (↑p.lb.length : Int) (20 : Int)).toNat p.lb)
                                          (List.take (min (↑p.data.length : Int) (4500 : Int)).toNat p.data)
                                          (List.take (min (↑p.sum.length : Int) (20 : Int)).toNat p.sum)).length :
                                    Int)))
                            (branch
                              (decide
                                ((↑(repL
                                            (oddK
                                              (OddS.mk
                                                (PieceR.mk p.st p.en p.id p.total p.typ p.k
                                                  (List.take (min (↑p.lb.length : Int) (20 : Int)).toNat p.lb)
                                                  (List.take (min (↑p.data.length : Int) (4500 : Int)).toNat p.data)
                                                  (List.take (min (↑p.sum.length : Int) (20 : Int)).toNat p.sum))
                                                s0 s1 (sp % (7300 : Int))))
                                            (oT
                                              (OddS.mk
                                                (PieceR.mk p.st p.en p.id p.total p.typ p.k
                                                  (List.take (min (↑p.lb.length : Int) (20 : Int)).toNat p.lb)
                                                  (List.take (min (↑p.data.length : Int) (4500 : Int)).toNat p.data)
                                                  (List.take (min (↑p.sum.length : Int) (20 : Int)).toNat p.sum))
                                                s0 s1 (sp % (7300 : Int))))).length :
                                      Int) %
                                    (↑(gEnc p.st p.en p.id p.total p.typ p.k
                                            (List.take (min (↑p.lb.length : Int) (20 : Int)).toNat p.lb)
                                            (List.take (min (↑p.data.length : Int) (4500 : Int)).toNat p.data)
                                            (List.take (min (↑p.sum.length : Int) (20 : Int)).toNat p.sum)).length :
                                      Int) =
                                  (0 : Int)))
                              (same s0 (K (Out.ret (AVal.bool true)))) (K (Out.ret (AVal.bool false)))))
                          (K (Out.ret (AVal.bool false)))))))))
              (obl
                (decide
                  ((List.take (min (↑p.lb.length : Int) (20 : Int)).toNat p.lb).length +
                        (List.take (min (↑p.data.length : Int) (4500 : Int)).toNat p.data).length +
                      (List.take (min (↑p.sum.length : Int) (20 : Int)).toNat p.sum).length ≤
                    (9223372036854775000 : Nat)))
                (branch
                  (!decide
                      (gErr p.st p.en p.id p.total p.typ p.k
                          (List.take (min (↑p.lb.length : Int) (20 : Int)).toNat p.lb)
                          (List.take (min (↑p.data.length : Int) (4500 : Int)).toNat p.data)
                          (List.take (min (↑p.sum.length : Int) (20 : Int)).toNat p.sum) =
                        (0 : Int)))
                  (branch
                    (decide
                      (repL
                          (oddK
                            (OddS.mk
                              (PieceR.mk p.st p.en p.id p.total p.typ p.k
                                (List.take (min (↑p.lb.length : Int) (20 : Int)).toNat p.lb)
                                (List.take (min (↑p.data.length : Int) (4500 : Int)).toNat p.data)
                                (List.take (min (↑p.sum.length : Int) (20 : Int)).toNat p.sum))
                              s0 s1 (sp % (7300 : Int))))
                          (oT
                            (OddS.mk
                              (PieceR.mk p.st p.en p.id p.total p.typ p.k
                                (List.take (min (↑p.lb.length : Int) (20 : Int)).toNat p.lb)
                                (List.take (min (↑p.data.length : Int) (4500 : Int)).toNat p.data)
                                (List.take (min (↑p.sum.length : Int) (20 : Int)).toNat p.sum))
                              s0 s1 (sp % (7300 : Int)))) =
                        []))
                    (K
                      (Out.ret
                        (AVal.bool
                          (decide
                            ((↑(oddSent
                                    (OddS.mk
                                      (PieceR.mk p.st p.en p.id p.total p.typ p.k
                                        (List.take (min (↑p.lb.length : Int) (20 : Int)).toNat p.lb)
                                        (List.take (min (↑p.data.length : Int) (4500 : Int)).toNat p.data)
                                        (List.take (min (↑p.sum.length : Int) (20 : Int)).toNat p.sum))
                                      s0 s1 (sp % (7300 : Int)))) :
                                Int) =
                              (0 : Int))))))
                    (K (Out.ret (AVal.bool false))))
                  (branch
                    (decide
                      ((↑(gEnc p.st p.en p.id p.total p.typ p.k
                                (List.take (min (↑p.lb.length : Int) (20 : Int)).toNat p.lb)
                                (List.take (min (↑p.data.length : Int) (4500 : Int)).toNat p.data)
                                (List.take (min (↑p.sum.length : Int) (20 : Int)).toNat p.sum)).length :
                          Int) <
                        (1 : Int)))
                    (K (Out.ret (AVal.bool false)))
                    (obl (inI64 sp)
                      (obl (decide ((0 : Int) ≤ sp ∧ (0 : Int) < (7300 : Int)))
                        (branch
                          (decide
                            ((↑(repL
                                      (oddK
                                        (OddS.mk
                                          (PieceR.mk p.st p.en p.id p.total p.typ p.k
                                            (List.take (min (↑p.lb.length : Int) (20 : Int)).toNat p.lb)
                                            (List.take (min (↑p.data.length : Int) (4500 : Int)).toNat p.data)
                                            (List.take (min (↑p.sum.length : Int) (20 : Int)).toNat p.sum))
                                          s0 s1 (sp % (7300 : Int))))
                                      (oT
                                        (OddS.mk
                                          (PieceR.mk p.st p.en p.id p.total p.typ p.k
                                            (List.take (min (↑p.lb.length : Int) (20 : Int)).toNat p.lb)
                                            (List.take (min (↑p.data.length : Int) (4500 : Int)).toNat p.data)
                                            (List.take (min (↑p.sum.length : Int) (20 : Int)).toNat p.sum))
                                          s0 s1 (sp % (7300 : Int))))).length :
                                Int) ≤
                              sp % (7300 : Int)))
                          (obl
                            (decide
                              ((0 : Int) ≤
                                  (↑(repL
                                          (oddK
                                            (OddS.mk
                                              (PieceR.mk p.st p.en p.id p.total p.typ p.k
                                                (List.take (min (↑p.lb.length : Int) (20 : Int)).toNat p.lb)
                                                (List.take (min (↑p.data.length : Int) (4500 : Int)).toNat p.data)
                                                (List.take (min (↑p.sum.length : Int) (20 : Int)).toNat p.sum))
                                              s0 s1 (sp % (7300 : Int))))
                                          (oT
                                            (OddS.mk
                                              (PieceR.mk p.st p.en p.id p.total p.typ p.k
                                                (List.take (min (↑p.lb.length : Int) (20 : Int)).toNat p.lb)
                                                (List.take (min (↑p.data.length : Int) (4500 : Int)).toNat p.data)
                                                (List.take (min (↑p.sum.length : Int) (20 : Int)).toNat p.sum))
                                              s0 s1 (sp % (7300 : Int))))).length :
                                    Int) ∧
                                (0 : Int) <
                                  (↑(gEnc p.st p.en p.id p.total p.typ p.k
                                          (List.take (min (↑p.lb.length : Int) (20 : Int)).toNat p.lb)
                                          (List.take (min (↑p.data.length : Int) (4500 : Int)).toNat p.data)
                                          (List.take (min (↑p.sum.length : Int) (20 : Int)).toNat p.sum)).length :
                                    Int)))
                            (branch
                              (decide
                                ((↑(repL
                                            (oddK
                                              (OddS.mk
                                                (PieceR.mk p.st p.en p.id p.total p.typ p.k
                                                  (List.take (min (↑p.lb.length : Int) (20 : Int)).toNat p.lb)
                                                  (List.take (min (↑p.data.length : Int) (4500 : Int)).toNat p.data)
                                                  (List.take (min (↑p.sum.length : Int) (20 : Int)).toNat p.sum))
                                                s0 s1 (sp % (7300 : Int))))
                                            (oT
                                              (OddS.mk
                                                (PieceR.mk p.st p.en p.id p.total p.typ p.k
                                                  (List.take (min (↑p.lb.length : Int) (20 : Int)).toNat p.lb)
                                                  (List.take (min (↑p.data.length : Int) (4500 : Int)).toNat p.data)
                                                  (List.take (min (↑p.sum.length : Int) (20 : Int)).toNat p.sum))
                                                s0 s1 (sp % (7300 : Int))))).length :
                                      Int) %
                                    (↑(gEnc p.st p.en p.id p.total p.typ p.k
                                            (List.take (min (↑p.lb.length : Int) (20 : Int)).toNat p.lb)
                                            (List.take (min (↑p.data.length : Int) (4500 : Int)).toNat p.data)
                                            (List.take (min (↑p.sum.length : Int) (20 : Int)).toNat p.sum)).length :
                                      Int) =
                                  (0 : Int)))
                              (branch s0 (K (Out.ret (AVal.bool true)))
                                (K
                                  (Out.ret
                                    (AVal.bool
                                      (decide
                                        ((↑(oddSent
                                                (OddS.mk
                                                  (PieceR.mk p.st p.en p.id p.total p.typ p.k
                                                    (List.take (min (↑p.lb.length : Int) (20 : Int)).toNat p.lb)
                                                    (List.take (min (↑p.data.length : Int) (4500 : Int)).toNat p.data)
                                                    (List.take (min (↑p.sum.length : Int) (20 : Int)).toNat p.sum))
                                                  s0 s1 (sp % (7300 : Int)))) :
                                            Int) =
                                          (0 : Int)))))))
                              (K (Out.ret (AVal.bool false)))))
                          (K (Out.ret (AVal.bool false)))))))))))))))) := by kernel_rfl

end Go.Proofs.Ytjacnjecggedhaa
