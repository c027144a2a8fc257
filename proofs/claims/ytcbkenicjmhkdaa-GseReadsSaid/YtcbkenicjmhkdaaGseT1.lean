/-
  Walks, printed: what calls come to, as they are reckoned.
-/
import Derived.Test.YtcbkenicjmhkdaaGseS2
namespace Go.Proofs.Ytcbkenicjmhkdaa
set_option linter.unusedVariables false
set_option linter.unusedSimpArgs false
open Go.RowKit Ev

set_option maxRecDepth 100000 in
theorem w_reads (s : List UInt8) (K : Out → Prop) : (callC (TS.ctx Try.prog) 100 5 [.str s] ⟨0, []⟩ (fun o _ => K o)
) = (obl
  (decide ((0 : Int) ≤ min (↑s.length : Int) (9000 : Int) ∧ min (↑s.length : Int) (9000 : Int) ≤ (↑s.length : Int)))
  (obl (decide ((List.take (min (↑s.length : Int) (9000 : Int)).toNat s).length ≤ (9223372036854775000 : Nat)))
    (obl (decide ((List.take (min (↑s.length : Int) (9000 : Int)).toNat s).length ≤ (9223372036854775000 : Nat)))
      (obl (decide ((List.take (min (↑s.length : Int) (9000 : Int)).toNat s).length ≤ (1000000000 : Nat)))
        (branch (allP (List.take (min (↑s.length : Int) (9000 : Int)).toNat s)).isEmpty
          (obl (decide ((List.take (min (↑s.length : Int) (9000 : Int)).toNat s).length ≤ (1000000000 : Nat)))
            (branch (allP (List.take (min (↑s.length : Int) (9000 : Int)).toNat s)).isEmpty
              (branch
                ((dec (List.take (min (↑s.length : Int) (9000 : Int)).toNat s)).p.st ==
                    (dec (List.take (min (↑s.length : Int) (9000 : Int)).toNat s)).p.st &&
                  ((dec (List.take (min (↑s.length : Int) (9000 : Int)).toNat s)).p.en ==
                      (dec (List.take (min (↑s.length : Int) (9000 : Int)).toNat s)).p.en &&
                    (decide
                        ((dec (List.take (min (↑s.length : Int) (9000 : Int)).toNat s)).p.id =
                          (dec (List.take (min (↑s.length : Int) (9000 : Int)).toNat s)).p.id) &&
                      (decide
                          ((dec (List.take (min (↑s.length : Int) (9000 : Int)).toNat s)).p.total =
                            (dec (List.take (min (↑s.length : Int) (9000 : Int)).toNat s)).p.total) &&
                        (decide
                            ((dec (List.take (min (↑s.length : Int) (9000 : Int)).toNat s)).p.typ =
                              (dec (List.take (min (↑s.length : Int) (9000 : Int)).toNat s)).p.typ) &&
                          (decide
                                ((dec (List.take (min (↑s.length : Int) (9000 : Int)).toNat s)).p.k =
                                  (dec (List.take (min (↑s.length : Int) (9000 : Int)).toNat s)).p.k) &&
                              (decide
                                  ((dec (List.take (min (↑s.length : Int) (9000 : Int)).toNat s)).p.lb =
                                    (dec (List.take (min (↑s.length : Int) (9000 : Int)).toNat s)).p.lb) &&
                                true) &&
                            (decide
                                ((dec (List.take (min (↑s.length : Int) (9000 : Int)).toNat s)).p.data =
                                  (dec (List.take (min (↑s.length : Int) (9000 : Int)).toNat s)).p.data) &&
                              (decide
                                  ((dec (List.take (min (↑s.length : Int) (9000 : Int)).toNat s)).p.sum =
                                    (dec (List.take (min (↑s.length : Int) (9000 : Int)).toNat s)).p.sum) &&
                                true))))))))
                (branch
                  (decide
                    ((dec (List.take (min (↑s.length : Int) (9000 : Int)).toNat s)).n =
                      (dec (List.take (min (↑s.length : Int) (9000 : Int)).toNat s)).n))
                  (branch
                    (decide
                      ((dec (List.take (min (↑s.length : Int) (9000 : Int)).toNat s)).e =
                        (dec (List.take (min (↑s.length : Int) (9000 : Int)).toNat s)).e))
                    (branch
                      (decide
                        (allE (List.take (min (↑s.length : Int) (9000 : Int)).toNat s) =
                          allE (List.take (min (↑s.length : Int) (9000 : Int)).toNat s)))
                      (K (Out.ret (AVal.bool true))) (K (Out.ret (AVal.bool false))))
                    (K (Out.ret (AVal.bool false))))
                  (K (Out.ret (AVal.bool false))))
                (K (Out.ret (AVal.bool false))))
              (branch
                ((dec (List.take (min (↑s.length : Int) (9000 : Int)).toNat s)).p.st ==
                    (dec (List.take (min (↑s.length : Int) (9000 : Int)).toNat s)).p.st &&
                  ((dec (List.take (min (↑s.length : Int) (9000 : Int)).toNat s)).p.en ==
                      (dec (List.take (min (↑s.length : Int) (9000 : Int)).toNat s)).p.en &&
                    (decide
                        ((dec (List.take (min (↑s.length : Int) (9000 : Int)).toNat s)).p.id =
                          (dec (List.take (min (↑s.length : Int) (9000 : Int)).toNat s)).p.id) &&
                      (decide
                          ((dec (List.take (min (↑s.length : Int) (9000 : Int)).toNat s)).p.total =
                            (dec (List.take (min (↑s.length : Int) (9000 : Int)).toNat s)).p.total) &&
                        (decide
                            ((dec (List.take (min (↑s.length : Int) (9000 : Int)).toNat s)).p.typ =
                              (dec (List.take (min (↑s.length : Int) (9000 : Int)).toNat s)).p.typ) &&
                          (decide
                                ((dec (List.take (min (↑s.length : Int) (9000 : Int)).toNat s)).p.k =
                                  (dec (List.take (min (↑s.length : Int) (9000 : Int)).toNat s)).p.k) &&
                              (decide
                                  ((dec (List.take (min (↑s.length : Int) (9000 : Int)).toNat s)).p.lb =
                                    (dec (List.take (min (↑s.length : Int) (9000 : Int)).toNat s)).p.lb) &&
                                true) &&
                            (decide
                                ((dec (List.take (min (↑s.length : Int) (9000 : Int)).toNat s)).p.data =
                                  (dec (List.take (min (↑s.length : Int) (9000 : Int)).toNat s)).p.data) &&
                              (decide
                                  ((dec (List.take (min (↑s.length : Int) (9000 : Int)).toNat s)).p.sum =
                                    (dec (List.take (min (↑s.length : Int) (9000 : Int)).toNat s)).p.sum) &&
                                true))))))))
                (branch
                  (decide
                    ((dec (List.take (min (↑s.length : Int) (9000 : Int)).toNat s)).n =
                      (dec (List.take (min (↑s.length : Int) (9000 : Int)).toNat s)).n))
                  (branch
                    (decide
                      ((dec (List.take (min (↑s.length : Int) (9000 : Int)).toNat s)).e =
                        (dec (List.take (min (↑s.length : Int) (9000 : Int)).toNat s)).e))
                    (obl (decide ((0 : Nat) < (allP (List.take (min (↑s.length : Int) (9000 : Int)).toNat s)).length))
                      (K (Out.ret (AVal.bool false))))
                    (K (Out.ret (AVal.bool false))))
                  (K (Out.ret (AVal.bool false))))
                (K (Out.ret (AVal.bool false))))))
          (obl (decide ((List.take (min (↑s.length : Int) (9000 : Int)).toNat s).length ≤ (1000000000 : Nat)))
            (branch (allP (List.take (min (↑s.length : Int) (9000 : Int)).toNat s)).isEmpty
              (branch
                ((dec (List.take (min (↑s.length : Int) (9000 : Int)).toNat s)).p.st ==
                    (dec (List.take (min (↑s.length : Int) (9000 : Int)).toNat s)).p.st &&
                  ((dec (List.take (min (↑s.length : Int) (9000 : Int)).toNat s)).p.en ==
                      (dec (List.take (min (↑s.length : Int) (9000 : Int)).toNat s)).p.en &&
                    (decide
                        ((dec (List.take (min (↑s.length : Int) (9000 : Int)).toNat s)).p.id =
                          (dec (List.take (min (↑s.length : Int) (9000 : Int)).toNat s)).p.id) &&
                      (decide
                          ((dec (List.take (min (↑s.length : Int) (9000 : Int)).toNat s)).p.total =
                            (dec (List.take (min (↑s.length : Int) (9000 : Int)).toNat s)).p.total) &&
                        (decide
                            ((dec (List.take (min (↑s.length : Int) (9000 : Int)).toNat s)).p.typ =
                              (dec (List.take (min (↑s.length : Int) (9000 : Int)).toNat s)).p.typ) &&
                          (decide
                                ((dec (List.take (min (↑s.length : Int) (9000 : Int)).toNat s)).p.k =
                                  (dec (List.take (min (↑s.length : Int) (9000 : Int)).toNat s)).p.k) &&
                              (decide
                                  ((dec (List.take (min (↑s.length : Int) (9000 : Int)).toNat s)).p.lb =
                                    (dec (List.take (min (↑s.length : Int) (9000 : Int)).toNat s)).p.lb) &&
                                true) &&
                            (decide
                                ((dec (List.take (min (↑s.length : Int) (9000 : Int)).toNat s)).p.data =
                                  (dec (List.take (min (↑s.length : Int) (9000 : Int)).toNat s)).p.data) &&
                              (decide
                                  ((dec (List.take (min (↑s.length : Int) (9000 : Int)).toNat s)).p.sum =
                                    (dec (List.take (min (↑s.length : Int) (9000 : Int)).toNat s)).p.sum) &&
                                true))))))))
                (branch
                  (decide
                    ((dec (List.take (min (↑s.length : Int) (9000 : Int)).toNat s)).n =
                      (dec (List.take (min (↑s.length : Int) (9000 : Int)).toNat s)).n))
                  (branch
                    (decide
                      ((dec (List.take (min (↑s.length : Int) (9000 : Int)).toNat s)).e =
                        (dec (List.take (min (↑s.length : Int) (9000 : Int)).toNat s)).e))
                    (obl (decide ((0 : Nat) < (allP (List.take (min (↑s.length : Int) (9000 : Int)).toNat s)).length))
                      (K (Out.ret (AVal.bool false))))
                    (K (Out.ret (AVal.bool false))))
                  (K (Out.ret (AVal.bool false))))
                (K (Out.ret (AVal.bool false))))
              (branch
                ((dec (List.take (min (↑s.length : Int) (9000 : Int)).toNat s)).p.st ==
                    (dec (List.take (min (↑s.length : Int) (9000 : Int)).toNat s)).p.st &&
                  ((dec (List.take (min (↑s.length : Int) (9000 : Int)).toNat s)).p.en ==
                      (dec (List.take (min (↑s.length : Int) (9000 : Int)).toNat s)).p.en &&
                    (decide
                        ((dec (List.take (min (↑s.length : Int) (9000 : Int)).toNat s)).p.id =
                          (dec (List.take (min (↑s.length : Int) (9000 : Int)).toNat s)).p.id) &&
                      (decide
                          ((dec (List.take (min (↑s.length : Int) (9000 : Int)).toNat s)).p.total =
                            (dec (List.take (min (↑s.length : Int) (9000 : Int)).toNat s)).p.total) &&
                        (decide
                            ((dec (List.take (min (↑s.length : Int) (9000 : Int)).toNat s)).p.typ =
                              (dec (List.take (min (↑s.length : Int) (9000 : Int)).toNat s)).p.typ) &&
                          (decide
                                ((dec (List.take (min (↑s.length : Int) (9000 : Int)).toNat s)).p.k =
                                  (dec (List.take (min (↑s.length : Int) (9000 : Int)).toNat s)).p.k) &&
                              (decide
                                  ((dec (List.take (min (↑s.length : Int) (9000 : Int)).toNat s)).p.lb =
                                    (dec (List.take (min (↑s.length : Int) (9000 : Int)).toNat s)).p.lb) &&
                                true) &&
                            (decide
                                ((dec (List.take (min (↑s.length : Int) (9000 : Int)).toNat s)).p.data =
                                  (dec (List.take (min (↑s.length : Int) (9000 : Int)).toNat s)).p.data) &&
                              (decide
                                  ((dec (List.take (min (↑s.length : Int) (9000 : Int)).toNat s)).p.sum =
                                    (dec (List.take (min (↑s.length : Int) (9000 : Int)).toNat s)).p.sum) &&
                                true))))))))
                (branch
                  (decide
                    ((dec (List.take (min (↑s.length : Int) (9000 : Int)).toNat s)).n =
                      (dec (List.take (min (↑s.length : Int) (9000 : Int)).toNat s)).n))
                  (branch
                    (decide
                      ((dec (List.take (min (↑s.length : Int) (9000 : Int)).toNat s)).e =
                        (dec (List.take (min (↑s.length : Int) (9000 : Int)).toNat s)).e))
                    (obl
                      (true &&
                        sameOk pieceRow (allP (List.take (min (↑s.length : Int) (9000 : Int)).toNat s)) pieceRow
                          (allP (List.take (min (↑s.length : Int) (9000 : Int)).toNat s))
                          (allP (List.take (min (↑s.length : Int) (9000 : Int)).toNat s)).length
                          (allP (List.take (min (↑s.length : Int) (9000 : Int)).toNat s)).length)
                      (branch
                        (sameV pieceRow (allP (List.take (min (↑s.length : Int) (9000 : Int)).toNat s)) pieceRow
                          (allP (List.take (min (↑s.length : Int) (9000 : Int)).toNat s)))
                        (branch
                          (decide
                            (allE (List.take (min (↑s.length : Int) (9000 : Int)).toNat s) =
                              allE (List.take (min (↑s.length : Int) (9000 : Int)).toNat s)))
                          (K (Out.ret (AVal.bool true))) (K (Out.ret (AVal.bool false))))
                        (K (Out.ret (AVal.bool false)))))
                    (K (Out.ret (AVal.bool false))))
                  (K (Out.ret (AVal.bool false))))
                (K (Out.ret (AVal.bool false))))))))))) := by kernel_rfl

end Go.Proofs.Ytcbkenicjmhkdaa
