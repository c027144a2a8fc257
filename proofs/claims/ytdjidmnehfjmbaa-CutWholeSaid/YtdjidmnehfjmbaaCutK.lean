/-
  Walks, printed: what calls come to, as they are reckoned.
-/
import Derived.Test.YtdjidmnehfjmbaaCutOk1
namespace Go.Proofs.Ytdjidmnehfjmbaa
set_option linter.unusedVariables false
set_option linter.unusedSimpArgs false
open Go.RowKit Ev

set_option maxRecDepth 100000 in
theorem w_cworks (K : Out → Prop) : (callC (TC.ctx Try.prog) 100 7 [] ⟨0, []⟩ (fun o _ => K o)
) = (K (Out.ret (AVal.bool true))) := by kernel_rfl

set_option maxRecDepth 100000 in
theorem w_cknown (K : Out → Prop) : (callC (TC.ctx Try.prog) 100 4 [] ⟨0, []⟩ (fun o _ => K o)
) = (obl (decide ((65520 : Nat) ≤ (repN (65520 : Nat) (0 : UInt8)).length))
  (branch
    (!((nextR (0 : Int) (2 : Int) [] (List.take (65520 : Nat) (List.drop (0 : Nat) (repN (65520 : Nat) (0 : UInt8))))
              (0 : Int) (0 : Int) (2 : Int) [] (100 : Int) false).st ==
          false &&
        ((nextR (0 : Int) (2 : Int) [] (List.take (65520 : Nat) (List.drop (0 : Nat) (repN (65520 : Nat) (0 : UInt8))))
                (0 : Int) (0 : Int) (2 : Int) [] (100 : Int) false).en ==
            false &&
          (decide
              ((nextR (0 : Int) (2 : Int) []
                    (List.take (65520 : Nat) (List.drop (0 : Nat) (repN (65520 : Nat) (0 : UInt8)))) (0 : Int) (0 : Int)
                    (2 : Int) [] (100 : Int) false).id =
                (0 : Int)) &&
            (decide
                ((nextR (0 : Int) (2 : Int) []
                      (List.take (65520 : Nat) (List.drop (0 : Nat) (repN (65520 : Nat) (0 : UInt8)))) (0 : Int)
                      (0 : Int) (2 : Int) [] (100 : Int) false).total =
                  (0 : Int)) &&
              (decide
                  ((nextR (0 : Int) (2 : Int) []
                        (List.take (65520 : Nat) (List.drop (0 : Nat) (repN (65520 : Nat) (0 : UInt8)))) (0 : Int)
                        (0 : Int) (2 : Int) [] (100 : Int) false).typ =
                    (0 : Int)) &&
                (decide
                      ((nextR (0 : Int) (2 : Int) []
                            (List.take (65520 : Nat) (List.drop (0 : Nat) (repN (65520 : Nat) (0 : UInt8)))) (0 : Int)
                            (0 : Int) (2 : Int) [] (100 : Int) false).k =
                        (0 : Int)) &&
                    (decide
                        ((nextR (0 : Int) (2 : Int) []
                              (List.take (65520 : Nat) (List.drop (0 : Nat) (repN (65520 : Nat) (0 : UInt8)))) (0 : Int)
                              (0 : Int) (2 : Int) [] (100 : Int) false).lb =
                          []) &&
                      true) &&
                  (decide
                      ((nextR (0 : Int) (2 : Int) []
                            (List.take (65520 : Nat) (List.drop (0 : Nat) (repN (65520 : Nat) (0 : UInt8)))) (0 : Int)
                            (0 : Int) (2 : Int) [] (100 : Int) false).data =
                        []) &&
                    (decide
                        ((nextR (0 : Int) (2 : Int) []
                              (List.take (65520 : Nat) (List.drop (0 : Nat) (repN (65520 : Nat) (0 : UInt8)))) (0 : Int)
                              (0 : Int) (2 : Int) [] (100 : Int) false).sum =
                          []) &&
                      true)))))))))
    (K (Out.ret (AVal.bool false)))
    (branch
      (!(true &&
          (decide
                ((nextR (0 : Int) (2 : Int) []
                      (List.take (65520 : Nat) (List.drop (0 : Nat) (repN (65520 : Nat) (0 : UInt8)))) (0 : Int)
                      (0 : Int) (2 : Int) [] (100 : Int) false).k2 =
                  (2 : Int)) &&
              (decide
                  ((nextR (0 : Int) (2 : Int) []
                        (List.take (65520 : Nat) (List.drop (0 : Nat) (repN (65520 : Nat) (0 : UInt8)))) (0 : Int)
                        (0 : Int) (2 : Int) [] (100 : Int) false).b2 =
                    []) &&
                true) &&
            (decide
                (List.take (65520 : Nat) (List.drop (0 : Nat) (repN (65520 : Nat) (0 : UInt8))) =
                  List.take (65520 : Nat) (List.drop (0 : Nat) (repN (65520 : Nat) (0 : UInt8)))) &&
              (decide
                  ((nextR (0 : Int) (2 : Int) []
                        (List.take (65520 : Nat) (List.drop (0 : Nat) (repN (65520 : Nat) (0 : UInt8)))) (0 : Int)
                        (0 : Int) (2 : Int) [] (100 : Int) false).at2 =
                    (0 : Int)) &&
                true)))))
      (K (Out.ret (AVal.bool false)))
      (branch
        (!decide
            ((nextR (0 : Int) (2 : Int) []
                  (List.take (65520 : Nat) (List.drop (0 : Nat) (repN (65520 : Nat) (0 : UInt8)))) (0 : Int) (0 : Int)
                  (2 : Int) [] (100 : Int) false).err =
              (2 : Int)))
        (K (Out.ret (AVal.bool false)))
        (obl (decide ((5000 : Nat) ≤ (repN (5000 : Nat) (0 : UInt8)).length))
          (branch
            (decide
              ((nextR (0 : Int) (2 : Int) []
                    (List.take (5000 : Nat) (List.drop (0 : Nat) (repN (5000 : Nat) (0 : UInt8)))) (0 : Int) (0 : Int)
                    (2 : Int) [] (1099511627776 : Int) false).err =
                (0 : Int)))
            (branch
              (!(nextR (0 : Int) (2 : Int) []
                    (List.take (5000 : Nat) (List.drop (0 : Nat) (repN (5000 : Nat) (0 : UInt8)))) (0 : Int) (0 : Int)
                    (2 : Int) [] (1099511627776 : Int) false).en)
              (branch
                (decide
                  ((↑(nextR (0 : Int) (2 : Int) []
                              (List.take (5000 : Nat) (List.drop (0 : Nat) (repN (5000 : Nat) (0 : UInt8)))) (0 : Int)
                              (0 : Int) (2 : Int) [] (1099511627776 : Int) false).data.length :
                      Int) =
                    (4090 : Int)))
                (branch
                  (decide
                    ((nextR (0 : Int) (2 : Int) []
                          (List.take (5000 : Nat) (List.drop (0 : Nat) (repN (5000 : Nat) (0 : UInt8)))) (0 : Int)
                          (0 : Int) (2 : Int) [] (1099511627776 : Int) false).at2 =
                      (4090 : Int)))
                  (K (Out.ret (AVal.bool true))) (K (Out.ret (AVal.bool false))))
                (K (Out.ret (AVal.bool false))))
              (K (Out.ret (AVal.bool false))))
            (K (Out.ret (AVal.bool false))))))))) := by kernel_rfl

end Go.Proofs.Ytdjidmnehfjmbaa
