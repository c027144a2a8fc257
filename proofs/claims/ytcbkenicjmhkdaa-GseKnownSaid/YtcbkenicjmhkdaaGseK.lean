/-
  Walks, printed: what calls come to, as they are reckoned.
-/
import Derived.Test.YtcbkenicjmhkdaaGseAll2
namespace Go.Proofs.Ytcbkenicjmhkdaa
set_option linter.unusedVariables false
set_option linter.unusedSimpArgs false
open Go.RowKit Ev

set_option maxRecDepth 100000 in
theorem w_known8 (K : Out → Prop) : (callC (TA.ctx Try.prog) 100 7 [] ⟨0, []⟩ (fun o _ => K o)
) = (obl (decide ((4093 : Nat) ≤ (repN (4093 : Nat) (0 : UInt8)).length))
  (obl
    (decide
      ((↑((List.take (4093 : Nat) (List.drop (0 : Nat) (repN (4093 : Nat) (0 : UInt8)))).length + (1 : Nat)) : Int) ≤
        (9223372036854775807 : Int)))
    (obl
      (decide
        ((0 : Nat) + (List.take (4093 : Nat) (List.drop (0 : Nat) (repN (4093 : Nat) (0 : UInt8)))).length + (0 : Nat) ≤
          (9223372036854775000 : Nat)))
      (obl
        (decide
          ((0 : Nat) +
                (List.take (4093 : Nat) (List.drop (0 : Nat) (repN (4093 : Nat) (0 : UInt8))) ++
                    [(120 : UInt8)]).length +
              (0 : Nat) ≤
            (9223372036854775000 : Nat)))
        (obl
          (decide
            ((0 : Nat) +
                  (List.take (4093 : Nat) (List.drop (0 : Nat) (repN (4093 : Nat) (0 : UInt8))) ++
                      [(120 : UInt8)]).length +
                (0 : Nat) ≤
              (9223372036854775000 : Nat)))
          (branch
            (decide
              (gErr true true (0 : Int) (0 : Int) (1 : Int) (3 : Int) []
                  (List.take (4093 : Nat) (List.drop (0 : Nat) (repN (4093 : Nat) (0 : UInt8)))) [] =
                (0 : Int)))
            (branch
              (decide
                ((↑(gEnc true true (0 : Int) (0 : Int) (1 : Int) (3 : Int) []
                          (List.take (4093 : Nat) (List.drop (0 : Nat) (repN (4093 : Nat) (0 : UInt8)))) []).length :
                    Int) =
                  (4097 : Int)))
              (obl
                (decide
                  ((0 : Int) ≤ (4 : Int) ∧
                    (4 : Int) ≤
                      (↑(gEnc true true (0 : Int) (0 : Int) (1 : Int) (3 : Int) []
                              (List.take (4093 : Nat) (List.drop (0 : Nat) (repN (4093 : Nat) (0 : UInt8))))
                              []).length :
                        Int)))
                (branch
                  (decide
                    (List.take (4 : Nat)
                        (gEnc true true (0 : Int) (0 : Int) (1 : Int) (3 : Int) []
                          (List.take (4093 : Nat) (List.drop (0 : Nat) (repN (4093 : Nat) (0 : UInt8)))) []) =
                      [(255 : UInt8), (255 : UInt8), (0 : UInt8), (1 : UInt8)]))
                  (branch
                    (decide
                      (gErr true true (0 : Int) (0 : Int) (1 : Int) (3 : Int) []
                          (List.take (4093 : Nat) (List.drop (0 : Nat) (repN (4093 : Nat) (0 : UInt8))) ++
                            [(120 : UInt8)])
                          [] =
                        (3 : Int)))
                    (branch
                      (decide
                        (gErr true true (0 : Int) (0 : Int) (1 : Int) (3 : Int) []
                            (List.take (4093 : Nat) (List.drop (0 : Nat) (repN (4093 : Nat) (0 : UInt8))) ++
                              [(120 : UInt8)])
                            [] =
                          (3 : Int)))
                      (K (Out.ret (AVal.bool true))) (K (Out.ret (AVal.bool false))))
                    (K (Out.ret (AVal.bool false))))
                  (K (Out.ret (AVal.bool false)))))
              (K (Out.ret (AVal.bool false))))
            (K (Out.ret (AVal.bool false))))))))) := by kernel_rfl

end Go.Proofs.Ytcbkenicjmhkdaa
