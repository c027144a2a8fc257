/-
  Walks, printed: what calls come to, as they are reckoned.
-/
import Derived.Test.YtcbkenicjmhkdaaGseU5
namespace Go.Proofs.Ytcbkenicjmhkdaa
set_option linter.unusedVariables false
set_option linter.unusedSimpArgs false
open Go.RowKit Ev

set_option maxRecDepth 100000 in
theorem w_brest_nil (zeros : Int) (S : List UInt8) (K : Out → Prop) : (wpC (TS.ctx Try.prog) 100 6 1 (seqR (tailN 4 (bodyC Try.f6))) [(6, .nils), (5, .str S), (1, .int .u8 zeros)] ⟨2, []⟩ (endA (TS.ctx Try.prog).P Try.f6 (fun o _ => K o))
) = (obl (inI64 zeros)
  (obl
    (decide
      ((0 : Int) ≤ zeros ∧
        zeros = zeros ∧
          zeros ≤ (9223372036854775807 : Int) ∧
            (1 : Int) * zeros ≤ (281474976710656 : Int) ∧ (1 : Nat) = (1 : Nat) ∧ (0 : Nat) < (1 : Nat)))
    (obl (decide ((0 : Nat) + zeros.toNat ≤ (repN zeros.toNat (0 : UInt8)).length))
      (obl
        (decide
          ((↑(S.length + (List.take zeros.toNat (List.drop (0 : Nat) (repN zeros.toNat (0 : UInt8)))).length) : Int) ≤
            (9223372036854775807 : Int)))
        (obl
          (decide
            ((S ++ List.take zeros.toNat (List.drop (0 : Nat) (repN zeros.toNat (0 : UInt8)))).length ≤
              (1000000000 : Nat)))
          (branch (allP (S ++ List.take zeros.toNat (List.drop (0 : Nat) (repN zeros.toNat (0 : UInt8))))).isEmpty
            (branch
              (!decide
                  (allE (S ++ List.take zeros.toNat (List.drop (0 : Nat) (repN zeros.toNat (0 : UInt8)))) = (0 : Int)))
              (K (Out.ret (AVal.bool false)))
              (obl (decide ((↑(S.length + (1 : Nat)) : Int) ≤ (9223372036854775807 : Int)))
                (obl (decide ((S ++ [(16 : UInt8)]).length ≤ (1000000000 : Nat)))
                  (branch (allP (S ++ [(16 : UInt8)])).isEmpty
                    (branch (decide (allE (S ++ [(16 : UInt8)]) = (4 : Int))) (K (Out.ret (AVal.bool true)))
                      (K (Out.ret (AVal.bool false))))
                    (branch (decide (allE (S ++ [(16 : UInt8)]) = (4 : Int)))
                      (obl (decide ((0 : Nat) < (allP (S ++ [(16 : UInt8)])).length)) (K (Out.ret (AVal.bool false))))
                      (K (Out.ret (AVal.bool false))))))))
            (branch
              (!decide
                  (allE (S ++ List.take zeros.toNat (List.drop (0 : Nat) (repN zeros.toNat (0 : UInt8)))) = (0 : Int)))
              (K (Out.ret (AVal.bool false)))
              (obl
                (decide
                  ((0 : Nat) <
                    (allP (S ++ List.take zeros.toNat (List.drop (0 : Nat) (repN zeros.toNat (0 : UInt8))))).length))
                (K (Out.ret (AVal.bool false))))))))))) := by kernel_rfl

set_option maxRecDepth 100000 in
theorem w_brest_cons (zeros : Int) (S : List UInt8) (G : List PieceR) (K : Out → Prop) : (wpC (TS.ctx Try.prog) 100 6 1 (seqR (tailN 4 (bodyC Try.f6))) [(6, .sl 1 0 9 0 G.length none), (5, .str S), (1, .int .u8 zeros)] ⟨2, [(1, .row 27 pieceRow G .plain)]⟩ (endA (TS.ctx Try.prog).P Try.f6 (fun o _ => K o))
) = (obl (inI64 zeros)
  (obl
    (decide
      ((0 : Int) ≤ zeros ∧
        zeros = zeros ∧
          zeros ≤ (9223372036854775807 : Int) ∧
            (1 : Int) * zeros ≤ (281474976710656 : Int) ∧ (1 : Nat) = (1 : Nat) ∧ (0 : Nat) < (1 : Nat)))
    (obl (decide ((0 : Nat) + zeros.toNat ≤ (repN zeros.toNat (0 : UInt8)).length))
      (obl
        (decide
          ((↑(S.length + (List.take zeros.toNat (List.drop (0 : Nat) (repN zeros.toNat (0 : UInt8)))).length) : Int) ≤
            (9223372036854775807 : Int)))
        (obl
          (decide
            ((S ++ List.take zeros.toNat (List.drop (0 : Nat) (repN zeros.toNat (0 : UInt8)))).length ≤
              (1000000000 : Nat)))
          (branch (allP (S ++ List.take zeros.toNat (List.drop (0 : Nat) (repN zeros.toNat (0 : UInt8))))).isEmpty
            (branch
              (!decide
                  (allE (S ++ List.take zeros.toNat (List.drop (0 : Nat) (repN zeros.toNat (0 : UInt8)))) = (0 : Int)))
              (K (Out.ret (AVal.bool false))) (obl (decide ((0 : Nat) < G.length)) (K (Out.ret (AVal.bool false)))))
            (branch
              (!decide
                  (allE (S ++ List.take zeros.toNat (List.drop (0 : Nat) (repN zeros.toNat (0 : UInt8)))) = (0 : Int)))
              (K (Out.ret (AVal.bool false)))
              (obl
                (true &&
                  sameOk pieceRow
                    (allP (S ++ List.take zeros.toNat (List.drop (0 : Nat) (repN zeros.toNat (0 : UInt8))))) pieceRow G
                    (allP (S ++ List.take zeros.toNat (List.drop (0 : Nat) (repN zeros.toNat (0 : UInt8))))).length
                    G.length)
                (branch
                  (!sameV pieceRow
                      (allP (S ++ List.take zeros.toNat (List.drop (0 : Nat) (repN zeros.toNat (0 : UInt8))))) pieceRow
                      G)
                  (K (Out.ret (AVal.bool false)))
                  (obl (decide ((↑(S.length + (1 : Nat)) : Int) ≤ (9223372036854775807 : Int)))
                    (obl (decide ((S ++ [(16 : UInt8)]).length ≤ (1000000000 : Nat)))
                      (branch (allP (S ++ [(16 : UInt8)])).isEmpty
                        (branch (decide (allE (S ++ [(16 : UInt8)]) = (4 : Int)))
                          (obl (decide ((0 : Nat) < G.length)) (K (Out.ret (AVal.bool false))))
                          (K (Out.ret (AVal.bool false))))
                        (branch (decide (allE (S ++ [(16 : UInt8)]) = (4 : Int)))
                          (obl
                            (true &&
                              sameOk pieceRow (allP (S ++ [(16 : UInt8)])) pieceRow G
                                (allP (S ++ [(16 : UInt8)])).length G.length)
                            (K (Out.ret (AVal.bool (sameV pieceRow (allP (S ++ [(16 : UInt8)])) pieceRow G)))))
                          (K (Out.ret (AVal.bool false)))))))))))))))) := by kernel_rfl

end Go.Proofs.Ytcbkenicjmhkdaa
