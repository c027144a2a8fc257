/-
  Walks, printed: what calls come to, as they are reckoned.
-/
import Derived.Test.YtddjaneacmdkmaaExtSLc
namespace Go.Proofs.Ytddjaneacmdkmaa
set_option linter.unusedVariables false
set_option linter.unusedSimpArgs false
open Go.RowKit Ev

set_option maxRecDepth 100000 in
theorem w_eshort (a : Int) (hs : List (List UInt8)) (n : Nat) (K : Out → Prop) : (callC ((TE.addLc 6 0 (lcS hs)).ctx Try.prog) 100 6 [.sl 0 0 1 0 n none, .int .u8 a] ⟨1, [(0, .row 9 strRow hs .ro)]⟩ (fun o _ => K o)
) = ((AHeap.mk (1 : Nat) [((0 : Nat), ABlk.row (9 : Nat) strRow hs RowMd.ro)]).get (0 : Nat) =
    some (ABlk.row (9 : Nat) strRow hs RowMd.ro) ∧
  Nat.ble (1 : Nat) (1 : Nat) = true ∧
    obl (preS hs (SS.mk n a (0 : Int) (0 : Int) none))
      ((finB hs = [] → K (Out.ret (AVal.bool true))) ∧
        ((finB hs = [] → False) →
          branch (decide ((↑(finB hs).length : Int) = (0 : Int))) (K (Out.ret (AVal.bool true)))
            (obl
              (decide
                  ((0 : Nat) ≤ (10000 : Nat) ∧ (finB hs).length = (finB hs).length ∧ (finB hs).length ≤ (1000 : Nat)) &&
                (finB hs).all (strT strRow))
              (branch
                (!decide
                    ((extPut (2048 : Int) (baOf []) (List.map baOf (List.map (rowS strRow) (finB hs)))).snd.snd =
                      (0 : Int)))
                (K (Out.ret (AVal.bool false)))
                (branch
                  (!decide
                      ((↑(extPut (2048 : Int) (baOf [])
                                        (List.map baOf (List.map (rowS strRow) (finB hs)))).snd.fst.data.toList.length :
                          Int) =
                        (↑(hd2 (finB hs)) : Int)))
                  (K (Out.ret (AVal.bool false)))
                  (obl (inI64 a)
                    (obl (decide ((0 : Int) ≤ a ∧ (0 : Int) < (↑(hd2 (finB hs)) : Int)))
                      (obl
                        (decide
                          ((0 : Int) ≤ a % (↑(hd2 (finB hs)) : Int) ∧
                            a % (↑(hd2 (finB hs)) : Int) ≤
                              (↑(extPut (2048 : Int) (baOf [])
                                              (List.map baOf
                                                (List.map (rowS strRow) (finB hs)))).snd.fst.data.toList.length :
                                Int)))
                        (obl
                          (decide
                            ((List.take (a % (↑(hd2 (finB hs)) : Int)).toNat
                                  (extPut (2048 : Int) (baOf [])
                                            (List.map baOf
                                              (List.map (rowS strRow) (finB hs)))).snd.fst.data.toList).length ≤
                              (10000 : Nat)))
                          (branch
                            (decide
                              ((extSkipAll
                                    (extPut (2048 : Int) (baOf [])
                                        (List.map baOf (List.map (rowS strRow) (finB hs)))).fst
                                    (baOf
                                      (List.take (a % (↑(hd2 (finB hs)) : Int)).toNat
                                        (extPut (2048 : Int) (baOf [])
                                                  (List.map baOf
                                                    (List.map (rowS strRow) (finB hs)))).snd.fst.data.toList))).fst =
                                (0 : Int)))
                            (branch
                              (decide
                                ((extSkipAll
                                            (extPut (2048 : Int) (baOf [])
                                                (List.map baOf (List.map (rowS strRow) (finB hs)))).fst
                                            (baOf
                                              (List.take (a % (↑(hd2 (finB hs)) : Int)).toNat
                                                (extPut (2048 : Int) (baOf [])
                                                          (List.map baOf
                                                            (List.map (rowS strRow)
                                                              (finB hs)))).snd.fst.data.toList))).snd.fst.data.toList =
                                  []))
                              (branch
                                (decide
                                  ((extSkipAll
                                          (extPut (2048 : Int) (baOf [])
                                              (List.map baOf (List.map (rowS strRow) (finB hs)))).fst
                                          (baOf
                                            (List.take (a % (↑(hd2 (finB hs)) : Int)).toNat
                                              (extPut (2048 : Int) (baOf [])
                                                        (List.map baOf
                                                          (List.map (rowS strRow)
                                                            (finB hs)))).snd.fst.data.toList))).snd.snd =
                                    (4 : Int)))
                                (K (Out.ret (AVal.bool true))) (K (Out.ret (AVal.bool false))))
                              (K (Out.ret (AVal.bool false))))
                            (K (Out.ret (AVal.bool false)))))))))))))) := by kernel_rfl

set_option maxRecDepth 100000 in
theorem w_eshortn (a : Int) (K : Out → Prop) : (callC (TE.ctx Try.prog) 100 6 [.nils, .int .u8 a] ⟨0, []⟩ (fun o _ => K o)
) = (K (Out.ret (AVal.bool true))) := by kernel_rfl

end Go.Proofs.Ytddjaneacmdkmaa
