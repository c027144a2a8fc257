/-
  Walks, printed: what calls come to, as they are reckoned.
-/
import Derived.Test.YtddjaneacmdkmaaExtBLc
namespace Go.Proofs.Ytddjaneacmdkmaa
set_option linter.unusedVariables false
set_option linter.unusedSimpArgs false
open Go.RowKit Ev

set_option maxRecDepth 100000 in
theorem w_eback (typ : Int) (data : List UInt8) (hs : List (List UInt8)) (n : Nat) (K : Out → Prop) : (callC ((TE.addLc 5 0 (lcB hs)).ctx Try.prog) 100 5 [.int .u16 typ, .str data, .sl 0 0 1 0 n none] ⟨1, [(0, .row 9 strRow hs .ro)]⟩ (fun o _ => K o)
) = (obl (inI64 typ)
  (obl (decide ((0 : Int) ≤ typ ∧ (0 : Int) < (64000 : Int)))
    (obl (inI64 ((1536 : Int) + typ % (64000 : Int)))
      (obl
        (decide
          ((0 : Int) ≤ min (↑data.length : Int) (100 : Int) ∧
            min (↑data.length : Int) (100 : Int) ≤ (↑data.length : Int)))
        ((AHeap.mk (1 : Nat) [((0 : Nat), ABlk.row (9 : Nat) strRow hs RowMd.ro)]).get (0 : Nat) =
            some (ABlk.row (9 : Nat) strRow hs RowMd.ro) ∧
          Nat.ble (1 : Nat) (1 : Nat) = true ∧
            obl
              (preB hs
                (SB.mk (List.take (min (↑data.length : Int) (100 : Int)).toNat data) n
                  ((1536 : Int) + typ % (64000 : Int)) (0 : Int) none))
              ((finB hs = [] →
                  obl (decide ((List.take (min (↑data.length : Int) (100 : Int)).toNat data).length ≤ (10000 : Nat)))
                    (branch
                      (!decide
                          ((extPut ((1536 : Int) + typ % (64000 : Int))
                                  (baOf (List.take (min (↑data.length : Int) (100 : Int)).toNat data)) []).snd.snd =
                            (0 : Int)))
                      (K (Out.ret (AVal.bool false)))
                      (branch
                        (!false ==
                            decide
                              ((extPut ((1536 : Int) + typ % (64000 : Int))
                                    (baOf (List.take (min (↑data.length : Int) (100 : Int)).toNat data)) []).fst <
                                (1536 : Int)))
                        (K (Out.ret (AVal.bool false)))
                        (branch
                          (!decide
                              ((extPut ((1536 : Int) + typ % (64000 : Int))
                                    (baOf (List.take (min (↑data.length : Int) (100 : Int)).toNat data)) []).fst =
                                (1536 : Int) + typ % (64000 : Int)))
                          (K (Out.ret (AVal.bool false)))
                          (branch
                            (!decide
                                ((extPut ((1536 : Int) + typ % (64000 : Int))
                                            (baOf (List.take (min (↑data.length : Int) (100 : Int)).toNat data))
                                            []).snd.fst.data.toList =
                                  List.take (min (↑data.length : Int) (100 : Int)).toNat data))
                            (K (Out.ret (AVal.bool false)))
                            (obl
                              (decide
                                ((extPut ((1536 : Int) + typ % (64000 : Int))
                                              (baOf (List.take (min (↑data.length : Int) (100 : Int)).toNat data))
                                              []).snd.fst.data.toList.length ≤
                                  (10000 : Nat)))
                              (branch
                                (decide
                                  ((extSkipAll
                                        (extPut ((1536 : Int) + typ % (64000 : Int))
                                            (baOf (List.take (min (↑data.length : Int) (100 : Int)).toNat data)) []).fst
                                        (baOf
                                          (extPut ((1536 : Int) + typ % (64000 : Int))
                                                    (baOf (List.take (min (↑data.length : Int) (100 : Int)).toNat data))
                                                    []).snd.fst.data.toList)).fst =
                                    (1536 : Int) + typ % (64000 : Int)))
                                (branch
                                  (decide
                                    ((extSkipAll
                                                (extPut ((1536 : Int) + typ % (64000 : Int))
                                                    (baOf (List.take (min (↑data.length : Int) (100 : Int)).toNat data))
                                                    []).fst
                                                (baOf
                                                  (extPut ((1536 : Int) + typ % (64000 : Int))
                                                            (baOf
                                                              (List.take (min (↑data.length : Int) (100 : Int)).toNat
                                                                data))
                                                            []).snd.fst.data.toList)).snd.fst.data.toList =
                                      List.take (min (↑data.length : Int) (100 : Int)).toNat data))
                                  (branch
                                    (decide
                                      ((extSkipAll
                                              (extPut ((1536 : Int) + typ % (64000 : Int))
                                                  (baOf (List.take (min (↑data.length : Int) (100 : Int)).toNat data))
                                                  []).fst
                                              (baOf
                                                (extPut ((1536 : Int) + typ % (64000 : Int))
                                                          (baOf
                                                            (List.take (min (↑data.length : Int) (100 : Int)).toNat
                                                              data))
                                                          []).snd.fst.data.toList)).snd.snd =
                                        (0 : Int)))
                                    (K (Out.ret (AVal.bool true))) (K (Out.ret (AVal.bool false))))
                                  (K (Out.ret (AVal.bool false))))
                                (K (Out.ret (AVal.bool false)))))))))) ∧
                ((finB hs = [] → False) →
                  obl
                    (decide
                        ((List.take (min (↑data.length : Int) (100 : Int)).toNat data).length ≤ (10000 : Nat) ∧
                          (finB hs).length = (finB hs).length ∧ (finB hs).length ≤ (1000 : Nat)) &&
                      (finB hs).all (strT strRow))
                    (branch
                      (!decide
                          ((extPut ((1536 : Int) + typ % (64000 : Int))
                                  (baOf (List.take (min (↑data.length : Int) (100 : Int)).toNat data))
                                  (List.map baOf (List.map (rowS strRow) (finB hs)))).snd.snd =
                            (0 : Int)))
                      (K (Out.ret (AVal.bool false)))
                      (branch
                        (!decide ((0 : Int) < (↑(finB hs).length : Int)) ==
                            decide
                              ((extPut ((1536 : Int) + typ % (64000 : Int))
                                    (baOf (List.take (min (↑data.length : Int) (100 : Int)).toNat data))
                                    (List.map baOf (List.map (rowS strRow) (finB hs)))).fst <
                                (1536 : Int)))
                        (K (Out.ret (AVal.bool false)))
                        (branch (decide ((↑(finB hs).length : Int) = (0 : Int)))
                          (branch
                            (!decide
                                ((extPut ((1536 : Int) + typ % (64000 : Int))
                                      (baOf (List.take (min (↑data.length : Int) (100 : Int)).toNat data))
                                      (List.map baOf (List.map (rowS strRow) (finB hs)))).fst =
                                  (1536 : Int) + typ % (64000 : Int)))
                            (K (Out.ret (AVal.bool false)))
                            (branch
                              (!decide
                                  ((extPut ((1536 : Int) + typ % (64000 : Int))
                                              (baOf (List.take (min (↑data.length : Int) (100 : Int)).toNat data))
                                              (List.map baOf (List.map (rowS strRow) (finB hs)))).snd.fst.data.toList =
                                    List.take (min (↑data.length : Int) (100 : Int)).toNat data))
                              (K (Out.ret (AVal.bool false)))
                              (obl
                                (decide
                                  ((extPut ((1536 : Int) + typ % (64000 : Int))
                                                (baOf (List.take (min (↑data.length : Int) (100 : Int)).toNat data))
                                                (List.map baOf
                                                  (List.map (rowS strRow) (finB hs)))).snd.fst.data.toList.length ≤
                                    (10000 : Nat)))
                                (branch
                                  (decide
                                    ((extSkipAll
                                          (extPut ((1536 : Int) + typ % (64000 : Int))
                                              (baOf (List.take (min (↑data.length : Int) (100 : Int)).toNat data))
                                              (List.map baOf (List.map (rowS strRow) (finB hs)))).fst
                                          (baOf
                                            (extPut ((1536 : Int) + typ % (64000 : Int))
                                                      (baOf
                                                        (List.take (min (↑data.length : Int) (100 : Int)).toNat data))
                                                      (List.map baOf
                                                        (List.map (rowS strRow) (finB hs)))).snd.fst.data.toList)).fst =
                                      (1536 : Int) + typ % (64000 : Int)))
                                  (branch
                                    (decide
                                      ((extSkipAll
                                                  (extPut ((1536 : Int) + typ % (64000 : Int))
                                                      (baOf
                                                        (List.take (min (↑data.length : Int) (100 : Int)).toNat data))
                                                      (List.map baOf (List.map (rowS strRow) (finB hs)))).fst
                                                  (baOf
                                                    (extPut ((1536 : Int) + typ % (64000 : Int))
                                                              (baOf
                                                                (List.take (min (↑data.length : Int) (100 : Int)).toNat
                                                                  data))
                                                              (List.map baOf
                                                                (List.map (rowS strRow)
                                                                  (finB
                                                                    hs)))).snd.fst.data.toList)).snd.fst.data.toList =
                                        List.take (min (↑data.length : Int) (100 : Int)).toNat data))
                                    (branch
                                      (decide
                                        ((extSkipAll
                                                (extPut ((1536 : Int) + typ % (64000 : Int))
                                                    (baOf (List.take (min (↑data.length : Int) (100 : Int)).toNat data))
                                                    (List.map baOf (List.map (rowS strRow) (finB hs)))).fst
                                                (baOf
                                                  (extPut ((1536 : Int) + typ % (64000 : Int))
                                                            (baOf
                                                              (List.take (min (↑data.length : Int) (100 : Int)).toNat
                                                                data))
                                                            (List.map baOf
                                                              (List.map (rowS strRow)
                                                                (finB hs)))).snd.fst.data.toList)).snd.snd =
                                          (0 : Int)))
                                      (K (Out.ret (AVal.bool true))) (K (Out.ret (AVal.bool false))))
                                    (K (Out.ret (AVal.bool false))))
                                  (K (Out.ret (AVal.bool false)))))))
                          (obl
                            (decide
                              ((extPut ((1536 : Int) + typ % (64000 : Int))
                                            (baOf (List.take (min (↑data.length : Int) (100 : Int)).toNat data))
                                            (List.map baOf
                                              (List.map (rowS strRow) (finB hs)))).snd.fst.data.toList.length ≤
                                (10000 : Nat)))
                            (branch
                              (decide
                                ((extSkipAll
                                      (extPut ((1536 : Int) + typ % (64000 : Int))
                                          (baOf (List.take (min (↑data.length : Int) (100 : Int)).toNat data))
                                          (List.map baOf (List.map (rowS strRow) (finB hs)))).fst
                                      (baOf
                                        (extPut ((1536 : Int) + typ % (64000 : Int))
                                                  (baOf (List.take (min (↑data.length : Int) (100 : Int)).toNat data))
                                                  (List.map baOf
                                                    (List.map (rowS strRow) (finB hs)))).snd.fst.data.toList)).fst =
                                  (1536 : Int) + typ % (64000 : Int)))
                              (branch
                                (decide
                                  ((extSkipAll
                                              (extPut ((1536 : Int) + typ % (64000 : Int))
                                                  (baOf (List.take (min (↑data.length : Int) (100 : Int)).toNat data))
                                                  (List.map baOf (List.map (rowS strRow) (finB hs)))).fst
                                              (baOf
                                                (extPut ((1536 : Int) + typ % (64000 : Int))
                                                          (baOf
                                                            (List.take (min (↑data.length : Int) (100 : Int)).toNat
                                                              data))
                                                          (List.map baOf
                                                            (List.map (rowS strRow)
                                                              (finB hs)))).snd.fst.data.toList)).snd.fst.data.toList =
                                    List.take (min (↑data.length : Int) (100 : Int)).toNat data))
                                (branch
                                  (decide
                                    ((extSkipAll
                                            (extPut ((1536 : Int) + typ % (64000 : Int))
                                                (baOf (List.take (min (↑data.length : Int) (100 : Int)).toNat data))
                                                (List.map baOf (List.map (rowS strRow) (finB hs)))).fst
                                            (baOf
                                              (extPut ((1536 : Int) + typ % (64000 : Int))
                                                        (baOf
                                                          (List.take (min (↑data.length : Int) (100 : Int)).toNat data))
                                                        (List.map baOf
                                                          (List.map (rowS strRow)
                                                            (finB hs)))).snd.fst.data.toList)).snd.snd =
                                      (0 : Int)))
                                  (K (Out.ret (AVal.bool true))) (K (Out.ret (AVal.bool false))))
                                (K (Out.ret (AVal.bool false))))
                              (K (Out.ret (AVal.bool false))))))))))))))) := by kernel_rfl

set_option maxRecDepth 100000 in
theorem w_ebackn (typ : Int) (data : List UInt8) (K : Out → Prop) : (callC (TE.ctx Try.prog) 100 5 [.int .u16 typ, .str data, .nils] ⟨0, []⟩ (fun o _ => K o)
) = (obl (inI64 typ)
  (obl (decide ((0 : Int) ≤ typ ∧ (0 : Int) < (64000 : Int)))
    (obl (inI64 ((1536 : Int) + typ % (64000 : Int)))
      (obl
        (decide
          ((0 : Int) ≤ min (↑data.length : Int) (100 : Int) ∧
            min (↑data.length : Int) (100 : Int) ≤ (↑data.length : Int)))
        (obl (decide ((List.take (min (↑data.length : Int) (100 : Int)).toNat data).length ≤ (10000 : Nat)))
          (branch
            (!decide
                ((extPut ((1536 : Int) + typ % (64000 : Int))
                        (baOf (List.take (min (↑data.length : Int) (100 : Int)).toNat data)) []).snd.snd =
                  (0 : Int)))
            (K (Out.ret (AVal.bool false)))
            (branch
              (!false ==
                  decide
                    ((extPut ((1536 : Int) + typ % (64000 : Int))
                          (baOf (List.take (min (↑data.length : Int) (100 : Int)).toNat data)) []).fst <
                      (1536 : Int)))
              (K (Out.ret (AVal.bool false)))
              (branch
                (!decide
                    ((extPut ((1536 : Int) + typ % (64000 : Int))
                          (baOf (List.take (min (↑data.length : Int) (100 : Int)).toNat data)) []).fst =
                      (1536 : Int) + typ % (64000 : Int)))
                (K (Out.ret (AVal.bool false)))
                (branch
                  (!decide
                      ((extPut ((1536 : Int) + typ % (64000 : Int))
                                  (baOf (List.take (min (↑data.length : Int) (100 : Int)).toNat data))
                                  []).snd.fst.data.toList =
                        List.take (min (↑data.length : Int) (100 : Int)).toNat data))
                  (K (Out.ret (AVal.bool false)))
                  (obl
                    (decide
                      ((extPut ((1536 : Int) + typ % (64000 : Int))
                                    (baOf (List.take (min (↑data.length : Int) (100 : Int)).toNat data))
                                    []).snd.fst.data.toList.length ≤
                        (10000 : Nat)))
                    (branch
                      (decide
                        ((extSkipAll
                              (extPut ((1536 : Int) + typ % (64000 : Int))
                                  (baOf (List.take (min (↑data.length : Int) (100 : Int)).toNat data)) []).fst
                              (baOf
                                (extPut ((1536 : Int) + typ % (64000 : Int))
                                          (baOf (List.take (min (↑data.length : Int) (100 : Int)).toNat data))
                                          []).snd.fst.data.toList)).fst =
                          (1536 : Int) + typ % (64000 : Int)))
                      (branch
                        (decide
                          ((extSkipAll
                                      (extPut ((1536 : Int) + typ % (64000 : Int))
                                          (baOf (List.take (min (↑data.length : Int) (100 : Int)).toNat data)) []).fst
                                      (baOf
                                        (extPut ((1536 : Int) + typ % (64000 : Int))
                                                  (baOf (List.take (min (↑data.length : Int) (100 : Int)).toNat data))
                                                  []).snd.fst.data.toList)).snd.fst.data.toList =
                            List.take (min (↑data.length : Int) (100 : Int)).toNat data))
                        (branch
                          (decide
                            ((extSkipAll
                                    (extPut ((1536 : Int) + typ % (64000 : Int))
                                        (baOf (List.take (min (↑data.length : Int) (100 : Int)).toNat data)) []).fst
                                    (baOf
                                      (extPut ((1536 : Int) + typ % (64000 : Int))
                                                (baOf (List.take (min (↑data.length : Int) (100 : Int)).toNat data))
                                                []).snd.fst.data.toList)).snd.snd =
                              (0 : Int)))
                          (K (Out.ret (AVal.bool true))) (K (Out.ret (AVal.bool false))))
                        (K (Out.ret (AVal.bool false))))
                      (K (Out.ret (AVal.bool false)))))))))))))) := by kernel_rfl

end Go.Proofs.Ytddjaneacmdkmaa
