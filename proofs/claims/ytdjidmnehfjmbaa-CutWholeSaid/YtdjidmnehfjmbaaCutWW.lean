/-
  Walks, printed: what calls come to, as they are reckoned.
-/
import Derived.Test.YtdjidmnehfjmbaaCutWG
namespace Go.Proofs.Ytdjidmnehfjmbaa
set_option linter.unusedVariables false
set_option linter.unusedSimpArgs false
open Go.RowKit Ev

set_option maxRecDepth 100000 in
theorem w_cwhole (kind : Int) (data : List UInt8) (sp : List Int) (n : Nat) (K : Out → Prop) : (callC ((TCGW.addLc 5 0 (lcW sp)).ctx Try.prog) 100 5 [.str data, .int .u8 kind, .sl 0 0 1 0 n none] ⟨1, [(0, .row 22 (intRow .u16) sp .ro)]⟩ (fun o _ => K o)
) = (obl
  (decide
    ((0 : Int) ≤ min (↑data.length : Int) (6000 : Int) ∧ min (↑data.length : Int) (6000 : Int) ≤ (↑data.length : Int)))
  (branch (decide (List.take (min (↑data.length : Int) (6000 : Int)).toNat data = [])) (K (Out.ret (AVal.bool true)))
    (obl (decide ((0 : Int) ≤ kind ∧ (0 : Int) < (3 : Int)))
      (obl (decide ((0 : Int) ≤ kind % (3 : Int) ∧ kind % (3 : Int) < (3 : Int)))
        (obl (decide ((0 : Nat) + (kind % (3 : Int)).toNat < (3 : Nat)))
          (obl (decide ((0 : Int) ≤ kind ∧ (0 : Int) < (2 : Int)))
            (branch (decide (kind % (2 : Int) = (1 : Int)))
              (obl (inI64 kind)
                ((AHeap.mk (6 : Nat)
                          [((5 : Nat),
                              ABlk.cells (28 : Nat)
                                [AVal.bool false, AVal.bool false, AVal.int IntKind.i64 (0 : Int),
                                  AVal.int IntKind.i64 (0 : Int), AVal.int IntKind.i64 (0 : Int),
                                  AVal.int IntKind.i64 (0 : Int), AVal.str [], AVal.str [], AVal.str []]),
                            ((5 : Nat),
                              ABlk.cells (28 : Nat)
                                [AVal.bool false, AVal.bool false, AVal.int IntKind.i64 (0 : Int),
                                  AVal.int IntKind.i64 (0 : Int), AVal.int IntKind.i64 (0 : Int),
                                  AVal.int IntKind.i64 (0 : Int), AVal.str [], AVal.str [], AVal.str []]),
                            ((4 : Nat),
                              ABlk.cells (26 : Nat)
                                [AVal.int IntKind.i64 (2049 : Int),
                                  AVal.int IntKind.i64
                                    ([(0 : Int), (1 : Int), (2 : Int)].getD ((0 : Nat) + (kind % (3 : Int)).toNat)
                                      (0 : Int)),
                                  AVal.str
                                    ([[(97 : UInt8), (98 : UInt8), (99 : UInt8), (100 : UInt8), (101 : UInt8),
                                            (102 : UInt8)],
                                          [(120 : UInt8), (121 : UInt8), (122 : UInt8)], []].getD
                                      ((0 : Nat) + (kind % (3 : Int)).toNat) []),
                                  AVal.str (List.take (min (↑data.length : Int) (6000 : Int)).toNat data),
                                  AVal.int IntKind.i64 (0 : Int), AVal.int IntKind.i64 kind]),
                            ((4 : Nat),
                              ABlk.cells (26 : Nat)
                                [AVal.int IntKind.i64 (0 : Int), AVal.int IntKind.i64 (0 : Int), AVal.str [],
                                  AVal.str [], AVal.int IntKind.i64 (0 : Int), AVal.int IntKind.i64 (0 : Int)]),
                            ((3 : Nat), ABlk.cells (24 : Nat) [AVal.int IntKind.i64 (3 : Int), AVal.str []]),
                            ((3 : Nat),
                              ABlk.cells (24 : Nat)
                                [AVal.int IntKind.i64
                                    ([(0 : Int), (1 : Int), (2 : Int)].getD ((0 : Nat) + (kind % (3 : Int)).toNat)
                                      (0 : Int)),
                                  AVal.str
                                    ([[(97 : UInt8), (98 : UInt8), (99 : UInt8), (100 : UInt8), (101 : UInt8),
                                            (102 : UInt8)],
                                          [(120 : UInt8), (121 : UInt8), (122 : UInt8)], []].getD
                                      ((0 : Nat) + (kind % (3 : Int)).toNat) [])]),
                            ((3 : Nat), ABlk.cells (24 : Nat) [AVal.int IntKind.i64 (0 : Int), AVal.str []]),
                            ((2 : Nat),
                              ABlk.cells (24 : Nat)
                                [AVal.int IntKind.i64
                                    ([(0 : Int), (1 : Int), (2 : Int)].getD ((0 : Nat) + (kind % (3 : Int)).toNat)
                                      (0 : Int)),
                                  AVal.str
                                    ([[(97 : UInt8), (98 : UInt8), (99 : UInt8), (100 : UInt8), (101 : UInt8),
                                            (102 : UInt8)],
                                          [(120 : UInt8), (121 : UInt8), (122 : UInt8)], []].getD
                                      ((0 : Nat) + (kind % (3 : Int)).toNat) [])]),
                            ((2 : Nat), ABlk.cells (24 : Nat) [AVal.int IntKind.i64 (0 : Int), AVal.str []]),
                            ((1 : Nat),
                              ABlk.cells (24 : Nat)
                                [AVal.int IntKind.i64 (0 : Int),
                                  AVal.str
                                    [(97 : UInt8), (98 : UInt8), (99 : UInt8), (100 : UInt8), (101 : UInt8),
                                      (102 : UInt8)],
                                  AVal.int IntKind.i64 (1 : Int),
                                  AVal.str [(120 : UInt8), (121 : UInt8), (122 : UInt8)],
                                  AVal.int IntKind.i64 (2 : Int), AVal.str []]),
                            ((0 : Nat), ABlk.row (22 : Nat) (intRow IntKind.u16) sp RowMd.ro)]).get
                      (0 : Nat) =
                    some (ABlk.row (22 : Nat) (intRow IntKind.u16) sp RowMd.ro) ∧
                  Nat.ble (1 : Nat) (1 : Nat) = true ∧
                    obl
                      (preW sp
                        (Swhole.mk (List.take (min (↑data.length : Int) (6000 : Int)).toNat data) kind n [] (0 : Int)
                          false false (0 : Int) (0 : Int) (0 : Int) (0 : Int) [] [] [] (2049 : Int)
                          ([(0 : Int), (1 : Int), (2 : Int)].getD ((0 : Nat) + (kind % (3 : Int)).toNat) (0 : Int))
                          ([[(97 : UInt8), (98 : UInt8), (99 : UInt8), (100 : UInt8), (101 : UInt8), (102 : UInt8)],
                                [(120 : UInt8), (121 : UInt8), (122 : UInt8)], []].getD
                            ((0 : Nat) + (kind % (3 : Int)).toNat) [])
                          (List.take (min (↑data.length : Int) (6000 : Int)).toNat data) (0 : Int) kind (3 : Int) []
                          ([(0 : Int), (1 : Int), (2 : Int)].getD ((0 : Nat) + (kind % (3 : Int)).toNat) (0 : Int))
                          ([[(97 : UInt8), (98 : UInt8), (99 : UInt8), (100 : UInt8), (101 : UInt8), (102 : UInt8)],
                                [(120 : UInt8), (121 : UInt8), (122 : UInt8)], []].getD
                            ((0 : Nat) + (kind % (3 : Int)).toNat) [])))
                      (∀ (i' : Int) (pst' pen' : Bool) (pid' ptot' ptyp' pk' : Int) (plb' pdata' psum' : List UInt8)
                        (k' : Int) (b' : List UInt8),
                        pst' = true ∨
                            psum' =
                              pSum (2049 : Int) (3 : Int) (ByteArray.mk #[]).data.toList
                                (List.take
                                  (match false with
                                    | true => max (↑data.length : Int) (6000 : Int)
                                    | false => min (↑data.length : Int) (6000 : Int)).toNat
                                  data) →
                          obl
                            (decide
                              ((List.take (min (↑data.length : Int) (6000 : Int)).toNat data).length ≤
                                (9223372036854775000 : Nat)))
                            (branch (!pst')
                              (branch
                                (!decide
                                    (pErr (2049 : Int) (3 : Int) []
                                        (↑(List.take (min (↑data.length : Int) (6000 : Int)).toNat data).length : Int) =
                                      (0 : Int)))
                                (K (Out.ret (AVal.bool false)))
                                (branch
                                  (!decide
                                      (psum' =
                                        pSum (2049 : Int) (3 : Int) []
                                          (List.take (min (↑data.length : Int) (6000 : Int)).toNat data)))
                                  (K (Out.ret (AVal.bool false)))
                                  (branch
                                    (decide
                                      (List.take (min (↑data.length : Int) (6000 : Int)).toNat data =
                                        List.take (min (↑data.length : Int) (6000 : Int)).toNat data))
                                    (branch
                                      (decide
                                        ((if
                                              lOk
                                                  ([(0 : Int), (1 : Int), (2 : Int)].getD
                                                    ((0 : Nat) + (kind % (3 : Int)).toNat) (0 : Int))
                                                  ([[(97 : UInt8), (98 : UInt8), (99 : UInt8), (100 : UInt8),
                                                          (101 : UInt8), (102 : UInt8)],
                                                        [(120 : UInt8), (121 : UInt8), (122 : UInt8)], []].getD
                                                    ((0 : Nat) + (kind % (3 : Int)).toNat) []) =
                                                true then
                                            (0 : Int)
                                          else (2 : Int)) =
                                          (0 : Int)))
                                      (K (Out.ret (AVal.bool true))) (K (Out.ret (AVal.bool false))))
                                    (K (Out.ret (AVal.bool false))))))
                              (branch
                                (decide
                                  (List.take (min (↑data.length : Int) (6000 : Int)).toNat data =
                                    List.take (min (↑data.length : Int) (6000 : Int)).toNat data))
                                (branch
                                  (decide
                                    ((if
                                          lOk
                                              ([(0 : Int), (1 : Int), (2 : Int)].getD
                                                ((0 : Nat) + (kind % (3 : Int)).toNat) (0 : Int))
                                              ([[(97 : UInt8), (98 : UInt8), (99 : UInt8), (100 : UInt8), (101 : UInt8),
                                                      (102 : UInt8)],
                                                    [(120 : UInt8), (121 : UInt8), (122 : UInt8)], []].getD
                                                ((0 : Nat) + (kind % (3 : Int)).toNat) []) =
                                            true then
                                        (0 : Int)
                                      else (2 : Int)) =
                                      (0 : Int)))
                                  (K (Out.ret (AVal.bool true))) (K (Out.ret (AVal.bool false))))
                                (K (Out.ret (AVal.bool false))))))))
              (obl (inI64 kind)
                ((AHeap.mk (6 : Nat)
                          [((5 : Nat),
                              ABlk.cells (28 : Nat)
                                [AVal.bool false, AVal.bool false, AVal.int IntKind.i64 (0 : Int),
                                  AVal.int IntKind.i64 (0 : Int), AVal.int IntKind.i64 (0 : Int),
                                  AVal.int IntKind.i64 (0 : Int), AVal.str [], AVal.str [], AVal.str []]),
                            ((5 : Nat),
                              ABlk.cells (28 : Nat)
                                [AVal.bool false, AVal.bool false, AVal.int IntKind.i64 (0 : Int),
                                  AVal.int IntKind.i64 (0 : Int), AVal.int IntKind.i64 (0 : Int),
                                  AVal.int IntKind.i64 (0 : Int), AVal.str [], AVal.str [], AVal.str []]),
                            ((4 : Nat),
                              ABlk.cells (26 : Nat)
                                [AVal.int IntKind.i64 (2049 : Int),
                                  AVal.int IntKind.i64
                                    ([(0 : Int), (1 : Int), (2 : Int)].getD ((0 : Nat) + (kind % (3 : Int)).toNat)
                                      (0 : Int)),
                                  AVal.str
                                    ([[(97 : UInt8), (98 : UInt8), (99 : UInt8), (100 : UInt8), (101 : UInt8),
                                            (102 : UInt8)],
                                          [(120 : UInt8), (121 : UInt8), (122 : UInt8)], []].getD
                                      ((0 : Nat) + (kind % (3 : Int)).toNat) []),
                                  AVal.str (List.take (min (↑data.length : Int) (6000 : Int)).toNat data),
                                  AVal.int IntKind.i64 (0 : Int), AVal.int IntKind.i64 kind]),
                            ((4 : Nat),
                              ABlk.cells (26 : Nat)
                                [AVal.int IntKind.i64 (0 : Int), AVal.int IntKind.i64 (0 : Int), AVal.str [],
                                  AVal.str [], AVal.int IntKind.i64 (0 : Int), AVal.int IntKind.i64 (0 : Int)]),
                            ((3 : Nat),
                              ABlk.cells (24 : Nat)
                                [AVal.int IntKind.i64
                                    ([(0 : Int), (1 : Int), (2 : Int)].getD ((0 : Nat) + (kind % (3 : Int)).toNat)
                                      (0 : Int)),
                                  AVal.str
                                    ([[(97 : UInt8), (98 : UInt8), (99 : UInt8), (100 : UInt8), (101 : UInt8),
                                            (102 : UInt8)],
                                          [(120 : UInt8), (121 : UInt8), (122 : UInt8)], []].getD
                                      ((0 : Nat) + (kind % (3 : Int)).toNat) [])]),
                            ((3 : Nat), ABlk.cells (24 : Nat) [AVal.int IntKind.i64 (0 : Int), AVal.str []]),
                            ((2 : Nat),
                              ABlk.cells (24 : Nat)
                                [AVal.int IntKind.i64
                                    ([(0 : Int), (1 : Int), (2 : Int)].getD ((0 : Nat) + (kind % (3 : Int)).toNat)
                                      (0 : Int)),
                                  AVal.str
                                    ([[(97 : UInt8), (98 : UInt8), (99 : UInt8), (100 : UInt8), (101 : UInt8),
                                            (102 : UInt8)],
                                          [(120 : UInt8), (121 : UInt8), (122 : UInt8)], []].getD
                                      ((0 : Nat) + (kind % (3 : Int)).toNat) [])]),
                            ((2 : Nat), ABlk.cells (24 : Nat) [AVal.int IntKind.i64 (0 : Int), AVal.str []]),
                            ((1 : Nat),
                              ABlk.cells (24 : Nat)
                                [AVal.int IntKind.i64 (0 : Int),
                                  AVal.str
                                    [(97 : UInt8), (98 : UInt8), (99 : UInt8), (100 : UInt8), (101 : UInt8),
                                      (102 : UInt8)],
                                  AVal.int IntKind.i64 (1 : Int),
                                  AVal.str [(120 : UInt8), (121 : UInt8), (122 : UInt8)],
                                  AVal.int IntKind.i64 (2 : Int), AVal.str []]),
                            ((0 : Nat), ABlk.row (22 : Nat) (intRow IntKind.u16) sp RowMd.ro)]).get
                      (0 : Nat) =
                    some (ABlk.row (22 : Nat) (intRow IntKind.u16) sp RowMd.ro) ∧
                  Nat.ble (1 : Nat) (1 : Nat) = true ∧
                    obl
                      (preW sp
                        (Swhole.mk (List.take (min (↑data.length : Int) (6000 : Int)).toNat data) kind n [] (0 : Int)
                          false false (0 : Int) (0 : Int) (0 : Int) (0 : Int) [] [] [] (2049 : Int)
                          ([(0 : Int), (1 : Int), (2 : Int)].getD ((0 : Nat) + (kind % (3 : Int)).toNat) (0 : Int))
                          ([[(97 : UInt8), (98 : UInt8), (99 : UInt8), (100 : UInt8), (101 : UInt8), (102 : UInt8)],
                                [(120 : UInt8), (121 : UInt8), (122 : UInt8)], []].getD
                            ((0 : Nat) + (kind % (3 : Int)).toNat) [])
                          (List.take (min (↑data.length : Int) (6000 : Int)).toNat data) (0 : Int) kind
                          ([(0 : Int), (1 : Int), (2 : Int)].getD ((0 : Nat) + (kind % (3 : Int)).toNat) (0 : Int))
                          ([[(97 : UInt8), (98 : UInt8), (99 : UInt8), (100 : UInt8), (101 : UInt8), (102 : UInt8)],
                                [(120 : UInt8), (121 : UInt8), (122 : UInt8)], []].getD
                            ((0 : Nat) + (kind % (3 : Int)).toNat) [])
                          ([(0 : Int), (1 : Int), (2 : Int)].getD ((0 : Nat) + (kind % (3 : Int)).toNat) (0 : Int))
                          ([[(97 : UInt8), (98 : UInt8), (99 : UInt8), (100 : UInt8), (101 : UInt8), (102 : UInt8)],
                                [(120 : UInt8), (121 : UInt8), (122 : UInt8)], []].getD
                            ((0 : Nat) + (kind % (3 : Int)).toNat) [])))
                      (∀ (i' : Int) (pst' pen' : Bool) (pid' ptot' ptyp' pk' : Int) (plb' pdata' psum' : List UInt8)
                        (k' : Int) (b' : List UInt8),
                        pst' = true ∨
                            psum' =
                              pSum (2049 : Int)
                                ([(0 : Int), (1 : Int), (2 : Int)].getD ((0 : Nat) + (kind % (3 : Int)).toNat)
                                  (0 : Int))
                                ([(ByteArray.mk
                                            #[(97 : UInt8), (98 : UInt8), (99 : UInt8), (100 : UInt8), (101 : UInt8),
                                              (102 : UInt8)]).data.toList,
                                      (ByteArray.mk #[(120 : UInt8), (121 : UInt8), (122 : UInt8)]).data.toList,
                                      (ByteArray.mk #[]).data.toList].getD
                                  ((0 : Nat) + (kind % (3 : Int)).toNat) [])
                                (List.take
                                  (match false with
                                    | true => max (↑data.length : Int) (6000 : Int)
                                    | false => min (↑data.length : Int) (6000 : Int)).toNat
                                  data) →
                          obl
                            (decide
                              ((List.take (min (↑data.length : Int) (6000 : Int)).toNat data).length ≤
                                (9223372036854775000 : Nat)))
                            (branch (!pst')
                              (branch
                                (!decide
                                    (pErr (2049 : Int)
                                        ([(0 : Int), (1 : Int), (2 : Int)].getD ((0 : Nat) + (kind % (3 : Int)).toNat)
                                          (0 : Int))
                                        ([[(97 : UInt8), (98 : UInt8), (99 : UInt8), (100 : UInt8), (101 : UInt8),
                                                (102 : UInt8)],
                                              [(120 : UInt8), (121 : UInt8), (122 : UInt8)], []].getD
                                          ((0 : Nat) + (kind % (3 : Int)).toNat) [])
                                        (↑(List.take (min (↑data.length : Int) (6000 : Int)).toNat data).length : Int) =
                                      (0 : Int)))
                                (K (Out.ret (AVal.bool false)))
                                (branch
                                  (!decide
                                      (psum' =
                                        pSum (2049 : Int)
                                          ([(0 : Int), (1 : Int), (2 : Int)].getD ((0 : Nat) + (kind % (3 : Int)).toNat)
                                            (0 : Int))
                                          ([[(97 : UInt8), (98 : UInt8), (99 : UInt8), (100 : UInt8), (101 : UInt8),
                                                  (102 : UInt8)],
                                                [(120 : UInt8), (121 : UInt8), (122 : UInt8)], []].getD
                                            ((0 : Nat) + (kind % (3 : Int)).toNat) [])
                                          (List.take (min (↑data.length : Int) (6000 : Int)).toNat data)))
                                  (K (Out.ret (AVal.bool false)))
                                  (branch
                                    (decide
                                      (List.take (min (↑data.length : Int) (6000 : Int)).toNat data =
                                        List.take (min (↑data.length : Int) (6000 : Int)).toNat data))
                                    (branch
                                      (decide
                                        ((if
                                              lOk
                                                  ([(0 : Int), (1 : Int), (2 : Int)].getD
                                                    ((0 : Nat) + (kind % (3 : Int)).toNat) (0 : Int))
                                                  ([[(97 : UInt8), (98 : UInt8), (99 : UInt8), (100 : UInt8),
                                                          (101 : UInt8), (102 : UInt8)],
                                                        [(120 : UInt8), (121 : UInt8), (122 : UInt8)], []].getD
                                                    ((0 : Nat) + (kind % (3 : Int)).toNat) []) =
                                                true then
                                            (0 : Int)
                                          else (2 : Int)) =
                                          (0 : Int)))
                                      (K (Out.ret (AVal.bool true))) (K (Out.ret (AVal.bool false))))
                                    (K (Out.ret (AVal.bool false))))))
                              (branch
                                (decide
                                  (List.take (min (↑data.length : Int) (6000 : Int)).toNat data =
                                    List.take (min (↑data.length : Int) (6000 : Int)).toNat data))
                                (branch
                                  (decide
                                    ((if
                                          lOk
                                              ([(0 : Int), (1 : Int), (2 : Int)].getD
                                                ((0 : Nat) + (kind % (3 : Int)).toNat) (0 : Int))
                                              ([[(97 : UInt8), (98 : UInt8), (99 : UInt8), (100 : UInt8), (101 : UInt8),
                                                      (102 : UInt8)],
                                                    [(120 : UInt8), (121 : UInt8), (122 : UInt8)], []].getD
                                                ((0 : Nat) + (kind % (3 : Int)).toNat) []) =
                                            true then
                                        (0 : Int)
                                      else (2 : Int)) =
                                      (0 : Int)))
                                  (K (Out.ret (AVal.bool true))) (K (Out.ret (AVal.bool false))))
                                (K (Out.ret (AVal.bool false))))))))))))))) := by kernel_rfl

end Go.Proofs.Ytdjidmnehfjmbaa
