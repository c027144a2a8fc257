/-
  Walks, printed: what calls come to, as they are reckoned.
-/
import Derived.Test.YtdjidmnehfjmbaaCutAOk
namespace Go.Proofs.Ytdjidmnehfjmbaa
set_option linter.unusedVariables false
set_option linter.unusedSimpArgs false
open Go.RowKit Ev

set_option maxRecDepth 100000 in
theorem w_cagain (at_ sp : Int) (data : List UInt8) (K : Out → Prop) : (callC (TCA.ctx Try.prog) 100 3 [.str data, .int .u16 at_, .int .u16 sp] ⟨0, []⟩ (fun o _ => K o)
) = (obl
  (decide
    ((0 : Int) ≤ min (↑data.length : Int) (300 : Int) ∧ min (↑data.length : Int) (300 : Int) ≤ (↑data.length : Int)))
  (obl
    (decide
      ((↑((2 : Nat) + (List.take (min (↑data.length : Int) (300 : Int)).toNat data).length) : Int) ≤
        (9223372036854775807 : Int)))
    (obl (inI64 at_)
      (obl
        (inI64
          ((↑([(97 : UInt8), (98 : UInt8)] ++ List.take (min (↑data.length : Int) (300 : Int)).toNat data).length :
              Int) -
            (1 : Int)))
        (obl
          (decide
            ((0 : Int) ≤ at_ ∧
              (0 : Int) <
                (↑([(97 : UInt8), (98 : UInt8)] ++ List.take (min (↑data.length : Int) (300 : Int)).toNat data).length :
                    Int) -
                  (1 : Int)))
          (obl
            (inI64
              ((1 : Int) +
                at_ %
                  ((↑([(97 : UInt8), (98 : UInt8)] ++
                            List.take (min (↑data.length : Int) (300 : Int)).toNat data).length :
                      Int) -
                    (1 : Int))))
            (obl
              (inI64
                ((10 : Int) +
                  ((1 : Int) +
                    at_ %
                      ((↑([(97 : UInt8), (98 : UInt8)] ++
                                List.take (min (↑data.length : Int) (300 : Int)).toNat data).length :
                          Int) -
                        (1 : Int)))))
              (branch
                (!decide
                    ((nextR (2048 : Int) (1 : Int) [(120 : UInt8), (121 : UInt8), (122 : UInt8)]
                          ([(97 : UInt8), (98 : UInt8)] ++ List.take (min (↑data.length : Int) (300 : Int)).toNat data)
                          (0 : Int) (3 : Int) (1 : Int) [(120 : UInt8), (121 : UInt8), (122 : UInt8)]
                          ((10 : Int) +
                            ((1 : Int) +
                              at_ %
                                ((↑([(97 : UInt8), (98 : UInt8)] ++
                                          List.take (min (↑data.length : Int) (300 : Int)).toNat data).length :
                                    Int) -
                                  (1 : Int))))
                          false).err =
                      (0 : Int)))
                (branch
                  (decide
                    ((nextR (2048 : Int) (1 : Int) [(120 : UInt8), (121 : UInt8), (122 : UInt8)]
                          ([(97 : UInt8), (98 : UInt8)] ++ List.take (min (↑data.length : Int) (300 : Int)).toNat data)
                          (0 : Int) (3 : Int) (1 : Int) [(120 : UInt8), (121 : UInt8), (122 : UInt8)]
                          ((10 : Int) +
                            ((1 : Int) +
                              at_ %
                                ((↑([(97 : UInt8), (98 : UInt8)] ++
                                          List.take (min (↑data.length : Int) (300 : Int)).toNat data).length :
                                    Int) -
                                  (1 : Int))))
                          false).err =
                      (0 : Int)))
                  (branch
                    (decide
                      ((↑(nextR (2048 : Int) (1 : Int) [(120 : UInt8), (121 : UInt8), (122 : UInt8)]
                                  ([(97 : UInt8), (98 : UInt8)] ++
                                    List.take (min (↑data.length : Int) (300 : Int)).toNat data)
                                  (0 : Int) (3 : Int) (1 : Int) [(120 : UInt8), (121 : UInt8), (122 : UInt8)]
                                  ((10 : Int) +
                                    ((1 : Int) +
                                      at_ %
                                        ((↑([(97 : UInt8), (98 : UInt8)] ++
                                                  List.take (min (↑data.length : Int) (300 : Int)).toNat data).length :
                                            Int) -
                                          (1 : Int))))
                                  false).data.length :
                          Int) =
                        (↑([(97 : UInt8), (98 : UInt8)] ++
                                List.take (min (↑data.length : Int) (300 : Int)).toNat data).length :
                          Int)))
                    (obl
                      (inI64
                        ((7 : Int) +
                          (↑([(97 : UInt8), (98 : UInt8)] ++
                                  List.take (min (↑data.length : Int) (300 : Int)).toNat data).length :
                            Int)))
                      (obl
                        (inI64
                          ((10 : Int) +
                            ((1 : Int) +
                              at_ %
                                ((↑([(97 : UInt8), (98 : UInt8)] ++
                                          List.take (min (↑data.length : Int) (300 : Int)).toNat data).length :
                                    Int) -
                                  (1 : Int)))))
                        (branch
                          (decide
                            ((7 : Int) +
                                (↑([(97 : UInt8), (98 : UInt8)] ++
                                        List.take (min (↑data.length : Int) (300 : Int)).toNat data).length :
                                  Int) ≤
                              (10 : Int) +
                                ((1 : Int) +
                                  at_ %
                                    ((↑([(97 : UInt8), (98 : UInt8)] ++
                                              List.take (min (↑data.length : Int) (300 : Int)).toNat data).length :
                                        Int) -
                                      (1 : Int)))))
                          (K (Out.ret (AVal.bool true))) (K (Out.ret (AVal.bool false))))))
                    (K (Out.ret (AVal.bool false))))
                  (K (Out.ret (AVal.bool false))))
                (branch
                  (nextR (2048 : Int) (1 : Int) [(120 : UInt8), (121 : UInt8), (122 : UInt8)]
                      ([(97 : UInt8), (98 : UInt8)] ++ List.take (min (↑data.length : Int) (300 : Int)).toNat data)
                      (0 : Int) (3 : Int) (1 : Int) [(120 : UInt8), (121 : UInt8), (122 : UInt8)]
                      ((10 : Int) +
                        ((1 : Int) +
                          at_ %
                            ((↑([(97 : UInt8), (98 : UInt8)] ++
                                      List.take (min (↑data.length : Int) (300 : Int)).toNat data).length :
                                Int) -
                              (1 : Int))))
                      false).st
                  (branch
                    (nextR (2048 : Int) (1 : Int) [(120 : UInt8), (121 : UInt8), (122 : UInt8)]
                        ([(97 : UInt8), (98 : UInt8)] ++ List.take (min (↑data.length : Int) (300 : Int)).toNat data)
                        (0 : Int) (3 : Int) (1 : Int) [(120 : UInt8), (121 : UInt8), (122 : UInt8)]
                        ((10 : Int) +
                          ((1 : Int) +
                            at_ %
                              ((↑([(97 : UInt8), (98 : UInt8)] ++
                                        List.take (min (↑data.length : Int) (300 : Int)).toNat data).length :
                                  Int) -
                                (1 : Int))))
                        false).en
                    (branch
                      (decide
                        ((nextR (2048 : Int) (1 : Int) [(120 : UInt8), (121 : UInt8), (122 : UInt8)]
                              ([(97 : UInt8), (98 : UInt8)] ++
                                List.take (min (↑data.length : Int) (300 : Int)).toNat data)
                              (0 : Int) (3 : Int) (1 : Int) [(120 : UInt8), (121 : UInt8), (122 : UInt8)]
                              ((10 : Int) +
                                ((1 : Int) +
                                  at_ %
                                    ((↑([(97 : UInt8), (98 : UInt8)] ++
                                              List.take (min (↑data.length : Int) (300 : Int)).toNat data).length :
                                        Int) -
                                      (1 : Int))))
                              false).err =
                          (0 : Int)))
                      (branch
                        (decide
                          ((↑(nextR (2048 : Int) (1 : Int) [(120 : UInt8), (121 : UInt8), (122 : UInt8)]
                                      ([(97 : UInt8), (98 : UInt8)] ++
                                        List.take (min (↑data.length : Int) (300 : Int)).toNat data)
                                      (0 : Int) (3 : Int) (1 : Int) [(120 : UInt8), (121 : UInt8), (122 : UInt8)]
                                      ((10 : Int) +
                                        ((1 : Int) +
                                          at_ %
                                            ((↑([(97 : UInt8), (98 : UInt8)] ++
                                                      List.take (min (↑data.length : Int) (300 : Int)).toNat
                                                        data).length :
                                                Int) -
                                              (1 : Int))))
                                      false).data.length :
                              Int) =
                            (↑([(97 : UInt8), (98 : UInt8)] ++
                                    List.take (min (↑data.length : Int) (300 : Int)).toNat data).length :
                              Int)))
                        (obl
                          (inI64
                            ((7 : Int) +
                              (↑([(97 : UInt8), (98 : UInt8)] ++
                                      List.take (min (↑data.length : Int) (300 : Int)).toNat data).length :
                                Int)))
                          (obl
                            (inI64
                              ((10 : Int) +
                                ((1 : Int) +
                                  at_ %
                                    ((↑([(97 : UInt8), (98 : UInt8)] ++
                                              List.take (min (↑data.length : Int) (300 : Int)).toNat data).length :
                                        Int) -
                                      (1 : Int)))))
                            (branch
                              (decide
                                ((7 : Int) +
                                    (↑([(97 : UInt8), (98 : UInt8)] ++
                                            List.take (min (↑data.length : Int) (300 : Int)).toNat data).length :
                                      Int) ≤
                                  (10 : Int) +
                                    ((1 : Int) +
                                      at_ %
                                        ((↑([(97 : UInt8), (98 : UInt8)] ++
                                                  List.take (min (↑data.length : Int) (300 : Int)).toNat data).length :
                                            Int) -
                                          (1 : Int)))))
                              (K (Out.ret (AVal.bool true))) (K (Out.ret (AVal.bool false))))))
                        (K (Out.ret (AVal.bool false))))
                      (K (Out.ret (AVal.bool false))))
                    (obl
                      (preA
                        { sp := sp, x := (0 : Int), typ := (2048 : Int), k := (1 : Int),
                          b := [(120 : UInt8), (121 : UInt8), (122 : UInt8)],
                          data :=
                            [(97 : UInt8), (98 : UInt8)] ++ List.take (min (↑data.length : Int) (300 : Int)).toNat data,
                          at_ := (0 : Int), id := (3 : Int), typ3 := (2048 : Int),
                          k3 :=
                            (nextR (2048 : Int) (1 : Int) [(120 : UInt8), (121 : UInt8), (122 : UInt8)]
                                ([(97 : UInt8), (98 : UInt8)] ++
                                  List.take (min (↑data.length : Int) (300 : Int)).toNat data)
                                (0 : Int) (3 : Int) (1 : Int) [(120 : UInt8), (121 : UInt8), (122 : UInt8)]
                                ((10 : Int) +
                                  ((1 : Int) +
                                    at_ %
                                      ((↑([(97 : UInt8), (98 : UInt8)] ++
                                                List.take (min (↑data.length : Int) (300 : Int)).toNat data).length :
                                          Int) -
                                        (1 : Int))))
                                false).k2,
                          b3 :=
                            (nextR (2048 : Int) (1 : Int) [(120 : UInt8), (121 : UInt8), (122 : UInt8)]
                                ([(97 : UInt8), (98 : UInt8)] ++
                                  List.take (min (↑data.length : Int) (300 : Int)).toNat data)
                                (0 : Int) (3 : Int) (1 : Int) [(120 : UInt8), (121 : UInt8), (122 : UInt8)]
                                ((10 : Int) +
                                  ((1 : Int) +
                                    at_ %
                                      ((↑([(97 : UInt8), (98 : UInt8)] ++
                                                List.take (min (↑data.length : Int) (300 : Int)).toNat data).length :
                                          Int) -
                                        (1 : Int))))
                                false).b2,
                          data3 :=
                            [(97 : UInt8), (98 : UInt8)] ++ List.take (min (↑data.length : Int) (300 : Int)).toNat data,
                          at3 :=
                            (nextR (2048 : Int) (1 : Int) [(120 : UInt8), (121 : UInt8), (122 : UInt8)]
                                ([(97 : UInt8), (98 : UInt8)] ++
                                  List.take (min (↑data.length : Int) (300 : Int)).toNat data)
                                (0 : Int) (3 : Int) (1 : Int) [(120 : UInt8), (121 : UInt8), (122 : UInt8)]
                                ((10 : Int) +
                                  ((1 : Int) +
                                    at_ %
                                      ((↑([(97 : UInt8), (98 : UInt8)] ++
                                                List.take (min (↑data.length : Int) (300 : Int)).toNat data).length :
                                          Int) -
                                        (1 : Int))))
                                false).at2,
                          id3 := (3 : Int), lk := (1 : Int), lb := [(120 : UInt8), (121 : UInt8), (122 : UInt8)] })
                      (branch
                        (!decide
                            ((nextR (2048 : Int) (1 : Int) [(120 : UInt8), (121 : UInt8), (122 : UInt8)]
                                  ([(97 : UInt8), (98 : UInt8)] ++
                                    List.take (min (↑data.length : Int) (300 : Int)).toNat data)
                                  (0 : Int) (3 : Int) (1 : Int) [(120 : UInt8), (121 : UInt8), (122 : UInt8)]
                                  ((10 : Int) +
                                    ((1 : Int) +
                                      at_ %
                                        ((↑([(97 : UInt8), (98 : UInt8)] ++
                                                  List.take (min (↑data.length : Int) (300 : Int)).toNat data).length :
                                            Int) -
                                          (1 : Int))))
                                  false).at2 =
                              (nextR (2048 : Int) (1 : Int) [(120 : UInt8), (121 : UInt8), (122 : UInt8)]
                                  ([(97 : UInt8), (98 : UInt8)] ++
                                    List.take (min (↑data.length : Int) (300 : Int)).toNat data)
                                  (0 : Int) (3 : Int) (1 : Int) [(120 : UInt8), (121 : UInt8), (122 : UInt8)]
                                  ((10 : Int) +
                                    ((1 : Int) +
                                      at_ %
                                        ((↑([(97 : UInt8), (98 : UInt8)] ++
                                                  List.take (min (↑data.length : Int) (300 : Int)).toNat data).length :
                                            Int) -
                                          (1 : Int))))
                                  false).at2))
                        (K (Out.ret (AVal.bool false)))
                        (obl (decide ((0 : Int) ≤ sp ∧ (0 : Int) < (400 : Int)))
                          (obl (inI64 (sp % (400 : Int)))
                            (obl (decide ((0 : Int) ≤ sp ∧ (0 : Int) < (400 : Int)))
                              (obl (inI64 (sp % (400 : Int)))
                                (branch
                                  ((nextR (2048 : Int)
                                          (nextR (2048 : Int) (1 : Int) [(120 : UInt8), (121 : UInt8), (122 : UInt8)]
                                              ([(97 : UInt8), (98 : UInt8)] ++
                                                List.take (min (↑data.length : Int) (300 : Int)).toNat data)
                                              (0 : Int) (3 : Int) (1 : Int)
                                              [(120 : UInt8), (121 : UInt8), (122 : UInt8)]
                                              ((10 : Int) +
                                                ((1 : Int) +
                                                  at_ %
                                                    ((↑([(97 : UInt8), (98 : UInt8)] ++
                                                              List.take (min (↑data.length : Int) (300 : Int)).toNat
                                                                data).length :
                                                        Int) -
                                                      (1 : Int))))
                                              false).k2
                                          (nextR (2048 : Int) (1 : Int) [(120 : UInt8), (121 : UInt8), (122 : UInt8)]
                                              ([(97 : UInt8), (98 : UInt8)] ++
                                                List.take (min (↑data.length : Int) (300 : Int)).toNat data)
                                              (0 : Int) (3 : Int) (1 : Int)
                                              [(120 : UInt8), (121 : UInt8), (122 : UInt8)]
                                              ((10 : Int) +
                                                ((1 : Int) +
                                                  at_ %
                                                    ((↑([(97 : UInt8), (98 : UInt8)] ++
                                                              List.take (min (↑data.length : Int) (300 : Int)).toNat
                                                                data).length :
                                                        Int) -
                                                      (1 : Int))))
                                              false).b2
                                          ([(97 : UInt8), (98 : UInt8)] ++
                                            List.take (min (↑data.length : Int) (300 : Int)).toNat data)
                                          (nextR (2048 : Int) (1 : Int) [(120 : UInt8), (121 : UInt8), (122 : UInt8)]
                                              ([(97 : UInt8), (98 : UInt8)] ++
                                                List.take (min (↑data.length : Int) (300 : Int)).toNat data)
                                              (0 : Int) (3 : Int) (1 : Int)
                                              [(120 : UInt8), (121 : UInt8), (122 : UInt8)]
                                              ((10 : Int) +
                                                ((1 : Int) +
                                                  at_ %
                                                    ((↑([(97 : UInt8), (98 : UInt8)] ++
                                                              List.take (min (↑data.length : Int) (300 : Int)).toNat
                                                                data).length :
                                                        Int) -
                                                      (1 : Int))))
                                              false).at2
                                          (3 : Int) (1 : Int) [(120 : UInt8), (121 : UInt8), (122 : UInt8)]
                                          (sp % (400 : Int)) false).st ==
                                      (nextR (2048 : Int) (1 : Int) [(120 : UInt8), (121 : UInt8), (122 : UInt8)]
                                          ([(97 : UInt8), (98 : UInt8)] ++
                                            List.take (min (↑data.length : Int) (300 : Int)).toNat data)
                                          (nextR (2048 : Int) (1 : Int) [(120 : UInt8), (121 : UInt8), (122 : UInt8)]
                                              ([(97 : UInt8), (98 : UInt8)] ++
                                                List.take (min (↑data.length : Int) (300 : Int)).toNat data)
                                              (0 : Int) (3 : Int) (1 : Int)
                                              [(120 : UInt8), (121 : UInt8), (122 : UInt8)]
                                              ((10 : Int) +
                                                ((1 : Int) +
                                                  at_ %
                                                    ((↑([(97 : UInt8), (98 : UInt8)] ++
                                                              List.take (min (↑data.length : Int) (300 : Int)).toNat
                                                                data).length :
                                                        Int) -
                                                      (1 : Int))))
                                              false).at2
                                          (3 : Int) (1 : Int) [(120 : UInt8), (121 : UInt8), (122 : UInt8)]
                                          (sp % (400 : Int)) false).st &&
                                    ((nextR (2048 : Int)
                                            (nextR (2048 : Int) (1 : Int) [(120 : UInt8), (121 : UInt8), (122 : UInt8)]
                                                ([(97 : UInt8), (98 : UInt8)] ++
                                                  List.take (min (↑data.length : Int) (300 : Int)).toNat data)
                                                (0 : Int) (3 : Int) (1 : Int)
                                                [(120 : UInt8), (121 : UInt8), (122 : UInt8)]
                                                ((10 : Int) +
                                                  ((1 : Int) +
                                                    at_ %
                                                      ((↑([(97 : UInt8), (98 : UInt8)] ++
                                                                List.take (min (↑data.length : Int) (300 : Int)).toNat
                                                                  data).length :
                                                          Int) -
                                                        (1 : Int))))
                                                false).k2
                                            (nextR (2048 : Int) (1 : Int) [(120 : UInt8), (121 : UInt8), (122 : UInt8)]
                                                ([(97 : UInt8), (98 : UInt8)] ++
                                                  List.take (min (↑data.length : Int) (300 : Int)).toNat data)
                                                (0 : Int) (3 : Int) (1 : Int)
                                                [(120 : UInt8), (121 : UInt8), (122 : UInt8)]
                                                ((10 : Int) +
                                                  ((1 : Int) +
                                                    at_ %
                                                      ((↑([(97 : UInt8), (98 : UInt8)] ++
                                                                List.take (min (↑data.length : Int) (300 : Int)).toNat
                                                                  data).length :
                                                          Int) -
                                                        (1 : Int))))
                                                false).b2
                                            ([(97 : UInt8), (98 : UInt8)] ++
                                              List.take (min (↑data.length : Int) (300 : Int)).toNat data)
                                            (nextR (2048 : Int) (1 : Int) [(120 : UInt8), (121 : UInt8), (122 : UInt8)]
                                                ([(97 : UInt8), (98 : UInt8)] ++
                                                  List.take (min (↑data.length : Int) (300 : Int)).toNat data)
                                                (0 : Int) (3 : Int) (1 : Int)
                                                [(120 : UInt8), (121 : UInt8), (122 : UInt8)]
                                                ((10 : Int) +
                                                  ((1 : Int) +
                                                    at_ %
                                                      ((↑([(97 : UInt8), (98 : UInt8)] ++
                                                                List.take (min (↑data.length : Int) (300 : Int)).toNat
                                                                  data).length :
                                                          Int) -
                                                        (1 : Int))))
                                                false).at2
                                            (3 : Int) (1 : Int) [(120 : UInt8), (121 : UInt8), (122 : UInt8)]
                                            (sp % (400 : Int)) false).en ==
                                        (nextR (2048 : Int) (1 : Int) [(120 : UInt8), (121 : UInt8), (122 : UInt8)]
                                            ([(97 : UInt8), (98 : UInt8)] ++
                                              List.take (min (↑data.length : Int) (300 : Int)).toNat data)
                                            (nextR (2048 : Int) (1 : Int) [(120 : UInt8), (121 : UInt8), (122 : UInt8)]
                                                ([(97 : UInt8), (98 : UInt8)] ++
                                                  List.take (min (↑data.length : Int) (300 : Int)).toNat data)
                                                (0 : Int) (3 : Int) (1 : Int)
                                                [(120 : UInt8), (121 : UInt8), (122 : UInt8)]
                                                ((10 : Int) +
                                                  ((1 : Int) +
                                                    at_ %
                                                      ((↑([(97 : UInt8), (98 : UInt8)] ++
                                                                List.take (min (↑data.length : Int) (300 : Int)).toNat
                                                                  data).length :
                                                          Int) -
                                                        (1 : Int))))
                                                false).at2
                                            (3 : Int) (1 : Int) [(120 : UInt8), (121 : UInt8), (122 : UInt8)]
                                            (sp % (400 : Int)) false).en &&
                                      (decide
                                          ((nextR (2048 : Int)
                                                (nextR (2048 : Int) (1 : Int)
                                                    [(120 : UInt8), (121 : UInt8), (122 : UInt8)]
                                                    ([(97 : UInt8), (98 : UInt8)] ++
                                                      List.take (min (↑data.length : Int) (300 : Int)).toNat data)
                                                    (0 : Int) (3 : Int) (1 : Int)
                                                    [(120 : UInt8), (121 : UInt8), (122 : UInt8)]
                                                    ((10 : Int) +
                                                      ((1 : Int) +
                                                        at_ %
                                                          ((↑([(97 : UInt8), (98 : UInt8)] ++
                                                                    List.take
                                                                      (min (↑data.length : Int) (300 : Int)).toNat
                                                                      data).length :
                                                              Int) -
                                                            (1 : Int))))
                                                    false).k2
                                                (nextR (2048 : Int) (1 : Int)
                                                    [(120 : UInt8), (121 : UInt8), (122 : UInt8)]
                                                    ([(97 : UInt8), (98 : UInt8)] ++
                                                      List.take (min (↑data.length : Int) (300 : Int)).toNat data)
                                                    (0 : Int) (3 : Int) (1 : Int)
                                                    [(120 : UInt8), (121 : UInt8), (122 : UInt8)]
                                                    ((10 : Int) +
                                                      ((1 : Int) +
                                                        at_ %
                                                          ((↑([(97 : UInt8), (98 : UInt8)] ++
                                                                    List.take
                                                                      (min (↑data.length : Int) (300 : Int)).toNat
                                                                      data).length :
                                                              Int) -
                                                            (1 : Int))))
                                                    false).b2
                                                ([(97 : UInt8), (98 : UInt8)] ++
                                                  List.take (min (↑data.length : Int) (300 : Int)).toNat data)
                                                (nextR (2048 : Int) (1 : Int)
                                                    [(120 : UInt8), (121 : UInt8), (122 : UInt8)]
                                                    ([(97 : UInt8), (98 : UInt8)] ++
                                                      List.take (min (↑data.length : Int) (300 : Int)).toNat data)
                                                    (0 : Int) (3 : Int) (1 : Int)
                                                    [(120 : UInt8), (121 : UInt8), (122 : UInt8)]
                                                    ((10 : Int) +
                                                      ((1 : Int) +
                                                        at_ %
                                                          ((↑([(97 : UInt8), (98 : UInt8)] ++
                                                                    List.take
                                                                      (min (↑data.length : Int) (300 : Int)).toNat
                                                                      data).length :
                                                              Int) -
                                                            (1 : Int))))
                                                    false).at2
                                                (3 : Int) (1 : Int) [(120 : UInt8), (121 : UInt8), (122 : UInt8)]
                                                (sp % (400 : Int)) false).id =
                                            (nextR (2048 : Int) (1 : Int) [(120 : UInt8), (121 : UInt8), (122 : UInt8)]
                                                ([(97 : UInt8), (98 : UInt8)] ++
                                                  List.take (min (↑data.length : Int) (300 : Int)).toNat data)
                                                (nextR (2048 : Int) (1 : Int)
                                                    [(120 : UInt8), (121 : UInt8), (122 : UInt8)]
                                                    ([(97 : UInt8), (98 : UInt8)] ++
                                                      List.take (min (↑data.length : Int) (300 : Int)).toNat data)
                                                    (0 : Int) (3 : Int) (1 : Int)
                                                    [(120 : UInt8), (121 : UInt8), (122 : UInt8)]
                                                    ((10 : Int) +
                                                      ((1 : Int) +
                                                        at_ %
                                                          ((↑([(97 : UInt8), (98 : UInt8)] ++
                                                                    List.take
                                                                      (min (↑data.length : Int) (300 : Int)).toNat
                                                                      data).length :
                                                              Int) -
                                                            (1 : Int))))
                                                    false).at2
                                                (3 : Int) (1 : Int) [(120 : UInt8), (121 : UInt8), (122 : UInt8)]
                                                (sp % (400 : Int)) false).id) &&
                                        (decide
                                            ((nextR (2048 : Int)
                                                  (nextR (2048 : Int) (1 : Int)
                                                      [(120 : UInt8), (121 : UInt8), (122 : UInt8)]
                                                      ([(97 : UInt8), (98 : UInt8)] ++
                                                        List.take (min (↑data.length : Int) (300 : Int)).toNat data)
                                                      (0 : Int) (3 : Int) (1 : Int)
                                                      [(120 : UInt8), (121 : UInt8), (122 : UInt8)]
                                                      ((10 : Int) +
                                                        ((1 : Int) +
                                                          at_ %
                                                            ((↑([(97 : UInt8), (98 : UInt8)] ++
                                                                      List.take
                                                                        (min (↑data.length : Int) (300 : Int)).toNat
                                                                        data).length :
                                                                Int) -
                                                              (1 : Int))))
                                                      false).k2
                                                  (nextR (2048 : Int) (1 : Int)
                                                      [(120 : UInt8), (121 : UInt8), (122 : UInt8)]
                                                      ([(97 : UInt8), (98 : UInt8)] ++
                                                        List.take (min (↑data.length : Int) (300 : Int)).toNat data)
                                                      (0 : Int) (3 : Int) (1 : Int)
                                                      [(120 : UInt8), (121 : UInt8), (122 : UInt8)]
                                                      ((10 : Int) +
                                                        ((1 : Int) +
                                                          at_ %
                                                            ((↑([(97 : UInt8), (98 : UInt8)] ++
                                                                      List.take
                                                                        (min (↑data.length : Int) (300 : Int)).toNat
                                                                        data).length :
                                                                Int) -
                                                              (1 : Int))))
                                                      false).b2
                                                  ([(97 : UInt8), (98 : UInt8)] ++
                                                    List.take (min (↑data.length : Int) (300 : Int)).toNat data)
                                                  (nextR (2048 : Int) (1 : Int)
                                                      [(120 : UInt8), (121 : UInt8), (122 : UInt8)]
                                                      ([(97 : UInt8), (98 : UInt8)] ++
                                                        List.take (min (↑data.length : Int) (300 : Int)).toNat data)
                                                      (0 : Int) (3 : Int) (1 : Int)
                                                      [(120 : UInt8), (121 : UInt8), (122 : UInt8)]
                                                      ((10 : Int) +
                                                        ((1 : Int) +
                                                          at_ %
                                                            ((↑([(97 : UInt8), (98 : UInt8)] ++
                                                                      List.take
                                                                        (min (↑data.length : Int) (300 : Int)).toNat
                                                                        data).length :
                                                                Int) -
                                                              (1 : Int))))
                                                      false).at2
                                                  (3 : Int) (1 : Int) [(120 : UInt8), (121 : UInt8), (122 : UInt8)]
                                                  (sp % (400 : Int)) false).total =
                                              (nextR (2048 : Int) (1 : Int)
                                                  [(120 : UInt8), (121 : UInt8), (122 : UInt8)]
                                                  ([(97 : UInt8), (98 : UInt8)] ++
                                                    List.take (min (↑data.length : Int) (300 : Int)).toNat data)
                                                  (nextR (2048 : Int) (1 : Int)
                                                      [(120 : UInt8), (121 : UInt8), (122 : UInt8)]
                                                      ([(97 : UInt8), (98 : UInt8)] ++
                                                        List.take (min (↑data.length : Int) (300 : Int)).toNat data)
                                                      (0 : Int) (3 : Int) (1 : Int)
                                                      [(120 : UInt8), (121 : UInt8), (122 : UInt8)]
                                                      ((10 : Int) +
                                                        ((1 : Int) +
                                                          at_ %
                                                            ((↑([(97 : UInt8), (98 : UInt8)] ++
                                                                      List.take
                                                                        (min (↑data.length : Int) (300 : Int)).toNat
                                                                        data).length :
                                                                Int) -
                                                              (1 : Int))))
                                                      false).at2
                                                  (3 : Int) (1 : Int) [(120 : UInt8), (121 : UInt8), (122 : UInt8)]
                                                  (sp % (400 : Int)) false).total) &&
                                          (decide
                                              ((nextR (2048 : Int)
                                                    (nextR (2048 : Int) (1 : Int)
                                                        [(120 : UInt8), (121 : UInt8), (122 : UInt8)]
                                                        ([(97 : UInt8), (98 : UInt8)] ++
                                                          List.take (min (↑data.length : Int) (300 : Int)).toNat data)
                                                        (0 : Int) (3 : Int) (1 : Int)
                                                        [(120 : UInt8), (121 : UInt8), (122 : UInt8)]
                                                        ((10 : Int) +
                                                          ((1 : Int) +
                                                            at_ %
                                                              ((↑([(97 : UInt8), (98 : UInt8)] ++
                                                                        List.take
                                                                          (min (↑data.length : Int) (300 : Int)).toNat
                                                                          data).length :
                                                                  Int) -
                                                                (1 : Int))))
                                                        false).k2
                                                    (nextR (2048 : Int) (1 : Int)
                                                        [(120 : UInt8), (121 : UInt8), (122 : UInt8)]
                                                        ([(97 : UInt8), (98 : UInt8)] ++
                                                          List.take (min (↑data.length : Int) (300 : Int)).toNat data)
                                                        (0 : Int) (3 : Int) (1 : Int)
                                                        [(120 : UInt8), (121 : UInt8), (122 : UInt8)]
                                                        ((10 : Int) +
                                                          ((1 : Int) +
                                                            at_ %
                                                              ((↑([(97 : UInt8), (98 : UInt8)] ++
                                                                        List.take
                                                                          (min (↑data.length : Int) (300 : Int)).toNat
                                                                          data).length :
                                                                  Int) -
                                                                (1 : Int))))
                                                        false).b2
                                                    ([(97 : UInt8), (98 : UInt8)] ++
                                                      List.take (min (↑data.length : Int) (300 : Int)).toNat data)
                                                    (nextR (2048 : Int) (1 : Int)
                                                        [(120 : UInt8), (121 : UInt8), (122 : UInt8)]
                                                        ([(97 : UInt8), (98 : UInt8)] ++
                                                          List.take (min (↑data.length : Int) (300 : Int)).toNat data)
                                                        (0 : Int) (3 : Int) (1 : Int)
                                                        [(120 : UInt8), (121 : UInt8), (122 : UInt8)]
                                                        ((10 : Int) +
                                                          ((1 : Int) +
                                                            at_ %
                                                              ((↑([(97 : UInt8), (98 : UInt8)] ++
                                                                        List.take
                                                                          (min (↑data.length : Int) (300 : Int)).toNat
                                                                          data).length :
                                                                  Int) -
                                                                (1 : Int))))
                                                        false).at2
                                                    (3 : Int) (1 : Int) [(120 : UInt8), (121 : UInt8), (122 : UInt8)]
                                                    (sp % (400 : Int)) false).typ =
                                                (nextR (2048 : Int) (1 : Int)
                                                    [(120 : UInt8), (121 : UInt8), (122 : UInt8)]
                                                    ([(97 : UInt8), (98 : UInt8)] ++
                                                      List.take (min (↑data.length : Int) (300 : Int)).toNat data)
                                                    (nextR (2048 : Int) (1 : Int)
                                                        [(120 : UInt8), (121 : UInt8), (122 : UInt8)]
                                                        ([(97 : UInt8), (98 : UInt8)] ++
                                                          List.take (min (↑data.length : Int) (300 : Int)).toNat data)
                                                        (0 : Int) (3 : Int) (1 : Int)
                                                        [(120 : UInt8), (121 : UInt8), (122 : UInt8)]
                                                        ((10 : Int) +
                                                          ((1 : Int) +
                                                            at_ %
                                                              ((↑([(97 : UInt8), (98 : UInt8)] ++
                                                                        List.take
                                                                          (min (↑data.length : Int) (300 : Int)).toNat
                                                                          data).length :
                                                                  Int) -
                                                                (1 : Int))))
                                                        false).at2
                                                    (3 : Int) (1 : Int) [(120 : UInt8), (121 : UInt8), (122 : UInt8)]
                                                    (sp % (400 : Int)) false).typ) &&
                                            (decide
                                                  ((nextR (2048 : Int)
                                                        (nextR (2048 : Int) (1 : Int)
                                                            [(120 : UInt8), (121 : UInt8), (122 : UInt8)]
                                                            ([(97 : UInt8), (98 : UInt8)] ++
                                                              List.take (min (↑data.length : Int) (300 : Int)).toNat
                                                                data)
                                                            (0 : Int) (3 : Int) (1 : Int)
                                                            [(120 : UInt8), (121 : UInt8), (122 : UInt8)]
                                                            ((10 : Int) +
                                                              ((1 : Int) +
                                                                at_ %
                                                                  ((↑([(97 : UInt8), (98 : UInt8)] ++
                                                                            List.take
                                                                              (min (↑data.length : Int)
                                                                                  (300 : Int)).toNat
                                                                              data).length :
                                                                      Int) -
                                                                    (1 : Int))))
                                                            false).k2
                                                        (nextR (2048 : Int) (1 : Int)
                                                            [(120 : UInt8), (121 : UInt8), (122 : UInt8)]
                                                            ([(97 : UInt8), (98 : UInt8)] ++
                                                              List.take (min (↑data.length : Int) (300 : Int)).toNat
                                                                data)
                                                            (0 : Int) (3 : Int) (1 : Int)
                                                            [(120 : UInt8), (121 : UInt8), (122 : UInt8)]
                                                            ((10 : Int) +
                                                              ((1 : Int) +
                                                                at_ %
                                                                  ((↑([(97 : UInt8), (98 : UInt8)] ++
                                                                            List.take
                                                                              (min (↑data.length : Int)
                                                                                  (300 : Int)).toNat
                                                                              data).length :
                                                                      Int) -
                                                                    (1 : Int))))
                                                            false).b2
                                                        ([(97 : UInt8), (98 : UInt8)] ++
                                                          List.take (min (↑data.length : Int) (300 : Int)).toNat data)
                                                        (nextR (2048 : Int) (1 : Int)
                                                            [(120 : UInt8), (121 : UInt8), (122 : UInt8)]
                                                            ([(97 : UInt8), (98 : UInt8)] ++
                                                              List.take (min (↑data.length : Int) (300 : Int)).toNat
                                                                data)
                                                            (0 : Int) (3 : Int) (1 : Int)
                                                            [(120 : UInt8), (121 : UInt8), (122 : UInt8)]
                                                            ((10 : Int) +
                                                              ((1 : Int) +
                                                                at_ %
                                                                  ((↑([(97 : UInt8), (98 : UInt8)] ++
                                                                            List.take
                                                                              (min (↑data.length : Int)
                                                                                  (300 : Int)).toNat
                                                                              data).length :
                                                                      Int) -
                                                                    (1 : Int))))
                                                            false).at2
                                                        (3 : Int) (1 : Int)
                                                        [(120 : UInt8), (121 : UInt8), (122 : UInt8)] (sp % (400 : Int))
                                                        false).k =
                                                    (nextR (2048 : Int) (1 : Int)
                                                        [(120 : UInt8), (121 : UInt8), (122 : UInt8)]
                                                        ([(97 : UInt8), (98 : UInt8)] ++
                                                          List.take (min (↑data.length : Int) (300 : Int)).toNat data)
                                                        (nextR (2048 : Int) (1 : Int)
                                                            [(120 : UInt8), (121 : UInt8), (122 : UInt8)]
                                                            ([(97 : UInt8), (98 : UInt8)] ++
                                                              List.take (min (↑data.length : Int) (300 : Int)).toNat
                                                                data)
                                                            (0 : Int) (3 : Int) (1 : Int)
                                                            [(120 : UInt8), (121 : UInt8), (122 : UInt8)]
                                                            ((10 : Int) +
                                                              ((1 : Int) +
                                                                at_ %
                                                                  ((↑([(97 : UInt8), (98 : UInt8)] ++
                                                                            List.take
                                                                              (min (↑data.length : Int)
                                                                                  (300 : Int)).toNat
                                                                              data).length :
                                                                      Int) -
                                                                    (1 : Int))))
                                                            false).at2
                                                        (3 : Int) (1 : Int)
                                                        [(120 : UInt8), (121 : UInt8), (122 : UInt8)] (sp % (400 : Int))
                                                        false).k) &&
                                                (decide
                                                    ((nextR (2048 : Int)
                                                          (nextR (2048 : Int) (1 : Int)
                                                              [(120 : UInt8), (121 : UInt8), (122 : UInt8)]
                                                              ([(97 : UInt8), (98 : UInt8)] ++
                                                                List.take (min (↑data.length : Int) (300 : Int)).toNat
                                                                  data)
                                                              (0 : Int) (3 : Int) (1 : Int)
                                                              [(120 : UInt8), (121 : UInt8), (122 : UInt8)]
                                                              ((10 : Int) +
                                                                ((1 : Int) +
                                                                  at_ %
                                                                    ((↑([(97 : UInt8), (98 : UInt8)] ++
                                                                              List.take
                                                                                (min (↑data.length : Int)
                                                                                    (300 : Int)).toNat
                                                                                data).length :
                                                                        Int) -
                                                                      (1 : Int))))
                                                              false).k2
                                                          (nextR (2048 : Int) (1 : Int)
                                                              [(120 : UInt8), (121 : UInt8), (122 : UInt8)]
                                                              ([(97 : UInt8), (98 : UInt8)] ++
                                                                List.take (min (↑data.length : Int) (300 : Int)).toNat
                                                                  data)
                                                              (0 : Int) (3 : Int) (1 : Int)
                                                              [(120 : UInt8), (121 : UInt8), (122 : UInt8)]
                                                              ((10 : Int) +
                                                                ((1 : Int) +
                                                                  at_ %
                                                                    ((↑([(97 : UInt8), (98 : UInt8)] ++
                                                                              List.take
                                                                                (min (↑data.length : Int)
                                                                                    (300 : Int)).toNat
                                                                                data).length :
                                                                        Int) -
                                                                      (1 : Int))))
                                                              false).b2
                                                          ([(97 : UInt8), (98 : UInt8)] ++
                                                            List.take (min (↑data.length : Int) (300 : Int)).toNat data)
                                                          (nextR (2048 : Int) (1 : Int)
                                                              [(120 : UInt8), (121 : UInt8), (122 : UInt8)]
                                                              ([(97 : UInt8), (98 : UInt8)] ++
                                                                List.take (min (↑data.length : Int) (300 : Int)).toNat
                                                                  data)
                                                              (0 : Int) (3 : Int) (1 : Int)
                                                              [(120 : UInt8), (121 : UInt8), (122 : UInt8)]
                                                              ((10 : Int) +
                                                                ((1 : Int) +
                                                                  at_ %
                                                                    ((↑([(97 : UInt8), (98 : UInt8)] ++
                                                                              List.take
                                                                                (min (↑data.length : Int)
                                                                                    (300 : Int)).toNat
                                                                                data).length :
                                                                        Int) -
                                                                      (1 : Int))))
                                                              false).at2
                                                          (3 : Int) (1 : Int)
                                                          [(120 : UInt8), (121 : UInt8), (122 : UInt8)]
                                                          (sp % (400 : Int)) false).lb =
                                                      (nextR (2048 : Int) (1 : Int)
                                                          [(120 : UInt8), (121 : UInt8), (122 : UInt8)]
                                                          ([(97 : UInt8), (98 : UInt8)] ++
                                                            List.take (min (↑data.length : Int) (300 : Int)).toNat data)
                                                          (nextR (2048 : Int) (1 : Int)
                                                              [(120 : UInt8), (121 : UInt8), (122 : UInt8)]
                                                              ([(97 : UInt8), (98 : UInt8)] ++
                                                                List.take (min (↑data.length : Int) (300 : Int)).toNat
                                                                  data)
                                                              (0 : Int) (3 : Int) (1 : Int)
                                                              [(120 : UInt8), (121 : UInt8), (122 : UInt8)]
                                                              ((10 : Int) +
                                                                ((1 : Int) +
                                                                  at_ %
                                                                    ((↑([(97 : UInt8), (98 : UInt8)] ++
                                                                              List.take
                                                                                (min (↑data.length : Int)
                                                                                    (300 : Int)).toNat
                                                                                data).length :
                                                                        Int) -
                                                                      (1 : Int))))
                                                              false).at2
                                                          (3 : Int) (1 : Int)
                                                          [(120 : UInt8), (121 : UInt8), (122 : UInt8)]
                                                          (sp % (400 : Int)) false).lb) &&
                                                  true) &&
                                              (decide
                                                  ((nextR (2048 : Int)
                                                        (nextR (2048 : Int) (1 : Int)
                                                            [(120 : UInt8), (121 : UInt8), (122 : UInt8)]
                                                            ([(97 : UInt8), (98 : UInt8)] ++
                                                              List.take (min (↑data.length : Int) (300 : Int)).toNat
                                                                data)
                                                            (0 : Int) (3 : Int) (1 : Int)
                                                            [(120 : UInt8), (121 : UInt8), (122 : UInt8)]
                                                            ((10 : Int) +
                                                              ((1 : Int) +
                                                                at_ %
                                                                  ((↑([(97 : UInt8), (98 : UInt8)] ++
                                                                            List.take
                                                                              (min (↑data.length : Int)
                                                                                  (300 : Int)).toNat
                                                                              data).length :
                                                                      Int) -
                                                                    (1 : Int))))
                                                            false).k2
                                                        (nextR (2048 : Int) (1 : Int)
                                                            [(120 : UInt8), (121 : UInt8), (122 : UInt8)]
                                                            ([(97 : UInt8), (98 : UInt8)] ++
                                                              List.take (min (↑data.length : Int) (300 : Int)).toNat
                                                                data)
                                                            (0 : Int) (3 : Int) (1 : Int)
                                                            [(120 : UInt8), (121 : UInt8), (122 : UInt8)]
                                                            ((10 : Int) +
                                                              ((1 : Int) +
                                                                at_ %
                                                                  ((↑([(97 : UInt8), (98 : UInt8)] ++
                                                                            List.take
                                                                              (min (↑data.length : Int)
                                                                                  (300 : Int)).toNat
                                                                              data).length :
                                                                      Int) -
                                                                    (1 : Int))))
                                                            false).b2
                                                        ([(97 : UInt8), (98 : UInt8)] ++
                                                          List.take (min (↑data.length : Int) (300 : Int)).toNat data)
                                                        (nextR (2048 : Int) (1 : Int)
                                                            [(120 : UInt8), (121 : UInt8), (122 : UInt8)]
                                                            ([(97 : UInt8), (98 : UInt8)] ++
                                                              List.take (min (↑data.length : Int) (300 : Int)).toNat
                                                                data)
                                                            (0 : Int) (3 : Int) (1 : Int)
                                                            [(120 : UInt8), (121 : UInt8), (122 : UInt8)]
                                                            ((10 : Int) +
                                                              ((1 : Int) +
                                                                at_ %
                                                                  ((↑([(97 : UInt8), (98 : UInt8)] ++
                                                                            List.take
                                                                              (min (↑data.length : Int)
                                                                                  (300 : Int)).toNat
                                                                              data).length :
                                                                      Int) -
                                                                    (1 : Int))))
                                                            false).at2
                                                        (3 : Int) (1 : Int)
                                                        [(120 : UInt8), (121 : UInt8), (122 : UInt8)] (sp % (400 : Int))
                                                        false).data =
                                                    (nextR (2048 : Int) (1 : Int)
                                                        [(120 : UInt8), (121 : UInt8), (122 : UInt8)]
                                                        ([(97 : UInt8), (98 : UInt8)] ++
                                                          List.take (min (↑data.length : Int) (300 : Int)).toNat data)
                                                        (nextR (2048 : Int) (1 : Int)
                                                            [(120 : UInt8), (121 : UInt8), (122 : UInt8)]
                                                            ([(97 : UInt8), (98 : UInt8)] ++
                                                              List.take (min (↑data.length : Int) (300 : Int)).toNat
                                                                data)
                                                            (0 : Int) (3 : Int) (1 : Int)
                                                            [(120 : UInt8), (121 : UInt8), (122 : UInt8)]
                                                            ((10 : Int) +
                                                              ((1 : Int) +
                                                                at_ %
                                                                  ((↑([(97 : UInt8), (98 : UInt8)] ++
                                                                            List.take
                                                                              (min (↑data.length : Int)
                                                                                  (300 : Int)).toNat
                                                                              data).length :
                                                                      Int) -
                                                                    (1 : Int))))
                                                            false).at2
                                                        (3 : Int) (1 : Int)
                                                        [(120 : UInt8), (121 : UInt8), (122 : UInt8)] (sp % (400 : Int))
                                                        false).data) &&
                                                (decide
                                                    ((nextR (2048 : Int)
                                                          (nextR (2048 : Int) (1 : Int)
                                                              [(120 : UInt8), (121 : UInt8), (122 : UInt8)]
                                                              ([(97 : UInt8), (98 : UInt8)] ++
                                                                List.take (min (↑data.length : Int) (300 : Int)).toNat
                                                                  data)
                                                              (0 : Int) (3 : Int) (1 : Int)
                                                              [(120 : UInt8), (121 : UInt8), (122 : UInt8)]
                                                              ((10 : Int) +
                                                                ((1 : Int) +
                                                                  at_ %
                                                                    ((↑([(97 : UInt8), (98 : UInt8)] ++
                                                                              List.take
                                                                                (min (↑data.length : Int)
                                                                                    (300 : Int)).toNat
                                                                                data).length :
                                                                        Int) -
                                                                      (1 : Int))))
                                                              false).k2
                                                          (nextR (2048 : Int) (1 : Int)
                                                              [(120 : UInt8), (121 : UInt8), (122 : UInt8)]
                                                              ([(97 : UInt8), (98 : UInt8)] ++
                                                                List.take (min (↑data.length : Int) (300 : Int)).toNat
                                                                  data)
                                                              (0 : Int) (3 : Int) (1 : Int)
                                                              [(120 : UInt8), (121 : UInt8), (122 : UInt8)]
                                                              ((10 : Int) +
                                                                ((1 : Int) +
                                                                  at_ %
                                                                    ((↑([(97 : UInt8), (98 : UInt8)] ++
                                                                              List.take
                                                                                (min (↑data.length : Int)
                                                                                    (300 : Int)).toNat
                                                                                data).length :
                                                                        Int) -
                                                                      (1 : Int))))
                                                              false).b2
                                                          ([(97 : UInt8), (98 : UInt8)] ++
                                                            List.take (min (↑data.length : Int) (300 : Int)).toNat data)
                                                          (nextR (2048 : Int) (1 : Int)
                                                              [(120 : UInt8), (121 : UInt8), (122 : UInt8)]
                                                              ([(97 : UInt8), (98 : UInt8)] ++
                                                                List.take (min (↑data.length : Int) (300 : Int)).toNat
                                                                  data)
                                                              (0 : Int) (3 : Int) (1 : Int)
                                                              [(120 : UInt8), (121 : UInt8), (122 : UInt8)]
                                                              ((10 : Int) +
                                                                ((1 : Int) +
                                                                  at_ %
                                                                    ((↑([(97 : UInt8), (98 : UInt8)] ++
                                                                              List.take
                                                                                (min (↑data.length : Int)
                                                                                    (300 : Int)).toNat
                                                                                data).length :
                                                                        Int) -
                                                                      (1 : Int))))
                                                              false).at2
                                                          (3 : Int) (1 : Int)
                                                          [(120 : UInt8), (121 : UInt8), (122 : UInt8)]
                                                          (sp % (400 : Int)) false).sum =
                                                      (nextR (2048 : Int) (1 : Int)
                                                          [(120 : UInt8), (121 : UInt8), (122 : UInt8)]
                                                          ([(97 : UInt8), (98 : UInt8)] ++
                                                            List.take (min (↑data.length : Int) (300 : Int)).toNat data)
                                                          (nextR (2048 : Int) (1 : Int)
                                                              [(120 : UInt8), (121 : UInt8), (122 : UInt8)]
                                                              ([(97 : UInt8), (98 : UInt8)] ++
                                                                List.take (min (↑data.length : Int) (300 : Int)).toNat
                                                                  data)
                                                              (0 : Int) (3 : Int) (1 : Int)
                                                              [(120 : UInt8), (121 : UInt8), (122 : UInt8)]
                                                              ((10 : Int) +
                                                                ((1 : Int) +
                                                                  at_ %
                                                                    ((↑([(97 : UInt8), (98 : UInt8)] ++
                                                                              List.take
                                                                                (min (↑data.length : Int)
                                                                                    (300 : Int)).toNat
                                                                                data).length :
                                                                        Int) -
                                                                      (1 : Int))))
                                                              false).at2
                                                          (3 : Int) (1 : Int)
                                                          [(120 : UInt8), (121 : UInt8), (122 : UInt8)]
                                                          (sp % (400 : Int)) false).sum) &&
                                                  true))))))))
                                  (branch
                                    (decide ((2048 : Int) = (2048 : Int)) &&
                                      (decide
                                            ((nextR (2048 : Int)
                                                  (nextR (2048 : Int) (1 : Int)
                                                      [(120 : UInt8), (121 : UInt8), (122 : UInt8)]
                                                      ([(97 : UInt8), (98 : UInt8)] ++
                                                        List.take (min (↑data.length : Int) (300 : Int)).toNat data)
                                                      (0 : Int) (3 : Int) (1 : Int)
                                                      [(120 : UInt8), (121 : UInt8), (122 : UInt8)]
                                                      ((10 : Int) +
                                                        ((1 : Int) +
                                                          at_ %
                                                            ((↑([(97 : UInt8), (98 : UInt8)] ++
                                                                      List.take
                                                                        (min (↑data.length : Int) (300 : Int)).toNat
                                                                        data).length :
                                                                Int) -
                                                              (1 : Int))))
                                                      false).k2
                                                  (nextR (2048 : Int) (1 : Int)
                                                      [(120 : UInt8), (121 : UInt8), (122 : UInt8)]
                                                      ([(97 : UInt8), (98 : UInt8)] ++
                                                        List.take (min (↑data.length : Int) (300 : Int)).toNat data)
                                                      (0 : Int) (3 : Int) (1 : Int)
                                                      [(120 : UInt8), (121 : UInt8), (122 : UInt8)]
                                                      ((10 : Int) +
                                                        ((1 : Int) +
                                                          at_ %
                                                            ((↑([(97 : UInt8), (98 : UInt8)] ++
                                                                      List.take
                                                                        (min (↑data.length : Int) (300 : Int)).toNat
                                                                        data).length :
                                                                Int) -
                                                              (1 : Int))))
                                                      false).b2
                                                  ([(97 : UInt8), (98 : UInt8)] ++
                                                    List.take (min (↑data.length : Int) (300 : Int)).toNat data)
                                                  (nextR (2048 : Int) (1 : Int)
                                                      [(120 : UInt8), (121 : UInt8), (122 : UInt8)]
                                                      ([(97 : UInt8), (98 : UInt8)] ++
                                                        List.take (min (↑data.length : Int) (300 : Int)).toNat data)
                                                      (0 : Int) (3 : Int) (1 : Int)
                                                      [(120 : UInt8), (121 : UInt8), (122 : UInt8)]
                                                      ((10 : Int) +
                                                        ((1 : Int) +
                                                          at_ %
                                                            ((↑([(97 : UInt8), (98 : UInt8)] ++
                                                                      List.take
                                                                        (min (↑data.length : Int) (300 : Int)).toNat
                                                                        data).length :
                                                                Int) -
                                                              (1 : Int))))
                                                      false).at2
                                                  (3 : Int) (1 : Int) [(120 : UInt8), (121 : UInt8), (122 : UInt8)]
                                                  (sp % (400 : Int)) false).k2 =
                                              (nextR (2048 : Int) (1 : Int)
                                                  [(120 : UInt8), (121 : UInt8), (122 : UInt8)]
                                                  ([(97 : UInt8), (98 : UInt8)] ++
                                                    List.take (min (↑data.length : Int) (300 : Int)).toNat data)
                                                  (nextR (2048 : Int) (1 : Int)
                                                      [(120 : UInt8), (121 : UInt8), (122 : UInt8)]
                                                      ([(97 : UInt8), (98 : UInt8)] ++
                                                        List.take (min (↑data.length : Int) (300 : Int)).toNat data)
                                                      (0 : Int) (3 : Int) (1 : Int)
                                                      [(120 : UInt8), (121 : UInt8), (122 : UInt8)]
                                                      ((10 : Int) +
                                                        ((1 : Int) +
                                                          at_ %
                                                            ((↑([(97 : UInt8), (98 : UInt8)] ++
                                                                      List.take
                                                                        (min (↑data.length : Int) (300 : Int)).toNat
                                                                        data).length :
                                                                Int) -
                                                              (1 : Int))))
                                                      false).at2
                                                  (3 : Int) (1 : Int) [(120 : UInt8), (121 : UInt8), (122 : UInt8)]
                                                  (sp % (400 : Int)) false).k2) &&
                                          (decide
                                              ((nextR (2048 : Int)
                                                    (nextR (2048 : Int) (1 : Int)
                                                        [(120 : UInt8), (121 : UInt8), (122 : UInt8)]
                                                        ([(97 : UInt8), (98 : UInt8)] ++
                                                          List.take (min (↑data.length : Int) (300 : Int)).toNat data)
                                                        (0 : Int) (3 : Int) (1 : Int)
                                                        [(120 : UInt8), (121 : UInt8), (122 : UInt8)]
                                                        ((10 : Int) +
                                                          ((1 : Int) +
                                                            at_ %
                                                              ((↑([(97 : UInt8), (98 : UInt8)] ++
                                                                        List.take
                                                                          (min (↑data.length : Int) (300 : Int)).toNat
                                                                          data).length :
                                                                  Int) -
                                                                (1 : Int))))
                                                        false).k2
                                                    (nextR (2048 : Int) (1 : Int)
                                                        [(120 : UInt8), (121 : UInt8), (122 : UInt8)]
                                                        ([(97 : UInt8), (98 : UInt8)] ++
                                                          List.take (min (↑data.length : Int) (300 : Int)).toNat data)
                                                        (0 : Int) (3 : Int) (1 : Int)
                                                        [(120 : UInt8), (121 : UInt8), (122 : UInt8)]
                                                        ((10 : Int) +
                                                          ((1 : Int) +
                                                            at_ %
                                                              ((↑([(97 : UInt8), (98 : UInt8)] ++
                                                                        List.take
                                                                          (min (↑data.length : Int) (300 : Int)).toNat
                                                                          data).length :
                                                                  Int) -
                                                                (1 : Int))))
                                                        false).b2
                                                    ([(97 : UInt8), (98 : UInt8)] ++
                                                      List.take (min (↑data.length : Int) (300 : Int)).toNat data)
                                                    (nextR (2048 : Int) (1 : Int)
                                                        [(120 : UInt8), (121 : UInt8), (122 : UInt8)]
                                                        ([(97 : UInt8), (98 : UInt8)] ++
                                                          List.take (min (↑data.length : Int) (300 : Int)).toNat data)
                                                        (0 : Int) (3 : Int) (1 : Int)
                                                        [(120 : UInt8), (121 : UInt8), (122 : UInt8)]
                                                        ((10 : Int) +
                                                          ((1 : Int) +
                                                            at_ %
                                                              ((↑([(97 : UInt8), (98 : UInt8)] ++
                                                                        List.take
                                                                          (min (↑data.length : Int) (300 : Int)).toNat
                                                                          data).length :
                                                                  Int) -
                                                                (1 : Int))))
                                                        false).at2
                                                    (3 : Int) (1 : Int) [(120 : UInt8), (121 : UInt8), (122 : UInt8)]
                                                    (sp % (400 : Int)) false).b2 =
                                                (nextR (2048 : Int) (1 : Int)
                                                    [(120 : UInt8), (121 : UInt8), (122 : UInt8)]
                                                    ([(97 : UInt8), (98 : UInt8)] ++
                                                      List.take (min (↑data.length : Int) (300 : Int)).toNat data)
                                                    (nextR (2048 : Int) (1 : Int)
                                                        [(120 : UInt8), (121 : UInt8), (122 : UInt8)]
                                                        ([(97 : UInt8), (98 : UInt8)] ++
                                                          List.take (min (↑data.length : Int) (300 : Int)).toNat data)
                                                        (0 : Int) (3 : Int) (1 : Int)
                                                        [(120 : UInt8), (121 : UInt8), (122 : UInt8)]
                                                        ((10 : Int) +
                                                          ((1 : Int) +
                                                            at_ %
                                                              ((↑([(97 : UInt8), (98 : UInt8)] ++
                                                                        List.take
                                                                          (min (↑data.length : Int) (300 : Int)).toNat
                                                                          data).length :
                                                                  Int) -
                                                                (1 : Int))))
                                                        false).at2
                                                    (3 : Int) (1 : Int) [(120 : UInt8), (121 : UInt8), (122 : UInt8)]
                                                    (sp % (400 : Int)) false).b2) &&
                                            true) &&
                                        (decide
                                            ([(97 : UInt8), (98 : UInt8)] ++
                                                List.take (min (↑data.length : Int) (300 : Int)).toNat data =
                                              [(97 : UInt8), (98 : UInt8)] ++
                                                List.take (min (↑data.length : Int) (300 : Int)).toNat data) &&
                                          (decide
                                              ((nextR (2048 : Int)
                                                    (nextR (2048 : Int) (1 : Int)
                                                        [(120 : UInt8), (121 : UInt8), (122 : UInt8)]
                                                        ([(97 : UInt8), (98 : UInt8)] ++
                                                          List.take (min (↑data.length : Int) (300 : Int)).toNat data)
                                                        (0 : Int) (3 : Int) (1 : Int)
                                                        [(120 : UInt8), (121 : UInt8), (122 : UInt8)]
                                                        ((10 : Int) +
                                                          ((1 : Int) +
                                                            at_ %
                                                              ((↑([(97 : UInt8), (98 : UInt8)] ++
                                                                        List.take
                                                                          (min (↑data.length : Int) (300 : Int)).toNat
                                                                          data).length :
                                                                  Int) -
                                                                (1 : Int))))
                                                        false).k2
                                                    (nextR (2048 : Int) (1 : Int)
                                                        [(120 : UInt8), (121 : UInt8), (122 : UInt8)]
                                                        ([(97 : UInt8), (98 : UInt8)] ++
                                                          List.take (min (↑data.length : Int) (300 : Int)).toNat data)
                                                        (0 : Int) (3 : Int) (1 : Int)
                                                        [(120 : UInt8), (121 : UInt8), (122 : UInt8)]
                                                        ((10 : Int) +
                                                          ((1 : Int) +
                                                            at_ %
                                                              ((↑([(97 : UInt8), (98 : UInt8)] ++
                                                                        List.take
                                                                          (min (↑data.length : Int) (300 : Int)).toNat
                                                                          data).length :
                                                                  Int) -
                                                                (1 : Int))))
                                                        false).b2
                                                    ([(97 : UInt8), (98 : UInt8)] ++
                                                      List.take (min (↑data.length : Int) (300 : Int)).toNat data)
                                                    (nextR (2048 : Int) (1 : Int)
                                                        [(120 : UInt8), (121 : UInt8), (122 : UInt8)]
                                                        ([(97 : UInt8), (98 : UInt8)] ++
                                                          List.take (min (↑data.length : Int) (300 : Int)).toNat data)
                                                        (0 : Int) (3 : Int) (1 : Int)
                                                        [(120 : UInt8), (121 : UInt8), (122 : UInt8)]
                                                        ((10 : Int) +
                                                          ((1 : Int) +
                                                            at_ %
                                                              ((↑([(97 : UInt8), (98 : UInt8)] ++
                                                                        List.take
                                                                          (min (↑data.length : Int) (300 : Int)).toNat
                                                                          data).length :
                                                                  Int) -
                                                                (1 : Int))))
                                                        false).at2
                                                    (3 : Int) (1 : Int) [(120 : UInt8), (121 : UInt8), (122 : UInt8)]
                                                    (sp % (400 : Int)) false).at2 =
                                                (nextR (2048 : Int) (1 : Int)
                                                    [(120 : UInt8), (121 : UInt8), (122 : UInt8)]
                                                    ([(97 : UInt8), (98 : UInt8)] ++
                                                      List.take (min (↑data.length : Int) (300 : Int)).toNat data)
                                                    (nextR (2048 : Int) (1 : Int)
                                                        [(120 : UInt8), (121 : UInt8), (122 : UInt8)]
                                                        ([(97 : UInt8), (98 : UInt8)] ++
                                                          List.take (min (↑data.length : Int) (300 : Int)).toNat data)
                                                        (0 : Int) (3 : Int) (1 : Int)
                                                        [(120 : UInt8), (121 : UInt8), (122 : UInt8)]
                                                        ((10 : Int) +
                                                          ((1 : Int) +
                                                            at_ %
                                                              ((↑([(97 : UInt8), (98 : UInt8)] ++
                                                                        List.take
                                                                          (min (↑data.length : Int) (300 : Int)).toNat
                                                                          data).length :
                                                                  Int) -
                                                                (1 : Int))))
                                                        false).at2
                                                    (3 : Int) (1 : Int) [(120 : UInt8), (121 : UInt8), (122 : UInt8)]
                                                    (sp % (400 : Int)) false).at2) &&
                                            (decide ((3 : Int) = (3 : Int)) && true)))))
                                    (branch
                                      (decide
                                        ((nextR (2048 : Int)
                                              (nextR (2048 : Int) (1 : Int)
                                                  [(120 : UInt8), (121 : UInt8), (122 : UInt8)]
                                                  ([(97 : UInt8), (98 : UInt8)] ++
                                                    List.take (min (↑data.length : Int) (300 : Int)).toNat data)
                                                  (0 : Int) (3 : Int) (1 : Int)
                                                  [(120 : UInt8), (121 : UInt8), (122 : UInt8)]
                                                  ((10 : Int) +
                                                    ((1 : Int) +
                                                      at_ %
                                                        ((↑([(97 : UInt8), (98 : UInt8)] ++
                                                                  List.take (min (↑data.length : Int) (300 : Int)).toNat
                                                                    data).length :
                                                            Int) -
                                                          (1 : Int))))
                                                  false).k2
                                              (nextR (2048 : Int) (1 : Int)
                                                  [(120 : UInt8), (121 : UInt8), (122 : UInt8)]
                                                  ([(97 : UInt8), (98 : UInt8)] ++
                                                    List.take (min (↑data.length : Int) (300 : Int)).toNat data)
                                                  (0 : Int) (3 : Int) (1 : Int)
                                                  [(120 : UInt8), (121 : UInt8), (122 : UInt8)]
                                                  ((10 : Int) +
                                                    ((1 : Int) +
                                                      at_ %
                                                        ((↑([(97 : UInt8), (98 : UInt8)] ++
                                                                  List.take (min (↑data.length : Int) (300 : Int)).toNat
                                                                    data).length :
                                                            Int) -
                                                          (1 : Int))))
                                                  false).b2
                                              ([(97 : UInt8), (98 : UInt8)] ++
                                                List.take (min (↑data.length : Int) (300 : Int)).toNat data)
                                              (nextR (2048 : Int) (1 : Int)
                                                  [(120 : UInt8), (121 : UInt8), (122 : UInt8)]
                                                  ([(97 : UInt8), (98 : UInt8)] ++
                                                    List.take (min (↑data.length : Int) (300 : Int)).toNat data)
                                                  (0 : Int) (3 : Int) (1 : Int)
                                                  [(120 : UInt8), (121 : UInt8), (122 : UInt8)]
                                                  ((10 : Int) +
                                                    ((1 : Int) +
                                                      at_ %
                                                        ((↑([(97 : UInt8), (98 : UInt8)] ++
                                                                  List.take (min (↑data.length : Int) (300 : Int)).toNat
                                                                    data).length :
                                                            Int) -
                                                          (1 : Int))))
                                                  false).at2
                                              (3 : Int) (1 : Int) [(120 : UInt8), (121 : UInt8), (122 : UInt8)]
                                              (sp % (400 : Int)) false).err =
                                          (nextR (2048 : Int) (1 : Int) [(120 : UInt8), (121 : UInt8), (122 : UInt8)]
                                              ([(97 : UInt8), (98 : UInt8)] ++
                                                List.take (min (↑data.length : Int) (300 : Int)).toNat data)
                                              (nextR (2048 : Int) (1 : Int)
                                                  [(120 : UInt8), (121 : UInt8), (122 : UInt8)]
                                                  ([(97 : UInt8), (98 : UInt8)] ++
                                                    List.take (min (↑data.length : Int) (300 : Int)).toNat data)
                                                  (0 : Int) (3 : Int) (1 : Int)
                                                  [(120 : UInt8), (121 : UInt8), (122 : UInt8)]
                                                  ((10 : Int) +
                                                    ((1 : Int) +
                                                      at_ %
                                                        ((↑([(97 : UInt8), (98 : UInt8)] ++
                                                                  List.take (min (↑data.length : Int) (300 : Int)).toNat
                                                                    data).length :
                                                            Int) -
                                                          (1 : Int))))
                                                  false).at2
                                              (3 : Int) (1 : Int) [(120 : UInt8), (121 : UInt8), (122 : UInt8)]
                                              (sp % (400 : Int)) false).err))
                                      (K (Out.ret (AVal.bool true))) (K (Out.ret (AVal.bool false))))
                                    (K (Out.ret (AVal.bool false))))
                                  (K (Out.ret (AVal.bool false)))))))))))
                  (obl
                    (preA
                      { sp := sp, x := (0 : Int), typ := (2048 : Int), k := (1 : Int),
                        b := [(120 : UInt8), (121 : UInt8), (122 : UInt8)],
                        data :=
                          [(97 : UInt8), (98 : UInt8)] ++ List.take (min (↑data.length : Int) (300 : Int)).toNat data,
                        at_ := (0 : Int), id := (3 : Int), typ3 := (2048 : Int),
                        k3 :=
                          (nextR (2048 : Int) (1 : Int) [(120 : UInt8), (121 : UInt8), (122 : UInt8)]
                              ([(97 : UInt8), (98 : UInt8)] ++
                                List.take (min (↑data.length : Int) (300 : Int)).toNat data)
                              (0 : Int) (3 : Int) (1 : Int) [(120 : UInt8), (121 : UInt8), (122 : UInt8)]
                              ((10 : Int) +
                                ((1 : Int) +
                                  at_ %
                                    ((↑([(97 : UInt8), (98 : UInt8)] ++
                                              List.take (min (↑data.length : Int) (300 : Int)).toNat data).length :
                                        Int) -
                                      (1 : Int))))
                              false).k2,
                        b3 :=
                          (nextR (2048 : Int) (1 : Int) [(120 : UInt8), (121 : UInt8), (122 : UInt8)]
                              ([(97 : UInt8), (98 : UInt8)] ++
                                List.take (min (↑data.length : Int) (300 : Int)).toNat data)
                              (0 : Int) (3 : Int) (1 : Int) [(120 : UInt8), (121 : UInt8), (122 : UInt8)]
                              ((10 : Int) +
                                ((1 : Int) +
                                  at_ %
                                    ((↑([(97 : UInt8), (98 : UInt8)] ++
                                              List.take (min (↑data.length : Int) (300 : Int)).toNat data).length :
                                        Int) -
                                      (1 : Int))))
                              false).b2,
                        data3 :=
                          [(97 : UInt8), (98 : UInt8)] ++ List.take (min (↑data.length : Int) (300 : Int)).toNat data,
                        at3 :=
                          (nextR (2048 : Int) (1 : Int) [(120 : UInt8), (121 : UInt8), (122 : UInt8)]
                              ([(97 : UInt8), (98 : UInt8)] ++
                                List.take (min (↑data.length : Int) (300 : Int)).toNat data)
                              (0 : Int) (3 : Int) (1 : Int) [(120 : UInt8), (121 : UInt8), (122 : UInt8)]
                              ((10 : Int) +
                                ((1 : Int) +
                                  at_ %
                                    ((↑([(97 : UInt8), (98 : UInt8)] ++
                                              List.take (min (↑data.length : Int) (300 : Int)).toNat data).length :
                                        Int) -
                                      (1 : Int))))
                              false).at2,
                        id3 := (3 : Int), lk := (1 : Int), lb := [(120 : UInt8), (121 : UInt8), (122 : UInt8)] })
                    (branch
                      (!decide
                          ((nextR (2048 : Int) (1 : Int) [(120 : UInt8), (121 : UInt8), (122 : UInt8)]
                                ([(97 : UInt8), (98 : UInt8)] ++
                                  List.take (min (↑data.length : Int) (300 : Int)).toNat data)
                                (0 : Int) (3 : Int) (1 : Int) [(120 : UInt8), (121 : UInt8), (122 : UInt8)]
                                ((10 : Int) +
                                  ((1 : Int) +
                                    at_ %
                                      ((↑([(97 : UInt8), (98 : UInt8)] ++
                                                List.take (min (↑data.length : Int) (300 : Int)).toNat data).length :
                                          Int) -
                                        (1 : Int))))
                                false).at2 =
                            (nextR (2048 : Int) (1 : Int) [(120 : UInt8), (121 : UInt8), (122 : UInt8)]
                                ([(97 : UInt8), (98 : UInt8)] ++
                                  List.take (min (↑data.length : Int) (300 : Int)).toNat data)
                                (0 : Int) (3 : Int) (1 : Int) [(120 : UInt8), (121 : UInt8), (122 : UInt8)]
                                ((10 : Int) +
                                  ((1 : Int) +
                                    at_ %
                                      ((↑([(97 : UInt8), (98 : UInt8)] ++
                                                List.take (min (↑data.length : Int) (300 : Int)).toNat data).length :
                                          Int) -
                                        (1 : Int))))
                                false).at2))
                      (K (Out.ret (AVal.bool false)))
                      (obl (decide ((0 : Int) ≤ sp ∧ (0 : Int) < (400 : Int)))
                        (obl (inI64 (sp % (400 : Int)))
                          (obl (decide ((0 : Int) ≤ sp ∧ (0 : Int) < (400 : Int)))
                            (obl (inI64 (sp % (400 : Int)))
                              (branch
                                ((nextR (2048 : Int)
                                        (nextR (2048 : Int) (1 : Int) [(120 : UInt8), (121 : UInt8), (122 : UInt8)]
                                            ([(97 : UInt8), (98 : UInt8)] ++
                                              List.take (min (↑data.length : Int) (300 : Int)).toNat data)
                                            (0 : Int) (3 : Int) (1 : Int) [(120 : UInt8), (121 : UInt8), (122 : UInt8)]
                                            ((10 : Int) +
                                              ((1 : Int) +
                                                at_ %
                                                  ((↑([(97 : UInt8), (98 : UInt8)] ++
                                                            List.take (min (↑data.length : Int) (300 : Int)).toNat
                                                              data).length :
                                                      Int) -
                                                    (1 : Int))))
                                            false).k2
                                        (nextR (2048 : Int) (1 : Int) [(120 : UInt8), (121 : UInt8), (122 : UInt8)]
                                            ([(97 : UInt8), (98 : UInt8)] ++
                                              List.take (min (↑data.length : Int) (300 : Int)).toNat data)
                                            (0 : Int) (3 : Int) (1 : Int) [(120 : UInt8), (121 : UInt8), (122 : UInt8)]
                                            ((10 : Int) +
                                              ((1 : Int) +
                                                at_ %
                                                  ((↑([(97 : UInt8), (98 : UInt8)] ++
                                                            List.take (min (↑data.length : Int) (300 : Int)).toNat
                                                              data).length :
                                                      Int) -
                                                    (1 : Int))))
                                            false).b2
                                        ([(97 : UInt8), (98 : UInt8)] ++
                                          List.take (min (↑data.length : Int) (300 : Int)).toNat data)
                                        (nextR (2048 : Int) (1 : Int) [(120 : UInt8), (121 : UInt8), (122 : UInt8)]
                                            ([(97 : UInt8), (98 : UInt8)] ++
                                              List.take (min (↑data.length : Int) (300 : Int)).toNat data)
                                            (0 : Int) (3 : Int) (1 : Int) [(120 : UInt8), (121 : UInt8), (122 : UInt8)]
                                            ((10 : Int) +
                                              ((1 : Int) +
                                                at_ %
                                                  ((↑([(97 : UInt8), (98 : UInt8)] ++
                                                            List.take (min (↑data.length : Int) (300 : Int)).toNat
                                                              data).length :
                                                      Int) -
                                                    (1 : Int))))
                                            false).at2
                                        (3 : Int) (1 : Int) [(120 : UInt8), (121 : UInt8), (122 : UInt8)]
                                        (sp % (400 : Int)) false).st ==
                                    (nextR (2048 : Int) (1 : Int) [(120 : UInt8), (121 : UInt8), (122 : UInt8)]
                                        ([(97 : UInt8), (98 : UInt8)] ++
                                          List.take (min (↑data.length : Int) (300 : Int)).toNat data)
                                        (nextR (2048 : Int) (1 : Int) [(120 : UInt8), (121 : UInt8), (122 : UInt8)]
                                            ([(97 : UInt8), (98 : UInt8)] ++
                                              List.take (min (↑data.length : Int) (300 : Int)).toNat data)
                                            (0 : Int) (3 : Int) (1 : Int) [(120 : UInt8), (121 : UInt8), (122 : UInt8)]
                                            ((10 : Int) +
                                              ((1 : Int) +
                                                at_ %
                                                  ((↑([(97 : UInt8), (98 : UInt8)] ++
                                                            List.take (min (↑data.length : Int) (300 : Int)).toNat
                                                              data).length :
                                                      Int) -
                                                    (1 : Int))))
                                            false).at2
                                        (3 : Int) (1 : Int) [(120 : UInt8), (121 : UInt8), (122 : UInt8)]
                                        (sp % (400 : Int)) false).st &&
                                  ((nextR (2048 : Int)
                                          (nextR (2048 : Int) (1 : Int) [(120 : UInt8), (121 : UInt8), (122 : UInt8)]
                                              ([(97 : UInt8), (98 : UInt8)] ++
                                                List.take (min (↑data.length : Int) (300 : Int)).toNat data)
                                              (0 : Int) (3 : Int) (1 : Int)
                                              [(120 : UInt8), (121 : UInt8), (122 : UInt8)]
                                              ((10 : Int) +
                                                ((1 : Int) +
                                                  at_ %
                                                    ((↑([(97 : UInt8), (98 : UInt8)] ++
                                                              List.take (min (↑data.length : Int) (300 : Int)).toNat
                                                                data).length :
                                                        Int) -
                                                      (1 : Int))))
                                              false).k2
                                          (nextR (2048 : Int) (1 : Int) [(120 : UInt8), (121 : UInt8), (122 : UInt8)]
                                              ([(97 : UInt8), (98 : UInt8)] ++
                                                List.take (min (↑data.length : Int) (300 : Int)).toNat data)
                                              (0 : Int) (3 : Int) (1 : Int)
                                              [(120 : UInt8), (121 : UInt8), (122 : UInt8)]
                                              ((10 : Int) +
                                                ((1 : Int) +
                                                  at_ %
                                                    ((↑([(97 : UInt8), (98 : UInt8)] ++
                                                              List.take (min (↑data.length : Int) (300 : Int)).toNat
                                                                data).length :
                                                        Int) -
                                                      (1 : Int))))
                                              false).b2
                                          ([(97 : UInt8), (98 : UInt8)] ++
                                            List.take (min (↑data.length : Int) (300 : Int)).toNat data)
                                          (nextR (2048 : Int) (1 : Int) [(120 : UInt8), (121 : UInt8), (122 : UInt8)]
                                              ([(97 : UInt8), (98 : UInt8)] ++
                                                List.take (min (↑data.length : Int) (300 : Int)).toNat data)
                                              (0 : Int) (3 : Int) (1 : Int)
                                              [(120 : UInt8), (121 : UInt8), (122 : UInt8)]
                                              ((10 : Int) +
                                                ((1 : Int) +
                                                  at_ %
                                                    ((↑([(97 : UInt8), (98 : UInt8)] ++
                                                              List.take (min (↑data.length : Int) (300 : Int)).toNat
                                                                data).length :
                                                        Int) -
                                                      (1 : Int))))
                                              false).at2
                                          (3 : Int) (1 : Int) [(120 : UInt8), (121 : UInt8), (122 : UInt8)]
                                          (sp % (400 : Int)) false).en ==
                                      (nextR (2048 : Int) (1 : Int) [(120 : UInt8), (121 : UInt8), (122 : UInt8)]
                                          ([(97 : UInt8), (98 : UInt8)] ++
                                            List.take (min (↑data.length : Int) (300 : Int)).toNat data)
                                          (nextR (2048 : Int) (1 : Int) [(120 : UInt8), (121 : UInt8), (122 : UInt8)]
                                              ([(97 : UInt8), (98 : UInt8)] ++
                                                List.take (min (↑data.length : Int) (300 : Int)).toNat data)
                                              (0 : Int) (3 : Int) (1 : Int)
                                              [(120 : UInt8), (121 : UInt8), (122 : UInt8)]
                                              ((10 : Int) +
                                                ((1 : Int) +
                                                  at_ %
                                                    ((↑([(97 : UInt8), (98 : UInt8)] ++
                                                              List.take (min (↑data.length : Int) (300 : Int)).toNat
                                                                data).length :
                                                        Int) -
                                                      (1 : Int))))
                                              false).at2
                                          (3 : Int) (1 : Int) [(120 : UInt8), (121 : UInt8), (122 : UInt8)]
                                          (sp % (400 : Int)) false).en &&
                                    (decide
                                        ((nextR (2048 : Int)
                                              (nextR (2048 : Int) (1 : Int)
                                                  [(120 : UInt8), (121 : UInt8), (122 : UInt8)]
                                                  ([(97 : UInt8), (98 : UInt8)] ++
                                                    List.take (min (↑data.length : Int) (300 : Int)).toNat data)
                                                  (0 : Int) (3 : Int) (1 : Int)
                                                  [(120 : UInt8), (121 : UInt8), (122 : UInt8)]
                                                  ((10 : Int) +
                                                    ((1 : Int) +
                                                      at_ %
                                                        ((↑([(97 : UInt8), (98 : UInt8)] ++
                                                                  List.take (min (↑data.length : Int) (300 : Int)).toNat
                                                                    data).length :
                                                            Int) -
                                                          (1 : Int))))
                                                  false).k2
                                              (nextR (2048 : Int) (1 : Int)
                                                  [(120 : UInt8), (121 : UInt8), (122 : UInt8)]
                                                  ([(97 : UInt8), (98 : UInt8)] ++
                                                    List.take (min (↑data.length : Int) (300 : Int)).toNat data)
                                                  (0 : Int) (3 : Int) (1 : Int)
                                                  [(120 : UInt8), (121 : UInt8), (122 : UInt8)]
                                                  ((10 : Int) +
                                                    ((1 : Int) +
                                                      at_ %
                                                        ((↑([(97 : UInt8), (98 : UInt8)] ++
                                                                  List.take (min (↑data.length : Int) (300 : Int)).toNat
                                                                    data).length :
                                                            Int) -
                                                          (1 : Int))))
                                                  false).b2
                                              ([(97 : UInt8), (98 : UInt8)] ++
                                                List.take (min (↑data.length : Int) (300 : Int)).toNat data)
                                              (nextR (2048 : Int) (1 : Int)
                                                  [(120 : UInt8), (121 : UInt8), (122 : UInt8)]
                                                  ([(97 : UInt8), (98 : UInt8)] ++
                                                    List.take (min (↑data.length : Int) (300 : Int)).toNat data)
                                                  (0 : Int) (3 : Int) (1 : Int)
                                                  [(120 : UInt8), (121 : UInt8), (122 : UInt8)]
                                                  ((10 : Int) +
                                                    ((1 : Int) +
                                                      at_ %
                                                        ((↑([(97 : UInt8), (98 : UInt8)] ++
                                                                  List.take (min (↑data.length : Int) (300 : Int)).toNat
                                                                    data).length :
                                                            Int) -
                                                          (1 : Int))))
                                                  false).at2
                                              (3 : Int) (1 : Int) [(120 : UInt8), (121 : UInt8), (122 : UInt8)]
                                              (sp % (400 : Int)) false).id =
                                          (nextR (2048 : Int) (1 : Int) [(120 : UInt8), (121 : UInt8), (122 : UInt8)]
                                              ([(97 : UInt8), (98 : UInt8)] ++
                                                List.take (min (↑data.length : Int) (300 : Int)).toNat data)
                                              (nextR (2048 : Int) (1 : Int)
                                                  [(120 : UInt8), (121 : UInt8), (122 : UInt8)]
                                                  ([(97 : UInt8), (98 : UInt8)] ++
                                                    List.take (min (↑data.length : Int) (300 : Int)).toNat data)
                                                  (0 : Int) (3 : Int) (1 : Int)
                                                  [(120 : UInt8), (121 : UInt8), (122 : UInt8)]
                                                  ((10 : Int) +
                                                    ((1 : Int) +
                                                      at_ %
                                                        ((↑([(97 : UInt8), (98 : UInt8)] ++
                                                                  List.take (min (↑data.length : Int) (300 : Int)).toNat
                                                                    data).length :
                                                            Int) -
                                                          (1 : Int))))
                                                  false).at2
                                              (3 : Int) (1 : Int) [(120 : UInt8), (121 : UInt8), (122 : UInt8)]
                                              (sp % (400 : Int)) false).id) &&
                                      (decide
                                          ((nextR (2048 : Int)
                                                (nextR (2048 : Int) (1 : Int)
                                                    [(120 : UInt8), (121 : UInt8), (122 : UInt8)]
                                                    ([(97 : UInt8), (98 : UInt8)] ++
                                                      List.take (min (↑data.length : Int) (300 : Int)).toNat data)
                                                    (0 : Int) (3 : Int) (1 : Int)
                                                    [(120 : UInt8), (121 : UInt8), (122 : UInt8)]
                                                    ((10 : Int) +
                                                      ((1 : Int) +
                                                        at_ %
                                                          ((↑([(97 : UInt8), (98 : UInt8)] ++
                                                                    List.take
                                                                      (min (↑data.length : Int) (300 : Int)).toNat
                                                                      data).length :
                                                              Int) -
                                                            (1 : Int))))
                                                    false).k2
                                                (nextR (2048 : Int) (1 : Int)
                                                    [(120 : UInt8), (121 : UInt8), (122 : UInt8)]
                                                    ([(97 : UInt8), (98 : UInt8)] ++
                                                      List.take (min (↑data.length : Int) (300 : Int)).toNat data)
                                                    (0 : Int) (3 : Int) (1 : Int)
                                                    [(120 : UInt8), (121 : UInt8), (122 : UInt8)]
                                                    ((10 : Int) +
                                                      ((1 : Int) +
                                                        at_ %
                                                          ((↑([(97 : UInt8), (98 : UInt8)] ++
                                                                    List.take
                                                                      (min (↑data.length : Int) (300 : Int)).toNat
                                                                      data).length :
                                                              Int) -
                                                            (1 : Int))))
                                                    false).b2
                                                ([(97 : UInt8), (98 : UInt8)] ++
                                                  List.take (min (↑data.length : Int) (300 : Int)).toNat data)
                                                (nextR (2048 : Int) (1 : Int)
                                                    [(120 : UInt8), (121 : UInt8), (122 : UInt8)]
                                                    ([(97 : UInt8), (98 : UInt8)] ++
                                                      List.take (min (↑data.length : Int) (300 : Int)).toNat data)
                                                    (0 : Int) (3 : Int) (1 : Int)
                                                    [(120 : UInt8), (121 : UInt8), (122 : UInt8)]
                                                    ((10 : Int) +
                                                      ((1 : Int) +
                                                        at_ %
                                                          ((↑([(97 : UInt8), (98 : UInt8)] ++
                                                                    List.take
                                                                      (min (↑data.length : Int) (300 : Int)).toNat
                                                                      data).length :
                                                              Int) -
                                                            (1 : Int))))
                                                    false).at2
                                                (3 : Int) (1 : Int) [(120 : UInt8), (121 : UInt8), (122 : UInt8)]
                                                (sp % (400 : Int)) false).total =
                                            (nextR (2048 : Int) (1 : Int) [(120 : UInt8), (121 : UInt8), (122 : UInt8)]
                                                ([(97 : UInt8), (98 : UInt8)] ++
                                                  List.take (min (↑data.length : Int) (300 : Int)).toNat data)
                                                (nextR (2048 : Int) (1 : Int)
                                                    [(120 : UInt8), (121 : UInt8), (122 : UInt8)]
                                                    ([(97 : UInt8), (98 : UInt8)] ++
                                                      List.take (min (↑data.length : Int) (300 : Int)).toNat data)
                                                    (0 : Int) (3 : Int) (1 : Int)
                                                    [(120 : UInt8), (121 : UInt8), (122 : UInt8)]
                                                    ((10 : Int) +
                                                      ((1 : Int) +
                                                        at_ %
                                                          ((↑([(97 : UInt8), (98 : UInt8)] ++
                                                                    List.take
                                                                      (min (↑data.length : Int) (300 : Int)).toNat
                                                                      data).length :
                                                              Int) -
                                                            (1 : Int))))
                                                    false).at2
                                                (3 : Int) (1 : Int) [(120 : UInt8), (121 : UInt8), (122 : UInt8)]
                                                (sp % (400 : Int)) false).total) &&
                                        (decide
                                            ((nextR (2048 : Int)
                                                  (nextR (2048 : Int) (1 : Int)
                                                      [(120 : UInt8), (121 : UInt8), (122 : UInt8)]
                                                      ([(97 : UInt8), (98 : UInt8)] ++
                                                        List.take (min (↑data.length : Int) (300 : Int)).toNat data)
                                                      (0 : Int) (3 : Int) (1 : Int)
                                                      [(120 : UInt8), (121 : UInt8), (122 : UInt8)]
                                                      ((10 : Int) +
                                                        ((1 : Int) +
                                                          at_ %
                                                            ((↑([(97 : UInt8), (98 : UInt8)] ++
                                                                      List.take
                                                                        (min (↑data.length : Int) (300 : Int)).toNat
                                                                        data).length :
                                                                Int) -
                                                              (1 : Int))))
                                                      false).k2
                                                  (nextR (2048 : Int) (1 : Int)
                                                      [(120 : UInt8), (121 : UInt8), (122 : UInt8)]
                                                      ([(97 : UInt8), (98 : UInt8)] ++
                                                        List.take (min (↑data.length : Int) (300 : Int)).toNat data)
                                                      (0 : Int) (3 : Int) (1 : Int)
                                                      [(120 : UInt8), (121 : UInt8), (122 : UInt8)]
                                                      ((10 : Int) +
                                                        ((1 : Int) +
                                                          at_ %
                                                            ((↑([(97 : UInt8), (98 : UInt8)] ++
                                                                      List.take
                                                                        (min (↑data.length : Int) (300 : Int)).toNat
                                                                        data).length :
                                                                Int) -
                                                              (1 : Int))))
                                                      false).b2
                                                  ([(97 : UInt8), (98 : UInt8)] ++
                                                    List.take (min (↑data.length : Int) (300 : Int)).toNat data)
                                                  (nextR (2048 : Int) (1 : Int)
                                                      [(120 : UInt8), (121 : UInt8), (122 : UInt8)]
                                                      ([(97 : UInt8), (98 : UInt8)] ++
                                                        List.take (min (↑data.length : Int) (300 : Int)).toNat data)
                                                      (0 : Int) (3 : Int) (1 : Int)
                                                      [(120 : UInt8), (121 : UInt8), (122 : UInt8)]
                                                      ((10 : Int) +
                                                        ((1 : Int) +
                                                          at_ %
                                                            ((↑([(97 : UInt8), (98 : UInt8)] ++
                                                                      List.take
                                                                        (min (↑data.length : Int) (300 : Int)).toNat
                                                                        data).length :
                                                                Int) -
                                                              (1 : Int))))
                                                      false).at2
                                                  (3 : Int) (1 : Int) [(120 : UInt8), (121 : UInt8), (122 : UInt8)]
                                                  (sp % (400 : Int)) false).typ =
                                              (nextR (2048 : Int) (1 : Int)
                                                  [(120 : UInt8), (121 : UInt8), (122 : UInt8)]
                                                  ([(97 : UInt8), (98 : UInt8)] ++
                                                    List.take (min (↑data.length : Int) (300 : Int)).toNat data)
                                                  (nextR (2048 : Int) (1 : Int)
                                                      [(120 : UInt8), (121 : UInt8), (122 : UInt8)]
                                                      ([(97 : UInt8), (98 : UInt8)] ++
                                                        List.take (min (↑data.length : Int) (300 : Int)).toNat data)
                                                      (0 : Int) (3 : Int) (1 : Int)
                                                      [(120 : UInt8), (121 : UInt8), (122 : UInt8)]
                                                      ((10 : Int) +
                                                        ((1 : Int) +
                                                          at_ %
                                                            ((↑([(97 : UInt8), (98 : UInt8)] ++
                                                                      List.take
                                                                        (min (↑data.length : Int) (300 : Int)).toNat
                                                                        data).length :
                                                                Int) -
                                                              (1 : Int))))
                                                      false).at2
                                                  (3 : Int) (1 : Int) [(120 : UInt8), (121 : UInt8), (122 : UInt8)]
                                                  (sp % (400 : Int)) false).typ) &&
                                          (decide
                                                ((nextR (2048 : Int)
                                                      (nextR (2048 : Int) (1 : Int)
                                                          [(120 : UInt8), (121 : UInt8), (122 : UInt8)]
                                                          ([(97 : UInt8), (98 : UInt8)] ++
                                                            List.take (min (↑data.length : Int) (300 : Int)).toNat data)
                                                          (0 : Int) (3 : Int) (1 : Int)
                                                          [(120 : UInt8), (121 : UInt8), (122 : UInt8)]
                                                          ((10 : Int) +
                                                            ((1 : Int) +
                                                              at_ %
                                                                ((↑([(97 : UInt8), (98 : UInt8)] ++
                                                                          List.take
                                                                            (min (↑data.length : Int) (300 : Int)).toNat
                                                                            data).length :
                                                                    Int) -
                                                                  (1 : Int))))
                                                          false).k2
                                                      (nextR (2048 : Int) (1 : Int)
                                                          [(120 : UInt8), (121 : UInt8), (122 : UInt8)]
                                                          ([(97 : UInt8), (98 : UInt8)] ++
                                                            List.take (min (↑data.length : Int) (300 : Int)).toNat data)
                                                          (0 : Int) (3 : Int) (1 : Int)
                                                          [(120 : UInt8), (121 : UInt8), (122 : UInt8)]
                                                          ((10 : Int) +
                                                            ((1 : Int) +
                                                              at_ %
                                                                ((↑([(97 : UInt8), (98 : UInt8)] ++
                                                                          List.take
                                                                            (min (↑data.length : Int) (300 : Int)).toNat
                                                                            data).length :
                                                                    Int) -
                                                                  (1 : Int))))
                                                          false).b2
                                                      ([(97 : UInt8), (98 : UInt8)] ++
                                                        List.take (min (↑data.length : Int) (300 : Int)).toNat data)
                                                      (nextR (2048 : Int) (1 : Int)
                                                          [(120 : UInt8), (121 : UInt8), (122 : UInt8)]
                                                          ([(97 : UInt8), (98 : UInt8)] ++
                                                            List.take (min (↑data.length : Int) (300 : Int)).toNat data)
                                                          (0 : Int) (3 : Int) (1 : Int)
                                                          [(120 : UInt8), (121 : UInt8), (122 : UInt8)]
                                                          ((10 : Int) +
                                                            ((1 : Int) +
                                                              at_ %
                                                                ((↑([(97 : UInt8), (98 : UInt8)] ++
                                                                          List.take
                                                                            (min (↑data.length : Int) (300 : Int)).toNat
                                                                            data).length :
                                                                    Int) -
                                                                  (1 : Int))))
                                                          false).at2
                                                      (3 : Int) (1 : Int) [(120 : UInt8), (121 : UInt8), (122 : UInt8)]
                                                      (sp % (400 : Int)) false).k =
                                                  (nextR (2048 : Int) (1 : Int)
                                                      [(120 : UInt8), (121 : UInt8), (122 : UInt8)]
                                                      ([(97 : UInt8), (98 : UInt8)] ++
                                                        List.take (min (↑data.length : Int) (300 : Int)).toNat data)
                                                      (nextR (2048 : Int) (1 : Int)
                                                          [(120 : UInt8), (121 : UInt8), (122 : UInt8)]
                                                          ([(97 : UInt8), (98 : UInt8)] ++
                                                            List.take (min (↑data.length : Int) (300 : Int)).toNat data)
                                                          (0 : Int) (3 : Int) (1 : Int)
                                                          [(120 : UInt8), (121 : UInt8), (122 : UInt8)]
                                                          ((10 : Int) +
                                                            ((1 : Int) +
                                                              at_ %
                                                                ((↑([(97 : UInt8), (98 : UInt8)] ++
                                                                          List.take
                                                                            (min (↑data.length : Int) (300 : Int)).toNat
                                                                            data).length :
                                                                    Int) -
                                                                  (1 : Int))))
                                                          false).at2
                                                      (3 : Int) (1 : Int) [(120 : UInt8), (121 : UInt8), (122 : UInt8)]
                                                      (sp % (400 : Int)) false).k) &&
                                              (decide
                                                  ((nextR (2048 : Int)
                                                        (nextR (2048 : Int) (1 : Int)
                                                            [(120 : UInt8), (121 : UInt8), (122 : UInt8)]
                                                            ([(97 : UInt8), (98 : UInt8)] ++
                                                              List.take (min (↑data.length : Int) (300 : Int)).toNat
                                                                data)
                                                            (0 : Int) (3 : Int) (1 : Int)
                                                            [(120 : UInt8), (121 : UInt8), (122 : UInt8)]
                                                            ((10 : Int) +
                                                              ((1 : Int) +
                                                                at_ %
                                                                  ((↑([(97 : UInt8), (98 : UInt8)] ++
                                                                            List.take
                                                                              (min (↑data.length : Int)
                                                                                  (300 : Int)).toNat
                                                                              data).length :
                                                                      Int) -
                                                                    (1 : Int))))
                                                            false).k2
                                                        (nextR (2048 : Int) (1 : Int)
                                                            [(120 : UInt8), (121 : UInt8), (122 : UInt8)]
                                                            ([(97 : UInt8), (98 : UInt8)] ++
                                                              List.take (min (↑data.length : Int) (300 : Int)).toNat
                                                                data)
                                                            (0 : Int) (3 : Int) (1 : Int)
                                                            [(120 : UInt8), (121 : UInt8), (122 : UInt8)]
                                                            ((10 : Int) +
                                                              ((1 : Int) +
                                                                at_ %
                                                                  ((↑([(97 : UInt8), (98 : UInt8)] ++
                                                                            List.take
                                                                              (min (↑data.length : Int)
                                                                                  (300 : Int)).toNat
                                                                              data).length :
                                                                      Int) -
                                                                    (1 : Int))))
                                                            false).b2
                                                        ([(97 : UInt8), (98 : UInt8)] ++
                                                          List.take (min (↑data.length : Int) (300 : Int)).toNat data)
                                                        (nextR (2048 : Int) (1 : Int)
                                                            [(120 : UInt8), (121 : UInt8), (122 : UInt8)]
                                                            ([(97 : UInt8), (98 : UInt8)] ++
                                                              List.take (min (↑data.length : Int) (300 : Int)).toNat
                                                                data)
                                                            (0 : Int) (3 : Int) (1 : Int)
                                                            [(120 : UInt8), (121 : UInt8), (122 : UInt8)]
                                                            ((10 : Int) +
                                                              ((1 : Int) +
                                                                at_ %
                                                                  ((↑([(97 : UInt8), (98 : UInt8)] ++
                                                                            List.take
                                                                              (min (↑data.length : Int)
                                                                                  (300 : Int)).toNat
                                                                              data).length :
                                                                      Int) -
                                                                    (1 : Int))))
                                                            false).at2
                                                        (3 : Int) (1 : Int)
                                                        [(120 : UInt8), (121 : UInt8), (122 : UInt8)] (sp % (400 : Int))
                                                        false).lb =
                                                    (nextR (2048 : Int) (1 : Int)
                                                        [(120 : UInt8), (121 : UInt8), (122 : UInt8)]
                                                        ([(97 : UInt8), (98 : UInt8)] ++
                                                          List.take (min (↑data.length : Int) (300 : Int)).toNat data)
                                                        (nextR (2048 : Int) (1 : Int)
                                                            [(120 : UInt8), (121 : UInt8), (122 : UInt8)]
                                                            ([(97 : UInt8), (98 : UInt8)] ++
                                                              List.take (min (↑data.length : Int) (300 : Int)).toNat
                                                                data)
                                                            (0 : Int) (3 : Int) (1 : Int)
                                                            [(120 : UInt8), (121 : UInt8), (122 : UInt8)]
                                                            ((10 : Int) +
                                                              ((1 : Int) +
                                                                at_ %
                                                                  ((↑([(97 : UInt8), (98 : UInt8)] ++
                                                                            List.take
                                                                              (min (↑data.length : Int)
                                                                                  (300 : Int)).toNat
                                                                              data).length :
                                                                      Int) -
                                                                    (1 : Int))))
                                                            false).at2
                                                        (3 : Int) (1 : Int)
                                                        [(120 : UInt8), (121 : UInt8), (122 : UInt8)] (sp % (400 : Int))
                                                        false).lb) &&
                                                true) &&
                                            (decide
                                                ((nextR (2048 : Int)
                                                      (nextR (2048 : Int) (1 : Int)
                                                          [(120 : UInt8), (121 : UInt8), (122 : UInt8)]
                                                          ([(97 : UInt8), (98 : UInt8)] ++
                                                            List.take (min (↑data.length : Int) (300 : Int)).toNat data)
                                                          (0 : Int) (3 : Int) (1 : Int)
                                                          [(120 : UInt8), (121 : UInt8), (122 : UInt8)]
                                                          ((10 : Int) +
                                                            ((1 : Int) +
                                                              at_ %
                                                                ((↑([(97 : UInt8), (98 : UInt8)] ++
                                                                          List.take
                                                                            (min (↑data.length : Int) (300 : Int)).toNat
                                                                            data).length :
                                                                    Int) -
                                                                  (1 : Int))))
                                                          false).k2
                                                      (nextR (2048 : Int) (1 : Int)
                                                          [(120 : UInt8), (121 : UInt8), (122 : UInt8)]
                                                          ([(97 : UInt8), (98 : UInt8)] ++
                                                            List.take (min (↑data.length : Int) (300 : Int)).toNat data)
                                                          (0 : Int) (3 : Int) (1 : Int)
                                                          [(120 : UInt8), (121 : UInt8), (122 : UInt8)]
                                                          ((10 : Int) +
                                                            ((1 : Int) +
                                                              at_ %
                                                                ((↑([(97 : UInt8), (98 : UInt8)] ++
                                                                          List.take
                                                                            (min (↑data.length : Int) (300 : Int)).toNat
                                                                            data).length :
                                                                    Int) -
                                                                  (1 : Int))))
                                                          false).b2
                                                      ([(97 : UInt8), (98 : UInt8)] ++
                                                        List.take (min (↑data.length : Int) (300 : Int)).toNat data)
                                                      (nextR (2048 : Int) (1 : Int)
                                                          [(120 : UInt8), (121 : UInt8), (122 : UInt8)]
                                                          ([(97 : UInt8), (98 : UInt8)] ++
                                                            List.take (min (↑data.length : Int) (300 : Int)).toNat data)
                                                          (0 : Int) (3 : Int) (1 : Int)
                                                          [(120 : UInt8), (121 : UInt8), (122 : UInt8)]
                                                          ((10 : Int) +
                                                            ((1 : Int) +
                                                              at_ %
                                                                ((↑([(97 : UInt8), (98 : UInt8)] ++
                                                                          List.take
                                                                            (min (↑data.length : Int) (300 : Int)).toNat
                                                                            data).length :
                                                                    Int) -
                                                                  (1 : Int))))
                                                          false).at2
                                                      (3 : Int) (1 : Int) [(120 : UInt8), (121 : UInt8), (122 : UInt8)]
                                                      (sp % (400 : Int)) false).data =
                                                  (nextR (2048 : Int) (1 : Int)
                                                      [(120 : UInt8), (121 : UInt8), (122 : UInt8)]
                                                      ([(97 : UInt8), (98 : UInt8)] ++
                                                        List.take (min (↑data.length : Int) (300 : Int)).toNat data)
                                                      (nextR (2048 : Int) (1 : Int)
                                                          [(120 : UInt8), (121 : UInt8), (122 : UInt8)]
                                                          ([(97 : UInt8), (98 : UInt8)] ++
                                                            List.take (min (↑data.length : Int) (300 : Int)).toNat data)
                                                          (0 : Int) (3 : Int) (1 : Int)
                                                          [(120 : UInt8), (121 : UInt8), (122 : UInt8)]
                                                          ((10 : Int) +
                                                            ((1 : Int) +
                                                              at_ %
                                                                ((↑([(97 : UInt8), (98 : UInt8)] ++
                                                                          List.take
                                                                            (min (↑data.length : Int) (300 : Int)).toNat
                                                                            data).length :
                                                                    Int) -
                                                                  (1 : Int))))
                                                          false).at2
                                                      (3 : Int) (1 : Int) [(120 : UInt8), (121 : UInt8), (122 : UInt8)]
                                                      (sp % (400 : Int)) false).data) &&
                                              (decide
                                                  ((nextR (2048 : Int)
                                                        (nextR (2048 : Int) (1 : Int)
                                                            [(120 : UInt8), (121 : UInt8), (122 : UInt8)]
                                                            ([(97 : UInt8), (98 : UInt8)] ++
                                                              List.take (min (↑data.length : Int) (300 : Int)).toNat
                                                                data)
                                                            (0 : Int) (3 : Int) (1 : Int)
                                                            [(120 : UInt8), (121 : UInt8), (122 : UInt8)]
                                                            ((10 : Int) +
                                                              ((1 : Int) +
                                                                at_ %
                                                                  ((↑([(97 : UInt8), (98 : UInt8)] ++
                                                                            List.take
                                                                              (min (↑data.length : Int)
                                                                                  (300 : Int)).toNat
                                                                              data).length :
                                                                      Int) -
                                                                    (1 : Int))))
                                                            false).k2
                                                        (nextR (2048 : Int) (1 : Int)
                                                            [(120 : UInt8), (121 : UInt8), (122 : UInt8)]
                                                            ([(97 : UInt8), (98 : UInt8)] ++
                                                              List.take (min (↑data.length : Int) (300 : Int)).toNat
                                                                data)
                                                            (0 : Int) (3 : Int) (1 : Int)
                                                            [(120 : UInt8), (121 : UInt8), (122 : UInt8)]
                                                            ((10 : Int) +
                                                              ((1 : Int) +
                                                                at_ %
                                                                  ((↑([(97 : UInt8), (98 : UInt8)] ++
                                                                            List.take
                                                                              (min (↑data.length : Int)
                                                                                  (300 : Int)).toNat
                                                                              data).length :
                                                                      Int) -
                                                                    (1 : Int))))
                                                            false).b2
                                                        ([(97 : UInt8), (98 : UInt8)] ++
                                                          List.take (min (↑data.length : Int) (300 : Int)).toNat data)
                                                        (nextR (2048 : Int) (1 : Int)
                                                            [(120 : UInt8), (121 : UInt8), (122 : UInt8)]
                                                            ([(97 : UInt8), (98 : UInt8)] ++
                                                              List.take (min (↑data.length : Int) (300 : Int)).toNat
                                                                data)
                                                            (0 : Int) (3 : Int) (1 : Int)
                                                            [(120 : UInt8), (121 : UInt8), (122 : UInt8)]
                                                            ((10 : Int) +
                                                              ((1 : Int) +
                                                                at_ %
                                                                  ((↑([(97 : UInt8), (98 : UInt8)] ++
                                                                            List.take
                                                                              (min (↑data.length : Int)
                                                                                  (300 : Int)).toNat
                                                                              data).length :
                                                                      Int) -
                                                                    (1 : Int))))
                                                            false).at2
                                                        (3 : Int) (1 : Int)
                                                        [(120 : UInt8), (121 : UInt8), (122 : UInt8)] (sp % (400 : Int))
                                                        false).sum =
                                                    (nextR (2048 : Int) (1 : Int)
                                                        [(120 : UInt8), (121 : UInt8), (122 : UInt8)]
                                                        ([(97 : UInt8), (98 : UInt8)] ++
                                                          List.take (min (↑data.length : Int) (300 : Int)).toNat data)
                                                        (nextR (2048 : Int) (1 : Int)
                                                            [(120 : UInt8), (121 : UInt8), (122 : UInt8)]
                                                            ([(97 : UInt8), (98 : UInt8)] ++
                                                              List.take (min (↑data.length : Int) (300 : Int)).toNat
                                                                data)
                                                            (0 : Int) (3 : Int) (1 : Int)
                                                            [(120 : UInt8), (121 : UInt8), (122 : UInt8)]
                                                            ((10 : Int) +
                                                              ((1 : Int) +
                                                                at_ %
                                                                  ((↑([(97 : UInt8), (98 : UInt8)] ++
                                                                            List.take
                                                                              (min (↑data.length : Int)
                                                                                  (300 : Int)).toNat
                                                                              data).length :
                                                                      Int) -
                                                                    (1 : Int))))
                                                            false).at2
                                                        (3 : Int) (1 : Int)
                                                        [(120 : UInt8), (121 : UInt8), (122 : UInt8)] (sp % (400 : Int))
                                                        false).sum) &&
                                                true))))))))
                                (branch
                                  (decide ((2048 : Int) = (2048 : Int)) &&
                                    (decide
                                          ((nextR (2048 : Int)
                                                (nextR (2048 : Int) (1 : Int)
                                                    [(120 : UInt8), (121 : UInt8), (122 : UInt8)]
                                                    ([(97 : UInt8), (98 : UInt8)] ++
                                                      List.take (min (↑data.length : Int) (300 : Int)).toNat data)
                                                    (0 : Int) (3 : Int) (1 : Int)
                                                    [(120 : UInt8), (121 : UInt8), (122 : UInt8)]
                                                    ((10 : Int) +
                                                      ((1 : Int) +
                                                        at_ %
                                                          ((↑([(97 : UInt8), (98 : UInt8)] ++
                                                                    List.take
                                                                      (min (↑data.length : Int) (300 : Int)).toNat
                                                                      data).length :
                                                              Int) -
                                                            (1 : Int))))
                                                    false).k2
                                                (nextR (2048 : Int) (1 : Int)
                                                    [(120 : UInt8), (121 : UInt8), (122 : UInt8)]
                                                    ([(97 : UInt8), (98 : UInt8)] ++
                                                      List.take (min (↑data.length : Int) (300 : Int)).toNat data)
                                                    (0 : Int) (3 : Int) (1 : Int)
                                                    [(120 : UInt8), (121 : UInt8), (122 : UInt8)]
                                                    ((10 : Int) +
                                                      ((1 : Int) +
                                                        at_ %
                                                          ((↑([(97 : UInt8), (98 : UInt8)] ++
                                                                    List.take
                                                                      (min (↑data.length : Int) (300 : Int)).toNat
                                                                      data).length :
                                                              Int) -
                                                            (1 : Int))))
                                                    false).b2
                                                ([(97 : UInt8), (98 : UInt8)] ++
                                                  List.take (min (↑data.length : Int) (300 : Int)).toNat data)
                                                (nextR (2048 : Int) (1 : Int)
                                                    [(120 : UInt8), (121 : UInt8), (122 : UInt8)]
                                                    ([(97 : UInt8), (98 : UInt8)] ++
                                                      List.take (min (↑data.length : Int) (300 : Int)).toNat data)
                                                    (0 : Int) (3 : Int) (1 : Int)
                                                    [(120 : UInt8), (121 : UInt8), (122 : UInt8)]
                                                    ((10 : Int) +
                                                      ((1 : Int) +
                                                        at_ %
                                                          ((↑([(97 : UInt8), (98 : UInt8)] ++
                                                                    List.take
                                                                      (min (↑data.length : Int) (300 : Int)).toNat
                                                                      data).length :
                                                              Int) -
                                                            (1 : Int))))
                                                    false).at2
                                                (3 : Int) (1 : Int) [(120 : UInt8), (121 : UInt8), (122 : UInt8)]
                                                (sp % (400 : Int)) false).k2 =
                                            (nextR (2048 : Int) (1 : Int) [(120 : UInt8), (121 : UInt8), (122 : UInt8)]
                                                ([(97 : UInt8), (98 : UInt8)] ++
                                                  List.take (min (↑data.length : Int) (300 : Int)).toNat data)
                                                (nextR (2048 : Int) (1 : Int)
                                                    [(120 : UInt8), (121 : UInt8), (122 : UInt8)]
                                                    ([(97 : UInt8), (98 : UInt8)] ++
                                                      List.take (min (↑data.length : Int) (300 : Int)).toNat data)
                                                    (0 : Int) (3 : Int) (1 : Int)
                                                    [(120 : UInt8), (121 : UInt8), (122 : UInt8)]
                                                    ((10 : Int) +
                                                      ((1 : Int) +
                                                        at_ %
                                                          ((↑([(97 : UInt8), (98 : UInt8)] ++
                                                                    List.take
                                                                      (min (↑data.length : Int) (300 : Int)).toNat
                                                                      data).length :
                                                              Int) -
                                                            (1 : Int))))
                                                    false).at2
                                                (3 : Int) (1 : Int) [(120 : UInt8), (121 : UInt8), (122 : UInt8)]
                                                (sp % (400 : Int)) false).k2) &&
                                        (decide
                                            ((nextR (2048 : Int)
                                                  (nextR (2048 : Int) (1 : Int)
                                                      [(120 : UInt8), (121 : UInt8), (122 : UInt8)]
                                                      ([(97 : UInt8), (98 : UInt8)] ++
                                                        List.take (min (↑data.length : Int) (300 : Int)).toNat data)
                                                      (0 : Int) (3 : Int) (1 : Int)
                                                      [(120 : UInt8), (121 : UInt8), (122 : UInt8)]
                                                      ((10 : Int) +
                                                        ((1 : Int) +
                                                          at_ %
                                                            ((↑([(97 : UInt8), (98 : UInt8)] ++
                                                                      List.take
                                                                        (min (↑data.length : Int) (300 : Int)).toNat
                                                                        data).length :
                                                                Int) -
                                                              (1 : Int))))
                                                      false).k2
                                                  (nextR (2048 : Int) (1 : Int)
                                                      [(120 : UInt8), (121 : UInt8), (122 : UInt8)]
                                                      ([(97 : UInt8), (98 : UInt8)] ++
                                                        List.take (min (↑data.length : Int) (300 : Int)).toNat data)
                                                      (0 : Int) (3 : Int) (1 : Int)
                                                      [(120 : UInt8), (121 : UInt8), (122 : UInt8)]
                                                      ((10 : Int) +
                                                        ((1 : Int) +
                                                          at_ %
                                                            ((↑([(97 : UInt8), (98 : UInt8)] ++
                                                                      List.take
                                                                        (min (↑data.length : Int) (300 : Int)).toNat
                                                                        data).length :
                                                                Int) -
                                                              (1 : Int))))
                                                      false).b2
                                                  ([(97 : UInt8), (98 : UInt8)] ++
                                                    List.take (min (↑data.length : Int) (300 : Int)).toNat data)
                                                  (nextR (2048 : Int) (1 : Int)
                                                      [(120 : UInt8), (121 : UInt8), (122 : UInt8)]
                                                      ([(97 : UInt8), (98 : UInt8)] ++
                                                        List.take (min (↑data.length : Int) (300 : Int)).toNat data)
                                                      (0 : Int) (3 : Int) (1 : Int)
                                                      [(120 : UInt8), (121 : UInt8), (122 : UInt8)]
                                                      ((10 : Int) +
                                                        ((1 : Int) +
                                                          at_ %
                                                            ((↑([(97 : UInt8), (98 : UInt8)] ++
                                                                      List.take
                                                                        (min (↑data.length : Int) (300 : Int)).toNat
                                                                        data).length :
                                                                Int) -
                                                              (1 : Int))))
                                                      false).at2
                                                  (3 : Int) (1 : Int) [(120 : UInt8), (121 : UInt8), (122 : UInt8)]
                                                  (sp % (400 : Int)) false).b2 =
                                              (nextR (2048 : Int) (1 : Int)
                                                  [(120 : UInt8), (121 : UInt8), (122 : UInt8)]
                                                  ([(97 : UInt8), (98 : UInt8)] ++
                                                    List.take (min (↑data.length : Int) (300 : Int)).toNat data)
                                                  (nextR (2048 : Int) (1 : Int)
                                                      [(120 : UInt8), (121 : UInt8), (122 : UInt8)]
                                                      ([(97 : UInt8), (98 : UInt8)] ++
                                                        List.take (min (↑data.length : Int) (300 : Int)).toNat data)
                                                      (0 : Int) (3 : Int) (1 : Int)
                                                      [(120 : UInt8), (121 : UInt8), (122 : UInt8)]
                                                      ((10 : Int) +
                                                        ((1 : Int) +
                                                          at_ %
                                                            ((↑([(97 : UInt8), (98 : UInt8)] ++
                                                                      List.take
                                                                        (min (↑data.length : Int) (300 : Int)).toNat
                                                                        data).length :
                                                                Int) -
                                                              (1 : Int))))
                                                      false).at2
                                                  (3 : Int) (1 : Int) [(120 : UInt8), (121 : UInt8), (122 : UInt8)]
                                                  (sp % (400 : Int)) false).b2) &&
                                          true) &&
                                      (decide
                                          ([(97 : UInt8), (98 : UInt8)] ++
                                              List.take (min (↑data.length : Int) (300 : Int)).toNat data =
                                            [(97 : UInt8), (98 : UInt8)] ++
                                              List.take (min (↑data.length : Int) (300 : Int)).toNat data) &&
                                        (decide
                                            ((nextR (2048 : Int)
                                                  (nextR (2048 : Int) (1 : Int)
                                                      [(120 : UInt8), (121 : UInt8), (122 : UInt8)]
                                                      ([(97 : UInt8), (98 : UInt8)] ++
                                                        List.take (min (↑data.length : Int) (300 : Int)).toNat data)
                                                      (0 : Int) (3 : Int) (1 : Int)
                                                      [(120 : UInt8), (121 : UInt8), (122 : UInt8)]
                                                      ((10 : Int) +
                                                        ((1 : Int) +
                                                          at_ %
                                                            ((↑([(97 : UInt8), (98 : UInt8)] ++
                                                                      List.take
                                                                        (min (↑data.length : Int) (300 : Int)).toNat
                                                                        data).length :
                                                                Int) -
                                                              (1 : Int))))
                                                      false).k2
                                                  (nextR (2048 : Int) (1 : Int)
                                                      [(120 : UInt8), (121 : UInt8), (122 : UInt8)]
                                                      ([(97 : UInt8), (98 : UInt8)] ++
                                                        List.take (min (↑data.length : Int) (300 : Int)).toNat data)
                                                      (0 : Int) (3 : Int) (1 : Int)
                                                      [(120 : UInt8), (121 : UInt8), (122 : UInt8)]
                                                      ((10 : Int) +
                                                        ((1 : Int) +
                                                          at_ %
                                                            ((↑([(97 : UInt8), (98 : UInt8)] ++
                                                                      List.take
                                                                        (min (↑data.length : Int) (300 : Int)).toNat
                                                                        data).length :
                                                                Int) -
                                                              (1 : Int))))
                                                      false).b2
                                                  ([(97 : UInt8), (98 : UInt8)] ++
                                                    List.take (min (↑data.length : Int) (300 : Int)).toNat data)
                                                  (nextR (2048 : Int) (1 : Int)
                                                      [(120 : UInt8), (121 : UInt8), (122 : UInt8)]
                                                      ([(97 : UInt8), (98 : UInt8)] ++
                                                        List.take (min (↑data.length : Int) (300 : Int)).toNat data)
                                                      (0 : Int) (3 : Int) (1 : Int)
                                                      [(120 : UInt8), (121 : UInt8), (122 : UInt8)]
                                                      ((10 : Int) +
                                                        ((1 : Int) +
                                                          at_ %
                                                            ((↑([(97 : UInt8), (98 : UInt8)] ++
                                                                      List.take
                                                                        (min (↑data.length : Int) (300 : Int)).toNat
                                                                        data).length :
                                                                Int) -
                                                              (1 : Int))))
                                                      false).at2
                                                  (3 : Int) (1 : Int) [(120 : UInt8), (121 : UInt8), (122 : UInt8)]
                                                  (sp % (400 : Int)) false).at2 =
                                              (nextR (2048 : Int) (1 : Int)
                                                  [(120 : UInt8), (121 : UInt8), (122 : UInt8)]
                                                  ([(97 : UInt8), (98 : UInt8)] ++
                                                    List.take (min (↑data.length : Int) (300 : Int)).toNat data)
                                                  (nextR (2048 : Int) (1 : Int)
                                                      [(120 : UInt8), (121 : UInt8), (122 : UInt8)]
                                                      ([(97 : UInt8), (98 : UInt8)] ++
                                                        List.take (min (↑data.length : Int) (300 : Int)).toNat data)
                                                      (0 : Int) (3 : Int) (1 : Int)
                                                      [(120 : UInt8), (121 : UInt8), (122 : UInt8)]
                                                      ((10 : Int) +
                                                        ((1 : Int) +
                                                          at_ %
                                                            ((↑([(97 : UInt8), (98 : UInt8)] ++
                                                                      List.take
                                                                        (min (↑data.length : Int) (300 : Int)).toNat
                                                                        data).length :
                                                                Int) -
                                                              (1 : Int))))
                                                      false).at2
                                                  (3 : Int) (1 : Int) [(120 : UInt8), (121 : UInt8), (122 : UInt8)]
                                                  (sp % (400 : Int)) false).at2) &&
                                          (decide ((3 : Int) = (3 : Int)) && true)))))
                                  (branch
                                    (decide
                                      ((nextR (2048 : Int)
                                            (nextR (2048 : Int) (1 : Int) [(120 : UInt8), (121 : UInt8), (122 : UInt8)]
                                                ([(97 : UInt8), (98 : UInt8)] ++
                                                  List.take (min (↑data.length : Int) (300 : Int)).toNat data)
                                                (0 : Int) (3 : Int) (1 : Int)
                                                [(120 : UInt8), (121 : UInt8), (122 : UInt8)]
                                                ((10 : Int) +
                                                  ((1 : Int) +
                                                    at_ %
                                                      ((↑([(97 : UInt8), (98 : UInt8)] ++
                                                                List.take (min (↑data.length : Int) (300 : Int)).toNat
                                                                  data).length :
                                                          Int) -
                                                        (1 : Int))))
                                                false).k2
                                            (nextR (2048 : Int) (1 : Int) [(120 : UInt8), (121 : UInt8), (122 : UInt8)]
                                                ([(97 : UInt8), (98 : UInt8)] ++
                                                  List.take (min (↑data.length : Int) (300 : Int)).toNat data)
                                                (0 : Int) (3 : Int) (1 : Int)
                                                [(120 : UInt8), (121 : UInt8), (122 : UInt8)]
                                                ((10 : Int) +
                                                  ((1 : Int) +
                                                    at_ %
                                                      ((↑([(97 : UInt8), (98 : UInt8)] ++
                                                                List.take (min (↑data.length : Int) (300 : Int)).toNat
                                                                  data).length :
                                                          Int) -
                                                        (1 : Int))))
                                                false).b2
                                            ([(97 : UInt8), (98 : UInt8)] ++
                                              List.take (min (↑data.length : Int) (300 : Int)).toNat data)
                                            (nextR (2048 : Int) (1 : Int) [(120 : UInt8), (121 : UInt8), (122 : UInt8)]
                                                ([(97 : UInt8), (98 : UInt8)] ++
                                                  List.take (min (↑data.length : Int) (300 : Int)).toNat data)
                                                (0 : Int) (3 : Int) (1 : Int)
                                                [(120 : UInt8), (121 : UInt8), (122 : UInt8)]
                                                ((10 : Int) +
                                                  ((1 : Int) +
                                                    at_ %
                                                      ((↑([(97 : UInt8), (98 : UInt8)] ++
                                                                List.take (min (↑data.length : Int) (300 : Int)).toNat
                                                                  data).length :
                                                          Int) -
                                                        (1 : Int))))
                                                false).at2
                                            (3 : Int) (1 : Int) [(120 : UInt8), (121 : UInt8), (122 : UInt8)]
                                            (sp % (400 : Int)) false).err =
                                        (nextR (2048 : Int) (1 : Int) [(120 : UInt8), (121 : UInt8), (122 : UInt8)]
                                            ([(97 : UInt8), (98 : UInt8)] ++
                                              List.take (min (↑data.length : Int) (300 : Int)).toNat data)
                                            (nextR (2048 : Int) (1 : Int) [(120 : UInt8), (121 : UInt8), (122 : UInt8)]
                                                ([(97 : UInt8), (98 : UInt8)] ++
                                                  List.take (min (↑data.length : Int) (300 : Int)).toNat data)
                                                (0 : Int) (3 : Int) (1 : Int)
                                                [(120 : UInt8), (121 : UInt8), (122 : UInt8)]
                                                ((10 : Int) +
                                                  ((1 : Int) +
                                                    at_ %
                                                      ((↑([(97 : UInt8), (98 : UInt8)] ++
                                                                List.take (min (↑data.length : Int) (300 : Int)).toNat
                                                                  data).length :
                                                          Int) -
                                                        (1 : Int))))
                                                false).at2
                                            (3 : Int) (1 : Int) [(120 : UInt8), (121 : UInt8), (122 : UInt8)]
                                            (sp % (400 : Int)) false).err))
                                    (K (Out.ret (AVal.bool true))) (K (Out.ret (AVal.bool false))))
                                  (K (Out.ret (AVal.bool false))))
                                (K (Out.ret (AVal.bool false))))))))))))))))))) := by kernel_rfl

end Go.Proofs.Ytdjidmnehfjmbaa
