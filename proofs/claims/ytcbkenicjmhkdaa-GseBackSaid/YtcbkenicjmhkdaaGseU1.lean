/-
  Walks, printed: what calls come to, as they are reckoned.
-/
import Derived.Test.YtcbkenicjmhkdaaGseS2
namespace Go.Proofs.Ytcbkenicjmhkdaa
set_option linter.unusedVariables false
set_option linter.unusedSimpArgs false
open Go.RowKit Ev

set_option maxRecDepth 100000 in
theorem w_bnil (zeros : Int) (K : Out → Prop) : (callC (TS.ctx Try.prog) 100 6 [.nils, .int .u8 zeros] ⟨0, []⟩ (fun o _ => K o)
) = (obl (inI64 zeros)
  (obl
    (decide
      ((0 : Int) ≤ zeros ∧
        zeros = zeros ∧
          zeros ≤ (9223372036854775807 : Int) ∧
            (1 : Int) * zeros ≤ (281474976710656 : Int) ∧ (1 : Nat) = (1 : Nat) ∧ (0 : Nat) < (1 : Nat)))
    (obl (decide ((0 : Nat) + zeros.toNat ≤ (repN zeros.toNat (0 : UInt8)).length))
      (obl
        (decide
          ((↑((0 : Nat) + (List.take zeros.toNat (List.drop (0 : Nat) (repN zeros.toNat (0 : UInt8)))).length) : Int) ≤
            (9223372036854775807 : Int)))
        (obl
          (decide
            (([] ++ List.take zeros.toNat (List.drop (0 : Nat) (repN zeros.toNat (0 : UInt8)))).length ≤
              (1000000000 : Nat)))
          (branch (allP ([] ++ List.take zeros.toNat (List.drop (0 : Nat) (repN zeros.toNat (0 : UInt8))))).isEmpty
            (branch
              (!decide
                  (allE ([] ++ List.take zeros.toNat (List.drop (0 : Nat) (repN zeros.toNat (0 : UInt8)))) = (0 : Int)))
              (K (Out.ret (AVal.bool false))) (K (Out.ret (AVal.bool true))))
            (branch
              (!decide
                  (allE ([] ++ List.take zeros.toNat (List.drop (0 : Nat) (repN zeros.toNat (0 : UInt8)))) = (0 : Int)))
              (K (Out.ret (AVal.bool false)))
              (obl
                (decide
                  ((0 : Nat) <
                    (allP ([] ++ List.take zeros.toNat (List.drop (0 : Nat) (repN zeros.toNat (0 : UInt8))))).length))
                (K (Out.ret (AVal.bool false))))))))))) := by kernel_rfl

set_option maxRecDepth 100000 in
theorem w_bpre (hs : List PieceR) (zeros : Int) (KK : Env → AHeap → Prop) (Q : AExit → Env → AHeap → Prop) : (wpN (TS.ctx Try.prog) 4 100 6 1 (bodyC Try.f6) (env0 [.sl 0 0 9 0 hs.length none, .int .u8 zeros] 0) ⟨1, [(0, .row 27 pieceRow hs .ro)]⟩ KK Q
) = (KK
  [((6 : Nat), AVal.nils), ((5 : Nat), AVal.str []), ((13 : Nat), AVal.bool false), ((12 : Nat), AVal.bool true),
    ((4 : Nat), AVal.bool false), ((0 : Nat), AVal.sl (0 : Nat) (0 : Nat) (9 : Nat) (0 : Nat) hs.length none),
    ((1 : Nat), AVal.int IntKind.u8 zeros)]
  (AHeap.mk (1 : Nat) [((0 : Nat), ABlk.row (27 : Nat) pieceRow hs RowMd.ro)])) := by kernel_rfl

set_option maxRecDepth 100000 in
theorem w_bstart (hs : List PieceR) (E : Env) (QQ : AExit → Env → AHeap → Prop) : (wpC (TS.ctx Try.prog) 100 6 1 (seqL (seqL (tailN 4 (bodyC Try.f6)))) E ⟨1, [(0, .row 27 pieceRow hs .ro)]⟩ QQ
) = (QQ AExit.normal (((7 : Nat), AVal.int IntKind.i64 (0 : Int)) :: E)
  (AHeap.mk (1 : Nat) [((0 : Nat), ABlk.row (27 : Nat) pieceRow hs RowMd.ro)])) := by kernel_rfl

set_option maxRecDepth 100000 in
theorem w_bround_nil (hs : List PieceR) (zeros : Int) (S : List UInt8) (i : Nat) (QQ : AExit → Env → AHeap → Prop) : (wpC (TS.ctx Try.prog) 100 6 1 (lpC (blkC (seqR (seqL (tailN 4 (bodyC Try.f6)))))) [(7, .int .i64 i), (6, .nils), (5, .str S), (1, .int .u8 zeros), (0, .sl 0 0 9 0 hs.length none)] ⟨2, [(0, .row 27 pieceRow hs .ro)]⟩ QQ
) = (branch (decide ((↑i : Int) < (↑hs.length : Int)))
  (branch (decide ((↑i : Int) < (40 : Int)))
    (obl (decide ((0 : Int) ≤ (↑i : Int) ∧ (↑i : Int) < (↑hs.length : Int)))
      (obl (decide ((0 : Nat) + (↑i : Int).toNat < hs.length))
        (obl
          (decide
            ((List.take (20 : Nat)
                      (hs.getD ((0 : Nat) + (↑i : Int).toNat)
                          (PieceR.mk false false (0 : Int) (0 : Int) (0 : Int) (0 : Int) [] [] [])).lb).length +
                  (List.take (4500 : Nat)
                      (hs.getD ((0 : Nat) + (↑i : Int).toNat)
                          (PieceR.mk false false (0 : Int) (0 : Int) (0 : Int) (0 : Int) [] [] [])).data).length +
                (List.take (20 : Nat)
                    (hs.getD ((0 : Nat) + (↑i : Int).toNat)
                        (PieceR.mk false false (0 : Int) (0 : Int) (0 : Int) (0 : Int) [] [] [])).sum).length ≤
              (9223372036854775000 : Nat)))
          (branch
            (decide
              (gErr
                  (hs.getD ((0 : Nat) + (↑i : Int).toNat)
                      (PieceR.mk false false (0 : Int) (0 : Int) (0 : Int) (0 : Int) [] [] [])).st
                  (hs.getD ((0 : Nat) + (↑i : Int).toNat)
                      (PieceR.mk false false (0 : Int) (0 : Int) (0 : Int) (0 : Int) [] [] [])).en
                  (hs.getD ((0 : Nat) + (↑i : Int).toNat)
                      (PieceR.mk false false (0 : Int) (0 : Int) (0 : Int) (0 : Int) [] [] [])).id
                  (hs.getD ((0 : Nat) + (↑i : Int).toNat)
                      (PieceR.mk false false (0 : Int) (0 : Int) (0 : Int) (0 : Int) [] [] [])).total
                  (hs.getD ((0 : Nat) + (↑i : Int).toNat)
                      (PieceR.mk false false (0 : Int) (0 : Int) (0 : Int) (0 : Int) [] [] [])).typ
                  (hs.getD ((0 : Nat) + (↑i : Int).toNat)
                      (PieceR.mk false false (0 : Int) (0 : Int) (0 : Int) (0 : Int) [] [] [])).k
                  (List.take (20 : Nat)
                    (hs.getD ((0 : Nat) + (↑i : Int).toNat)
                        (PieceR.mk false false (0 : Int) (0 : Int) (0 : Int) (0 : Int) [] [] [])).lb)
                  (List.take (4500 : Nat)
                    (hs.getD ((0 : Nat) + (↑i : Int).toNat)
                        (PieceR.mk false false (0 : Int) (0 : Int) (0 : Int) (0 : Int) [] [] [])).data)
                  (List.take (20 : Nat)
                    (hs.getD ((0 : Nat) + (↑i : Int).toNat)
                        (PieceR.mk false false (0 : Int) (0 : Int) (0 : Int) (0 : Int) [] [] [])).sum) =
                (0 : Int)))
            (obl
              (decide
                ((↑(S.length +
                        (gEnc
                            (hs.getD ((0 : Nat) + (↑i : Int).toNat)
                                (PieceR.mk false false (0 : Int) (0 : Int) (0 : Int) (0 : Int) [] [] [])).st
                            (hs.getD ((0 : Nat) + (↑i : Int).toNat)
                                (PieceR.mk false false (0 : Int) (0 : Int) (0 : Int) (0 : Int) [] [] [])).en
                            (hs.getD ((0 : Nat) + (↑i : Int).toNat)
                                (PieceR.mk false false (0 : Int) (0 : Int) (0 : Int) (0 : Int) [] [] [])).id
                            (hs.getD ((0 : Nat) + (↑i : Int).toNat)
                                (PieceR.mk false false (0 : Int) (0 : Int) (0 : Int) (0 : Int) [] [] [])).total
                            (hs.getD ((0 : Nat) + (↑i : Int).toNat)
                                (PieceR.mk false false (0 : Int) (0 : Int) (0 : Int) (0 : Int) [] [] [])).typ
                            (hs.getD ((0 : Nat) + (↑i : Int).toNat)
                                (PieceR.mk false false (0 : Int) (0 : Int) (0 : Int) (0 : Int) [] [] [])).k
                            (List.take (20 : Nat)
                              (hs.getD ((0 : Nat) + (↑i : Int).toNat)
                                  (PieceR.mk false false (0 : Int) (0 : Int) (0 : Int) (0 : Int) [] [] [])).lb)
                            (List.take (4500 : Nat)
                              (hs.getD ((0 : Nat) + (↑i : Int).toNat)
                                  (PieceR.mk false false (0 : Int) (0 : Int) (0 : Int) (0 : Int) [] [] [])).data)
                            (List.take (20 : Nat)
                              (hs.getD ((0 : Nat) + (↑i : Int).toNat)
                                  (PieceR.mk false false (0 : Int) (0 : Int) (0 : Int) (0 : Int) [] []
                                    [])).sum)).length) :
                    Int) ≤
                  (9223372036854775807 : Int)))
              (obl (decide ((0 : Int) ≤ (↑i : Int) ∧ (↑i : Int) < (↑hs.length : Int)))
                (obl (decide ((0 : Nat) + (↑i : Int).toNat < hs.length))
                  (obl (inI64 ((↑i : Int) + (1 : Int)))
                    (QQ AExit.normal
                      [((7 : Nat), AVal.int IntKind.i64 ((↑i : Int) + (1 : Int))),
                        ((23 : Nat), AVal.int IntKind.i64 ((↑i : Int) + (1 : Int))),
                        ((22 : Nat), AVal.int IntKind.i64 (↑i : Int)),
                        ((6 : Nat), AVal.sl (3 : Nat) (0 : Nat) (9 : Nat) (0 : Nat) (1 : Nat) none),
                        ((45 : Nat), AVal.sl (3 : Nat) (0 : Nat) (9 : Nat) (0 : Nat) (1 : Nat) none),
                        ((44 : Nat), AVal.sl (2 : Nat) (0 : Nat) (9 : Nat) (0 : Nat) (1 : Nat) (some (1 : Nat))),
                        ((43 : Nat),
                          AVal.agg
                            [AVal.bool
                                (hs.getD ((0 : Nat) + (↑i : Int).toNat)
                                    (PieceR.mk false false (0 : Int) (0 : Int) (0 : Int) (0 : Int) [] [] [])).st,
                              AVal.bool
                                (hs.getD ((0 : Nat) + (↑i : Int).toNat)
                                    (PieceR.mk false false (0 : Int) (0 : Int) (0 : Int) (0 : Int) [] [] [])).en,
                              AVal.int IntKind.i64
                                (hs.getD ((0 : Nat) + (↑i : Int).toNat)
                                    (PieceR.mk false false (0 : Int) (0 : Int) (0 : Int) (0 : Int) [] [] [])).id,
                              AVal.int IntKind.i64
                                (hs.getD ((0 : Nat) + (↑i : Int).toNat)
                                    (PieceR.mk false false (0 : Int) (0 : Int) (0 : Int) (0 : Int) [] [] [])).total,
                              AVal.int IntKind.i64
                                (hs.getD ((0 : Nat) + (↑i : Int).toNat)
                                    (PieceR.mk false false (0 : Int) (0 : Int) (0 : Int) (0 : Int) [] [] [])).typ,
                              AVal.int IntKind.i64
                                (hs.getD ((0 : Nat) + (↑i : Int).toNat)
                                    (PieceR.mk false false (0 : Int) (0 : Int) (0 : Int) (0 : Int) [] [] [])).k,
                              AVal.str
                                (List.take (20 : Nat)
                                  (hs.getD ((0 : Nat) + (↑i : Int).toNat)
                                      (PieceR.mk false false (0 : Int) (0 : Int) (0 : Int) (0 : Int) [] [] [])).lb),
                              AVal.str
                                (List.take (4500 : Nat)
                                  (hs.getD ((0 : Nat) + (↑i : Int).toNat)
                                      (PieceR.mk false false (0 : Int) (0 : Int) (0 : Int) (0 : Int) [] [] [])).data),
                              AVal.str
                                (List.take (20 : Nat)
                                  (hs.getD ((0 : Nat) + (↑i : Int).toNat)
                                      (PieceR.mk false false (0 : Int) (0 : Int) (0 : Int) (0 : Int) [] [] [])).sum)]),
                        ((42 : Nat),
                          AVal.agg
                            [AVal.bool
                                (hs.getD ((0 : Nat) + (↑i : Int).toNat)
                                    (PieceR.mk false false (0 : Int) (0 : Int) (0 : Int) (0 : Int) [] [] [])).st,
                              AVal.bool
                                (hs.getD ((0 : Nat) + (↑i : Int).toNat)
                                    (PieceR.mk false false (0 : Int) (0 : Int) (0 : Int) (0 : Int) [] [] [])).en,
                              AVal.int IntKind.i64
                                (hs.getD ((0 : Nat) + (↑i : Int).toNat)
                                    (PieceR.mk false false (0 : Int) (0 : Int) (0 : Int) (0 : Int) [] [] [])).id,
                              AVal.int IntKind.i64
                                (hs.getD ((0 : Nat) + (↑i : Int).toNat)
                                    (PieceR.mk false false (0 : Int) (0 : Int) (0 : Int) (0 : Int) [] [] [])).total,
                              AVal.int IntKind.i64
                                (hs.getD ((0 : Nat) + (↑i : Int).toNat)
                                    (PieceR.mk false false (0 : Int) (0 : Int) (0 : Int) (0 : Int) [] [] [])).typ,
                              AVal.int IntKind.i64
                                (hs.getD ((0 : Nat) + (↑i : Int).toNat)
                                    (PieceR.mk false false (0 : Int) (0 : Int) (0 : Int) (0 : Int) [] [] [])).k,
                              AVal.str
                                (hs.getD ((0 : Nat) + (↑i : Int).toNat)
                                    (PieceR.mk false false (0 : Int) (0 : Int) (0 : Int) (0 : Int) [] [] [])).lb,
                              AVal.str
                                (hs.getD ((0 : Nat) + (↑i : Int).toNat)
                                    (PieceR.mk false false (0 : Int) (0 : Int) (0 : Int) (0 : Int) [] [] [])).data,
                              AVal.str
                                (hs.getD ((0 : Nat) + (↑i : Int).toNat)
                                    (PieceR.mk false false (0 : Int) (0 : Int) (0 : Int) (0 : Int) [] [] [])).sum]),
                        ((41 : Nat), AVal.ptr (0 : Nat) ((0 : Nat) + (↑i : Int).toNat) (9 : Nat) (0 : Nat)),
                        ((40 : Nat), AVal.int IntKind.i64 (↑i : Int)),
                        ((39 : Nat), AVal.sl (0 : Nat) (0 : Nat) (9 : Nat) (0 : Nat) hs.length none),
                        ((38 : Nat), AVal.nils),
                        ((5 : Nat),
                          AVal.str
                            (S ++
                              gEnc
                                (hs.getD ((0 : Nat) + (↑i : Int).toNat)
                                    (PieceR.mk false false (0 : Int) (0 : Int) (0 : Int) (0 : Int) [] [] [])).st
                                (hs.getD ((0 : Nat) + (↑i : Int).toNat)
                                    (PieceR.mk false false (0 : Int) (0 : Int) (0 : Int) (0 : Int) [] [] [])).en
                                (hs.getD ((0 : Nat) + (↑i : Int).toNat)
                                    (PieceR.mk false false (0 : Int) (0 : Int) (0 : Int) (0 : Int) [] [] [])).id
                                (hs.getD ((0 : Nat) + (↑i : Int).toNat)
                                    (PieceR.mk false false (0 : Int) (0 : Int) (0 : Int) (0 : Int) [] [] [])).total
                                (hs.getD ((0 : Nat) + (↑i : Int).toNat)
                                    (PieceR.mk false false (0 : Int) (0 : Int) (0 : Int) (0 : Int) [] [] [])).typ
                                (hs.getD ((0 : Nat) + (↑i : Int).toNat)
                                    (PieceR.mk false false (0 : Int) (0 : Int) (0 : Int) (0 : Int) [] [] [])).k
                                (List.take (20 : Nat)
                                  (hs.getD ((0 : Nat) + (↑i : Int).toNat)
                                      (PieceR.mk false false (0 : Int) (0 : Int) (0 : Int) (0 : Int) [] [] [])).lb)
                                (List.take (4500 : Nat)
                                  (hs.getD ((0 : Nat) + (↑i : Int).toNat)
                                      (PieceR.mk false false (0 : Int) (0 : Int) (0 : Int) (0 : Int) [] [] [])).data)
                                (List.take (20 : Nat)
                                  (hs.getD ((0 : Nat) + (↑i : Int).toNat)
                                      (PieceR.mk false false (0 : Int) (0 : Int) (0 : Int) (0 : Int) [] [] [])).sum))),
                        ((37 : Nat),
                          AVal.str
                            (S ++
                              gEnc
                                (hs.getD ((0 : Nat) + (↑i : Int).toNat)
                                    (PieceR.mk false false (0 : Int) (0 : Int) (0 : Int) (0 : Int) [] [] [])).st
                                (hs.getD ((0 : Nat) + (↑i : Int).toNat)
                                    (PieceR.mk false false (0 : Int) (0 : Int) (0 : Int) (0 : Int) [] [] [])).en
                                (hs.getD ((0 : Nat) + (↑i : Int).toNat)
                                    (PieceR.mk false false (0 : Int) (0 : Int) (0 : Int) (0 : Int) [] [] [])).id
                                (hs.getD ((0 : Nat) + (↑i : Int).toNat)
                                    (PieceR.mk false false (0 : Int) (0 : Int) (0 : Int) (0 : Int) [] [] [])).total
                                (hs.getD ((0 : Nat) + (↑i : Int).toNat)
                                    (PieceR.mk false false (0 : Int) (0 : Int) (0 : Int) (0 : Int) [] [] [])).typ
                                (hs.getD ((0 : Nat) + (↑i : Int).toNat)
                                    (PieceR.mk false false (0 : Int) (0 : Int) (0 : Int) (0 : Int) [] [] [])).k
                                (List.take (20 : Nat)
                                  (hs.getD ((0 : Nat) + (↑i : Int).toNat)
                                      (PieceR.mk false false (0 : Int) (0 : Int) (0 : Int) (0 : Int) [] [] [])).lb)
                                (List.take (4500 : Nat)
                                  (hs.getD ((0 : Nat) + (↑i : Int).toNat)
                                      (PieceR.mk false false (0 : Int) (0 : Int) (0 : Int) (0 : Int) [] [] [])).data)
                                (List.take (20 : Nat)
                                  (hs.getD ((0 : Nat) + (↑i : Int).toNat)
                                      (PieceR.mk false false (0 : Int) (0 : Int) (0 : Int) (0 : Int) [] [] [])).sum))),
                        ((36 : Nat),
                          AVal.str
                            (gEnc
                              (hs.getD ((0 : Nat) + (↑i : Int).toNat)
                                  (PieceR.mk false false (0 : Int) (0 : Int) (0 : Int) (0 : Int) [] [] [])).st
                              (hs.getD ((0 : Nat) + (↑i : Int).toNat)
                                  (PieceR.mk false false (0 : Int) (0 : Int) (0 : Int) (0 : Int) [] [] [])).en
                              (hs.getD ((0 : Nat) + (↑i : Int).toNat)
                                  (PieceR.mk false false (0 : Int) (0 : Int) (0 : Int) (0 : Int) [] [] [])).id
                              (hs.getD ((0 : Nat) + (↑i : Int).toNat)
                                  (PieceR.mk false false (0 : Int) (0 : Int) (0 : Int) (0 : Int) [] [] [])).total
                              (hs.getD ((0 : Nat) + (↑i : Int).toNat)
                                  (PieceR.mk false false (0 : Int) (0 : Int) (0 : Int) (0 : Int) [] [] [])).typ
                              (hs.getD ((0 : Nat) + (↑i : Int).toNat)
                                  (PieceR.mk false false (0 : Int) (0 : Int) (0 : Int) (0 : Int) [] [] [])).k
                              (List.take (20 : Nat)
                                (hs.getD ((0 : Nat) + (↑i : Int).toNat)
                                    (PieceR.mk false false (0 : Int) (0 : Int) (0 : Int) (0 : Int) [] [] [])).lb)
                              (List.take (4500 : Nat)
                                (hs.getD ((0 : Nat) + (↑i : Int).toNat)
                                    (PieceR.mk false false (0 : Int) (0 : Int) (0 : Int) (0 : Int) [] [] [])).data)
                              (List.take (20 : Nat)
                                (hs.getD ((0 : Nat) + (↑i : Int).toNat)
                                    (PieceR.mk false false (0 : Int) (0 : Int) (0 : Int) (0 : Int) [] [] [])).sum))),
                        ((35 : Nat), AVal.str S),
                        ((34 : Nat),
                          AVal.bool
                            (decide
                              (gErr
                                  (hs.getD ((0 : Nat) + (↑i : Int).toNat)
                                      (PieceR.mk false false (0 : Int) (0 : Int) (0 : Int) (0 : Int) [] [] [])).st
                                  (hs.getD ((0 : Nat) + (↑i : Int).toNat)
                                      (PieceR.mk false false (0 : Int) (0 : Int) (0 : Int) (0 : Int) [] [] [])).en
                                  (hs.getD ((0 : Nat) + (↑i : Int).toNat)
                                      (PieceR.mk false false (0 : Int) (0 : Int) (0 : Int) (0 : Int) [] [] [])).id
                                  (hs.getD ((0 : Nat) + (↑i : Int).toNat)
                                      (PieceR.mk false false (0 : Int) (0 : Int) (0 : Int) (0 : Int) [] [] [])).total
                                  (hs.getD ((0 : Nat) + (↑i : Int).toNat)
                                      (PieceR.mk false false (0 : Int) (0 : Int) (0 : Int) (0 : Int) [] [] [])).typ
                                  (hs.getD ((0 : Nat) + (↑i : Int).toNat)
                                      (PieceR.mk false false (0 : Int) (0 : Int) (0 : Int) (0 : Int) [] [] [])).k
                                  (List.take (20 : Nat)
                                    (hs.getD ((0 : Nat) + (↑i : Int).toNat)
                                        (PieceR.mk false false (0 : Int) (0 : Int) (0 : Int) (0 : Int) [] [] [])).lb)
                                  (List.take (4500 : Nat)
                                    (hs.getD ((0 : Nat) + (↑i : Int).toNat)
                                        (PieceR.mk false false (0 : Int) (0 : Int) (0 : Int) (0 : Int) [] [] [])).data)
                                  (List.take (20 : Nat)
                                    (hs.getD ((0 : Nat) + (↑i : Int).toNat)
                                        (PieceR.mk false false (0 : Int) (0 : Int) (0 : Int) (0 : Int) [] [] [])).sum) =
                                (0 : Int)))),
                        ((33 : Nat),
                          AVal.int IntKind.i64
                            (gErr
                              (hs.getD ((0 : Nat) + (↑i : Int).toNat)
                                  (PieceR.mk false false (0 : Int) (0 : Int) (0 : Int) (0 : Int) [] [] [])).st
                              (hs.getD ((0 : Nat) + (↑i : Int).toNat)
                                  (PieceR.mk false false (0 : Int) (0 : Int) (0 : Int) (0 : Int) [] [] [])).en
                              (hs.getD ((0 : Nat) + (↑i : Int).toNat)
                                  (PieceR.mk false false (0 : Int) (0 : Int) (0 : Int) (0 : Int) [] [] [])).id
                              (hs.getD ((0 : Nat) + (↑i : Int).toNat)
                                  (PieceR.mk false false (0 : Int) (0 : Int) (0 : Int) (0 : Int) [] [] [])).total
                              (hs.getD ((0 : Nat) + (↑i : Int).toNat)
                                  (PieceR.mk false false (0 : Int) (0 : Int) (0 : Int) (0 : Int) [] [] [])).typ
                              (hs.getD ((0 : Nat) + (↑i : Int).toNat)
                                  (PieceR.mk false false (0 : Int) (0 : Int) (0 : Int) (0 : Int) [] [] [])).k
                              (List.take (20 : Nat)
                                (hs.getD ((0 : Nat) + (↑i : Int).toNat)
                                    (PieceR.mk false false (0 : Int) (0 : Int) (0 : Int) (0 : Int) [] [] [])).lb)
                              (List.take (4500 : Nat)
                                (hs.getD ((0 : Nat) + (↑i : Int).toNat)
                                    (PieceR.mk false false (0 : Int) (0 : Int) (0 : Int) (0 : Int) [] [] [])).data)
                              (List.take (20 : Nat)
                                (hs.getD ((0 : Nat) + (↑i : Int).toNat)
                                    (PieceR.mk false false (0 : Int) (0 : Int) (0 : Int) (0 : Int) [] [] [])).sum))),
                        ((9 : Nat),
                          AVal.int IntKind.i64
                            (gErr
                              (hs.getD ((0 : Nat) + (↑i : Int).toNat)
                                  (PieceR.mk false false (0 : Int) (0 : Int) (0 : Int) (0 : Int) [] [] [])).st
                              (hs.getD ((0 : Nat) + (↑i : Int).toNat)
                                  (PieceR.mk false false (0 : Int) (0 : Int) (0 : Int) (0 : Int) [] [] [])).en
                              (hs.getD ((0 : Nat) + (↑i : Int).toNat)
                                  (PieceR.mk false false (0 : Int) (0 : Int) (0 : Int) (0 : Int) [] [] [])).id
                              (hs.getD ((0 : Nat) + (↑i : Int).toNat)
                                  (PieceR.mk false false (0 : Int) (0 : Int) (0 : Int) (0 : Int) [] [] [])).total
                              (hs.getD ((0 : Nat) + (↑i : Int).toNat)
                                  (PieceR.mk false false (0 : Int) (0 : Int) (0 : Int) (0 : Int) [] [] [])).typ
                              (hs.getD ((0 : Nat) + (↑i : Int).toNat)
                                  (PieceR.mk false false (0 : Int) (0 : Int) (0 : Int) (0 : Int) [] [] [])).k
                              (List.take (20 : Nat)
                                (hs.getD ((0 : Nat) + (↑i : Int).toNat)
                                    (PieceR.mk false false (0 : Int) (0 : Int) (0 : Int) (0 : Int) [] [] [])).lb)
                              (List.take (4500 : Nat)
                                (hs.getD ((0 : Nat) + (↑i : Int).toNat)
                                    (PieceR.mk false false (0 : Int) (0 : Int) (0 : Int) (0 : Int) [] [] [])).data)
                              (List.take (20 : Nat)
                                (hs.getD ((0 : Nat) + (↑i : Int).toNat)
                                    (PieceR.mk false false (0 : Int) (0 : Int) (0 : Int) (0 : Int) [] [] [])).sum))),
                        ((8 : Nat),
                          AVal.str
                            (gEnc
                              (hs.getD ((0 : Nat) + (↑i : Int).toNat)
                                  (PieceR.mk false false (0 : Int) (0 : Int) (0 : Int) (0 : Int) [] [] [])).st
                              (hs.getD ((0 : Nat) + (↑i : Int).toNat)
                                  (PieceR.mk false false (0 : Int) (0 : Int) (0 : Int) (0 : Int) [] [] [])).en
                              (hs.getD ((0 : Nat) + (↑i : Int).toNat)
                                  (PieceR.mk false false (0 : Int) (0 : Int) (0 : Int) (0 : Int) [] [] [])).id
                              (hs.getD ((0 : Nat) + (↑i : Int).toNat)
                                  (PieceR.mk false false (0 : Int) (0 : Int) (0 : Int) (0 : Int) [] [] [])).total
                              (hs.getD ((0 : Nat) + (↑i : Int).toNat)
                                  (PieceR.mk false false (0 : Int) (0 : Int) (0 : Int) (0 : Int) [] [] [])).typ
                              (hs.getD ((0 : Nat) + (↑i : Int).toNat)
                                  (PieceR.mk false false (0 : Int) (0 : Int) (0 : Int) (0 : Int) [] [] [])).k
                              (List.take (20 : Nat)
                                (hs.getD ((0 : Nat) + (↑i : Int).toNat)
                                    (PieceR.mk false false (0 : Int) (0 : Int) (0 : Int) (0 : Int) [] [] [])).lb)
                              (List.take (4500 : Nat)
                                (hs.getD ((0 : Nat) + (↑i : Int).toNat)
                                    (PieceR.mk false false (0 : Int) (0 : Int) (0 : Int) (0 : Int) [] [] [])).data)
                              (List.take (20 : Nat)
                                (hs.getD ((0 : Nat) + (↑i : Int).toNat)
                                    (PieceR.mk false false (0 : Int) (0 : Int) (0 : Int) (0 : Int) [] [] [])).sum))),
                        ((32 : Nat),
                          AVal.int IntKind.i64
                            (gErr
                              (hs.getD ((0 : Nat) + (↑i : Int).toNat)
                                  (PieceR.mk false false (0 : Int) (0 : Int) (0 : Int) (0 : Int) [] [] [])).st
                              (hs.getD ((0 : Nat) + (↑i : Int).toNat)
                                  (PieceR.mk false false (0 : Int) (0 : Int) (0 : Int) (0 : Int) [] [] [])).en
                              (hs.getD ((0 : Nat) + (↑i : Int).toNat)
                                  (PieceR.mk false false (0 : Int) (0 : Int) (0 : Int) (0 : Int) [] [] [])).id
                              (hs.getD ((0 : Nat) + (↑i : Int).toNat)
                                  (PieceR.mk false false (0 : Int) (0 : Int) (0 : Int) (0 : Int) [] [] [])).total
                              (hs.getD ((0 : Nat) + (↑i : Int).toNat)
                                  (PieceR.mk false false (0 : Int) (0 : Int) (0 : Int) (0 : Int) [] [] [])).typ
                              (hs.getD ((0 : Nat) + (↑i : Int).toNat)
                                  (PieceR.mk false false (0 : Int) (0 : Int) (0 : Int) (0 : Int) [] [] [])).k
                              (List.take (20 : Nat)
                                (hs.getD ((0 : Nat) + (↑i : Int).toNat)
                                    (PieceR.mk false false (0 : Int) (0 : Int) (0 : Int) (0 : Int) [] [] [])).lb)
                              (List.take (4500 : Nat)
                                (hs.getD ((0 : Nat) + (↑i : Int).toNat)
                                    (PieceR.mk false false (0 : Int) (0 : Int) (0 : Int) (0 : Int) [] [] [])).data)
                              (List.take (20 : Nat)
                                (hs.getD ((0 : Nat) + (↑i : Int).toNat)
                                    (PieceR.mk false false (0 : Int) (0 : Int) (0 : Int) (0 : Int) [] [] [])).sum))),
                        ((31 : Nat),
                          AVal.str
                            (gEnc
                              (hs.getD ((0 : Nat) + (↑i : Int).toNat)
                                  (PieceR.mk false false (0 : Int) (0 : Int) (0 : Int) (0 : Int) [] [] [])).st
                              (hs.getD ((0 : Nat) + (↑i : Int).toNat)
                                  (PieceR.mk false false (0 : Int) (0 : Int) (0 : Int) (0 : Int) [] [] [])).en
                              (hs.getD ((0 : Nat) + (↑i : Int).toNat)
                                  (PieceR.mk false false (0 : Int) (0 : Int) (0 : Int) (0 : Int) [] [] [])).id
                              (hs.getD ((0 : Nat) + (↑i : Int).toNat)
                                  (PieceR.mk false false (0 : Int) (0 : Int) (0 : Int) (0 : Int) [] [] [])).total
                              (hs.getD ((0 : Nat) + (↑i : Int).toNat)
                                  (PieceR.mk false false (0 : Int) (0 : Int) (0 : Int) (0 : Int) [] [] [])).typ
                              (hs.getD ((0 : Nat) + (↑i : Int).toNat)
                                  (PieceR.mk false false (0 : Int) (0 : Int) (0 : Int) (0 : Int) [] [] [])).k
                              (List.take (20 : Nat)
                                (hs.getD ((0 : Nat) + (↑i : Int).toNat)
                                    (PieceR.mk false false (0 : Int) (0 : Int) (0 : Int) (0 : Int) [] [] [])).lb)
                              (List.take (4500 : Nat)
                                (hs.getD ((0 : Nat) + (↑i : Int).toNat)
                                    (PieceR.mk false false (0 : Int) (0 : Int) (0 : Int) (0 : Int) [] [] [])).data)
                              (List.take (20 : Nat)
                                (hs.getD ((0 : Nat) + (↑i : Int).toNat)
                                    (PieceR.mk false false (0 : Int) (0 : Int) (0 : Int) (0 : Int) [] [] [])).sum))),
                        ((24 : Nat),
                          AVal.tup
                            [AVal.str
                                (gEnc
                                  (hs.getD ((0 : Nat) + (↑i : Int).toNat)
                                      (PieceR.mk false false (0 : Int) (0 : Int) (0 : Int) (0 : Int) [] [] [])).st
                                  (hs.getD ((0 : Nat) + (↑i : Int).toNat)
                                      (PieceR.mk false false (0 : Int) (0 : Int) (0 : Int) (0 : Int) [] [] [])).en
                                  (hs.getD ((0 : Nat) + (↑i : Int).toNat)
                                      (PieceR.mk false false (0 : Int) (0 : Int) (0 : Int) (0 : Int) [] [] [])).id
                                  (hs.getD ((0 : Nat) + (↑i : Int).toNat)
                                      (PieceR.mk false false (0 : Int) (0 : Int) (0 : Int) (0 : Int) [] [] [])).total
                                  (hs.getD ((0 : Nat) + (↑i : Int).toNat)
                                      (PieceR.mk false false (0 : Int) (0 : Int) (0 : Int) (0 : Int) [] [] [])).typ
                                  (hs.getD ((0 : Nat) + (↑i : Int).toNat)
                                      (PieceR.mk false false (0 : Int) (0 : Int) (0 : Int) (0 : Int) [] [] [])).k
                                  (List.take (20 : Nat)
                                    (hs.getD ((0 : Nat) + (↑i : Int).toNat)
                                        (PieceR.mk false false (0 : Int) (0 : Int) (0 : Int) (0 : Int) [] [] [])).lb)
                                  (List.take (4500 : Nat)
                                    (hs.getD ((0 : Nat) + (↑i : Int).toNat)
                                        (PieceR.mk false false (0 : Int) (0 : Int) (0 : Int) (0 : Int) [] [] [])).data)
                                  (List.take (20 : Nat)
                                    (hs.getD ((0 : Nat) + (↑i : Int).toNat)
                                        (PieceR.mk false false (0 : Int) (0 : Int) (0 : Int) (0 : Int) [] [] [])).sum)),
                              AVal.int IntKind.i64
                                (gErr
                                  (hs.getD ((0 : Nat) + (↑i : Int).toNat)
                                      (PieceR.mk false false (0 : Int) (0 : Int) (0 : Int) (0 : Int) [] [] [])).st
                                  (hs.getD ((0 : Nat) + (↑i : Int).toNat)
                                      (PieceR.mk false false (0 : Int) (0 : Int) (0 : Int) (0 : Int) [] [] [])).en
                                  (hs.getD ((0 : Nat) + (↑i : Int).toNat)
                                      (PieceR.mk false false (0 : Int) (0 : Int) (0 : Int) (0 : Int) [] [] [])).id
                                  (hs.getD ((0 : Nat) + (↑i : Int).toNat)
                                      (PieceR.mk false false (0 : Int) (0 : Int) (0 : Int) (0 : Int) [] [] [])).total
                                  (hs.getD ((0 : Nat) + (↑i : Int).toNat)
                                      (PieceR.mk false false (0 : Int) (0 : Int) (0 : Int) (0 : Int) [] [] [])).typ
                                  (hs.getD ((0 : Nat) + (↑i : Int).toNat)
                                      (PieceR.mk false false (0 : Int) (0 : Int) (0 : Int) (0 : Int) [] [] [])).k
                                  (List.take (20 : Nat)
                                    (hs.getD ((0 : Nat) + (↑i : Int).toNat)
                                        (PieceR.mk false false (0 : Int) (0 : Int) (0 : Int) (0 : Int) [] [] [])).lb)
                                  (List.take (4500 : Nat)
                                    (hs.getD ((0 : Nat) + (↑i : Int).toNat)
                                        (PieceR.mk false false (0 : Int) (0 : Int) (0 : Int) (0 : Int) [] [] [])).data)
                                  (List.take (20 : Nat)
                                    (hs.getD ((0 : Nat) + (↑i : Int).toNat)
                                        (PieceR.mk false false (0 : Int) (0 : Int) (0 : Int) (0 : Int) [] []
                                          [])).sum))]),
                        ((30 : Nat),
                          AVal.tup
                            [AVal.str
                                (gEnc
                                  (hs.getD ((0 : Nat) + (↑i : Int).toNat)
                                      (PieceR.mk false false (0 : Int) (0 : Int) (0 : Int) (0 : Int) [] [] [])).st
                                  (hs.getD ((0 : Nat) + (↑i : Int).toNat)
                                      (PieceR.mk false false (0 : Int) (0 : Int) (0 : Int) (0 : Int) [] [] [])).en
                                  (hs.getD ((0 : Nat) + (↑i : Int).toNat)
                                      (PieceR.mk false false (0 : Int) (0 : Int) (0 : Int) (0 : Int) [] [] [])).id
                                  (hs.getD ((0 : Nat) + (↑i : Int).toNat)
                                      (PieceR.mk false false (0 : Int) (0 : Int) (0 : Int) (0 : Int) [] [] [])).total
                                  (hs.getD ((0 : Nat) + (↑i : Int).toNat)
                                      (PieceR.mk false false (0 : Int) (0 : Int) (0 : Int) (0 : Int) [] [] [])).typ
                                  (hs.getD ((0 : Nat) + (↑i : Int).toNat)
                                      (PieceR.mk false false (0 : Int) (0 : Int) (0 : Int) (0 : Int) [] [] [])).k
                                  (List.take (20 : Nat)
                                    (hs.getD ((0 : Nat) + (↑i : Int).toNat)
                                        (PieceR.mk false false (0 : Int) (0 : Int) (0 : Int) (0 : Int) [] [] [])).lb)
                                  (List.take (4500 : Nat)
                                    (hs.getD ((0 : Nat) + (↑i : Int).toNat)
                                        (PieceR.mk false false (0 : Int) (0 : Int) (0 : Int) (0 : Int) [] [] [])).data)
                                  (List.take (20 : Nat)
                                    (hs.getD ((0 : Nat) + (↑i : Int).toNat)
                                        (PieceR.mk false false (0 : Int) (0 : Int) (0 : Int) (0 : Int) [] [] [])).sum)),
                              AVal.int IntKind.i64
                                (gErr
                                  (hs.getD ((0 : Nat) + (↑i : Int).toNat)
                                      (PieceR.mk false false (0 : Int) (0 : Int) (0 : Int) (0 : Int) [] [] [])).st
                                  (hs.getD ((0 : Nat) + (↑i : Int).toNat)
                                      (PieceR.mk false false (0 : Int) (0 : Int) (0 : Int) (0 : Int) [] [] [])).en
                                  (hs.getD ((0 : Nat) + (↑i : Int).toNat)
                                      (PieceR.mk false false (0 : Int) (0 : Int) (0 : Int) (0 : Int) [] [] [])).id
                                  (hs.getD ((0 : Nat) + (↑i : Int).toNat)
                                      (PieceR.mk false false (0 : Int) (0 : Int) (0 : Int) (0 : Int) [] [] [])).total
                                  (hs.getD ((0 : Nat) + (↑i : Int).toNat)
                                      (PieceR.mk false false (0 : Int) (0 : Int) (0 : Int) (0 : Int) [] [] [])).typ
                                  (hs.getD ((0 : Nat) + (↑i : Int).toNat)
                                      (PieceR.mk false false (0 : Int) (0 : Int) (0 : Int) (0 : Int) [] [] [])).k
                                  (List.take (20 : Nat)
                                    (hs.getD ((0 : Nat) + (↑i : Int).toNat)
                                        (PieceR.mk false false (0 : Int) (0 : Int) (0 : Int) (0 : Int) [] [] [])).lb)
                                  (List.take (4500 : Nat)
                                    (hs.getD ((0 : Nat) + (↑i : Int).toNat)
                                        (PieceR.mk false false (0 : Int) (0 : Int) (0 : Int) (0 : Int) [] [] [])).data)
                                  (List.take (20 : Nat)
                                    (hs.getD ((0 : Nat) + (↑i : Int).toNat)
                                        (PieceR.mk false false (0 : Int) (0 : Int) (0 : Int) (0 : Int) [] []
                                          [])).sum))]),
                        ((29 : Nat),
                          AVal.agg
                            [AVal.bool
                                (hs.getD ((0 : Nat) + (↑i : Int).toNat)
                                    (PieceR.mk false false (0 : Int) (0 : Int) (0 : Int) (0 : Int) [] [] [])).st,
                              AVal.bool
                                (hs.getD ((0 : Nat) + (↑i : Int).toNat)
                                    (PieceR.mk false false (0 : Int) (0 : Int) (0 : Int) (0 : Int) [] [] [])).en,
                              AVal.int IntKind.i64
                                (hs.getD ((0 : Nat) + (↑i : Int).toNat)
                                    (PieceR.mk false false (0 : Int) (0 : Int) (0 : Int) (0 : Int) [] [] [])).id,
                              AVal.int IntKind.i64
                                (hs.getD ((0 : Nat) + (↑i : Int).toNat)
                                    (PieceR.mk false false (0 : Int) (0 : Int) (0 : Int) (0 : Int) [] [] [])).total,
                              AVal.int IntKind.i64
                                (hs.getD ((0 : Nat) + (↑i : Int).toNat)
                                    (PieceR.mk false false (0 : Int) (0 : Int) (0 : Int) (0 : Int) [] [] [])).typ,
                              AVal.int IntKind.i64
                                (hs.getD ((0 : Nat) + (↑i : Int).toNat)
                                    (PieceR.mk false false (0 : Int) (0 : Int) (0 : Int) (0 : Int) [] [] [])).k,
                              AVal.str
                                (List.take (20 : Nat)
                                  (hs.getD ((0 : Nat) + (↑i : Int).toNat)
                                      (PieceR.mk false false (0 : Int) (0 : Int) (0 : Int) (0 : Int) [] [] [])).lb),
                              AVal.str
                                (List.take (4500 : Nat)
                                  (hs.getD ((0 : Nat) + (↑i : Int).toNat)
                                      (PieceR.mk false false (0 : Int) (0 : Int) (0 : Int) (0 : Int) [] [] [])).data),
                              AVal.str
                                (List.take (20 : Nat)
                                  (hs.getD ((0 : Nat) + (↑i : Int).toNat)
                                      (PieceR.mk false false (0 : Int) (0 : Int) (0 : Int) (0 : Int) [] [] [])).sum)]),
                        ((28 : Nat),
                          AVal.agg
                            [AVal.bool
                                (hs.getD ((0 : Nat) + (↑i : Int).toNat)
                                    (PieceR.mk false false (0 : Int) (0 : Int) (0 : Int) (0 : Int) [] [] [])).st,
                              AVal.bool
                                (hs.getD ((0 : Nat) + (↑i : Int).toNat)
                                    (PieceR.mk false false (0 : Int) (0 : Int) (0 : Int) (0 : Int) [] [] [])).en,
                              AVal.int IntKind.i64
                                (hs.getD ((0 : Nat) + (↑i : Int).toNat)
                                    (PieceR.mk false false (0 : Int) (0 : Int) (0 : Int) (0 : Int) [] [] [])).id,
                              AVal.int IntKind.i64
                                (hs.getD ((0 : Nat) + (↑i : Int).toNat)
                                    (PieceR.mk false false (0 : Int) (0 : Int) (0 : Int) (0 : Int) [] [] [])).total,
                              AVal.int IntKind.i64
                                (hs.getD ((0 : Nat) + (↑i : Int).toNat)
                                    (PieceR.mk false false (0 : Int) (0 : Int) (0 : Int) (0 : Int) [] [] [])).typ,
                              AVal.int IntKind.i64
                                (hs.getD ((0 : Nat) + (↑i : Int).toNat)
                                    (PieceR.mk false false (0 : Int) (0 : Int) (0 : Int) (0 : Int) [] [] [])).k,
                              AVal.str
                                (hs.getD ((0 : Nat) + (↑i : Int).toNat)
                                    (PieceR.mk false false (0 : Int) (0 : Int) (0 : Int) (0 : Int) [] [] [])).lb,
                              AVal.str
                                (hs.getD ((0 : Nat) + (↑i : Int).toNat)
                                    (PieceR.mk false false (0 : Int) (0 : Int) (0 : Int) (0 : Int) [] [] [])).data,
                              AVal.str
                                (hs.getD ((0 : Nat) + (↑i : Int).toNat)
                                    (PieceR.mk false false (0 : Int) (0 : Int) (0 : Int) (0 : Int) [] [] [])).sum]),
                        ((27 : Nat), AVal.ptr (0 : Nat) ((0 : Nat) + (↑i : Int).toNat) (9 : Nat) (0 : Nat)),
                        ((26 : Nat), AVal.int IntKind.i64 (↑i : Int)),
                        ((25 : Nat), AVal.sl (0 : Nat) (0 : Nat) (9 : Nat) (0 : Nat) hs.length none),
                        ((21 : Nat), AVal.bool (decide ((↑i : Int) < (40 : Int)))),
                        ((20 : Nat), AVal.bool (decide ((↑i : Int) < (40 : Int)))), ((18 : Nat), AVal.bool true),
                        ((19 : Nat), AVal.int IntKind.i64 (↑i : Int)), ((18 : Nat), AVal.bool true),
                        ((18 : Nat), AVal.bool (decide ((↑i : Int) < (↑hs.length : Int)))),
                        ((17 : Nat), AVal.bool (decide ((↑i : Int) < (↑hs.length : Int)))),
                        ((16 : Nat), AVal.int IntKind.i64 (↑hs.length : Int)),
                        ((15 : Nat), AVal.sl (0 : Nat) (0 : Nat) (9 : Nat) (0 : Nat) hs.length none),
                        ((14 : Nat), AVal.int IntKind.i64 (↑i : Int)), ((7 : Nat), AVal.int IntKind.i64 (↑i : Int)),
                        ((6 : Nat), AVal.nils), ((5 : Nat), AVal.str S), ((1 : Nat), AVal.int IntKind.u8 zeros),
                        ((0 : Nat), AVal.sl (0 : Nat) (0 : Nat) (9 : Nat) (0 : Nat) hs.length none)]
                      (AHeap.mk (4 : Nat)
                        [((3 : Nat),
                            ABlk.row (27 : Nat) pieceRow
                              [PieceR.mk
                                  (hs.getD ((0 : Nat) + (↑i : Int).toNat)
                                      (PieceR.mk false false (0 : Int) (0 : Int) (0 : Int) (0 : Int) [] [] [])).st
                                  (hs.getD ((0 : Nat) + (↑i : Int).toNat)
                                      (PieceR.mk false false (0 : Int) (0 : Int) (0 : Int) (0 : Int) [] [] [])).en
                                  (hs.getD ((0 : Nat) + (↑i : Int).toNat)
                                      (PieceR.mk false false (0 : Int) (0 : Int) (0 : Int) (0 : Int) [] [] [])).id
                                  (hs.getD ((0 : Nat) + (↑i : Int).toNat)
                                      (PieceR.mk false false (0 : Int) (0 : Int) (0 : Int) (0 : Int) [] [] [])).total
                                  (hs.getD ((0 : Nat) + (↑i : Int).toNat)
                                      (PieceR.mk false false (0 : Int) (0 : Int) (0 : Int) (0 : Int) [] [] [])).typ
                                  (hs.getD ((0 : Nat) + (↑i : Int).toNat)
                                      (PieceR.mk false false (0 : Int) (0 : Int) (0 : Int) (0 : Int) [] [] [])).k
                                  (List.take (20 : Nat)
                                    (hs.getD ((0 : Nat) + (↑i : Int).toNat)
                                        (PieceR.mk false false (0 : Int) (0 : Int) (0 : Int) (0 : Int) [] [] [])).lb)
                                  (List.take (4500 : Nat)
                                    (hs.getD ((0 : Nat) + (↑i : Int).toNat)
                                        (PieceR.mk false false (0 : Int) (0 : Int) (0 : Int) (0 : Int) [] [] [])).data)
                                  (List.take (20 : Nat)
                                    (hs.getD ((0 : Nat) + (↑i : Int).toNat)
                                        (PieceR.mk false false (0 : Int) (0 : Int) (0 : Int) (0 : Int) [] [] [])).sum)]
                              RowMd.plain),
                          ((2 : Nat),
                            ABlk.cells (27 : Nat)
                              [AVal.bool
                                  (hs.getD ((0 : Nat) + (↑i : Int).toNat)
                                      (PieceR.mk false false (0 : Int) (0 : Int) (0 : Int) (0 : Int) [] [] [])).st,
                                AVal.bool
                                  (hs.getD ((0 : Nat) + (↑i : Int).toNat)
                                      (PieceR.mk false false (0 : Int) (0 : Int) (0 : Int) (0 : Int) [] [] [])).en,
                                AVal.int IntKind.i64
                                  (hs.getD ((0 : Nat) + (↑i : Int).toNat)
                                      (PieceR.mk false false (0 : Int) (0 : Int) (0 : Int) (0 : Int) [] [] [])).id,
                                AVal.int IntKind.i64
                                  (hs.getD ((0 : Nat) + (↑i : Int).toNat)
                                      (PieceR.mk false false (0 : Int) (0 : Int) (0 : Int) (0 : Int) [] [] [])).total,
                                AVal.int IntKind.i64
                                  (hs.getD ((0 : Nat) + (↑i : Int).toNat)
                                      (PieceR.mk false false (0 : Int) (0 : Int) (0 : Int) (0 : Int) [] [] [])).typ,
                                AVal.int IntKind.i64
                                  (hs.getD ((0 : Nat) + (↑i : Int).toNat)
                                      (PieceR.mk false false (0 : Int) (0 : Int) (0 : Int) (0 : Int) [] [] [])).k,
                                AVal.str
                                  (List.take (20 : Nat)
                                    (hs.getD ((0 : Nat) + (↑i : Int).toNat)
                                        (PieceR.mk false false (0 : Int) (0 : Int) (0 : Int) (0 : Int) [] [] [])).lb),
                                AVal.str
                                  (List.take (4500 : Nat)
                                    (hs.getD ((0 : Nat) + (↑i : Int).toNat)
                                        (PieceR.mk false false (0 : Int) (0 : Int) (0 : Int) (0 : Int) [] [] [])).data),
                                AVal.str
                                  (List.take (20 : Nat)
                                    (hs.getD ((0 : Nat) + (↑i : Int).toNat)
                                        (PieceR.mk false false (0 : Int) (0 : Int) (0 : Int) (0 : Int) [] []
                                          [])).sum)]),
                          ((0 : Nat), ABlk.row (27 : Nat) pieceRow hs RowMd.ro)]))))))
            (branch
              (!decide
                  (gEnc
                      (hs.getD ((0 : Nat) + (↑i : Int).toNat)
                          (PieceR.mk false false (0 : Int) (0 : Int) (0 : Int) (0 : Int) [] [] [])).st
                      (hs.getD ((0 : Nat) + (↑i : Int).toNat)
                          (PieceR.mk false false (0 : Int) (0 : Int) (0 : Int) (0 : Int) [] [] [])).en
                      (hs.getD ((0 : Nat) + (↑i : Int).toNat)
                          (PieceR.mk false false (0 : Int) (0 : Int) (0 : Int) (0 : Int) [] [] [])).id
                      (hs.getD ((0 : Nat) + (↑i : Int).toNat)
                          (PieceR.mk false false (0 : Int) (0 : Int) (0 : Int) (0 : Int) [] [] [])).total
                      (hs.getD ((0 : Nat) + (↑i : Int).toNat)
                          (PieceR.mk false false (0 : Int) (0 : Int) (0 : Int) (0 : Int) [] [] [])).typ
                      (hs.getD ((0 : Nat) + (↑i : Int).toNat)
                          (PieceR.mk false false (0 : Int) (0 : Int) (0 : Int) (0 : Int) [] [] [])).k
                      (List.take (20 : Nat)
                        (hs.getD ((0 : Nat) + (↑i : Int).toNat)
                            (PieceR.mk false false (0 : Int) (0 : Int) (0 : Int) (0 : Int) [] [] [])).lb)
                      (List.take (4500 : Nat)
                        (hs.getD ((0 : Nat) + (↑i : Int).toNat)
                            (PieceR.mk false false (0 : Int) (0 : Int) (0 : Int) (0 : Int) [] [] [])).data)
                      (List.take (20 : Nat)
                        (hs.getD ((0 : Nat) + (↑i : Int).toNat)
                            (PieceR.mk false false (0 : Int) (0 : Int) (0 : Int) (0 : Int) [] [] [])).sum) =
                    []))
              (QQ AExit.ret
                [((4 : Nat), AVal.bool false), ((57 : Nat), AVal.bool true), ((56 : Nat), AVal.tup []),
                  ((48 : Nat), AVal.bool true), ((55 : Nat), AVal.tup []), ((48 : Nat), AVal.bool true),
                  ((54 : Nat), AVal.tup []), ((48 : Nat), AVal.bool true), ((53 : Nat), AVal.tup []),
                  ((48 : Nat), AVal.bool true), ((52 : Nat), AVal.tup []), ((48 : Nat), AVal.bool true),
                  ((51 : Nat), AVal.tup []), ((48 : Nat), AVal.bool true), ((50 : Nat), AVal.tup []),
                  ((48 : Nat), AVal.bool true), ((49 : Nat), AVal.tup []), ((48 : Nat), AVal.bool true),
                  ((48 : Nat),
                    AVal.bool
                      !decide
                          (gEnc
                              (hs.getD ((0 : Nat) + (↑i : Int).toNat)
                                  (PieceR.mk false false (0 : Int) (0 : Int) (0 : Int) (0 : Int) [] [] [])).st
                              (hs.getD ((0 : Nat) + (↑i : Int).toNat)
                                  (PieceR.mk false false (0 : Int) (0 : Int) (0 : Int) (0 : Int) [] [] [])).en
                              (hs.getD ((0 : Nat) + (↑i : Int).toNat)
                                  (PieceR.mk false false (0 : Int) (0 : Int) (0 : Int) (0 : Int) [] [] [])).id
                              (hs.getD ((0 : Nat) + (↑i : Int).toNat)
                                  (PieceR.mk false false (0 : Int) (0 : Int) (0 : Int) (0 : Int) [] [] [])).total
                              (hs.getD ((0 : Nat) + (↑i : Int).toNat)
                                  (PieceR.mk false false (0 : Int) (0 : Int) (0 : Int) (0 : Int) [] [] [])).typ
                              (hs.getD ((0 : Nat) + (↑i : Int).toNat)
                                  (PieceR.mk false false (0 : Int) (0 : Int) (0 : Int) (0 : Int) [] [] [])).k
                              (List.take (20 : Nat)
                                (hs.getD ((0 : Nat) + (↑i : Int).toNat)
                                    (PieceR.mk false false (0 : Int) (0 : Int) (0 : Int) (0 : Int) [] [] [])).lb)
                              (List.take (4500 : Nat)
                                (hs.getD ((0 : Nat) + (↑i : Int).toNat)
                                    (PieceR.mk false false (0 : Int) (0 : Int) (0 : Int) (0 : Int) [] [] [])).data)
                              (List.take (20 : Nat)
                                (hs.getD ((0 : Nat) + (↑i : Int).toNat)
                                    (PieceR.mk false false (0 : Int) (0 : Int) (0 : Int) (0 : Int) [] [] [])).sum) =
                            [])),
                  ((47 : Nat),
                    AVal.bool
                      !decide
                          (gEnc
                              (hs.getD ((0 : Nat) + (↑i : Int).toNat)
                                  (PieceR.mk false false (0 : Int) (0 : Int) (0 : Int) (0 : Int) [] [] [])).st
                              (hs.getD ((0 : Nat) + (↑i : Int).toNat)
                                  (PieceR.mk false false (0 : Int) (0 : Int) (0 : Int) (0 : Int) [] [] [])).en
                              (hs.getD ((0 : Nat) + (↑i : Int).toNat)
                                  (PieceR.mk false false (0 : Int) (0 : Int) (0 : Int) (0 : Int) [] [] [])).id
                              (hs.getD ((0 : Nat) + (↑i : Int).toNat)
                                  (PieceR.mk false false (0 : Int) (0 : Int) (0 : Int) (0 : Int) [] [] [])).total
                              (hs.getD ((0 : Nat) + (↑i : Int).toNat)
                                  (PieceR.mk false false (0 : Int) (0 : Int) (0 : Int) (0 : Int) [] [] [])).typ
                              (hs.getD ((0 : Nat) + (↑i : Int).toNat)
                                  (PieceR.mk false false (0 : Int) (0 : Int) (0 : Int) (0 : Int) [] [] [])).k
                              (List.take (20 : Nat)
                                (hs.getD ((0 : Nat) + (↑i : Int).toNat)
                                    (PieceR.mk false false (0 : Int) (0 : Int) (0 : Int) (0 : Int) [] [] [])).lb)
                              (List.take (4500 : Nat)
                                (hs.getD ((0 : Nat) + (↑i : Int).toNat)
                                    (PieceR.mk false false (0 : Int) (0 : Int) (0 : Int) (0 : Int) [] [] [])).data)
                              (List.take (20 : Nat)
                                (hs.getD ((0 : Nat) + (↑i : Int).toNat)
                                    (PieceR.mk false false (0 : Int) (0 : Int) (0 : Int) (0 : Int) [] [] [])).sum) =
                            [])),
                  ((46 : Nat),
                    AVal.str
                      (gEnc
                        (hs.getD ((0 : Nat) + (↑i : Int).toNat)
                            (PieceR.mk false false (0 : Int) (0 : Int) (0 : Int) (0 : Int) [] [] [])).st
                        (hs.getD ((0 : Nat) + (↑i : Int).toNat)
                            (PieceR.mk false false (0 : Int) (0 : Int) (0 : Int) (0 : Int) [] [] [])).en
                        (hs.getD ((0 : Nat) + (↑i : Int).toNat)
                            (PieceR.mk false false (0 : Int) (0 : Int) (0 : Int) (0 : Int) [] [] [])).id
                        (hs.getD ((0 : Nat) + (↑i : Int).toNat)
                            (PieceR.mk false false (0 : Int) (0 : Int) (0 : Int) (0 : Int) [] [] [])).total
                        (hs.getD ((0 : Nat) + (↑i : Int).toNat)
                            (PieceR.mk false false (0 : Int) (0 : Int) (0 : Int) (0 : Int) [] [] [])).typ
                        (hs.getD ((0 : Nat) + (↑i : Int).toNat)
                            (PieceR.mk false false (0 : Int) (0 : Int) (0 : Int) (0 : Int) [] [] [])).k
                        (List.take (20 : Nat)
                          (hs.getD ((0 : Nat) + (↑i : Int).toNat)
                              (PieceR.mk false false (0 : Int) (0 : Int) (0 : Int) (0 : Int) [] [] [])).lb)
                        (List.take (4500 : Nat)
                          (hs.getD ((0 : Nat) + (↑i : Int).toNat)
                              (PieceR.mk false false (0 : Int) (0 : Int) (0 : Int) (0 : Int) [] [] [])).data)
                        (List.take (20 : Nat)
                          (hs.getD ((0 : Nat) + (↑i : Int).toNat)
                              (PieceR.mk false false (0 : Int) (0 : Int) (0 : Int) (0 : Int) [] [] [])).sum))),
                  ((34 : Nat),
                    AVal.bool
                      (decide
                        (gErr
                            (hs.getD ((0 : Nat) + (↑i : Int).toNat)
                                (PieceR.mk false false (0 : Int) (0 : Int) (0 : Int) (0 : Int) [] [] [])).st
                            (hs.getD ((0 : Nat) + (↑i : Int).toNat)
                                (PieceR.mk false false (0 : Int) (0 : Int) (0 : Int) (0 : Int) [] [] [])).en
                            (hs.getD ((0 : Nat) + (↑i : Int).toNat)
                                (PieceR.mk false false (0 : Int) (0 : Int) (0 : Int) (0 : Int) [] [] [])).id
                            (hs.getD ((0 : Nat) + (↑i : Int).toNat)
                                (PieceR.mk false false (0 : Int) (0 : Int) (0 : Int) (0 : Int) [] [] [])).total
                            (hs.getD ((0 : Nat) + (↑i : Int).toNat)
                                (PieceR.mk false false (0 : Int) (0 : Int) (0 : Int) (0 : Int) [] [] [])).typ
                            (hs.getD ((0 : Nat) + (↑i : Int).toNat)
                                (PieceR.mk false false (0 : Int) (0 : Int) (0 : Int) (0 : Int) [] [] [])).k
                            (List.take (20 : Nat)
                              (hs.getD ((0 : Nat) + (↑i : Int).toNat)
                                  (PieceR.mk false false (0 : Int) (0 : Int) (0 : Int) (0 : Int) [] [] [])).lb)
                            (List.take (4500 : Nat)
                              (hs.getD ((0 : Nat) + (↑i : Int).toNat)
                                  (PieceR.mk false false (0 : Int) (0 : Int) (0 : Int) (0 : Int) [] [] [])).data)
                            (List.take (20 : Nat)
                              (hs.getD ((0 : Nat) + (↑i : Int).toNat)
                                  (PieceR.mk false false (0 : Int) (0 : Int) (0 : Int) (0 : Int) [] [] [])).sum) =
                          (0 : Int)))),
                  ((33 : Nat),
                    AVal.int IntKind.i64
                      (gErr
                        (hs.getD ((0 : Nat) + (↑i : Int).toNat)
                            (PieceR.mk false false (0 : Int) (0 : Int) (0 : Int) (0 : Int) [] [] [])).st
                        (hs.getD ((0 : Nat) + (↑i : Int).toNat)
                            (PieceR.mk false false (0 : Int) (0 : Int) (0 : Int) (0 : Int) [] [] [])).en
                        (hs.getD ((0 : Nat) + (↑i : Int).toNat)
                            (PieceR.mk false false (0 : Int) (0 : Int) (0 : Int) (0 : Int) [] [] [])).id
                        (hs.getD ((0 : Nat) + (↑i : Int).toNat)
                            (PieceR.mk false false (0 : Int) (0 : Int) (0 : Int) (0 : Int) [] [] [])).total
                        (hs.getD ((0 : Nat) + (↑i : Int).toNat)
                            (PieceR.mk false false (0 : Int) (0 : Int) (0 : Int) (0 : Int) [] [] [])).typ
                        (hs.getD ((0 : Nat) + (↑i : Int).toNat)
                            (PieceR.mk false false (0 : Int) (0 : Int) (0 : Int) (0 : Int) [] [] [])).k
                        (List.take (20 : Nat)
                          (hs.getD ((0 : Nat) + (↑i : Int).toNat)
                              (PieceR.mk false false (0 : Int) (0 : Int) (0 : Int) (0 : Int) [] [] [])).lb)
                        (List.take (4500 : Nat)
                          (hs.getD ((0 : Nat) + (↑i : Int).toNat)
                              (PieceR.mk false false (0 : Int) (0 : Int) (0 : Int) (0 : Int) [] [] [])).data)
                        (List.take (20 : Nat)
                          (hs.getD ((0 : Nat) + (↑i : Int).toNat)
                              (PieceR.mk false false (0 : Int) (0 : Int) (0 : Int) (0 : Int) [] [] [])).sum))),
                  ((9 : Nat),
                    AVal.int IntKind.i64
                      (gErr
                        (hs.getD ((0 : Nat) + (↑i : Int).toNat)
                            (PieceR.mk false false (0 : Int) (0 : Int) (0 : Int) (0 : Int) [] [] [])).st
                        (hs.getD ((0 : Nat) + (↑i : Int).toNat)
                            (PieceR.mk false false (0 : Int) (0 : Int) (0 : Int) (0 : Int) [] [] [])).en
                        (hs.getD ((0 : Nat) + (↑i : Int).toNat)
                            (PieceR.mk false false (0 : Int) (0 : Int) (0 : Int) (0 : Int) [] [] [])).id
                        (hs.getD ((0 : Nat) + (↑i : Int).toNat)
                            (PieceR.mk false false (0 : Int) (0 : Int) (0 : Int) (0 : Int) [] [] [])).total
                        (hs.getD ((0 : Nat) + (↑i : Int).toNat)
                            (PieceR.mk false false (0 : Int) (0 : Int) (0 : Int) (0 : Int) [] [] [])).typ
                        (hs.getD ((0 : Nat) + (↑i : Int).toNat)
                            (PieceR.mk false false (0 : Int) (0 : Int) (0 : Int) (0 : Int) [] [] [])).k
                        (List.take (20 : Nat)
                          (hs.getD ((0 : Nat) + (↑i : Int).toNat)
                              (PieceR.mk false false (0 : Int) (0 : Int) (0 : Int) (0 : Int) [] [] [])).lb)
                        (List.take (4500 : Nat)
                          (hs.getD ((0 : Nat) + (↑i : Int).toNat)
                              (PieceR.mk false false (0 : Int) (0 : Int) (0 : Int) (0 : Int) [] [] [])).data)
                        (List.take (20 : Nat)
                          (hs.getD ((0 : Nat) + (↑i : Int).toNat)
                              (PieceR.mk false false (0 : Int) (0 : Int) (0 : Int) (0 : Int) [] [] [])).sum))),
                  ((8 : Nat),
                    AVal.str
                      (gEnc
                        (hs.getD ((0 : Nat) + (↑i : Int).toNat)
                            (PieceR.mk false false (0 : Int) (0 : Int) (0 : Int) (0 : Int) [] [] [])).st
                        (hs.getD ((0 : Nat) + (↑i : Int).toNat)
                            (PieceR.mk false false (0 : Int) (0 : Int) (0 : Int) (0 : Int) [] [] [])).en
                        (hs.getD ((0 : Nat) + (↑i : Int).toNat)
                            (PieceR.mk false false (0 : Int) (0 : Int) (0 : Int) (0 : Int) [] [] [])).id
                        (hs.getD ((0 : Nat) + (↑i : Int).toNat)
                            (PieceR.mk false false (0 : Int) (0 : Int) (0 : Int) (0 : Int) [] [] [])).total
                        (hs.getD ((0 : Nat) + (↑i : Int).toNat)
                            (PieceR.mk false false (0 : Int) (0 : Int) (0 : Int) (0 : Int) [] [] [])).typ
                        (hs.getD ((0 : Nat) + (↑i : Int).toNat)
                            (PieceR.mk false false (0 : Int) (0 : Int) (0 : Int) (0 : Int) [] [] [])).k
                        (List.take (20 : Nat)
                          (hs.getD ((0 : Nat) + (↑i : Int).toNat)
                              (PieceR.mk false false (0 : Int) (0 : Int) (0 : Int) (0 : Int) [] [] [])).lb)
                        (List.take (4500 : Nat)
                          (hs.getD ((0 : Nat) + (↑i : Int).toNat)
                              (PieceR.mk false false (0 : Int) (0 : Int) (0 : Int) (0 : Int) [] [] [])).data)
                        (List.take (20 : Nat)
                          (hs.getD ((0 : Nat) + (↑i : Int).toNat)
                              (PieceR.mk false false (0 : Int) (0 : Int) (0 : Int) (0 : Int) [] [] [])).sum))),
                  ((32 : Nat),
                    AVal.int IntKind.i64
                      (gErr
                        (hs.getD ((0 : Nat) + (↑i : Int).toNat)
                            (PieceR.mk false false (0 : Int) (0 : Int) (0 : Int) (0 : Int) [] [] [])).st
                        (hs.getD ((0 : Nat) + (↑i : Int).toNat)
                            (PieceR.mk false false (0 : Int) (0 : Int) (0 : Int) (0 : Int) [] [] [])).en
                        (hs.getD ((0 : Nat) + (↑i : Int).toNat)
                            (PieceR.mk false false (0 : Int) (0 : Int) (0 : Int) (0 : Int) [] [] [])).id
                        (hs.getD ((0 : Nat) + (↑i : Int).toNat)
                            (PieceR.mk false false (0 : Int) (0 : Int) (0 : Int) (0 : Int) [] [] [])).total
                        (hs.getD ((0 : Nat) + (↑i : Int).toNat)
                            (PieceR.mk false false (0 : Int) (0 : Int) (0 : Int) (0 : Int) [] [] [])).typ
                        (hs.getD ((0 : Nat) + (↑i : Int).toNat)
                            (PieceR.mk false false (0 : Int) (0 : Int) (0 : Int) (0 : Int) [] [] [])).k
                        (List.take (20 : Nat)
                          (hs.getD ((0 : Nat) + (↑i : Int).toNat)
                              (PieceR.mk false false (0 : Int) (0 : Int) (0 : Int) (0 : Int) [] [] [])).lb)
                        (List.take (4500 : Nat)
                          (hs.getD ((0 : Nat) + (↑i : Int).toNat)
                              (PieceR.mk false false (0 : Int) (0 : Int) (0 : Int) (0 : Int) [] [] [])).data)
                        (List.take (20 : Nat)
                          (hs.getD ((0 : Nat) + (↑i : Int).toNat)
                              (PieceR.mk false false (0 : Int) (0 : Int) (0 : Int) (0 : Int) [] [] [])).sum))),
                  ((31 : Nat),
                    AVal.str
                      (gEnc
                        (hs.getD ((0 : Nat) + (↑i : Int).toNat)
                            (PieceR.mk false false (0 : Int) (0 : Int) (0 : Int) (0 : Int) [] [] [])).st
                        (hs.getD ((0 : Nat) + (↑i : Int).toNat)
                            (PieceR.mk false false (0 : Int) (0 : Int) (0 : Int) (0 : Int) [] [] [])).en
                        (hs.getD ((0 : Nat) + (↑i : Int).toNat)
                            (PieceR.mk false false (0 : Int) (0 : Int) (0 : Int) (0 : Int) [] [] [])).id
                        (hs.getD ((0 : Nat) + (↑i : Int).toNat)
                            (PieceR.mk false false (0 : Int) (0 : Int) (0 : Int) (0 : Int) [] [] [])).total
                        (hs.getD ((0 : Nat) + (↑i : Int).toNat)
                            (PieceR.mk false false (0 : Int) (0 : Int) (0 : Int) (0 : Int) [] [] [])).typ
                        (hs.getD ((0 : Nat) + (↑i : Int).toNat)
                            (PieceR.mk false false (0 : Int) (0 : Int) (0 : Int) (0 : Int) [] [] [])).k
                        (List.take (20 : Nat)
                          (hs.getD ((0 : Nat) + (↑i : Int).toNat)
                              (PieceR.mk false false (0 : Int) (0 : Int) (0 : Int) (0 : Int) [] [] [])).lb)
                        (List.take (4500 : Nat)
                          (hs.getD ((0 : Nat) + (↑i : Int).toNat)
                              (PieceR.mk false false (0 : Int) (0 : Int) (0 : Int) (0 : Int) [] [] [])).data)
                        (List.take (20 : Nat)
                          (hs.getD ((0 : Nat) + (↑i : Int).toNat)
                              (PieceR.mk false false (0 : Int) (0 : Int) (0 : Int) (0 : Int) [] [] [])).sum))),
                  ((24 : Nat),
                    AVal.tup
                      [AVal.str
                          (gEnc
                            (hs.getD ((0 : Nat) + (↑i : Int).toNat)
                                (PieceR.mk false false (0 : Int) (0 : Int) (0 : Int) (0 : Int) [] [] [])).st
                            (hs.getD ((0 : Nat) + (↑i : Int).toNat)
                                (PieceR.mk false false (0 : Int) (0 : Int) (0 : Int) (0 : Int) [] [] [])).en
                            (hs.getD ((0 : Nat) + (↑i : Int).toNat)
                                (PieceR.mk false false (0 : Int) (0 : Int) (0 : Int) (0 : Int) [] [] [])).id
                            (hs.getD ((0 : Nat) + (↑i : Int).toNat)
                                (PieceR.mk false false (0 : Int) (0 : Int) (0 : Int) (0 : Int) [] [] [])).total
                            (hs.getD ((0 : Nat) + (↑i : Int).toNat)
                                (PieceR.mk false false (0 : Int) (0 : Int) (0 : Int) (0 : Int) [] [] [])).typ
                            (hs.getD ((0 : Nat) + (↑i : Int).toNat)
                                (PieceR.mk false false (0 : Int) (0 : Int) (0 : Int) (0 : Int) [] [] [])).k
                            (List.take (20 : Nat)
                              (hs.getD ((0 : Nat) + (↑i : Int).toNat)
                                  (PieceR.mk false false (0 : Int) (0 : Int) (0 : Int) (0 : Int) [] [] [])).lb)
                            (List.take (4500 : Nat)
                              (hs.getD ((0 : Nat) + (↑i : Int).toNat)
                                  (PieceR.mk false false (0 : Int) (0 : Int) (0 : Int) (0 : Int) [] [] [])).data)
                            (List.take (20 : Nat)
                              (hs.getD ((0 : Nat) + (↑i : Int).toNat)
                                  (PieceR.mk false false (0 : Int) (0 : Int) (0 : Int) (0 : Int) [] [] [])).sum)),
                        AVal.int IntKind.i64
                          (gErr
                            (hs.getD ((0 : Nat) + (↑i : Int).toNat)
                                (PieceR.mk false false (0 : Int) (0 : Int) (0 : Int) (0 : Int) [] [] [])).st
                            (hs.getD ((0 : Nat) + (↑i : Int).toNat)
                                (PieceR.mk false false (0 : Int) (0 : Int) (0 : Int) (0 : Int) [] [] [])).en
                            (hs.getD ((0 : Nat) + (↑i : Int).toNat)
                                (PieceR.mk false false (0 : Int) (0 : Int) (0 : Int) (0 : Int) [] [] [])).id
                            (hs.getD ((0 : Nat) + (↑i : Int).toNat)
                                (PieceR.mk false false (0 : Int) (0 : Int) (0 : Int) (0 : Int) [] [] [])).total
                            (hs.getD ((0 : Nat) + (↑i : Int).toNat)
                                (PieceR.mk false false (0 : Int) (0 : Int) (0 : Int) (0 : Int) [] [] [])).typ
                            (hs.getD ((0 : Nat) + (↑i : Int).toNat)
                                (PieceR.mk false false (0 : Int) (0 : Int) (0 : Int) (0 : Int) [] [] [])).k
                            (List.take (20 : Nat)
                              (hs.getD ((0 : Nat) + (↑i : Int).toNat)
                                  (PieceR.mk false false (0 : Int) (0 : Int) (0 : Int) (0 : Int) [] [] [])).lb)
                            (List.take (4500 : Nat)
                              (hs.getD ((0 : Nat) + (↑i : Int).toNat)
                                  (PieceR.mk false false (0 : Int) (0 : Int) (0 : Int) (0 : Int) [] [] [])).data)
                            (List.take (20 : Nat)
                              (hs.getD ((0 : Nat) + (↑i : Int).toNat)
                                  (PieceR.mk false false (0 : Int) (0 : Int) (0 : Int) (0 : Int) [] [] [])).sum))]),
                  ((30 : Nat),
                    AVal.tup
                      [AVal.str
                          (gEnc
                            (hs.getD ((0 : Nat) + (↑i : Int).toNat)
                                (PieceR.mk false false (0 : Int) (0 : Int) (0 : Int) (0 : Int) [] [] [])).st
                            (hs.getD ((0 : Nat) + (↑i : Int).toNat)
                                (PieceR.mk false false (0 : Int) (0 : Int) (0 : Int) (0 : Int) [] [] [])).en
                            (hs.getD ((0 : Nat) + (↑i : Int).toNat)
                                (PieceR.mk false false (0 : Int) (0 : Int) (0 : Int) (0 : Int) [] [] [])).id
                            (hs.getD ((0 : Nat) + (↑i : Int).toNat)
                                (PieceR.mk false false (0 : Int) (0 : Int) (0 : Int) (0 : Int) [] [] [])).total
                            (hs.getD ((0 : Nat) + (↑i : Int).toNat)
                                (PieceR.mk false false (0 : Int) (0 : Int) (0 : Int) (0 : Int) [] [] [])).typ
                            (hs.getD ((0 : Nat) + (↑i : Int).toNat)
                                (PieceR.mk false false (0 : Int) (0 : Int) (0 : Int) (0 : Int) [] [] [])).k
                            (List.take (20 : Nat)
                              (hs.getD ((0 : Nat) + (↑i : Int).toNat)
                                  (PieceR.mk false false (0 : Int) (0 : Int) (0 : Int) (0 : Int) [] [] [])).lb)
                            (List.take (4500 : Nat)
                              (hs.getD ((0 : Nat) + (↑i : Int).toNat)
                                  (PieceR.mk false false (0 : Int) (0 : Int) (0 : Int) (0 : Int) [] [] [])).data)
                            (List.take (20 : Nat)
                              (hs.getD ((0 : Nat) + (↑i : Int).toNat)
                                  (PieceR.mk false false (0 : Int) (0 : Int) (0 : Int) (0 : Int) [] [] [])).sum)),
                        AVal.int IntKind.i64
                          (gErr
                            (hs.getD ((0 : Nat) + (↑i : Int).toNat)
                                (PieceR.mk false false (0 : Int) (0 : Int) (0 : Int) (0 : Int) [] [] [])).st
                            (hs.getD ((0 : Nat) + (↑i : Int).toNat)
                                (PieceR.mk false false (0 : Int) (0 : Int) (0 : Int) (0 : Int) [] [] [])).en
                            (hs.getD ((0 : Nat) + (↑i : Int).toNat)
                                (PieceR.mk false false (0 : Int) (0 : Int) (0 : Int) (0 : Int) [] [] [])).id
                            (hs.getD ((0 : Nat) + (↑i : Int).toNat)
                                (PieceR.mk false false (0 : Int) (0 : Int) (0 : Int) (0 : Int) [] [] [])).total
                            (hs.getD ((0 : Nat) + (↑i : Int).toNat)
                                (PieceR.mk false false (0 : Int) (0 : Int) (0 : Int) (0 : Int) [] [] [])).typ
                            (hs.getD ((0 : Nat) + (↑i : Int).toNat)
                                (PieceR.mk false false (0 : Int) (0 : Int) (0 : Int) (0 : Int) [] [] [])).k
                            (List.take (20 : Nat)
                              (hs.getD ((0 : Nat) + (↑i : Int).toNat)
                                  (PieceR.mk false false (0 : Int) (0 : Int) (0 : Int) (0 : Int) [] [] [])).lb)
                            (List.take (4500 : Nat)
                              (hs.getD ((0 : Nat) + (↑i : Int).toNat)
                                  (PieceR.mk false false (0 : Int) (0 : Int) (0 : Int) (0 : Int) [] [] [])).data)
                            (List.take (20 : Nat)
                              (hs.getD ((0 : Nat) + (↑i : Int).toNat)
                                  (PieceR.mk false false (0 : Int) (0 : Int) (0 : Int) (0 : Int) [] [] [])).sum))]),
                  ((29 : Nat),
                    AVal.agg
                      [AVal.bool
                          (hs.getD ((0 : Nat) + (↑i : Int).toNat)
                              (PieceR.mk false false (0 : Int) (0 : Int) (0 : Int) (0 : Int) [] [] [])).st,
                        AVal.bool
                          (hs.getD ((0 : Nat) + (↑i : Int).toNat)
                              (PieceR.mk false false (0 : Int) (0 : Int) (0 : Int) (0 : Int) [] [] [])).en,
                        AVal.int IntKind.i64
                          (hs.getD ((0 : Nat) + (↑i : Int).toNat)
                              (PieceR.mk false false (0 : Int) (0 : Int) (0 : Int) (0 : Int) [] [] [])).id,
                        AVal.int IntKind.i64
                          (hs.getD ((0 : Nat) + (↑i : Int).toNat)
                              (PieceR.mk false false (0 : Int) (0 : Int) (0 : Int) (0 : Int) [] [] [])).total,
                        AVal.int IntKind.i64
                          (hs.getD ((0 : Nat) + (↑i : Int).toNat)
                              (PieceR.mk false false (0 : Int) (0 : Int) (0 : Int) (0 : Int) [] [] [])).typ,
                        AVal.int IntKind.i64
                          (hs.getD ((0 : Nat) + (↑i : Int).toNat)
                              (PieceR.mk false false (0 : Int) (0 : Int) (0 : Int) (0 : Int) [] [] [])).k,
                        AVal.str
                          (List.take (20 : Nat)
                            (hs.getD ((0 : Nat) + (↑i : Int).toNat)
                                (PieceR.mk false false (0 : Int) (0 : Int) (0 : Int) (0 : Int) [] [] [])).lb),
                        AVal.str
                          (List.take (4500 : Nat)
                            (hs.getD ((0 : Nat) + (↑i : Int).toNat)
                                (PieceR.mk false false (0 : Int) (0 : Int) (0 : Int) (0 : Int) [] [] [])).data),
                        AVal.str
                          (List.take (20 : Nat)
                            (hs.getD ((0 : Nat) + (↑i : Int).toNat)
                                (PieceR.mk false false (0 : Int) (0 : Int) (0 : Int) (0 : Int) [] [] [])).sum)]),
                  ((28 : Nat),
                    AVal.agg
                      [AVal.bool
                          (hs.getD ((0 : Nat) + (↑i : Int).toNat)
                              (PieceR.mk false false (0 : Int) (0 : Int) (0 : Int) (0 : Int) [] [] [])).st,
                        AVal.bool
                          (hs.getD ((0 : Nat) + (↑i : Int).toNat)
                              (PieceR.mk false false (0 : Int) (0 : Int) (0 : Int) (0 : Int) [] [] [])).en,
                        AVal.int IntKind.i64
                          (hs.getD ((0 : Nat) + (↑i : Int).toNat)
                              (PieceR.mk false false (0 : Int) (0 : Int) (0 : Int) (0 : Int) [] [] [])).id,
                        AVal.int IntKind.i64
                          (hs.getD ((0 : Nat) + (↑i : Int).toNat)
                              (PieceR.mk false false (0 : Int) (0 : Int) (0 : Int) (0 : Int) [] [] [])).total,
                        AVal.int IntKind.i64
                          (hs.getD ((0 : Nat) + (↑i : Int).toNat)
                              (PieceR.mk false false (0 : Int) (0 : Int) (0 : Int) (0 : Int) [] [] [])).typ,
                        AVal.int IntKind.i64
                          (hs.getD ((0 : Nat) + (↑i : Int).toNat)
                              (PieceR.mk false false (0 : Int) (0 : Int) (0 : Int) (0 : Int) [] [] [])).k,
                        AVal.str
                          (hs.getD ((0 : Nat) + (↑i : Int).toNat)
                              (PieceR.mk false false (0 : Int) (0 : Int) (0 : Int) (0 : Int) [] [] [])).lb,
                        AVal.str
                          (hs.getD ((0 : Nat) + (↑i : Int).toNat)
                              (PieceR.mk false false (0 : Int) (0 : Int) (0 : Int) (0 : Int) [] [] [])).data,
                        AVal.str
                          (hs.getD ((0 : Nat) + (↑i : Int).toNat)
                              (PieceR.mk false false (0 : Int) (0 : Int) (0 : Int) (0 : Int) [] [] [])).sum]),
                  ((27 : Nat), AVal.ptr (0 : Nat) ((0 : Nat) + (↑i : Int).toNat) (9 : Nat) (0 : Nat)),
                  ((26 : Nat), AVal.int IntKind.i64 (↑i : Int)),
                  ((25 : Nat), AVal.sl (0 : Nat) (0 : Nat) (9 : Nat) (0 : Nat) hs.length none),
                  ((21 : Nat), AVal.bool (decide ((↑i : Int) < (40 : Int)))),
                  ((20 : Nat), AVal.bool (decide ((↑i : Int) < (40 : Int)))), ((18 : Nat), AVal.bool true),
                  ((19 : Nat), AVal.int IntKind.i64 (↑i : Int)), ((18 : Nat), AVal.bool true),
                  ((18 : Nat), AVal.bool (decide ((↑i : Int) < (↑hs.length : Int)))),
                  ((17 : Nat), AVal.bool (decide ((↑i : Int) < (↑hs.length : Int)))),
                  ((16 : Nat), AVal.int IntKind.i64 (↑hs.length : Int)),
                  ((15 : Nat), AVal.sl (0 : Nat) (0 : Nat) (9 : Nat) (0 : Nat) hs.length none),
                  ((14 : Nat), AVal.int IntKind.i64 (↑i : Int)), ((7 : Nat), AVal.int IntKind.i64 (↑i : Int)),
                  ((6 : Nat), AVal.nils), ((5 : Nat), AVal.str S), ((1 : Nat), AVal.int IntKind.u8 zeros),
                  ((0 : Nat), AVal.sl (0 : Nat) (0 : Nat) (9 : Nat) (0 : Nat) hs.length none)]
                (AHeap.mk (2 : Nat) [((0 : Nat), ABlk.row (27 : Nat) pieceRow hs RowMd.ro)]))
              (obl (decide ((0 : Int) ≤ (↑i : Int) ∧ (↑i : Int) < (↑hs.length : Int)))
                (obl (decide ((0 : Nat) + (↑i : Int).toNat < hs.length))
                  (obl
                    (decide
                      ((List.take (20 : Nat)
                                (hs.getD ((0 : Nat) + (↑i : Int).toNat)
                                    (PieceR.mk false false (0 : Int) (0 : Int) (0 : Int) (0 : Int) [] []
                                      [])).lb).length +
                            (List.take (4500 : Nat)
                                (hs.getD ((0 : Nat) + (↑i : Int).toNat)
                                    (PieceR.mk false false (0 : Int) (0 : Int) (0 : Int) (0 : Int) [] []
                                      [])).data).length +
                          (List.take (20 : Nat)
                              (hs.getD ((0 : Nat) + (↑i : Int).toNat)
                                  (PieceR.mk false false (0 : Int) (0 : Int) (0 : Int) (0 : Int) [] []
                                    [])).sum).length ≤
                        (9223372036854775000 : Nat)))
                    (branch
                      (!decide
                          (gErr
                              (hs.getD ((0 : Nat) + (↑i : Int).toNat)
                                  (PieceR.mk false false (0 : Int) (0 : Int) (0 : Int) (0 : Int) [] [] [])).st
                              (hs.getD ((0 : Nat) + (↑i : Int).toNat)
                                  (PieceR.mk false false (0 : Int) (0 : Int) (0 : Int) (0 : Int) [] [] [])).en
                              (hs.getD ((0 : Nat) + (↑i : Int).toNat)
                                  (PieceR.mk false false (0 : Int) (0 : Int) (0 : Int) (0 : Int) [] [] [])).id
                              (hs.getD ((0 : Nat) + (↑i : Int).toNat)
                                  (PieceR.mk false false (0 : Int) (0 : Int) (0 : Int) (0 : Int) [] [] [])).total
                              (hs.getD ((0 : Nat) + (↑i : Int).toNat)
                                  (PieceR.mk false false (0 : Int) (0 : Int) (0 : Int) (0 : Int) [] [] [])).typ
                              (hs.getD ((0 : Nat) + (↑i : Int).toNat)
                                  (PieceR.mk false false (0 : Int) (0 : Int) (0 : Int) (0 : Int) [] [] [])).k
                              (List.take (20 : Nat)
                                (hs.getD ((0 : Nat) + (↑i : Int).toNat)
                                    (PieceR.mk false false (0 : Int) (0 : Int) (0 : Int) (0 : Int) [] [] [])).lb)
                              (List.take (4500 : Nat)
                                (hs.getD ((0 : Nat) + (↑i : Int).toNat)
                                    (PieceR.mk false false (0 : Int) (0 : Int) (0 : Int) (0 : Int) [] [] [])).data)
                              (List.take (20 : Nat)
                                (hs.getD ((0 : Nat) + (↑i : Int).toNat)
                                    (PieceR.mk false false (0 : Int) (0 : Int) (0 : Int) (0 : Int) [] [] [])).sum) =
                            gErr
                              (hs.getD ((0 : Nat) + (↑i : Int).toNat)
                                  (PieceR.mk false false (0 : Int) (0 : Int) (0 : Int) (0 : Int) [] [] [])).st
                              (hs.getD ((0 : Nat) + (↑i : Int).toNat)
                                  (PieceR.mk false false (0 : Int) (0 : Int) (0 : Int) (0 : Int) [] [] [])).en
                              (hs.getD ((0 : Nat) + (↑i : Int).toNat)
                                  (PieceR.mk false false (0 : Int) (0 : Int) (0 : Int) (0 : Int) [] [] [])).id
                              (hs.getD ((0 : Nat) + (↑i : Int).toNat)
                                  (PieceR.mk false false (0 : Int) (0 : Int) (0 : Int) (0 : Int) [] [] [])).total
                              (hs.getD ((0 : Nat) + (↑i : Int).toNat)
                                  (PieceR.mk false false (0 : Int) (0 : Int) (0 : Int) (0 : Int) [] [] [])).typ
                              (hs.getD ((0 : Nat) + (↑i : Int).toNat)
                                  (PieceR.mk false false (0 : Int) (0 : Int) (0 : Int) (0 : Int) [] [] [])).k
                              (List.take (20 : Nat)
                                (hs.getD ((0 : Nat) + (↑i : Int).toNat)
                                    (PieceR.mk false false (0 : Int) (0 : Int) (0 : Int) (0 : Int) [] [] [])).lb)
                              (List.take (4500 : Nat)
                                (hs.getD ((0 : Nat) + (↑i : Int).toNat)
                                    (PieceR.mk false false (0 : Int) (0 : Int) (0 : Int) (0 : Int) [] [] [])).data)
                              (List.take (20 : Nat)
                                (hs.getD ((0 : Nat) + (↑i : Int).toNat)
                                    (PieceR.mk false false (0 : Int) (0 : Int) (0 : Int) (0 : Int) [] [] [])).sum)))
                      (QQ AExit.ret
                        [((4 : Nat), AVal.bool false),
                          ((57 : Nat),
                            AVal.bool
                              !decide
                                  (gErr
                                      (hs.getD ((0 : Nat) + (↑i : Int).toNat)
                                          (PieceR.mk false false (0 : Int) (0 : Int) (0 : Int) (0 : Int) [] [] [])).st
                                      (hs.getD ((0 : Nat) + (↑i : Int).toNat)
                                          (PieceR.mk false false (0 : Int) (0 : Int) (0 : Int) (0 : Int) [] [] [])).en
                                      (hs.getD ((0 : Nat) + (↑i : Int).toNat)
                                          (PieceR.mk false false (0 : Int) (0 : Int) (0 : Int) (0 : Int) [] [] [])).id
                                      (hs.getD ((0 : Nat) + (↑i : Int).toNat)
                                          (PieceR.mk false false (0 : Int) (0 : Int) (0 : Int) (0 : Int) [] []
                                            [])).total
                                      (hs.getD ((0 : Nat) + (↑i : Int).toNat)
                                          (PieceR.mk false false (0 : Int) (0 : Int) (0 : Int) (0 : Int) [] [] [])).typ
                                      (hs.getD ((0 : Nat) + (↑i : Int).toNat)
                                          (PieceR.mk false false (0 : Int) (0 : Int) (0 : Int) (0 : Int) [] [] [])).k
                                      (List.take (20 : Nat)
                                        (hs.getD ((0 : Nat) + (↑i : Int).toNat)
                                            (PieceR.mk false false (0 : Int) (0 : Int) (0 : Int) (0 : Int) [] []
                                              [])).lb)
                                      (List.take (4500 : Nat)
                                        (hs.getD ((0 : Nat) + (↑i : Int).toNat)
                                            (PieceR.mk false false (0 : Int) (0 : Int) (0 : Int) (0 : Int) [] []
                                              [])).data)
                                      (List.take (20 : Nat)
                                        (hs.getD ((0 : Nat) + (↑i : Int).toNat)
                                            (PieceR.mk false false (0 : Int) (0 : Int) (0 : Int) (0 : Int) [] []
                                              [])).sum) =
                                    gErr
                                      (hs.getD ((0 : Nat) + (↑i : Int).toNat)
                                          (PieceR.mk false false (0 : Int) (0 : Int) (0 : Int) (0 : Int) [] [] [])).st
                                      (hs.getD ((0 : Nat) + (↑i : Int).toNat)
                                          (PieceR.mk false false (0 : Int) (0 : Int) (0 : Int) (0 : Int) [] [] [])).en
                                      (hs.getD ((0 : Nat) + (↑i : Int).toNat)
                                          (PieceR.mk false false (0 : Int) (0 : Int) (0 : Int) (0 : Int) [] [] [])).id
                                      (hs.getD ((0 : Nat) + (↑i : Int).toNat)
                                          (PieceR.mk false false (0 : Int) (0 : Int) (0 : Int) (0 : Int) [] []
                                            [])).total
                                      (hs.getD ((0 : Nat) + (↑i : Int).toNat)
                                          (PieceR.mk false false (0 : Int) (0 : Int) (0 : Int) (0 : Int) [] [] [])).typ
                                      (hs.getD ((0 : Nat) + (↑i : Int).toNat)
                                          (PieceR.mk false false (0 : Int) (0 : Int) (0 : Int) (0 : Int) [] [] [])).k
                                      (List.take (20 : Nat)
                                        (hs.getD ((0 : Nat) + (↑i : Int).toNat)
                                            (PieceR.mk false false (0 : Int) (0 : Int) (0 : Int) (0 : Int) [] []
                                              [])).lb)
                                      (List.take (4500 : Nat)
                                        (hs.getD ((0 : Nat) + (↑i : Int).toNat)
                                            (PieceR.mk false false (0 : Int) (0 : Int) (0 : Int) (0 : Int) [] []
                                              [])).data)
                                      (List.take (20 : Nat)
                                        (hs.getD ((0 : Nat) + (↑i : Int).toNat)
                                            (PieceR.mk false false (0 : Int) (0 : Int) (0 : Int) (0 : Int) [] []
                                              [])).sum))),
                          ((56 : Nat),
                            AVal.bool
                              !decide
                                  (gErr
                                      (hs.getD ((0 : Nat) + (↑i : Int).toNat)
                                          (PieceR.mk false false (0 : Int) (0 : Int) (0 : Int) (0 : Int) [] [] [])).st
                                      (hs.getD ((0 : Nat) + (↑i : Int).toNat)
                                          (PieceR.mk false false (0 : Int) (0 : Int) (0 : Int) (0 : Int) [] [] [])).en
                                      (hs.getD ((0 : Nat) + (↑i : Int).toNat)
                                          (PieceR.mk false false (0 : Int) (0 : Int) (0 : Int) (0 : Int) [] [] [])).id
                                      (hs.getD ((0 : Nat) + (↑i : Int).toNat)
                                          (PieceR.mk false false (0 : Int) (0 : Int) (0 : Int) (0 : Int) [] []
                                            [])).total
                                      (hs.getD ((0 : Nat) + (↑i : Int).toNat)
                                          (PieceR.mk false false (0 : Int) (0 : Int) (0 : Int) (0 : Int) [] [] [])).typ
                                      (hs.getD ((0 : Nat) + (↑i : Int).toNat)
                                          (PieceR.mk false false (0 : Int) (0 : Int) (0 : Int) (0 : Int) [] [] [])).k
                                      (List.take (20 : Nat)
                                        (hs.getD ((0 : Nat) + (↑i : Int).toNat)
                                            (PieceR.mk false false (0 : Int) (0 : Int) (0 : Int) (0 : Int) [] []
                                              [])).lb)
                                      (List.take (4500 : Nat)
                                        (hs.getD ((0 : Nat) + (↑i : Int).toNat)
                                            (PieceR.mk false false (0 : Int) (0 : Int) (0 : Int) (0 : Int) [] []
                                              [])).data)
                                      (List.take (20 : Nat)
                                        (hs.getD ((0 : Nat) + (↑i : Int).toNat)
                                            (PieceR.mk false false (0 : Int) (0 : Int) (0 : Int) (0 : Int) [] []
                                              [])).sum) =
                                    gErr
                                      (hs.getD ((0 : Nat) + (↑i : Int).toNat)
                                          (PieceR.mk false false (0 : Int) (0 : Int) (0 : Int) (0 : Int) [] [] [])).st
                                      (hs.getD ((0 : Nat) + (↑i : Int).toNat)
                                          (PieceR.mk false false (0 : Int) (0 : Int) (0 : Int) (0 : Int) [] [] [])).en
                                      (hs.getD ((0 : Nat) + (↑i : Int).toNat)
                                          (PieceR.mk false false (0 : Int) (0 : Int) (0 : Int) (0 : Int) [] [] [])).id
                                      (hs.getD ((0 : Nat) + (↑i : Int).toNat)
                                          (PieceR.mk false false (0 : Int) (0 : Int) (0 : Int) (0 : Int) [] []
                                            [])).total
                                      (hs.getD ((0 : Nat) + (↑i : Int).toNat)
                                          (PieceR.mk false false (0 : Int) (0 : Int) (0 : Int) (0 : Int) [] [] [])).typ
                                      (hs.getD ((0 : Nat) + (↑i : Int).toNat)
                                          (PieceR.mk false false (0 : Int) (0 : Int) (0 : Int) (0 : Int) [] [] [])).k
                                      (List.take (20 : Nat)
                                        (hs.getD ((0 : Nat) + (↑i : Int).toNat)
                                            (PieceR.mk false false (0 : Int) (0 : Int) (0 : Int) (0 : Int) [] []
                                              [])).lb)
                                      (List.take (4500 : Nat)
                                        (hs.getD ((0 : Nat) + (↑i : Int).toNat)
                                            (PieceR.mk false false (0 : Int) (0 : Int) (0 : Int) (0 : Int) [] []
                                              [])).data)
                                      (List.take (20 : Nat)
                                        (hs.getD ((0 : Nat) + (↑i : Int).toNat)
                                            (PieceR.mk false false (0 : Int) (0 : Int) (0 : Int) (0 : Int) [] []
                                              [])).sum))),
                          ((48 : Nat), AVal.bool false),
                          ((55 : Nat),
                            AVal.int IntKind.i64
                              (gErr
                                (hs.getD ((0 : Nat) + (↑i : Int).toNat)
                                    (PieceR.mk false false (0 : Int) (0 : Int) (0 : Int) (0 : Int) [] [] [])).st
                                (hs.getD ((0 : Nat) + (↑i : Int).toNat)
                                    (PieceR.mk false false (0 : Int) (0 : Int) (0 : Int) (0 : Int) [] [] [])).en
                                (hs.getD ((0 : Nat) + (↑i : Int).toNat)
                                    (PieceR.mk false false (0 : Int) (0 : Int) (0 : Int) (0 : Int) [] [] [])).id
                                (hs.getD ((0 : Nat) + (↑i : Int).toNat)
                                    (PieceR.mk false false (0 : Int) (0 : Int) (0 : Int) (0 : Int) [] [] [])).total
                                (hs.getD ((0 : Nat) + (↑i : Int).toNat)
                                    (PieceR.mk false false (0 : Int) (0 : Int) (0 : Int) (0 : Int) [] [] [])).typ
                                (hs.getD ((0 : Nat) + (↑i : Int).toNat)
                                    (PieceR.mk false false (0 : Int) (0 : Int) (0 : Int) (0 : Int) [] [] [])).k
                                (List.take (20 : Nat)
                                  (hs.getD ((0 : Nat) + (↑i : Int).toNat)
                                      (PieceR.mk false false (0 : Int) (0 : Int) (0 : Int) (0 : Int) [] [] [])).lb)
                                (List.take (4500 : Nat)
                                  (hs.getD ((0 : Nat) + (↑i : Int).toNat)
                                      (PieceR.mk false false (0 : Int) (0 : Int) (0 : Int) (0 : Int) [] [] [])).data)
                                (List.take (20 : Nat)
                                  (hs.getD ((0 : Nat) + (↑i : Int).toNat)
                                      (PieceR.mk false false (0 : Int) (0 : Int) (0 : Int) (0 : Int) [] [] [])).sum))),
                          ((48 : Nat), AVal.bool false),
                          ((54 : Nat),
                            AVal.agg
                              [AVal.bool
                                  (hs.getD ((0 : Nat) + (↑i : Int).toNat)
                                      (PieceR.mk false false (0 : Int) (0 : Int) (0 : Int) (0 : Int) [] [] [])).st,
                                AVal.bool
                                  (hs.getD ((0 : Nat) + (↑i : Int).toNat)
                                      (PieceR.mk false false (0 : Int) (0 : Int) (0 : Int) (0 : Int) [] [] [])).en,
                                AVal.int IntKind.i64
                                  (hs.getD ((0 : Nat) + (↑i : Int).toNat)
                                      (PieceR.mk false false (0 : Int) (0 : Int) (0 : Int) (0 : Int) [] [] [])).id,
                                AVal.int IntKind.i64
                                  (hs.getD ((0 : Nat) + (↑i : Int).toNat)
                                      (PieceR.mk false false (0 : Int) (0 : Int) (0 : Int) (0 : Int) [] [] [])).total,
                                AVal.int IntKind.i64
                                  (hs.getD ((0 : Nat) + (↑i : Int).toNat)
                                      (PieceR.mk false false (0 : Int) (0 : Int) (0 : Int) (0 : Int) [] [] [])).typ,
                                AVal.int IntKind.i64
                                  (hs.getD ((0 : Nat) + (↑i : Int).toNat)
                                      (PieceR.mk false false (0 : Int) (0 : Int) (0 : Int) (0 : Int) [] [] [])).k,
                                AVal.str
                                  (List.take (20 : Nat)
                                    (hs.getD ((0 : Nat) + (↑i : Int).toNat)
                                        (PieceR.mk false false (0 : Int) (0 : Int) (0 : Int) (0 : Int) [] [] [])).lb),
                                AVal.str
                                  (List.take (4500 : Nat)
                                    (hs.getD ((0 : Nat) + (↑i : Int).toNat)
                                        (PieceR.mk false false (0 : Int) (0 : Int) (0 : Int) (0 : Int) [] [] [])).data),
                                AVal.str
                                  (List.take (20 : Nat)
                                    (hs.getD ((0 : Nat) + (↑i : Int).toNat)
                                        (PieceR.mk false false (0 : Int) (0 : Int) (0 : Int) (0 : Int) [] []
                                          [])).sum)]),
                          ((48 : Nat), AVal.bool false),
                          ((53 : Nat),
                            AVal.agg
                              [AVal.bool
                                  (hs.getD ((0 : Nat) + (↑i : Int).toNat)
                                      (PieceR.mk false false (0 : Int) (0 : Int) (0 : Int) (0 : Int) [] [] [])).st,
                                AVal.bool
                                  (hs.getD ((0 : Nat) + (↑i : Int).toNat)
                                      (PieceR.mk false false (0 : Int) (0 : Int) (0 : Int) (0 : Int) [] [] [])).en,
                                AVal.int IntKind.i64
                                  (hs.getD ((0 : Nat) + (↑i : Int).toNat)
                                      (PieceR.mk false false (0 : Int) (0 : Int) (0 : Int) (0 : Int) [] [] [])).id,
                                AVal.int IntKind.i64
                                  (hs.getD ((0 : Nat) + (↑i : Int).toNat)
                                      (PieceR.mk false false (0 : Int) (0 : Int) (0 : Int) (0 : Int) [] [] [])).total,
                                AVal.int IntKind.i64
                                  (hs.getD ((0 : Nat) + (↑i : Int).toNat)
                                      (PieceR.mk false false (0 : Int) (0 : Int) (0 : Int) (0 : Int) [] [] [])).typ,
                                AVal.int IntKind.i64
                                  (hs.getD ((0 : Nat) + (↑i : Int).toNat)
                                      (PieceR.mk false false (0 : Int) (0 : Int) (0 : Int) (0 : Int) [] [] [])).k,
                                AVal.str
                                  (hs.getD ((0 : Nat) + (↑i : Int).toNat)
                                      (PieceR.mk false false (0 : Int) (0 : Int) (0 : Int) (0 : Int) [] [] [])).lb,
                                AVal.str
                                  (hs.getD ((0 : Nat) + (↑i : Int).toNat)
                                      (PieceR.mk false false (0 : Int) (0 : Int) (0 : Int) (0 : Int) [] [] [])).data,
                                AVal.str
                                  (hs.getD ((0 : Nat) + (↑i : Int).toNat)
                                      (PieceR.mk false false (0 : Int) (0 : Int) (0 : Int) (0 : Int) [] [] [])).sum]),
                          ((48 : Nat), AVal.bool false),
                          ((52 : Nat), AVal.ptr (0 : Nat) ((0 : Nat) + (↑i : Int).toNat) (9 : Nat) (0 : Nat)),
                          ((48 : Nat), AVal.bool false), ((51 : Nat), AVal.int IntKind.i64 (↑i : Int)),
                          ((48 : Nat), AVal.bool false),
                          ((50 : Nat), AVal.sl (0 : Nat) (0 : Nat) (9 : Nat) (0 : Nat) hs.length none),
                          ((48 : Nat), AVal.bool false),
                          ((49 : Nat),
                            AVal.int IntKind.i64
                              (gErr
                                (hs.getD ((0 : Nat) + (↑i : Int).toNat)
                                    (PieceR.mk false false (0 : Int) (0 : Int) (0 : Int) (0 : Int) [] [] [])).st
                                (hs.getD ((0 : Nat) + (↑i : Int).toNat)
                                    (PieceR.mk false false (0 : Int) (0 : Int) (0 : Int) (0 : Int) [] [] [])).en
                                (hs.getD ((0 : Nat) + (↑i : Int).toNat)
                                    (PieceR.mk false false (0 : Int) (0 : Int) (0 : Int) (0 : Int) [] [] [])).id
                                (hs.getD ((0 : Nat) + (↑i : Int).toNat)
                                    (PieceR.mk false false (0 : Int) (0 : Int) (0 : Int) (0 : Int) [] [] [])).total
                                (hs.getD ((0 : Nat) + (↑i : Int).toNat)
                                    (PieceR.mk false false (0 : Int) (0 : Int) (0 : Int) (0 : Int) [] [] [])).typ
                                (hs.getD ((0 : Nat) + (↑i : Int).toNat)
                                    (PieceR.mk false false (0 : Int) (0 : Int) (0 : Int) (0 : Int) [] [] [])).k
                                (List.take (20 : Nat)
                                  (hs.getD ((0 : Nat) + (↑i : Int).toNat)
                                      (PieceR.mk false false (0 : Int) (0 : Int) (0 : Int) (0 : Int) [] [] [])).lb)
                                (List.take (4500 : Nat)
                                  (hs.getD ((0 : Nat) + (↑i : Int).toNat)
                                      (PieceR.mk false false (0 : Int) (0 : Int) (0 : Int) (0 : Int) [] [] [])).data)
                                (List.take (20 : Nat)
                                  (hs.getD ((0 : Nat) + (↑i : Int).toNat)
                                      (PieceR.mk false false (0 : Int) (0 : Int) (0 : Int) (0 : Int) [] [] [])).sum))),
                          ((48 : Nat), AVal.bool false),
                          ((48 : Nat),
                            AVal.bool
                              !decide
                                  (gEnc
                                      (hs.getD ((0 : Nat) + (↑i : Int).toNat)
                                          (PieceR.mk false false (0 : Int) (0 : Int) (0 : Int) (0 : Int) [] [] [])).st
                                      (hs.getD ((0 : Nat) + (↑i : Int).toNat)
                                          (PieceR.mk false false (0 : Int) (0 : Int) (0 : Int) (0 : Int) [] [] [])).en
                                      (hs.getD ((0 : Nat) + (↑i : Int).toNat)
                                          (PieceR.mk false false (0 : Int) (0 : Int) (0 : Int) (0 : Int) [] [] [])).id
                                      (hs.getD ((0 : Nat) + (↑i : Int).toNat)
                                          (PieceR.mk false false (0 : Int) (0 : Int) (0 : Int) (0 : Int) [] []
                                            [])).total
                                      (hs.getD ((0 : Nat) + (↑i : Int).toNat)
                                          (PieceR.mk false false (0 : Int) (0 : Int) (0 : Int) (0 : Int) [] [] [])).typ
                                      (hs.getD ((0 : Nat) + (↑i : Int).toNat)
                                          (PieceR.mk false false (0 : Int) (0 : Int) (0 : Int) (0 : Int) [] [] [])).k
                                      (List.take (20 : Nat)
                                        (hs.getD ((0 : Nat) + (↑i : Int).toNat)
                                            (PieceR.mk false false (0 : Int) (0 : Int) (0 : Int) (0 : Int) [] []
                                              [])).lb)
                                      (List.take (4500 : Nat)
                                        (hs.getD ((0 : Nat) + (↑i : Int).toNat)
                                            (PieceR.mk false false (0 : Int) (0 : Int) (0 : Int) (0 : Int) [] []
                                              [])).data)
                                      (List.take (20 : Nat)
                                        (hs.getD ((0 : Nat) + (↑i : Int).toNat)
                                            (PieceR.mk false false (0 : Int) (0 : Int) (0 : Int) (0 : Int) [] []
                                              [])).sum) =
                                    [])),
                          ((47 : Nat),
                            AVal.bool
                              !decide
                                  (gEnc
                                      (hs.getD ((0 : Nat) + (↑i : Int).toNat)
                                          (PieceR.mk false false (0 : Int) (0 : Int) (0 : Int) (0 : Int) [] [] [])).st
                                      (hs.getD ((0 : Nat) + (↑i : Int).toNat)
                                          (PieceR.mk false false (0 : Int) (0 : Int) (0 : Int) (0 : Int) [] [] [])).en
                                      (hs.getD ((0 : Nat) + (↑i : Int).toNat)
                                          (PieceR.mk false false (0 : Int) (0 : Int) (0 : Int) (0 : Int) [] [] [])).id
                                      (hs.getD ((0 : Nat) + (↑i : Int).toNat)
                                          (PieceR.mk false false (0 : Int) (0 : Int) (0 : Int) (0 : Int) [] []
                                            [])).total
                                      (hs.getD ((0 : Nat) + (↑i : Int).toNat)
                                          (PieceR.mk false false (0 : Int) (0 : Int) (0 : Int) (0 : Int) [] [] [])).typ
                                      (hs.getD ((0 : Nat) + (↑i : Int).toNat)
                                          (PieceR.mk false false (0 : Int) (0 : Int) (0 : Int) (0 : Int) [] [] [])).k
                                      (List.take (20 : Nat)
                                        (hs.getD ((0 : Nat) + (↑i : Int).toNat)
                                            (PieceR.mk false false (0 : Int) (0 : Int) (0 : Int) (0 : Int) [] []
                                              [])).lb)
                                      (List.take (4500 : Nat)
                                        (hs.getD ((0 : Nat) + (↑i : Int).toNat)
                                            (PieceR.mk false false (0 : Int) (0 : Int) (0 : Int) (0 : Int) [] []
                                              [])).data)
                                      (List.take (20 : Nat)
                                        (hs.getD ((0 : Nat) + (↑i : Int).toNat)
                                            (PieceR.mk false false (0 : Int) (0 : Int) (0 : Int) (0 : Int) [] []
                                              [])).sum) =
                                    [])),
                          ((46 : Nat),
                            AVal.str
                              (gEnc
                                (hs.getD ((0 : Nat) + (↑i : Int).toNat)
                                    (PieceR.mk false false (0 : Int) (0 : Int) (0 : Int) (0 : Int) [] [] [])).st
                                (hs.getD ((0 : Nat) + (↑i : Int).toNat)
                                    (PieceR.mk false false (0 : Int) (0 : Int) (0 : Int) (0 : Int) [] [] [])).en
                                (hs.getD ((0 : Nat) + (↑i : Int).toNat)
                                    (PieceR.mk false false (0 : Int) (0 : Int) (0 : Int) (0 : Int) [] [] [])).id
                                (hs.getD ((0 : Nat) + (↑i : Int).toNat)
                                    (PieceR.mk false false (0 : Int) (0 : Int) (0 : Int) (0 : Int) [] [] [])).total
                                (hs.getD ((0 : Nat) + (↑i : Int).toNat)
                                    (PieceR.mk false false (0 : Int) (0 : Int) (0 : Int) (0 : Int) [] [] [])).typ
                                (hs.getD ((0 : Nat) + (↑i : Int).toNat)
                                    (PieceR.mk false false (0 : Int) (0 : Int) (0 : Int) (0 : Int) [] [] [])).k
                                (List.take (20 : Nat)
                                  (hs.getD ((0 : Nat) + (↑i : Int).toNat)
                                      (PieceR.mk false false (0 : Int) (0 : Int) (0 : Int) (0 : Int) [] [] [])).lb)
                                (List.take (4500 : Nat)
                                  (hs.getD ((0 : Nat) + (↑i : Int).toNat)
                                      (PieceR.mk false false (0 : Int) (0 : Int) (0 : Int) (0 : Int) [] [] [])).data)
                                (List.take (20 : Nat)
                                  (hs.getD ((0 : Nat) + (↑i : Int).toNat)
                                      (PieceR.mk false false (0 : Int) (0 : Int) (0 : Int) (0 : Int) [] [] [])).sum))),
                          ((34 : Nat),
                            AVal.bool
                              (decide
                                (gErr
                                    (hs.getD ((0 : Nat) + (↑i : Int).toNat)
                                        (PieceR.mk false false (0 : Int) (0 : Int) (0 : Int) (0 : Int) [] [] [])).st
                                    (hs.getD ((0 : Nat) + (↑i : Int).toNat)
                                        (PieceR.mk false false (0 : Int) (0 : Int) (0 : Int) (0 : Int) [] [] [])).en
                                    (hs.getD ((0 : Nat) + (↑i : Int).toNat)
                                        (PieceR.mk false false (0 : Int) (0 : Int) (0 : Int) (0 : Int) [] [] [])).id
                                    (hs.getD ((0 : Nat) + (↑i : Int).toNat)
                                        (PieceR.mk false false (0 : Int) (0 : Int) (0 : Int) (0 : Int) [] [] [])).total
                                    (hs.getD ((0 : Nat) + (↑i : Int).toNat)
                                        (PieceR.mk false false (0 : Int) (0 : Int) (0 : Int) (0 : Int) [] [] [])).typ
                                    (hs.getD ((0 : Nat) + (↑i : Int).toNat)
                                        (PieceR.mk false false (0 : Int) (0 : Int) (0 : Int) (0 : Int) [] [] [])).k
                                    (List.take (20 : Nat)
                                      (hs.getD ((0 : Nat) + (↑i : Int).toNat)
                                          (PieceR.mk false false (0 : Int) (0 : Int) (0 : Int) (0 : Int) [] [] [])).lb)
                                    (List.take (4500 : Nat)
                                      (hs.getD ((0 : Nat) + (↑i : Int).toNat)
                                          (PieceR.mk false false (0 : Int) (0 : Int) (0 : Int) (0 : Int) [] []
                                            [])).data)
                                    (List.take (20 : Nat)
                                      (hs.getD ((0 : Nat) + (↑i : Int).toNat)
                                          (PieceR.mk false false (0 : Int) (0 : Int) (0 : Int) (0 : Int) [] []
                                            [])).sum) =
                                  (0 : Int)))),
                          ((33 : Nat),
                            AVal.int IntKind.i64
                              (gErr
                                (hs.getD ((0 : Nat) + (↑i : Int).toNat)
                                    (PieceR.mk false false (0 : Int) (0 : Int) (0 : Int) (0 : Int) [] [] [])).st
                                (hs.getD ((0 : Nat) + (↑i : Int).toNat)
                                    (PieceR.mk false false (0 : Int) (0 : Int) (0 : Int) (0 : Int) [] [] [])).en
                                (hs.getD ((0 : Nat) + (↑i : Int).toNat)
                                    (PieceR.mk false false (0 : Int) (0 : Int) (0 : Int) (0 : Int) [] [] [])).id
                                (hs.getD ((0 : Nat) + (↑i : Int).toNat)
                                    (PieceR.mk false false (0 : Int) (0 : Int) (0 : Int) (0 : Int) [] [] [])).total
                                (hs.getD ((0 : Nat) + (↑i : Int).toNat)
                                    (PieceR.mk false false (0 : Int) (0 : Int) (0 : Int) (0 : Int) [] [] [])).typ
                                (hs.getD ((0 : Nat) + (↑i : Int).toNat)
                                    (PieceR.mk false false (0 : Int) (0 : Int) (0 : Int) (0 : Int) [] [] [])).k
                                (List.take (20 : Nat)
                                  (hs.getD ((0 : Nat) + (↑i : Int).toNat)
                                      (PieceR.mk false false (0 : Int) (0 : Int) (0 : Int) (0 : Int) [] [] [])).lb)
                                (List.take (4500 : Nat)
                                  (hs.getD ((0 : Nat) + (↑i : Int).toNat)
                                      (PieceR.mk false false (0 : Int) (0 : Int) (0 : Int) (0 : Int) [] [] [])).data)
                                (List.take (20 : Nat)
                                  (hs.getD ((0 : Nat) + (↑i : Int).toNat)
                                      (PieceR.mk false false (0 : Int) (0 : Int) (0 : Int) (0 : Int) [] [] [])).sum))),
                          ((9 : Nat),
                            AVal.int IntKind.i64
                              (gErr
                                (hs.getD ((0 : Nat) + (↑i : Int).toNat)
                                    (PieceR.mk false false (0 : Int) (0 : Int) (0 : Int) (0 : Int) [] [] [])).st
                                (hs.getD ((0 : Nat) + (↑i : Int).toNat)
                                    (PieceR.mk false false (0 : Int) (0 : Int) (0 : Int) (0 : Int) [] [] [])).en
                                (hs.getD ((0 : Nat) + (↑i : Int).toNat)
                                    (PieceR.mk false false (0 : Int) (0 : Int) (0 : Int) (0 : Int) [] [] [])).id
                                (hs.getD ((0 : Nat) + (↑i : Int).toNat)
                                    (PieceR.mk false false (0 : Int) (0 : Int) (0 : Int) (0 : Int) [] [] [])).total
                                (hs.getD ((0 : Nat) + (↑i : Int).toNat)
                                    (PieceR.mk false false (0 : Int) (0 : Int) (0 : Int) (0 : Int) [] [] [])).typ
                                (hs.getD ((0 : Nat) + (↑i : Int).toNat)
                                    (PieceR.mk false false (0 : Int) (0 : Int) (0 : Int) (0 : Int) [] [] [])).k
                                (List.take (20 : Nat)
                                  (hs.getD ((0 : Nat) + (↑i : Int).toNat)
                                      (PieceR.mk false false (0 : Int) (0 : Int) (0 : Int) (0 : Int) [] [] [])).lb)
                                (List.take (4500 : Nat)
                                  (hs.getD ((0 : Nat) + (↑i : Int).toNat)
                                      (PieceR.mk false false (0 : Int) (0 : Int) (0 : Int) (0 : Int) [] [] [])).data)
                                (List.take (20 : Nat)
                                  (hs.getD ((0 : Nat) + (↑i : Int).toNat)
                                      (PieceR.mk false false (0 : Int) (0 : Int) (0 : Int) (0 : Int) [] [] [])).sum))),
                          ((8 : Nat),
                            AVal.str
                              (gEnc
                                (hs.getD ((0 : Nat) + (↑i : Int).toNat)
                                    (PieceR.mk false false (0 : Int) (0 : Int) (0 : Int) (0 : Int) [] [] [])).st
                                (hs.getD ((0 : Nat) + (↑i : Int).toNat)
                                    (PieceR.mk false false (0 : Int) (0 : Int) (0 : Int) (0 : Int) [] [] [])).en
                                (hs.getD ((0 : Nat) + (↑i : Int).toNat)
                                    (PieceR.mk false false (0 : Int) (0 : Int) (0 : Int) (0 : Int) [] [] [])).id
                                (hs.getD ((0 : Nat) + (↑i : Int).toNat)
                                    (PieceR.mk false false (0 : Int) (0 : Int) (0 : Int) (0 : Int) [] [] [])).total
                                (hs.getD ((0 : Nat) + (↑i : Int).toNat)
                                    (PieceR.mk false false (0 : Int) (0 : Int) (0 : Int) (0 : Int) [] [] [])).typ
                                (hs.getD ((0 : Nat) + (↑i : Int).toNat)
                                    (PieceR.mk false false (0 : Int) (0 : Int) (0 : Int) (0 : Int) [] [] [])).k
                                (List.take (20 : Nat)
                                  (hs.getD ((0 : Nat) + (↑i : Int).toNat)
                                      (PieceR.mk false false (0 : Int) (0 : Int) (0 : Int) (0 : Int) [] [] [])).lb)
                                (List.take (4500 : Nat)
                                  (hs.getD ((0 : Nat) + (↑i : Int).toNat)
                                      (PieceR.mk false false (0 : Int) (0 : Int) (0 : Int) (0 : Int) [] [] [])).data)
                                (List.take (20 : Nat)
                                  (hs.getD ((0 : Nat) + (↑i : Int).toNat)
                                      (PieceR.mk false false (0 : Int) (0 : Int) (0 : Int) (0 : Int) [] [] [])).sum))),
                          ((32 : Nat),
                            AVal.int IntKind.i64
                              (gErr
                                (hs.getD ((0 : Nat) + (↑i : Int).toNat)
                                    (PieceR.mk false false (0 : Int) (0 : Int) (0 : Int) (0 : Int) [] [] [])).st
                                (hs.getD ((0 : Nat) + (↑i : Int).toNat)
                                    (PieceR.mk false false (0 : Int) (0 : Int) (0 : Int) (0 : Int) [] [] [])).en
                                (hs.getD ((0 : Nat) + (↑i : Int).toNat)
                                    (PieceR.mk false false (0 : Int) (0 : Int) (0 : Int) (0 : Int) [] [] [])).id
                                (hs.getD ((0 : Nat) + (↑i : Int).toNat)
                                    (PieceR.mk false false (0 : Int) (0 : Int) (0 : Int) (0 : Int) [] [] [])).total
                                (hs.getD ((0 : Nat) + (↑i : Int).toNat)
                                    (PieceR.mk false false (0 : Int) (0 : Int) (0 : Int) (0 : Int) [] [] [])).typ
                                (hs.getD ((0 : Nat) + (↑i : Int).toNat)
                                    (PieceR.mk false false (0 : Int) (0 : Int) (0 : Int) (0 : Int) [] [] [])).k
                                (List.take (20 : Nat)
                                  (hs.getD ((0 : Nat) + (↑i : Int).toNat)
                                      (PieceR.mk false false (0 : Int) (0 : Int) (0 : Int) (0 : Int) [] [] [])).lb)
                                (List.take (4500 : Nat)
                                  (hs.getD ((0 : Nat) + (↑i : Int).toNat)
                                      (PieceR.mk false false (0 : Int) (0 : Int) (0 : Int) (0 : Int) [] [] [])).data)
                                (List.take (20 : Nat)
                                  (hs.getD ((0 : Nat) + (↑i : Int).toNat)
                                      (PieceR.mk false false (0 : Int) (0 : Int) (0 : Int) (0 : Int) [] [] [])).sum))),
                          ((31 : Nat),
                            AVal.str
                              (gEnc
                                (hs.getD ((0 : Nat) + (↑i : Int).toNat)
                                    (PieceR.mk false false (0 : Int) (0 : Int) (0 : Int) (0 : Int) [] [] [])).st
                                (hs.getD ((0 : Nat) + (↑i : Int).toNat)
                                    (PieceR.mk false false (0 : Int) (0 : Int) (0 : Int) (0 : Int) [] [] [])).en
                                (hs.getD ((0 : Nat) + (↑i : Int).toNat)
                                    (PieceR.mk false false (0 : Int) (0 : Int) (0 : Int) (0 : Int) [] [] [])).id
                                (hs.getD ((0 : Nat) + (↑i : Int).toNat)
                                    (PieceR.mk false false (0 : Int) (0 : Int) (0 : Int) (0 : Int) [] [] [])).total
                                (hs.getD ((0 : Nat) + (↑i : Int).toNat)
                                    (PieceR.mk false false (0 : Int) (0 : Int) (0 : Int) (0 : Int) [] [] [])).typ
                                (hs.getD ((0 : Nat) + (↑i : Int).toNat)
                                    (PieceR.mk false false (0 : Int) (0 : Int) (0 : Int) (0 : Int) [] [] [])).k
                                (List.take (20 : Nat)
                                  (hs.getD ((0 : Nat) + (↑i : Int).toNat)
                                      (PieceR.mk false false (0 : Int) (0 : Int) (0 : Int) (0 : Int) [] [] [])).lb)
                                (List.take (4500 : Nat)
                                  (hs.getD ((0 : Nat) + (↑i : Int).toNat)
                                      (PieceR.mk false false (0 : Int) (0 : Int) (0 : Int) (0 : Int) [] [] [])).data)
                                (List.take (20 : Nat)
                                  (hs.getD ((0 : Nat) + (↑i : Int).toNat)
                                      (PieceR.mk false false (0 : Int) (0 : Int) (0 : Int) (0 : Int) [] [] [])).sum))),
                          ((24 : Nat),
                            AVal.tup
                              [AVal.str
                                  (gEnc
                                    (hs.getD ((0 : Nat) + (↑i : Int).toNat)
                                        (PieceR.mk false false (0 : Int) (0 : Int) (0 : Int) (0 : Int) [] [] [])).st
                                    (hs.getD ((0 : Nat) + (↑i : Int).toNat)
                                        (PieceR.mk false false (0 : Int) (0 : Int) (0 : Int) (0 : Int) [] [] [])).en
                                    (hs.getD ((0 : Nat) + (↑i : Int).toNat)
                                        (PieceR.mk false false (0 : Int) (0 : Int) (0 : Int) (0 : Int) [] [] [])).id
                                    (hs.getD ((0 : Nat) + (↑i : Int).toNat)
                                        (PieceR.mk false false (0 : Int) (0 : Int) (0 : Int) (0 : Int) [] [] [])).total
                                    (hs.getD ((0 : Nat) + (↑i : Int).toNat)
                                        (PieceR.mk false false (0 : Int) (0 : Int) (0 : Int) (0 : Int) [] [] [])).typ
                                    (hs.getD ((0 : Nat) + (↑i : Int).toNat)
                                        (PieceR.mk false false (0 : Int) (0 : Int) (0 : Int) (0 : Int) [] [] [])).k
                                    (List.take (20 : Nat)
                                      (hs.getD ((0 : Nat) + (↑i : Int).toNat)
                                          (PieceR.mk false false (0 : Int) (0 : Int) (0 : Int) (0 : Int) [] [] [])).lb)
                                    (List.take (4500 : Nat)
                                      (hs.getD ((0 : Nat) + (↑i : Int).toNat)
                                          (PieceR.mk false false (0 : Int) (0 : Int) (0 : Int) (0 : Int) [] []
                                            [])).data)
                                    (List.take (20 : Nat)
                                      (hs.getD ((0 : Nat) + (↑i : Int).toNat)
                                          (PieceR.mk false false (0 : Int) (0 : Int) (0 : Int) (0 : Int) [] []
                                            [])).sum)),
                                AVal.int IntKind.i64
                                  (gErr
                                    (hs.getD ((0 : Nat) + (↑i : Int).toNat)
                                        (PieceR.mk false false (0 : Int) (0 : Int) (0 : Int) (0 : Int) [] [] [])).st
                                    (hs.getD ((0 : Nat) + (↑i : Int).toNat)
                                        (PieceR.mk false false (0 : Int) (0 : Int) (0 : Int) (0 : Int) [] [] [])).en
                                    (hs.getD ((0 : Nat) + (↑i : Int).toNat)
                                        (PieceR.mk false false (0 : Int) (0 : Int) (0 : Int) (0 : Int) [] [] [])).id
                                    (hs.getD ((0 : Nat) + (↑i : Int).toNat)
                                        (PieceR.mk false false (0 : Int) (0 : Int) (0 : Int) (0 : Int) [] [] [])).total
                                    (hs.getD ((0 : Nat) + (↑i : Int).toNat)
                                        (PieceR.mk false false (0 : Int) (0 : Int) (0 : Int) (0 : Int) [] [] [])).typ
                                    (hs.getD ((0 : Nat) + (↑i : Int).toNat)
                                        (PieceR.mk false false (0 : Int) (0 : Int) (0 : Int) (0 : Int) [] [] [])).k
                                    (List.take (20 : Nat)
                                      (hs.getD ((0 : Nat) + (↑i : Int).toNat)
                                          (PieceR.mk false false (0 : Int) (0 : Int) (0 : Int) (0 : Int) [] [] [])).lb)
                                    (List.take (4500 : Nat)
                                      (hs.getD ((0 : Nat) + (↑i : Int).toNat)
                                          (PieceR.mk false false (0 : Int) (0 : Int) (0 : Int) (0 : Int) [] []
                                            [])).data)
                                    (List.take (20 : Nat)
                                      (hs.getD ((0 : Nat) + (↑i : Int).toNat)
                                          (PieceR.mk false false (0 : Int) (0 : Int) (0 : Int) (0 : Int) [] []
                                            [])).sum))]),
                          ((30 : Nat),
                            AVal.tup
                              [AVal.str
                                  (gEnc
                                    (hs.getD ((0 : Nat) + (↑i : Int).toNat)
                                        (PieceR.mk false false (0 : Int) (0 : Int) (0 : Int) (0 : Int) [] [] [])).st
                                    (hs.getD ((0 : Nat) + (↑i : Int).toNat)
                                        (PieceR.mk false false (0 : Int) (0 : Int) (0 : Int) (0 : Int) [] [] [])).en
                                    (hs.getD ((0 : Nat) + (↑i : Int).toNat)
                                        (PieceR.mk false false (0 : Int) (0 : Int) (0 : Int) (0 : Int) [] [] [])).id
                                    (hs.getD ((0 : Nat) + (↑i : Int).toNat)
                                        (PieceR.mk false false (0 : Int) (0 : Int) (0 : Int) (0 : Int) [] [] [])).total
                                    (hs.getD ((0 : Nat) + (↑i : Int).toNat)
                                        (PieceR.mk false false (0 : Int) (0 : Int) (0 : Int) (0 : Int) [] [] [])).typ
                                    (hs.getD ((0 : Nat) + (↑i : Int).toNat)
                                        (PieceR.mk false false (0 : Int) (0 : Int) (0 : Int) (0 : Int) [] [] [])).k
                                    (List.take (20 : Nat)
                                      (hs.getD ((0 : Nat) + (↑i : Int).toNat)
                                          (PieceR.mk false false (0 : Int) (0 : Int) (0 : Int) (0 : Int) [] [] [])).lb)
                                    (List.take (4500 : Nat)
                                      (hs.getD ((0 : Nat) + (↑i : Int).toNat)
                                          (PieceR.mk false false (0 : Int) (0 : Int) (0 : Int) (0 : Int) [] []
                                            [])).data)
                                    (List.take (20 : Nat)
                                      (hs.getD ((0 : Nat) + (↑i : Int).toNat)
                                          (PieceR.mk false false (0 : Int) (0 : Int) (0 : Int) (0 : Int) [] []
                                            [])).sum)),
                                AVal.int IntKind.i64
                                  (gErr
                                    (hs.getD ((0 : Nat) + (↑i : Int).toNat)
                                        (PieceR.mk false false (0 : Int) (0 : Int) (0 : Int) (0 : Int) [] [] [])).st
                                    (hs.getD ((0 : Nat) + (↑i : Int).toNat)
                                        (PieceR.mk false false (0 : Int) (0 : Int) (0 : Int) (0 : Int) [] [] [])).en
                                    (hs.getD ((0 : Nat) + (↑i : Int).toNat)
                                        (PieceR.mk false false (0 : Int) (0 : Int) (0 : Int) (0 : Int) [] [] [])).id
                                    (hs.getD ((0 : Nat) + (↑i : Int).toNat)
                                        (PieceR.mk false false (0 : Int) (0 : Int) (0 : Int) (0 : Int) [] [] [])).total
                                    (hs.getD ((0 : Nat) + (↑i : Int).toNat)
                                        (PieceR.mk false false (0 : Int) (0 : Int) (0 : Int) (0 : Int) [] [] [])).typ
                                    (hs.getD ((0 : Nat) + (↑i : Int).toNat)
                                        (PieceR.mk false false (0 : Int) (0 : Int) (0 : Int) (0 : Int) [] [] [])).k
                                    (List.take (20 : Nat)
                                      (hs.getD ((0 : Nat) + (↑i : Int).toNat)
                                          (PieceR.mk false false (0 : Int) (0 : Int) (0 : Int) (0 : Int) [] [] [])).lb)
                                    (List.take (4500 : Nat)
                                      (hs.getD ((0 : Nat) + (↑i : Int).toNat)
                                          (PieceR.mk false false (0 : Int) (0 : Int) (0 : Int) (0 : Int) [] []
                                            [])).data)
                                    (List.take (20 : Nat)
                                      (hs.getD ((0 : Nat) + (↑i : Int).toNat)
                                          (PieceR.mk false false (0 : Int) (0 : Int) (0 : Int) (0 : Int) [] []
                                            [])).sum))]),
                          ((29 : Nat),
                            AVal.agg
                              [AVal.bool
                                  (hs.getD ((0 : Nat) + (↑i : Int).toNat)
                                      (PieceR.mk false false (0 : Int) (0 : Int) (0 : Int) (0 : Int) [] [] [])).st,
                                AVal.bool
                                  (hs.getD ((0 : Nat) + (↑i : Int).toNat)
                                      (PieceR.mk false false (0 : Int) (0 : Int) (0 : Int) (0 : Int) [] [] [])).en,
                                AVal.int IntKind.i64
                                  (hs.getD ((0 : Nat) + (↑i : Int).toNat)
                                      (PieceR.mk false false (0 : Int) (0 : Int) (0 : Int) (0 : Int) [] [] [])).id,
                                AVal.int IntKind.i64
                                  (hs.getD ((0 : Nat) + (↑i : Int).toNat)
                                      (PieceR.mk false false (0 : Int) (0 : Int) (0 : Int) (0 : Int) [] [] [])).total,
                                AVal.int IntKind.i64
                                  (hs.getD ((0 : Nat) + (↑i : Int).toNat)
                                      (PieceR.mk false false (0 : Int) (0 : Int) (0 : Int) (0 : Int) [] [] [])).typ,
                                AVal.int IntKind.i64
                                  (hs.getD ((0 : Nat) + (↑i : Int).toNat)
                                      (PieceR.mk false false (0 : Int) (0 : Int) (0 : Int) (0 : Int) [] [] [])).k,
                                AVal.str
                                  (List.take (20 : Nat)
                                    (hs.getD ((0 : Nat) + (↑i : Int).toNat)
                                        (PieceR.mk false false (0 : Int) (0 : Int) (0 : Int) (0 : Int) [] [] [])).lb),
                                AVal.str
                                  (List.take (4500 : Nat)
                                    (hs.getD ((0 : Nat) + (↑i : Int).toNat)
                                        (PieceR.mk false false (0 : Int) (0 : Int) (0 : Int) (0 : Int) [] [] [])).data),
                                AVal.str
                                  (List.take (20 : Nat)
                                    (hs.getD ((0 : Nat) + (↑i : Int).toNat)
                                        (PieceR.mk false false (0 : Int) (0 : Int) (0 : Int) (0 : Int) [] []
                                          [])).sum)]),
                          ((28 : Nat),
                            AVal.agg
                              [AVal.bool
                                  (hs.getD ((0 : Nat) + (↑i : Int).toNat)
                                      (PieceR.mk false false (0 : Int) (0 : Int) (0 : Int) (0 : Int) [] [] [])).st,
                                AVal.bool
                                  (hs.getD ((0 : Nat) + (↑i : Int).toNat)
                                      (PieceR.mk false false (0 : Int) (0 : Int) (0 : Int) (0 : Int) [] [] [])).en,
                                AVal.int IntKind.i64
                                  (hs.getD ((0 : Nat) + (↑i : Int).toNat)
                                      (PieceR.mk false false (0 : Int) (0 : Int) (0 : Int) (0 : Int) [] [] [])).id,
                                AVal.int IntKind.i64
                                  (hs.getD ((0 : Nat) + (↑i : Int).toNat)
                                      (PieceR.mk false false (0 : Int) (0 : Int) (0 : Int) (0 : Int) [] [] [])).total,
                                AVal.int IntKind.i64
                                  (hs.getD ((0 : Nat) + (↑i : Int).toNat)
                                      (PieceR.mk false false (0 : Int) (0 : Int) (0 : Int) (0 : Int) [] [] [])).typ,
                                AVal.int IntKind.i64
                                  (hs.getD ((0 : Nat) + (↑i : Int).toNat)
                                      (PieceR.mk false false (0 : Int) (0 : Int) (0 : Int) (0 : Int) [] [] [])).k,
                                AVal.str
                                  (hs.getD ((0 : Nat) + (↑i : Int).toNat)
                                      (PieceR.mk false false (0 : Int) (0 : Int) (0 : Int) (0 : Int) [] [] [])).lb,
                                AVal.str
                                  (hs.getD ((0 : Nat) + (↑i : Int).toNat)
                                      (PieceR.mk false false (0 : Int) (0 : Int) (0 : Int) (0 : Int) [] [] [])).data,
                                AVal.str
                                  (hs.getD ((0 : Nat) + (↑i : Int).toNat)
                                      (PieceR.mk false false (0 : Int) (0 : Int) (0 : Int) (0 : Int) [] [] [])).sum]),
                          ((27 : Nat), AVal.ptr (0 : Nat) ((0 : Nat) + (↑i : Int).toNat) (9 : Nat) (0 : Nat)),
                          ((26 : Nat), AVal.int IntKind.i64 (↑i : Int)),
                          ((25 : Nat), AVal.sl (0 : Nat) (0 : Nat) (9 : Nat) (0 : Nat) hs.length none),
                          ((21 : Nat), AVal.bool (decide ((↑i : Int) < (40 : Int)))),
                          ((20 : Nat), AVal.bool (decide ((↑i : Int) < (40 : Int)))), ((18 : Nat), AVal.bool true),
                          ((19 : Nat), AVal.int IntKind.i64 (↑i : Int)), ((18 : Nat), AVal.bool true),
                          ((18 : Nat), AVal.bool (decide ((↑i : Int) < (↑hs.length : Int)))),
                          ((17 : Nat), AVal.bool (decide ((↑i : Int) < (↑hs.length : Int)))),
                          ((16 : Nat), AVal.int IntKind.i64 (↑hs.length : Int)),
                          ((15 : Nat), AVal.sl (0 : Nat) (0 : Nat) (9 : Nat) (0 : Nat) hs.length none),
                          ((14 : Nat), AVal.int IntKind.i64 (↑i : Int)), ((7 : Nat), AVal.int IntKind.i64 (↑i : Int)),
                          ((6 : Nat), AVal.nils), ((5 : Nat), AVal.str S), ((1 : Nat), AVal.int IntKind.u8 zeros),
                          ((0 : Nat), AVal.sl (0 : Nat) (0 : Nat) (9 : Nat) (0 : Nat) hs.length none)]
                        (AHeap.mk (2 : Nat) [((0 : Nat), ABlk.row (27 : Nat) pieceRow hs RowMd.ro)]))
                      (obl (inI64 ((↑i : Int) + (1 : Int)))
                        (QQ AExit.normal
                          [((7 : Nat), AVal.int IntKind.i64 ((↑i : Int) + (1 : Int))),
                            ((23 : Nat), AVal.int IntKind.i64 ((↑i : Int) + (1 : Int))),
                            ((22 : Nat), AVal.int IntKind.i64 (↑i : Int)),
                            ((57 : Nat),
                              AVal.bool
                                !decide
                                    (gErr
                                        (hs.getD ((0 : Nat) + (↑i : Int).toNat)
                                            (PieceR.mk false false (0 : Int) (0 : Int) (0 : Int) (0 : Int) [] [] [])).st
                                        (hs.getD ((0 : Nat) + (↑i : Int).toNat)
                                            (PieceR.mk false false (0 : Int) (0 : Int) (0 : Int) (0 : Int) [] [] [])).en
                                        (hs.getD ((0 : Nat) + (↑i : Int).toNat)
                                            (PieceR.mk false false (0 : Int) (0 : Int) (0 : Int) (0 : Int) [] [] [])).id
                                        (hs.getD ((0 : Nat) + (↑i : Int).toNat)
                                            (PieceR.mk false false (0 : Int) (0 : Int) (0 : Int) (0 : Int) [] []
                                              [])).total
                                        (hs.getD ((0 : Nat) + (↑i : Int).toNat)
                                            (PieceR.mk false false (0 : Int) (0 : Int) (0 : Int) (0 : Int) [] []
                                              [])).typ
                                        (hs.getD ((0 : Nat) + (↑i : Int).toNat)
                                            (PieceR.mk false false (0 : Int) (0 : Int) (0 : Int) (0 : Int) [] [] [])).k
                                        (List.take (20 : Nat)
                                          (hs.getD ((0 : Nat) + (↑i : Int).toNat)
                                              (PieceR.mk false false (0 : Int) (0 : Int) (0 : Int) (0 : Int) [] []
                                                [])).lb)
                                        (List.take (4500 : Nat)
                                          (hs.getD ((0 : Nat) + (↑i : Int).toNat)
                                              (PieceR.mk false false (0 : Int) (0 : Int) (0 : Int) (0 : Int) [] []
                                                [])).data)
                                        (List.take (20 : Nat)
                                          (hs.getD ((0 : Nat) + (↑i : Int).toNat)
                                              (PieceR.mk false false (0 : Int) (0 : Int) (0 : Int) (0 : Int) [] []
                                                [])).sum) =
                                      gErr
                                        (hs.getD ((0 : Nat) + (↑i : Int).toNat)
                                            (PieceR.mk false false (0 : Int) (0 : Int) (0 : Int) (0 : Int) [] [] [])).st
                                        (hs.getD ((0 : Nat) + (↑i : Int).toNat)
                                            (PieceR.mk false false (0 : Int) (0 : Int) (0 : Int) (0 : Int) [] [] [])).en
                                        (hs.getD ((0 : Nat) + (↑i : Int).toNat)
                                            (PieceR.mk false false (0 : Int) (0 : Int) (0 : Int) (0 : Int) [] [] [])).id
                                        (hs.getD ((0 : Nat) + (↑i : Int).toNat)
                                            (PieceR.mk false false (0 : Int) (0 : Int) (0 : Int) (0 : Int) [] []
                                              [])).total
                                        (hs.getD ((0 : Nat) + (↑i : Int).toNat)
                                            (PieceR.mk false false (0 : Int) (0 : Int) (0 : Int) (0 : Int) [] []
                                              [])).typ
                                        (hs.getD ((0 : Nat) + (↑i : Int).toNat)
                                            (PieceR.mk false false (0 : Int) (0 : Int) (0 : Int) (0 : Int) [] [] [])).k
                                        (List.take (20 : Nat)
                                          (hs.getD ((0 : Nat) + (↑i : Int).toNat)
                                              (PieceR.mk false false (0 : Int) (0 : Int) (0 : Int) (0 : Int) [] []
                                                [])).lb)
                                        (List.take (4500 : Nat)
                                          (hs.getD ((0 : Nat) + (↑i : Int).toNat)
                                              (PieceR.mk false false (0 : Int) (0 : Int) (0 : Int) (0 : Int) [] []
                                                [])).data)
                                        (List.take (20 : Nat)
                                          (hs.getD ((0 : Nat) + (↑i : Int).toNat)
                                              (PieceR.mk false false (0 : Int) (0 : Int) (0 : Int) (0 : Int) [] []
                                                [])).sum))),
                            ((56 : Nat),
                              AVal.bool
                                !decide
                                    (gErr
                                        (hs.getD ((0 : Nat) + (↑i : Int).toNat)
                                            (PieceR.mk false false (0 : Int) (0 : Int) (0 : Int) (0 : Int) [] [] [])).st
                                        (hs.getD ((0 : Nat) + (↑i : Int).toNat)
                                            (PieceR.mk false false (0 : Int) (0 : Int) (0 : Int) (0 : Int) [] [] [])).en
                                        (hs.getD ((0 : Nat) + (↑i : Int).toNat)
                                            (PieceR.mk false false (0 : Int) (0 : Int) (0 : Int) (0 : Int) [] [] [])).id
                                        (hs.getD ((0 : Nat) + (↑i : Int).toNat)
                                            (PieceR.mk false false (0 : Int) (0 : Int) (0 : Int) (0 : Int) [] []
                                              [])).total
                                        (hs.getD ((0 : Nat) + (↑i : Int).toNat)
                                            (PieceR.mk false false (0 : Int) (0 : Int) (0 : Int) (0 : Int) [] []
                                              [])).typ
                                        (hs.getD ((0 : Nat) + (↑i : Int).toNat)
                                            (PieceR.mk false false (0 : Int) (0 : Int) (0 : Int) (0 : Int) [] [] [])).k
                                        (List.take (20 : Nat)
                                          (hs.getD ((0 : Nat) + (↑i : Int).toNat)
                                              (PieceR.mk false false (0 : Int) (0 : Int) (0 : Int) (0 : Int) [] []
                                                [])).lb)
                                        (List.take (4500 : Nat)
                                          (hs.getD ((0 : Nat) + (↑i : Int).toNat)
                                              (PieceR.mk false false (0 : Int) (0 : Int) (0 : Int) (0 : Int) [] []
                                                [])).data)
                                        (List.take (20 : Nat)
                                          (hs.getD ((0 : Nat) + (↑i : Int).toNat)
                                              (PieceR.mk false false (0 : Int) (0 : Int) (0 : Int) (0 : Int) [] []
                                                [])).sum) =
                                      gErr
                                        (hs.getD ((0 : Nat) + (↑i : Int).toNat)
                                            (PieceR.mk false false (0 : Int) (0 : Int) (0 : Int) (0 : Int) [] [] [])).st
                                        (hs.getD ((0 : Nat) + (↑i : Int).toNat)
                                            (PieceR.mk false false (0 : Int) (0 : Int) (0 : Int) (0 : Int) [] [] [])).en
                                        (hs.getD ((0 : Nat) + (↑i : Int).toNat)
                                            (PieceR.mk false false (0 : Int) (0 : Int) (0 : Int) (0 : Int) [] [] [])).id
                                        (hs.getD ((0 : Nat) + (↑i : Int).toNat)
                                            (PieceR.mk false false (0 : Int) (0 : Int) (0 : Int) (0 : Int) [] []
                                              [])).total
                                        (hs.getD ((0 : Nat) + (↑i : Int).toNat)
                                            (PieceR.mk false false (0 : Int) (0 : Int) (0 : Int) (0 : Int) [] []
                                              [])).typ
                                        (hs.getD ((0 : Nat) + (↑i : Int).toNat)
                                            (PieceR.mk false false (0 : Int) (0 : Int) (0 : Int) (0 : Int) [] [] [])).k
                                        (List.take (20 : Nat)
                                          (hs.getD ((0 : Nat) + (↑i : Int).toNat)
                                              (PieceR.mk false false (0 : Int) (0 : Int) (0 : Int) (0 : Int) [] []
                                                [])).lb)
                                        (List.take (4500 : Nat)
                                          (hs.getD ((0 : Nat) + (↑i : Int).toNat)
                                              (PieceR.mk false false (0 : Int) (0 : Int) (0 : Int) (0 : Int) [] []
                                                [])).data)
                                        (List.take (20 : Nat)
                                          (hs.getD ((0 : Nat) + (↑i : Int).toNat)
                                              (PieceR.mk false false (0 : Int) (0 : Int) (0 : Int) (0 : Int) [] []
                                                [])).sum))),
                            ((48 : Nat), AVal.bool false),
                            ((55 : Nat),
                              AVal.int IntKind.i64
                                (gErr
                                  (hs.getD ((0 : Nat) + (↑i : Int).toNat)
                                      (PieceR.mk false false (0 : Int) (0 : Int) (0 : Int) (0 : Int) [] [] [])).st
                                  (hs.getD ((0 : Nat) + (↑i : Int).toNat)
                                      (PieceR.mk false false (0 : Int) (0 : Int) (0 : Int) (0 : Int) [] [] [])).en
                                  (hs.getD ((0 : Nat) + (↑i : Int).toNat)
                                      (PieceR.mk false false (0 : Int) (0 : Int) (0 : Int) (0 : Int) [] [] [])).id
                                  (hs.getD ((0 : Nat) + (↑i : Int).toNat)
                                      (PieceR.mk false false (0 : Int) (0 : Int) (0 : Int) (0 : Int) [] [] [])).total
                                  (hs.getD ((0 : Nat) + (↑i : Int).toNat)
                                      (PieceR.mk false false (0 : Int) (0 : Int) (0 : Int) (0 : Int) [] [] [])).typ
                                  (hs.getD ((0 : Nat) + (↑i : Int).toNat)
                                      (PieceR.mk false false (0 : Int) (0 : Int) (0 : Int) (0 : Int) [] [] [])).k
                                  (List.take (20 : Nat)
                                    (hs.getD ((0 : Nat) + (↑i : Int).toNat)
                                        (PieceR.mk false false (0 : Int) (0 : Int) (0 : Int) (0 : Int) [] [] [])).lb)
                                  (List.take (4500 : Nat)
                                    (hs.getD ((0 : Nat) + (↑i : Int).toNat)
                                        (PieceR.mk false false (0 : Int) (0 : Int) (0 : Int) (0 : Int) [] [] [])).data)
                                  (List.take (20 : Nat)
                                    (hs.getD ((0 : Nat) + (↑i : Int).toNat)
                                        (PieceR.mk false false (0 : Int) (0 : Int) (0 : Int) (0 : Int) [] []
                                          [])).sum))),
                            ((48 : Nat), AVal.bool false),
                            ((54 : Nat),
                              AVal.agg
                                [AVal.bool
                                    (hs.getD ((0 : Nat) + (↑i : Int).toNat)
                                        (PieceR.mk false false (0 : Int) (0 : Int) (0 : Int) (0 : Int) [] [] [])).st,
                                  AVal.bool
                                    (hs.getD ((0 : Nat) + (↑i : Int).toNat)
                                        (PieceR.mk false false (0 : Int) (0 : Int) (0 : Int) (0 : Int) [] [] [])).en,
                                  AVal.int IntKind.i64
                                    (hs.getD ((0 : Nat) + (↑i : Int).toNat)
                                        (PieceR.mk false false (0 : Int) (0 : Int) (0 : Int) (0 : Int) [] [] [])).id,
                                  AVal.int IntKind.i64
                                    (hs.getD ((0 : Nat) + (↑i : Int).toNat)
                                        (PieceR.mk false false (0 : Int) (0 : Int) (0 : Int) (0 : Int) [] [] [])).total,
                                  AVal.int IntKind.i64
                                    (hs.getD ((0 : Nat) + (↑i : Int).toNat)
                                        (PieceR.mk false false (0 : Int) (0 : Int) (0 : Int) (0 : Int) [] [] [])).typ,
                                  AVal.int IntKind.i64
                                    (hs.getD ((0 : Nat) + (↑i : Int).toNat)
                                        (PieceR.mk false false (0 : Int) (0 : Int) (0 : Int) (0 : Int) [] [] [])).k,
                                  AVal.str
                                    (List.take (20 : Nat)
                                      (hs.getD ((0 : Nat) + (↑i : Int).toNat)
                                          (PieceR.mk false false (0 : Int) (0 : Int) (0 : Int) (0 : Int) [] [] [])).lb),
                                  AVal.str
                                    (List.take (4500 : Nat)
                                      (hs.getD ((0 : Nat) + (↑i : Int).toNat)
                                          (PieceR.mk false false (0 : Int) (0 : Int) (0 : Int) (0 : Int) [] []
                                            [])).data),
                                  AVal.str
                                    (List.take (20 : Nat)
                                      (hs.getD ((0 : Nat) + (↑i : Int).toNat)
                                          (PieceR.mk false false (0 : Int) (0 : Int) (0 : Int) (0 : Int) [] []
                                            [])).sum)]),
                            ((48 : Nat), AVal.bool false),
                            ((53 : Nat),
                              AVal.agg
                                [AVal.bool
                                    (hs.getD ((0 : Nat) + (↑i : Int).toNat)
                                        (PieceR.mk false false (0 : Int) (0 : Int) (0 : Int) (0 : Int) [] [] [])).st,
                                  AVal.bool
                                    (hs.getD ((0 : Nat) + (↑i : Int).toNat)
                                        (PieceR.mk false false (0 : Int) (0 : Int) (0 : Int) (0 : Int) [] [] [])).en,
                                  AVal.int IntKind.i64
                                    (hs.getD ((0 : Nat) + (↑i : Int).toNat)
                                        (PieceR.mk false false (0 : Int) (0 : Int) (0 : Int) (0 : Int) [] [] [])).id,
                                  AVal.int IntKind.i64
                                    (hs.getD ((0 : Nat) + (↑i : Int).toNat)
                                        (PieceR.mk false false (0 : Int) (0 : Int) (0 : Int) (0 : Int) [] [] [])).total,
                                  AVal.int IntKind.i64
                                    (hs.getD ((0 : Nat) + (↑i : Int).toNat)
                                        (PieceR.mk false false (0 : Int) (0 : Int) (0 : Int) (0 : Int) [] [] [])).typ,
                                  AVal.int IntKind.i64
                                    (hs.getD ((0 : Nat) + (↑i : Int).toNat)
                                        (PieceR.mk false false (0 : Int) (0 : Int) (0 : Int) (0 : Int) [] [] [])).k,
                                  AVal.str
                                    (hs.getD ((0 : Nat) + (↑i : Int).toNat)
                                        (PieceR.mk false false (0 : Int) (0 : Int) (0 : Int) (0 : Int) [] [] [])).lb,
                                  AVal.str
                                    (hs.getD ((0 : Nat) + (↑i : Int).toNat)
                                        (PieceR.mk false false (0 : Int) (0 : Int) (0 : Int) (0 : Int) [] [] [])).data,
                                  AVal.str
                                    (hs.getD ((0 : Nat) + (↑i : Int).toNat)
                                        (PieceR.mk false false (0 : Int) (0 : Int) (0 : Int) (0 : Int) [] [] [])).sum]),
                            ((48 : Nat), AVal.bool false),
                            ((52 : Nat), AVal.ptr (0 : Nat) ((0 : Nat) + (↑i : Int).toNat) (9 : Nat) (0 : Nat)),
                            ((48 : Nat), AVal.bool false), ((51 : Nat), AVal.int IntKind.i64 (↑i : Int)),
                            ((48 : Nat), AVal.bool false),
                            ((50 : Nat), AVal.sl (0 : Nat) (0 : Nat) (9 : Nat) (0 : Nat) hs.length none),
                            ((48 : Nat), AVal.bool false),
                            ((49 : Nat),
                              AVal.int IntKind.i64
                                (gErr
                                  (hs.getD ((0 : Nat) + (↑i : Int).toNat)
                                      (PieceR.mk false false (0 : Int) (0 : Int) (0 : Int) (0 : Int) [] [] [])).st
                                  (hs.getD ((0 : Nat) + (↑i : Int).toNat)
                                      (PieceR.mk false false (0 : Int) (0 : Int) (0 : Int) (0 : Int) [] [] [])).en
                                  (hs.getD ((0 : Nat) + (↑i : Int).toNat)
                                      (PieceR.mk false false (0 : Int) (0 : Int) (0 : Int) (0 : Int) [] [] [])).id
                                  (hs.getD ((0 : Nat) + (↑i : Int).toNat)
                                      (PieceR.mk false false (0 : Int) (0 : Int) (0 : Int) (0 : Int) [] [] [])).total
                                  (hs.getD ((0 : Nat) + (↑i : Int).toNat)
                                      (PieceR.mk false false (0 : Int) (0 : Int) (0 : Int) (0 : Int) [] [] [])).typ
                                  (hs.getD ((0 : Nat) + (↑i : Int).toNat)
                                      (PieceR.mk false false (0 : Int) (0 : Int) (0 : Int) (0 : Int) [] [] [])).k
                                  (List.take (20 : Nat)
                                    (hs.getD ((0 : Nat) + (↑i : Int).toNat)
                                        (PieceR.mk false false (0 : Int) (0 : Int) (0 : Int) (0 : Int) [] [] [])).lb)
                                  (List.take (4500 : Nat)
                                    (hs.getD ((0 : Nat) + (↑i : Int).toNat)
                                        (PieceR.mk false false (0 : Int) (0 : Int) (0 : Int) (0 : Int) [] [] [])).data)
                                  (List.take (20 : Nat)
                                    (hs.getD ((0 : Nat) + (↑i : Int).toNat)
                                        (PieceR.mk false false (0 : Int) (0 : Int) (0 : Int) (0 : Int) [] []
                                          [])).sum))),
                            ((48 : Nat), AVal.bool false),
                            ((48 : Nat),
                              AVal.bool
                                !decide
                                    (gEnc
                                        (hs.getD ((0 : Nat) + (↑i : Int).toNat)
                                            (PieceR.mk false false (0 : Int) (0 : Int) (0 : Int) (0 : Int) [] [] [])).st
                                        (hs.getD ((0 : Nat) + (↑i : Int).toNat)
                                            (PieceR.mk false false (0 : Int) (0 : Int) (0 : Int) (0 : Int) [] [] [])).en
                                        (hs.getD ((0 : Nat) + (↑i : Int).toNat)
                                            (PieceR.mk false false (0 : Int) (0 : Int) (0 : Int) (0 : Int) [] [] [])).id
                                        (hs.getD ((0 : Nat) + (↑i : Int).toNat)
                                            (PieceR.mk false false (0 : Int) (0 : Int) (0 : Int) (0 : Int) [] []
                                              [])).total
                                        (hs.getD ((0 : Nat) + (↑i : Int).toNat)
                                            (PieceR.mk false false (0 : Int) (0 : Int) (0 : Int) (0 : Int) [] []
                                              [])).typ
                                        (hs.getD ((0 : Nat) + (↑i : Int).toNat)
                                            (PieceR.mk false false (0 : Int) (0 : Int) (0 : Int) (0 : Int) [] [] [])).k
                                        (List.take (20 : Nat)
                                          (hs.getD ((0 : Nat) + (↑i : Int).toNat)
                                              (PieceR.mk false false (0 : Int) (0 : Int) (0 : Int) (0 : Int) [] []
                                                [])).lb)
                                        (List.take (4500 : Nat)
                                          (hs.getD ((0 : Nat) + (↑i : Int).toNat)
                                              (PieceR.mk false false (0 : Int) (0 : Int) (0 : Int) (0 : Int) [] []
                                                [])).data)
                                        (List.take (20 : Nat)
                                          (hs.getD ((0 : Nat) + (↑i : Int).toNat)
                                              (PieceR.mk false false (0 : Int) (0 : Int) (0 : Int) (0 : Int) [] []
                                                [])).sum) =
                                      [])),
                            ((47 : Nat),
                              AVal.bool
                                !decide
                                    (gEnc
                                        (hs.getD ((0 : Nat) + (↑i : Int).toNat)
                                            (PieceR.mk false false (0 : Int) (0 : Int) (0 : Int) (0 : Int) [] [] [])).st
                                        (hs.getD ((0 : Nat) + (↑i : Int).toNat)
                                            (PieceR.mk false false (0 : Int) (0 : Int) (0 : Int) (0 : Int) [] [] [])).en
                                        (hs.getD ((0 : Nat) + (↑i : Int).toNat)
                                            (PieceR.mk false false (0 : Int) (0 : Int) (0 : Int) (0 : Int) [] [] [])).id
                                        (hs.getD ((0 : Nat) + (↑i : Int).toNat)
                                            (PieceR.mk false false (0 : Int) (0 : Int) (0 : Int) (0 : Int) [] []
                                              [])).total
                                        (hs.getD ((0 : Nat) + (↑i : Int).toNat)
                                            (PieceR.mk false false (0 : Int) (0 : Int) (0 : Int) (0 : Int) [] []
                                              [])).typ
                                        (hs.getD ((0 : Nat) + (↑i : Int).toNat)
                                            (PieceR.mk false false (0 : Int) (0 : Int) (0 : Int) (0 : Int) [] [] [])).k
                                        (List.take (20 : Nat)
                                          (hs.getD ((0 : Nat) + (↑i : Int).toNat)
                                              (PieceR.mk false false (0 : Int) (0 : Int) (0 : Int) (0 : Int) [] []
                                                [])).lb)
                                        (List.take (4500 : Nat)
                                          (hs.getD ((0 : Nat) + (↑i : Int).toNat)
                                              (PieceR.mk false false (0 : Int) (0 : Int) (0 : Int) (0 : Int) [] []
                                                [])).data)
                                        (List.take (20 : Nat)
                                          (hs.getD ((0 : Nat) + (↑i : Int).toNat)
                                              (PieceR.mk false false (0 : Int) (0 : Int) (0 : Int) (0 : Int) [] []
                                                [])).sum) =
                                      [])),
                            ((46 : Nat),
                              AVal.str
                                (gEnc
                                  (hs.getD ((0 : Nat) + (↑i : Int).toNat)
                                      (PieceR.mk false false (0 : Int) (0 : Int) (0 : Int) (0 : Int) [] [] [])).st
                                  (hs.getD ((0 : Nat) + (↑i : Int).toNat)
                                      (PieceR.mk false false (0 : Int) (0 : Int) (0 : Int) (0 : Int) [] [] [])).en
                                  (hs.getD ((0 : Nat) + (↑i : Int).toNat)
                                      (PieceR.mk false false (0 : Int) (0 : Int) (0 : Int) (0 : Int) [] [] [])).id
                                  (hs.getD ((0 : Nat) + (↑i : Int).toNat)
                                      (PieceR.mk false false (0 : Int) (0 : Int) (0 : Int) (0 : Int) [] [] [])).total
                                  (hs.getD ((0 : Nat) + (↑i : Int).toNat)
                                      (PieceR.mk false false (0 : Int) (0 : Int) (0 : Int) (0 : Int) [] [] [])).typ
                                  (hs.getD ((0 : Nat) + (↑i : Int).toNat)
                                      (PieceR.mk false false (0 : Int) (0 : Int) (0 : Int) (0 : Int) [] [] [])).k
                                  (List.take (20 : Nat)
                                    (hs.getD ((0 : Nat) + (↑i : Int).toNat)
                                        (PieceR.mk false false (0 : Int) (0 : Int) (0 : Int) (0 : Int) [] [] [])).lb)
                                  (List.take (4500 : Nat)
                                    (hs.getD ((0 : Nat) + (↑i : Int).toNat)
                                        (PieceR.mk false false (0 : Int) (0 : Int) (0 : Int) (0 : Int) [] [] [])).data)
                                  (List.take (20 : Nat)
                                    (hs.getD ((0 : Nat) + (↑i : Int).toNat)
                                        (PieceR.mk false false (0 : Int) (0 : Int) (0 : Int) (0 : Int) [] []
                                          [])).sum))),
                            ((34 : Nat),
                              AVal.bool
                                (decide
                                  (gErr
                                      (hs.getD ((0 : Nat) + (↑i : Int).toNat)
                                          (PieceR.mk false false (0 : Int) (0 : Int) (0 : Int) (0 : Int) [] [] [])).st
                                      (hs.getD ((0 : Nat) + (↑i : Int).toNat)
                                          (PieceR.mk false false (0 : Int) (0 : Int) (0 : Int) (0 : Int) [] [] [])).en
                                      (hs.getD ((0 : Nat) + (↑i : Int).toNat)
                                          (PieceR.mk false false (0 : Int) (0 : Int) (0 : Int) (0 : Int) [] [] [])).id
                                      (hs.getD ((0 : Nat) + (↑i : Int).toNat)
                                          (PieceR.mk false false (0 : Int) (0 : Int) (0 : Int) (0 : Int) [] []
                                            [])).total
                                      (hs.getD ((0 : Nat) + (↑i : Int).toNat)
                                          (PieceR.mk false false (0 : Int) (0 : Int) (0 : Int) (0 : Int) [] [] [])).typ
                                      (hs.getD ((0 : Nat) + (↑i : Int).toNat)
                                          (PieceR.mk false false (0 : Int) (0 : Int) (0 : Int) (0 : Int) [] [] [])).k
                                      (List.take (20 : Nat)
                                        (hs.getD ((0 : Nat) + (↑i : Int).toNat)
                                            (PieceR.mk false false (0 : Int) (0 : Int) (0 : Int) (0 : Int) [] []
                                              [])).lb)
                                      (List.take (4500 : Nat)
                                        (hs.getD ((0 : Nat) + (↑i : Int).toNat)
                                            (PieceR.mk false false (0 : Int) (0 : Int) (0 : Int) (0 : Int) [] []
                                              [])).data)
                                      (List.take (20 : Nat)
                                        (hs.getD ((0 : Nat) + (↑i : Int).toNat)
                                            (PieceR.mk false false (0 : Int) (0 : Int) (0 : Int) (0 : Int) [] []
                                              [])).sum) =
                                    (0 : Int)))),
                            ((33 : Nat),
                              AVal.int IntKind.i64
                                (gErr
                                  (hs.getD ((0 : Nat) + (↑i : Int).toNat)
                                      (PieceR.mk false false (0 : Int) (0 : Int) (0 : Int) (0 : Int) [] [] [])).st
                                  (hs.getD ((0 : Nat) + (↑i : Int).toNat)
                                      (PieceR.mk false false (0 : Int) (0 : Int) (0 : Int) (0 : Int) [] [] [])).en
                                  (hs.getD ((0 : Nat) + (↑i : Int).toNat)
                                      (PieceR.mk false false (0 : Int) (0 : Int) (0 : Int) (0 : Int) [] [] [])).id
                                  (hs.getD ((0 : Nat) + (↑i : Int).toNat)
                                      (PieceR.mk false false (0 : Int) (0 : Int) (0 : Int) (0 : Int) [] [] [])).total
                                  (hs.getD ((0 : Nat) + (↑i : Int).toNat)
                                      (PieceR.mk false false (0 : Int) (0 : Int) (0 : Int) (0 : Int) [] [] [])).typ
                                  (hs.getD ((0 : Nat) + (↑i : Int).toNat)
                                      (PieceR.mk false false (0 : Int) (0 : Int) (0 : Int) (0 : Int) [] [] [])).k
                                  (List.take (20 : Nat)
                                    (hs.getD ((0 : Nat) + (↑i : Int).toNat)
                                        (PieceR.mk false false (0 : Int) (0 : Int) (0 : Int) (0 : Int) [] [] [])).lb)
                                  (List.take (4500 : Nat)
                                    (hs.getD ((0 : Nat) + (↑i : Int).toNat)
                                        (PieceR.mk false false (0 : Int) (0 : Int) (0 : Int) (0 : Int) [] [] [])).data)
                                  (List.take (20 : Nat)
                                    (hs.getD ((0 : Nat) + (↑i : Int).toNat)
                                        (PieceR.mk false false (0 : Int) (0 : Int) (0 : Int) (0 : Int) [] []
                                          [])).sum))),
                            ((9 : Nat),
                              AVal.int IntKind.i64
                                (gErr
                                  (hs.getD ((0 : Nat) + (↑i : Int).toNat)
                                      (PieceR.mk false false (0 : Int) (0 : Int) (0 : Int) (0 : Int) [] [] [])).st
                                  (hs.getD ((0 : Nat) + (↑i : Int).toNat)
                                      (PieceR.mk false false (0 : Int) (0 : Int) (0 : Int) (0 : Int) [] [] [])).en
                                  (hs.getD ((0 : Nat) + (↑i : Int).toNat)
                                      (PieceR.mk false false (0 : Int) (0 : Int) (0 : Int) (0 : Int) [] [] [])).id
                                  (hs.getD ((0 : Nat) + (↑i : Int).toNat)
                                      (PieceR.mk false false (0 : Int) (0 : Int) (0 : Int) (0 : Int) [] [] [])).total
                                  (hs.getD ((0 : Nat) + (↑i : Int).toNat)
                                      (PieceR.mk false false (0 : Int) (0 : Int) (0 : Int) (0 : Int) [] [] [])).typ
                                  (hs.getD ((0 : Nat) + (↑i : Int).toNat)
                                      (PieceR.mk false false (0 : Int) (0 : Int) (0 : Int) (0 : Int) [] [] [])).k
                                  (List.take (20 : Nat)
                                    (hs.getD ((0 : Nat) + (↑i : Int).toNat)
                                        (PieceR.mk false false (0 : Int) (0 : Int) (0 : Int) (0 : Int) [] [] [])).lb)
                                  (List.take (4500 : Nat)
                                    (hs.getD ((0 : Nat) + (↑i : Int).toNat)
                                        (PieceR.mk false false (0 : Int) (0 : Int) (0 : Int) (0 : Int) [] [] [])).data)
                                  (List.take (20 : Nat)
                                    (hs.getD ((0 : Nat) + (↑i : Int).toNat)
                                        (PieceR.mk false false (0 : Int) (0 : Int) (0 : Int) (0 : Int) [] []
                                          [])).sum))),
                            ((8 : Nat),
                              AVal.str
                                (gEnc
                                  (hs.getD ((0 : Nat) + (↑i : Int).toNat)
                                      (PieceR.mk false false (0 : Int) (0 : Int) (0 : Int) (0 : Int) [] [] [])).st
                                  (hs.getD ((0 : Nat) + (↑i : Int).toNat)
                                      (PieceR.mk false false (0 : Int) (0 : Int) (0 : Int) (0 : Int) [] [] [])).en
                                  (hs.getD ((0 : Nat) + (↑i : Int).toNat)
                                      (PieceR.mk false false (0 : Int) (0 : Int) (0 : Int) (0 : Int) [] [] [])).id
                                  (hs.getD ((0 : Nat) + (↑i : Int).toNat)
                                      (PieceR.mk false false (0 : Int) (0 : Int) (0 : Int) (0 : Int) [] [] [])).total
                                  (hs.getD ((0 : Nat) + (↑i : Int).toNat)
                                      (PieceR.mk false false (0 : Int) (0 : Int) (0 : Int) (0 : Int) [] [] [])).typ
                                  (hs.getD ((0 : Nat) + (↑i : Int).toNat)
                                      (PieceR.mk false false (0 : Int) (0 : Int) (0 : Int) (0 : Int) [] [] [])).k
                                  (List.take (20 : Nat)
                                    (hs.getD ((0 : Nat) + (↑i : Int).toNat)
                                        (PieceR.mk false false (0 : Int) (0 : Int) (0 : Int) (0 : Int) [] [] [])).lb)
                                  (List.take (4500 : Nat)
                                    (hs.getD ((0 : Nat) + (↑i : Int).toNat)
                                        (PieceR.mk false false (0 : Int) (0 : Int) (0 : Int) (0 : Int) [] [] [])).data)
                                  (List.take (20 : Nat)
                                    (hs.getD ((0 : Nat) + (↑i : Int).toNat)
                                        (PieceR.mk false false (0 : Int) (0 : Int) (0 : Int) (0 : Int) [] []
                                          [])).sum))),
                            ((32 : Nat),
                              AVal.int IntKind.i64
                                (gErr
                                  (hs.getD ((0 : Nat) + (↑i : Int).toNat)
                                      (PieceR.mk false false (0 : Int) (0 : Int) (0 : Int) (0 : Int) [] [] [])).st
                                  (hs.getD ((0 : Nat) + (↑i : Int).toNat)
                                      (PieceR.mk false false (0 : Int) (0 : Int) (0 : Int) (0 : Int) [] [] [])).en
                                  (hs.getD ((0 : Nat) + (↑i : Int).toNat)
                                      (PieceR.mk false false (0 : Int) (0 : Int) (0 : Int) (0 : Int) [] [] [])).id
                                  (hs.getD ((0 : Nat) + (↑i : Int).toNat)
                                      (PieceR.mk false false (0 : Int) (0 : Int) (0 : Int) (0 : Int) [] [] [])).total
                                  (hs.getD ((0 : Nat) + (↑i : Int).toNat)
                                      (PieceR.mk false false (0 : Int) (0 : Int) (0 : Int) (0 : Int) [] [] [])).typ
                                  (hs.getD ((0 : Nat) + (↑i : Int).toNat)
                                      (PieceR.mk false false (0 : Int) (0 : Int) (0 : Int) (0 : Int) [] [] [])).k
                                  (List.take (20 : Nat)
                                    (hs.getD ((0 : Nat) + (↑i : Int).toNat)
                                        (PieceR.mk false false (0 : Int) (0 : Int) (0 : Int) (0 : Int) [] [] [])).lb)
                                  (List.take (4500 : Nat)
                                    (hs.getD ((0 : Nat) + (↑i : Int).toNat)
                                        (PieceR.mk false false (0 : Int) (0 : Int) (0 : Int) (0 : Int) [] [] [])).data)
                                  (List.take (20 : Nat)
                                    (hs.getD ((0 : Nat) + (↑i : Int).toNat)
                                        (PieceR.mk false false (0 : Int) (0 : Int) (0 : Int) (0 : Int) [] []
                                          [])).sum))),
                            ((31 : Nat),
                              AVal.str
                                (gEnc
                                  (hs.getD ((0 : Nat) + (↑i : Int).toNat)
                                      (PieceR.mk false false (0 : Int) (0 : Int) (0 : Int) (0 : Int) [] [] [])).st
                                  (hs.getD ((0 : Nat) + (↑i : Int).toNat)
                                      (PieceR.mk false false (0 : Int) (0 : Int) (0 : Int) (0 : Int) [] [] [])).en
                                  (hs.getD ((0 : Nat) + (↑i : Int).toNat)
                                      (PieceR.mk false false (0 : Int) (0 : Int) (0 : Int) (0 : Int) [] [] [])).id
                                  (hs.getD ((0 : Nat) + (↑i : Int).toNat)
                                      (PieceR.mk false false (0 : Int) (0 : Int) (0 : Int) (0 : Int) [] [] [])).total
                                  (hs.getD ((0 : Nat) + (↑i : Int).toNat)
                                      (PieceR.mk false false (0 : Int) (0 : Int) (0 : Int) (0 : Int) [] [] [])).typ
                                  (hs.getD ((0 : Nat) + (↑i : Int).toNat)
                                      (PieceR.mk false false (0 : Int) (0 : Int) (0 : Int) (0 : Int) [] [] [])).k
                                  (List.take (20 : Nat)
                                    (hs.getD ((0 : Nat) + (↑i : Int).toNat)
                                        (PieceR.mk false false (0 : Int) (0 : Int) (0 : Int) (0 : Int) [] [] [])).lb)
                                  (List.take (4500 : Nat)
                                    (hs.getD ((0 : Nat) + (↑i : Int).toNat)
                                        (PieceR.mk false false (0 : Int) (0 : Int) (0 : Int) (0 : Int) [] [] [])).data)
                                  (List.take (20 : Nat)
                                    (hs.getD ((0 : Nat) + (↑i : Int).toNat)
                                        (PieceR.mk false false (0 : Int) (0 : Int) (0 : Int) (0 : Int) [] []
                                          [])).sum))),
                            ((24 : Nat),
                              AVal.tup
                                [AVal.str
                                    (gEnc
                                      (hs.getD ((0 : Nat) + (↑i : Int).toNat)
                                          (PieceR.mk false false (0 : Int) (0 : Int) (0 : Int) (0 : Int) [] [] [])).st
                                      (hs.getD ((0 : Nat) + (↑i : Int).toNat)
                                          (PieceR.mk false false (0 : Int) (0 : Int) (0 : Int) (0 : Int) [] [] [])).en
                                      (hs.getD ((0 : Nat) + (↑i : Int).toNat)
                                          (PieceR.mk false false (0 : Int) (0 : Int) (0 : Int) (0 : Int) [] [] [])).id
                                      (hs.getD ((0 : Nat) + (↑i : Int).toNat)
                                          (PieceR.mk false false (0 : Int) (0 : Int) (0 : Int) (0 : Int) [] []
                                            [])).total
                                      (hs.getD ((0 : Nat) + (↑i : Int).toNat)
                                          (PieceR.mk false false (0 : Int) (0 : Int) (0 : Int) (0 : Int) [] [] [])).typ
                                      (hs.getD ((0 : Nat) + (↑i : Int).toNat)
                                          (PieceR.mk false false (0 : Int) (0 : Int) (0 : Int) (0 : Int) [] [] [])).k
                                      (List.take (20 : Nat)
                                        (hs.getD ((0 : Nat) + (↑i : Int).toNat)
                                            (PieceR.mk false false (0 : Int) (0 : Int) (0 : Int) (0 : Int) [] []
                                              [])).lb)
                                      (List.take (4500 : Nat)
                                        (hs.getD ((0 : Nat) + (↑i : Int).toNat)
                                            (PieceR.mk false false (0 : Int) (0 : Int) (0 : Int) (0 : Int) [] []
                                              [])).data)
                                      (List.take (20 : Nat)
                                        (hs.getD ((0 : Nat) + (↑i : Int).toNat)
                                            (PieceR.mk false false (0 : Int) (0 : Int) (0 : Int) (0 : Int) [] []
                                              [])).sum)),
                                  AVal.int IntKind.i64
                                    (gErr
                                      (hs.getD ((0 : Nat) + (↑i : Int).toNat)
                                          (PieceR.mk false false (0 : Int) (0 : Int) (0 : Int) (0 : Int) [] [] [])).st
                                      (hs.getD ((0 : Nat) + (↑i : Int).toNat)
                                          (PieceR.mk false false (0 : Int) (0 : Int) (0 : Int) (0 : Int) [] [] [])).en
                                      (hs.getD ((0 : Nat) + (↑i : Int).toNat)
                                          (PieceR.mk false false (0 : Int) (0 : Int) (0 : Int) (0 : Int) [] [] [])).id
                                      (hs.getD ((0 : Nat) + (↑i : Int).toNat)
                                          (PieceR.mk false false (0 : Int) (0 : Int) (0 : Int) (0 : Int) [] []
                                            [])).total
                                      (hs.getD ((0 : Nat) + (↑i : Int).toNat)
                                          (PieceR.mk false false (0 : Int) (0 : Int) (0 : Int) (0 : Int) [] [] [])).typ
                                      (hs.getD ((0 : Nat) + (↑i : Int).toNat)
                                          (PieceR.mk false false (0 : Int) (0 : Int) (0 : Int) (0 : Int) [] [] [])).k
                                      (List.take (20 : Nat)
                                        (hs.getD ((0 : Nat) + (↑i : Int).toNat)
                                            (PieceR.mk false false (0 : Int) (0 : Int) (0 : Int) (0 : Int) [] []
                                              [])).lb)
                                      (List.take (4500 : Nat)
                                        (hs.getD ((0 : Nat) + (↑i : Int).toNat)
                                            (PieceR.mk false false (0 : Int) (0 : Int) (0 : Int) (0 : Int) [] []
                                              [])).data)
                                      (List.take (20 : Nat)
                                        (hs.getD ((0 : Nat) + (↑i : Int).toNat)
                                            (PieceR.mk false false (0 : Int) (0 : Int) (0 : Int) (0 : Int) [] []
                                              [])).sum))]),
                            ((30 : Nat),
                              AVal.tup
                                [AVal.str
                                    (gEnc
                                      (hs.getD ((0 : Nat) + (↑i : Int).toNat)
                                          (PieceR.mk false false (0 : Int) (0 : Int) (0 : Int) (0 : Int) [] [] [])).st
                                      (hs.getD ((0 : Nat) + (↑i : Int).toNat)
                                          (PieceR.mk false false (0 : Int) (0 : Int) (0 : Int) (0 : Int) [] [] [])).en
                                      (hs.getD ((0 : Nat) + (↑i : Int).toNat)
                                          (PieceR.mk false false (0 : Int) (0 : Int) (0 : Int) (0 : Int) [] [] [])).id
                                      (hs.getD ((0 : Nat) + (↑i : Int).toNat)
                                          (PieceR.mk false false (0 : Int) (0 : Int) (0 : Int) (0 : Int) [] []
                                            [])).total
                                      (hs.getD ((0 : Nat) + (↑i : Int).toNat)
                                          (PieceR.mk false false (0 : Int) (0 : Int) (0 : Int) (0 : Int) [] [] [])).typ
                                      (hs.getD ((0 : Nat) + (↑i : Int).toNat)
                                          (PieceR.mk false false (0 : Int) (0 : Int) (0 : Int) (0 : Int) [] [] [])).k
                                      (List.take (20 : Nat)
                                        (hs.getD ((0 : Nat) + (↑i : Int).toNat)
                                            (PieceR.mk false false (0 : Int) (0 : Int) (0 : Int) (0 : Int) [] []
                                              [])).lb)
                                      (List.take (4500 : Nat)
                                        (hs.getD ((0 : Nat) + (↑i : Int).toNat)
                                            (PieceR.mk false false (0 : Int) (0 : Int) (0 : Int) (0 : Int) [] []
                                              [])).data)
                                      (List.take (20 : Nat)
                                        (hs.getD ((0 : Nat) + (↑i : Int).toNat)
                                            (PieceR.mk false false (0 : Int) (0 : Int) (0 : Int) (0 : Int) [] []
                                              [])).sum)),
                                  AVal.int IntKind.i64
                                    (gErr
                                      (hs.getD ((0 : Nat) + (↑i : Int).toNat)
                                          (PieceR.mk false false (0 : Int) (0 : Int) (0 : Int) (0 : Int) [] [] [])).st
                                      (hs.getD ((0 : Nat) + (↑i : Int).toNat)
                                          (PieceR.mk false false (0 : Int) (0 : Int) (0 : Int) (0 : Int) [] [] [])).en
                                      (hs.getD ((0 : Nat) + (↑i : Int).toNat)
                                          (PieceR.mk false false (0 : Int) (0 : Int) (0 : Int) (0 : Int) [] [] [])).id
                                      (hs.getD ((0 : Nat) + (↑i : Int).toNat)
                                          (PieceR.mk false false (0 : Int) (0 : Int) (0 : Int) (0 : Int) [] []
                                            [])).total
                                      (hs.getD ((0 : Nat) + (↑i : Int).toNat)
                                          (PieceR.mk false false (0 : Int) (0 : Int) (0 : Int) (0 : Int) [] [] [])).typ
                                      (hs.getD ((0 : Nat) + (↑i : Int).toNat)
                                          (PieceR.mk false false (0 : Int) (0 : Int) (0 : Int) (0 : Int) [] [] [])).k
                                      (List.take (20 : Nat)
                                        (hs.getD ((0 : Nat) + (↑i : Int).toNat)
                                            (PieceR.mk false false (0 : Int) (0 : Int) (0 : Int) (0 : Int) [] []
                                              [])).lb)
                                      (List.take (4500 : Nat)
                                        (hs.getD ((0 : Nat) + (↑i : Int).toNat)
                                            (PieceR.mk false false (0 : Int) (0 : Int) (0 : Int) (0 : Int) [] []
                                              [])).data)
                                      (List.take (20 : Nat)
                                        (hs.getD ((0 : Nat) + (↑i : Int).toNat)
                                            (PieceR.mk false false (0 : Int) (0 : Int) (0 : Int) (0 : Int) [] []
                                              [])).sum))]),
                            ((29 : Nat),
                              AVal.agg
                                [AVal.bool
                                    (hs.getD ((0 : Nat) + (↑i : Int).toNat)
                                        (PieceR.mk false false (0 : Int) (0 : Int) (0 : Int) (0 : Int) [] [] [])).st,
                                  AVal.bool
                                    (hs.getD ((0 : Nat) + (↑i : Int).toNat)
                                        (PieceR.mk false false (0 : Int) (0 : Int) (0 : Int) (0 : Int) [] [] [])).en,
                                  AVal.int IntKind.i64
                                    (hs.getD ((0 : Nat) + (↑i : Int).toNat)
                                        (PieceR.mk false false (0 : Int) (0 : Int) (0 : Int) (0 : Int) [] [] [])).id,
                                  AVal.int IntKind.i64
                                    (hs.getD ((0 : Nat) + (↑i : Int).toNat)
                                        (PieceR.mk false false (0 : Int) (0 : Int) (0 : Int) (0 : Int) [] [] [])).total,
                                  AVal.int IntKind.i64
                                    (hs.getD ((0 : Nat) + (↑i : Int).toNat)
                                        (PieceR.mk false false (0 : Int) (0 : Int) (0 : Int) (0 : Int) [] [] [])).typ,
                                  AVal.int IntKind.i64
                                    (hs.getD ((0 : Nat) + (↑i : Int).toNat)
                                        (PieceR.mk false false (0 : Int) (0 : Int) (0 : Int) (0 : Int) [] [] [])).k,
                                  AVal.str
                                    (List.take (20 : Nat)
                                      (hs.getD ((0 : Nat) + (↑i : Int).toNat)
                                          (PieceR.mk false false (0 : Int) (0 : Int) (0 : Int) (0 : Int) [] [] [])).lb),
                                  AVal.str
                                    (List.take (4500 : Nat)
                                      (hs.getD ((0 : Nat) + (↑i : Int).toNat)
                                          (PieceR.mk false false (0 : Int) (0 : Int) (0 : Int) (0 : Int) [] []
                                            [])).data),
                                  AVal.str
                                    (List.take (20 : Nat)
                                      (hs.getD ((0 : Nat) + (↑i : Int).toNat)
                                          (PieceR.mk false false (0 : Int) (0 : Int) (0 : Int) (0 : Int) [] []
                                            [])).sum)]),
                            ((28 : Nat),
                              AVal.agg
                                [AVal.bool
                                    (hs.getD ((0 : Nat) + (↑i : Int).toNat)
                                        (PieceR.mk false false (0 : Int) (0 : Int) (0 : Int) (0 : Int) [] [] [])).st,
                                  AVal.bool
                                    (hs.getD ((0 : Nat) + (↑i : Int).toNat)
                                        (PieceR.mk false false (0 : Int) (0 : Int) (0 : Int) (0 : Int) [] [] [])).en,
                                  AVal.int IntKind.i64
                                    (hs.getD ((0 : Nat) + (↑i : Int).toNat)
                                        (PieceR.mk false false (0 : Int) (0 : Int) (0 : Int) (0 : Int) [] [] [])).id,
                                  AVal.int IntKind.i64
                                    (hs.getD ((0 : Nat) + (↑i : Int).toNat)
                                        (PieceR.mk false false (0 : Int) (0 : Int) (0 : Int) (0 : Int) [] [] [])).total,
                                  AVal.int IntKind.i64
                                    (hs.getD ((0 : Nat) + (↑i : Int).toNat)
                                        (PieceR.mk false false (0 : Int) (0 : Int) (0 : Int) (0 : Int) [] [] [])).typ,
                                  AVal.int IntKind.i64
                                    (hs.getD ((0 : Nat) + (↑i : Int).toNat)
                                        (PieceR.mk false false (0 : Int) (0 : Int) (0 : Int) (0 : Int) [] [] [])).k,
                                  AVal.str
                                    (hs.getD ((0 : Nat) + (↑i : Int).toNat)
                                        (PieceR.mk false false (0 : Int) (0 : Int) (0 : Int) (0 : Int) [] [] [])).lb,
                                  AVal.str
                                    (hs.getD ((0 : Nat) + (↑i : Int).toNat)
                                        (PieceR.mk false false (0 : Int) (0 : Int) (0 : Int) (0 : Int) [] [] [])).data,
                                  AVal.str
                                    (hs.getD ((0 : Nat) + (↑i : Int).toNat)
                                        (PieceR.mk false false (0 : Int) (0 : Int) (0 : Int) (0 : Int) [] [] [])).sum]),
                            ((27 : Nat), AVal.ptr (0 : Nat) ((0 : Nat) + (↑i : Int).toNat) (9 : Nat) (0 : Nat)),
                            ((26 : Nat), AVal.int IntKind.i64 (↑i : Int)),
                            ((25 : Nat), AVal.sl (0 : Nat) (0 : Nat) (9 : Nat) (0 : Nat) hs.length none),
                            ((21 : Nat), AVal.bool (decide ((↑i : Int) < (40 : Int)))),
                            ((20 : Nat), AVal.bool (decide ((↑i : Int) < (40 : Int)))), ((18 : Nat), AVal.bool true),
                            ((19 : Nat), AVal.int IntKind.i64 (↑i : Int)), ((18 : Nat), AVal.bool true),
                            ((18 : Nat), AVal.bool (decide ((↑i : Int) < (↑hs.length : Int)))),
                            ((17 : Nat), AVal.bool (decide ((↑i : Int) < (↑hs.length : Int)))),
                            ((16 : Nat), AVal.int IntKind.i64 (↑hs.length : Int)),
                            ((15 : Nat), AVal.sl (0 : Nat) (0 : Nat) (9 : Nat) (0 : Nat) hs.length none),
                            ((14 : Nat), AVal.int IntKind.i64 (↑i : Int)), ((7 : Nat), AVal.int IntKind.i64 (↑i : Int)),
                            ((6 : Nat), AVal.nils), ((5 : Nat), AVal.str S), ((1 : Nat), AVal.int IntKind.u8 zeros),
                            ((0 : Nat), AVal.sl (0 : Nat) (0 : Nat) (9 : Nat) (0 : Nat) hs.length none)]
                          (AHeap.mk (2 : Nat) [((0 : Nat), ABlk.row (27 : Nat) pieceRow hs RowMd.ro)]))))))))))))
    (QQ (AExit.exit (0 : Nat))
      [((21 : Nat), AVal.bool (decide ((↑i : Int) < (40 : Int)))),
        ((20 : Nat), AVal.bool (decide ((↑i : Int) < (40 : Int)))), ((18 : Nat), AVal.bool true),
        ((19 : Nat), AVal.int IntKind.i64 (↑i : Int)), ((18 : Nat), AVal.bool true),
        ((18 : Nat), AVal.bool (decide ((↑i : Int) < (↑hs.length : Int)))),
        ((17 : Nat), AVal.bool (decide ((↑i : Int) < (↑hs.length : Int)))),
        ((16 : Nat), AVal.int IntKind.i64 (↑hs.length : Int)),
        ((15 : Nat), AVal.sl (0 : Nat) (0 : Nat) (9 : Nat) (0 : Nat) hs.length none),
        ((14 : Nat), AVal.int IntKind.i64 (↑i : Int)), ((7 : Nat), AVal.int IntKind.i64 (↑i : Int)),
        ((6 : Nat), AVal.nils), ((5 : Nat), AVal.str S), ((1 : Nat), AVal.int IntKind.u8 zeros),
        ((0 : Nat), AVal.sl (0 : Nat) (0 : Nat) (9 : Nat) (0 : Nat) hs.length none)]
      (AHeap.mk (2 : Nat) [((0 : Nat), ABlk.row (27 : Nat) pieceRow hs RowMd.ro)])))
  (QQ (AExit.exit (0 : Nat))
    [((21 : Nat), AVal.bool false), ((20 : Nat), AVal.tup []), ((18 : Nat), AVal.bool false), ((19 : Nat), AVal.tup []),
      ((18 : Nat), AVal.bool false), ((18 : Nat), AVal.bool (decide ((↑i : Int) < (↑hs.length : Int)))),
      ((17 : Nat), AVal.bool (decide ((↑i : Int) < (↑hs.length : Int)))),
      ((16 : Nat), AVal.int IntKind.i64 (↑hs.length : Int)),
      ((15 : Nat), AVal.sl (0 : Nat) (0 : Nat) (9 : Nat) (0 : Nat) hs.length none),
      ((14 : Nat), AVal.int IntKind.i64 (↑i : Int)), ((7 : Nat), AVal.int IntKind.i64 (↑i : Int)),
      ((6 : Nat), AVal.nils), ((5 : Nat), AVal.str S), ((1 : Nat), AVal.int IntKind.u8 zeros),
      ((0 : Nat), AVal.sl (0 : Nat) (0 : Nat) (9 : Nat) (0 : Nat) hs.length none)]
    (AHeap.mk (2 : Nat) [((0 : Nat), ABlk.row (27 : Nat) pieceRow hs RowMd.ro)]))) := by kernel_rfl

end Go.Proofs.Ytcbkenicjmhkdaa
