/-
  Walks, printed: what calls come to, as they are reckoned.
-/
import Derived.Test.YtddjaneacmdkmaaExtFc
namespace Go.Proofs.Ytddjaneacmdkmaa
set_option linter.unusedVariables false
set_option linter.unusedSimpArgs false
open Go.RowKit Ev

set_option maxRecDepth 100000 in
theorem w_bk0 (data : List UInt8) (hs : List (List UInt8)) (n : Nat) (t i : Int) (base : Nat) (Q : AExit → Env → AHeap → Prop) : (wpC (TE.ctx Try.prog) 100 5 base (loopOf Try.f5 0) [(1, .str data), (2, .sl 0 0 1 0 n none), (7, .int .i64 t), (8, .nils), (9, .int .i64 i)] ⟨2, [(0, .row 9 strRow hs .ro)]⟩ (fun x E H => Q x (restr [1, 2, 7, 8, 9] E) (restrH [1, 3, 0] 2 H))
) = (branch (decide (i < (↑n : Int)))
  (branch (decide (i < (10 : Int)))
    (obl (decide ((0 : Int) ≤ i ∧ i < (↑n : Int)))
      (obl (decide ((0 : Nat) + i.toNat < hs.length))
        (obl
          (decide ((↑((1 : Nat) + List.length (hs.getD ((0 : Nat) + i.toNat) [])) : Int) ≤ (9223372036854775807 : Int)))
          (obl
            (decide
              ((0 : Int) ≤ min (↑([(110 : UInt8)] ++ hs.getD ((0 : Nat) + i.toNat) []).length : Int) (9 : Int) ∧
                min (↑([(110 : UInt8)] ++ hs.getD ((0 : Nat) + i.toNat) []).length : Int) (9 : Int) ≤
                  (↑([(110 : UInt8)] ++ hs.getD ((0 : Nat) + i.toNat) []).length : Int)))
            (branch
              (decide
                ((↑(List.take
                            (min (↑([(110 : UInt8)] ++ hs.getD ((0 : Nat) + i.toNat) []).length : Int) (9 : Int)).toNat
                            ([(110 : UInt8)] ++ hs.getD ((0 : Nat) + i.toNat) [])).length :
                      Int) %
                    (2 : Int) =
                  (0 : Int)))
              (obl
                (decide
                  ((0 : Int) ≤ (1 : Int) ∧
                    (1 : Int) ≤
                      (↑(List.take
                              (min (↑([(110 : UInt8)] ++ hs.getD ((0 : Nat) + i.toNat) []).length : Int)
                                  (9 : Int)).toNat
                              ([(110 : UInt8)] ++ hs.getD ((0 : Nat) + i.toNat) [])).length :
                        Int)))
                (obl (inI64 (i + (1 : Int)))
                  (Q AExit.normal
                    [((1 : Nat), AVal.str data), ((2 : Nat), AVal.sl (0 : Nat) (0 : Nat) (1 : Nat) (0 : Nat) n none),
                      ((7 : Nat), AVal.int IntKind.i64 t),
                      ((8 : Nat), AVal.sl (3 : Nat) (0 : Nat) (1 : Nat) (0 : Nat) (1 : Nat) none),
                      ((9 : Nat), AVal.int IntKind.i64 (i + (1 : Int)))]
                    { next := (2 : Nat),
                      bs :=
                        [((3 : Nat),
                            ABlk.row (9 : Nat) strRow
                              [List.drop (1 : Nat)
                                  (List.take
                                    (min (↑([(110 : UInt8)] ++ hs.getD ((0 : Nat) + i.toNat) []).length : Int)
                                        (9 : Int)).toNat
                                    ([(110 : UInt8)] ++ hs.getD ((0 : Nat) + i.toNat) []))]
                              RowMd.plain),
                          ((0 : Nat), ABlk.row (9 : Nat) strRow hs RowMd.ro)] })))
              (obl (inI64 (i + (1 : Int)))
                (Q AExit.normal
                  [((1 : Nat), AVal.str data), ((2 : Nat), AVal.sl (0 : Nat) (0 : Nat) (1 : Nat) (0 : Nat) n none),
                    ((7 : Nat), AVal.int IntKind.i64 t),
                    ((8 : Nat), AVal.sl (3 : Nat) (0 : Nat) (1 : Nat) (0 : Nat) (1 : Nat) none),
                    ((9 : Nat), AVal.int IntKind.i64 (i + (1 : Int)))]
                  { next := (2 : Nat),
                    bs :=
                      [((3 : Nat),
                          ABlk.row (9 : Nat) strRow
                            [List.take
                                (min (↑([(110 : UInt8)] ++ hs.getD ((0 : Nat) + i.toNat) []).length : Int)
                                    (9 : Int)).toNat
                                ([(110 : UInt8)] ++ hs.getD ((0 : Nat) + i.toNat) [])]
                            RowMd.plain),
                        ((0 : Nat), ABlk.row (9 : Nat) strRow hs RowMd.ro)] })))))))
    (Q (AExit.exit (0 : Nat))
      [((1 : Nat), AVal.str data), ((2 : Nat), AVal.sl (0 : Nat) (0 : Nat) (1 : Nat) (0 : Nat) n none),
        ((7 : Nat), AVal.int IntKind.i64 t), ((8 : Nat), AVal.nils), ((9 : Nat), AVal.int IntKind.i64 i)]
      { next := (2 : Nat), bs := [((0 : Nat), ABlk.row (9 : Nat) strRow hs RowMd.ro)] }))
  (Q (AExit.exit (0 : Nat))
    [((1 : Nat), AVal.str data), ((2 : Nat), AVal.sl (0 : Nat) (0 : Nat) (1 : Nat) (0 : Nat) n none),
      ((7 : Nat), AVal.int IntKind.i64 t), ((8 : Nat), AVal.nils), ((9 : Nat), AVal.int IntKind.i64 i)]
    { next := (2 : Nat), bs := [((0 : Nat), ABlk.row (9 : Nat) strRow hs RowMd.ro)] })) := by kernel_rfl

set_option maxRecDepth 100000 in
theorem w_bk1 (data : List UInt8) (hs l : List (List UInt8)) (n m : Nat) (t i : Int) (base : Nat) (Q : AExit → Env → AHeap → Prop) : (wpC (TE.ctx Try.prog) 100 5 base (loopOf Try.f5 0) [(1, .str data), (2, .sl 0 0 1 0 n none), (7, .int .i64 t), (8, .sl 1 0 1 0 m none), (9, .int .i64 i)] ⟨2, [(1, .row 9 strRow l .plain), (0, .row 9 strRow hs .ro)]⟩ (fun x E H => Q x (restr [1, 2, 7, 8, 9] E) (restrH [1, 3, 0] 2 H))
) = (branch (decide (i < (↑n : Int)))
  (branch (decide (i < (10 : Int)))
    (obl (decide ((0 : Int) ≤ i ∧ i < (↑n : Int)))
      (obl (decide ((0 : Nat) + i.toNat < hs.length))
        (obl
          (decide ((↑((1 : Nat) + List.length (hs.getD ((0 : Nat) + i.toNat) [])) : Int) ≤ (9223372036854775807 : Int)))
          (obl
            (decide
              ((0 : Int) ≤ min (↑([(110 : UInt8)] ++ hs.getD ((0 : Nat) + i.toNat) []).length : Int) (9 : Int) ∧
                min (↑([(110 : UInt8)] ++ hs.getD ((0 : Nat) + i.toNat) []).length : Int) (9 : Int) ≤
                  (↑([(110 : UInt8)] ++ hs.getD ((0 : Nat) + i.toNat) []).length : Int)))
            (branch
              (decide
                ((↑(List.take
                            (min (↑([(110 : UInt8)] ++ hs.getD ((0 : Nat) + i.toNat) []).length : Int) (9 : Int)).toNat
                            ([(110 : UInt8)] ++ hs.getD ((0 : Nat) + i.toNat) [])).length :
                      Int) %
                    (2 : Int) =
                  (0 : Int)))
              (obl
                (decide
                  ((0 : Int) ≤ (1 : Int) ∧
                    (1 : Int) ≤
                      (↑(List.take
                              (min (↑([(110 : UInt8)] ++ hs.getD ((0 : Nat) + i.toNat) []).length : Int)
                                  (9 : Int)).toNat
                              ([(110 : UInt8)] ++ hs.getD ((0 : Nat) + i.toNat) [])).length :
                        Int)))
                (obl
                  (true &&
                    decide
                      (m = l.length ∧
                        (1 : Nat) = (1 : Nat) ∧
                          (1 : Nat) = (1 : Nat) ∧
                            (0 : Nat) < (1 : Nat) ∧
                              (l ++
                                      [List.drop (1 : Nat)
                                          (List.take
                                            (min (↑([(110 : UInt8)] ++ hs.getD ((0 : Nat) + i.toNat) []).length : Int)
                                                (9 : Int)).toNat
                                            ([(110 : UInt8)] ++ hs.getD ((0 : Nat) + i.toNat) []))]).length ≤
                                  (9223372036854775807 : Nat) ∧
                                (l ++
                                        [List.drop (1 : Nat)
                                            (List.take
                                              (min (↑([(110 : UInt8)] ++ hs.getD ((0 : Nat) + i.toNat) []).length : Int)
                                                  (9 : Int)).toNat
                                              ([(110 : UInt8)] ++ hs.getD ((0 : Nat) + i.toNat) []))]).length *
                                    (16 : Nat) ≤
                                  (140737488355328 : Nat)))
                  (obl (inI64 (i + (1 : Int)))
                    (Q AExit.normal
                      [((1 : Nat), AVal.str data), ((2 : Nat), AVal.sl (0 : Nat) (0 : Nat) (1 : Nat) (0 : Nat) n none),
                        ((7 : Nat), AVal.int IntKind.i64 t),
                        ((8 : Nat),
                          AVal.sl (3 : Nat) (0 : Nat) (1 : Nat) (0 : Nat)
                            (l ++
                                [List.drop (1 : Nat)
                                    (List.take
                                      (min (↑([(110 : UInt8)] ++ hs.getD ((0 : Nat) + i.toNat) []).length : Int)
                                          (9 : Int)).toNat
                                      ([(110 : UInt8)] ++ hs.getD ((0 : Nat) + i.toNat) []))]).length
                            none),
                        ((9 : Nat), AVal.int IntKind.i64 (i + (1 : Int)))]
                      { next := (2 : Nat),
                        bs :=
                          [((3 : Nat),
                              ABlk.row (9 : Nat) strRow
                                (l ++
                                  [List.drop (1 : Nat)
                                      (List.take
                                        (min (↑([(110 : UInt8)] ++ hs.getD ((0 : Nat) + i.toNat) []).length : Int)
                                            (9 : Int)).toNat
                                        ([(110 : UInt8)] ++ hs.getD ((0 : Nat) + i.toNat) []))])
                                RowMd.plain),
                            ((0 : Nat), ABlk.row (9 : Nat) strRow hs RowMd.ro)] }))))
              (obl
                (true &&
                  decide
                    (m = l.length ∧
                      (1 : Nat) = (1 : Nat) ∧
                        (1 : Nat) = (1 : Nat) ∧
                          (0 : Nat) < (1 : Nat) ∧
                            (l ++
                                    [List.take
                                        (min (↑([(110 : UInt8)] ++ hs.getD ((0 : Nat) + i.toNat) []).length : Int)
                                            (9 : Int)).toNat
                                        ([(110 : UInt8)] ++ hs.getD ((0 : Nat) + i.toNat) [])]).length ≤
                                (9223372036854775807 : Nat) ∧
                              (l ++
                                      [List.take
                                          (min (↑([(110 : UInt8)] ++ hs.getD ((0 : Nat) + i.toNat) []).length : Int)
                                              (9 : Int)).toNat
                                          ([(110 : UInt8)] ++ hs.getD ((0 : Nat) + i.toNat) [])]).length *
                                  (16 : Nat) ≤
                                (140737488355328 : Nat)))
                (obl (inI64 (i + (1 : Int)))
                  (Q AExit.normal
                    [((1 : Nat), AVal.str data), ((2 : Nat), AVal.sl (0 : Nat) (0 : Nat) (1 : Nat) (0 : Nat) n none),
                      ((7 : Nat), AVal.int IntKind.i64 t),
                      ((8 : Nat),
                        AVal.sl (3 : Nat) (0 : Nat) (1 : Nat) (0 : Nat)
                          (l ++
                              [List.take
                                  (min (↑([(110 : UInt8)] ++ hs.getD ((0 : Nat) + i.toNat) []).length : Int)
                                      (9 : Int)).toNat
                                  ([(110 : UInt8)] ++ hs.getD ((0 : Nat) + i.toNat) [])]).length
                          none),
                      ((9 : Nat), AVal.int IntKind.i64 (i + (1 : Int)))]
                    { next := (2 : Nat),
                      bs :=
                        [((3 : Nat),
                            ABlk.row (9 : Nat) strRow
                              (l ++
                                [List.take
                                    (min (↑([(110 : UInt8)] ++ hs.getD ((0 : Nat) + i.toNat) []).length : Int)
                                        (9 : Int)).toNat
                                    ([(110 : UInt8)] ++ hs.getD ((0 : Nat) + i.toNat) [])])
                              RowMd.plain),
                          ((0 : Nat), ABlk.row (9 : Nat) strRow hs RowMd.ro)] }))))))))
    (Q (AExit.exit (0 : Nat))
      [((1 : Nat), AVal.str data), ((2 : Nat), AVal.sl (0 : Nat) (0 : Nat) (1 : Nat) (0 : Nat) n none),
        ((7 : Nat), AVal.int IntKind.i64 t), ((8 : Nat), AVal.sl (1 : Nat) (0 : Nat) (1 : Nat) (0 : Nat) m none),
        ((9 : Nat), AVal.int IntKind.i64 i)]
      { next := (2 : Nat),
        bs :=
          [((1 : Nat), ABlk.row (9 : Nat) strRow l RowMd.plain), ((0 : Nat), ABlk.row (9 : Nat) strRow hs RowMd.ro)] }))
  (Q (AExit.exit (0 : Nat))
    [((1 : Nat), AVal.str data), ((2 : Nat), AVal.sl (0 : Nat) (0 : Nat) (1 : Nat) (0 : Nat) n none),
      ((7 : Nat), AVal.int IntKind.i64 t), ((8 : Nat), AVal.sl (1 : Nat) (0 : Nat) (1 : Nat) (0 : Nat) m none),
      ((9 : Nat), AVal.int IntKind.i64 i)]
    { next := (2 : Nat),
      bs :=
        [((1 : Nat), ABlk.row (9 : Nat) strRow l RowMd.plain),
          ((0 : Nat), ABlk.row (9 : Nat) strRow hs RowMd.ro)] })) := by kernel_rfl

set_option maxRecDepth 100000 in
theorem w_bkn (data : List UInt8) (t i : Int) (base : Nat) (Q : AExit → Env → AHeap → Prop) : (wpC (TE.ctx Try.prog) 100 5 base (loopOf Try.f5 0) [(1, .str data), (2, .nils), (7, .int .i64 t), (8, .nils), (9, .int .i64 i)] ⟨2, []⟩ (fun x E H => Q x (restr [1, 2, 7, 8, 9] E) (restrH [] 2 H))
) = (branch (decide (i < (0 : Int)))
  (branch (decide (i < (10 : Int)))
    (Stuck (2 : Nat)
      [{ dst := some (nat_lit 38),
          op := Op.indexAddr (nat_lit 27) (Operand.tmp (nat_lit 36)) (Operand.tmp (nat_lit 37)), type := nat_lit 0,
          pos := "outright.go:23",
          after :=
            { toList := [{ on := nat_lit 0, ground := Ground.data }, { on := nat_lit 1, ground := Ground.data }] },
          guard := none }])
    (Q (AExit.exit (0 : Nat))
      [((1 : Nat), AVal.str data), ((2 : Nat), AVal.nils), ((7 : Nat), AVal.int IntKind.i64 t), ((8 : Nat), AVal.nils),
        ((9 : Nat), AVal.int IntKind.i64 i)]
      { next := (2 : Nat), bs := [] }))
  (Q (AExit.exit (0 : Nat))
    [((1 : Nat), AVal.str data), ((2 : Nat), AVal.nils), ((7 : Nat), AVal.int IntKind.i64 t), ((8 : Nat), AVal.nils),
      ((9 : Nat), AVal.int IntKind.i64 i)]
    { next := (2 : Nat), bs := [] })) := by kernel_rfl

set_option maxRecDepth 100000 in
theorem w_sh0 (hs : List (List UInt8)) (n : Nat) (a t i : Int) (base : Nat) (Q : AExit → Env → AHeap → Prop) : (wpC (TE.ctx Try.prog) 100 6 base (loopOf Try.f6 0) [(0, .sl 0 0 1 0 n none), (1, .int .u8 a), (5, .nils), (6, .int .i64 t), (7, .int .i64 i)] ⟨2, [(0, .row 9 strRow hs .ro)]⟩ (fun x E H => Q x (restr [0, 1, 5, 6, 7] E) (restrH [1, 3, 0] 2 H))
) = (branch (decide (i < (↑n : Int)))
  (branch (decide (i < (10 : Int)))
    (obl (decide ((0 : Int) ≤ i ∧ i < (↑n : Int)))
      (obl (decide ((0 : Nat) + i.toNat < hs.length))
        (obl
          (decide ((↑((1 : Nat) + List.length (hs.getD ((0 : Nat) + i.toNat) [])) : Int) ≤ (9223372036854775807 : Int)))
          (obl
            (decide
              ((0 : Int) ≤ min (↑([(110 : UInt8)] ++ hs.getD ((0 : Nat) + i.toNat) []).length : Int) (9 : Int) ∧
                min (↑([(110 : UInt8)] ++ hs.getD ((0 : Nat) + i.toNat) []).length : Int) (9 : Int) ≤
                  (↑([(110 : UInt8)] ++ hs.getD ((0 : Nat) + i.toNat) []).length : Int)))
            (branch
              (decide
                ((↑(List.take
                            (min (↑([(110 : UInt8)] ++ hs.getD ((0 : Nat) + i.toNat) []).length : Int) (9 : Int)).toNat
                            ([(110 : UInt8)] ++ hs.getD ((0 : Nat) + i.toNat) [])).length :
                      Int) %
                    (2 : Int) =
                  (0 : Int)))
              (obl
                (decide
                  ((0 : Int) ≤ (1 : Int) ∧
                    (1 : Int) ≤
                      (↑(List.take
                              (min (↑([(110 : UInt8)] ++ hs.getD ((0 : Nat) + i.toNat) []).length : Int)
                                  (9 : Int)).toNat
                              ([(110 : UInt8)] ++ hs.getD ((0 : Nat) + i.toNat) [])).length :
                        Int)))
                (obl
                  (inI64
                    (t +
                      (↑(List.drop (1 : Nat)
                              (List.take
                                (min (↑([(110 : UInt8)] ++ hs.getD ((0 : Nat) + i.toNat) []).length : Int)
                                    (9 : Int)).toNat
                                ([(110 : UInt8)] ++ hs.getD ((0 : Nat) + i.toNat) []))).length :
                        Int)))
                  (obl
                    (inI64
                      (t +
                          (↑(List.drop (1 : Nat)
                                  (List.take
                                    (min (↑([(110 : UInt8)] ++ hs.getD ((0 : Nat) + i.toNat) []).length : Int)
                                        (9 : Int)).toNat
                                    ([(110 : UInt8)] ++ hs.getD ((0 : Nat) + i.toNat) []))).length :
                            Int) +
                        (1 : Int)))
                    (obl (inI64 (i + (1 : Int)))
                      (Q AExit.normal
                        [((0 : Nat), AVal.sl (0 : Nat) (0 : Nat) (1 : Nat) (0 : Nat) n none),
                          ((1 : Nat), AVal.int IntKind.u8 a),
                          ((5 : Nat), AVal.sl (3 : Nat) (0 : Nat) (1 : Nat) (0 : Nat) (1 : Nat) none),
                          ((6 : Nat),
                            AVal.int IntKind.i64
                              (t +
                                  (↑(List.drop (1 : Nat)
                                          (List.take
                                            (min (↑([(110 : UInt8)] ++ hs.getD ((0 : Nat) + i.toNat) []).length : Int)
                                                (9 : Int)).toNat
                                            ([(110 : UInt8)] ++ hs.getD ((0 : Nat) + i.toNat) []))).length :
                                    Int) +
                                (1 : Int))),
                          ((7 : Nat), AVal.int IntKind.i64 (i + (1 : Int)))]
                        { next := (2 : Nat),
                          bs :=
                            [((3 : Nat),
                                ABlk.row (9 : Nat) strRow
                                  [List.drop (1 : Nat)
                                      (List.take
                                        (min (↑([(110 : UInt8)] ++ hs.getD ((0 : Nat) + i.toNat) []).length : Int)
                                            (9 : Int)).toNat
                                        ([(110 : UInt8)] ++ hs.getD ((0 : Nat) + i.toNat) []))]
                                  RowMd.plain),
                              ((0 : Nat), ABlk.row (9 : Nat) strRow hs RowMd.ro)] })))))
              (obl
                (inI64
                  (t +
                    (↑(List.take
                            (min (↑([(110 : UInt8)] ++ hs.getD ((0 : Nat) + i.toNat) []).length : Int) (9 : Int)).toNat
                            ([(110 : UInt8)] ++ hs.getD ((0 : Nat) + i.toNat) [])).length :
                      Int)))
                (obl
                  (inI64
                    (t +
                        (↑(List.take
                                (min (↑([(110 : UInt8)] ++ hs.getD ((0 : Nat) + i.toNat) []).length : Int)
                                    (9 : Int)).toNat
                                ([(110 : UInt8)] ++ hs.getD ((0 : Nat) + i.toNat) [])).length :
                          Int) +
                      (1 : Int)))
                  (obl (inI64 (i + (1 : Int)))
                    (Q AExit.normal
                      [((0 : Nat), AVal.sl (0 : Nat) (0 : Nat) (1 : Nat) (0 : Nat) n none),
                        ((1 : Nat), AVal.int IntKind.u8 a),
                        ((5 : Nat), AVal.sl (3 : Nat) (0 : Nat) (1 : Nat) (0 : Nat) (1 : Nat) none),
                        ((6 : Nat),
                          AVal.int IntKind.i64
                            (t +
                                (↑(List.take
                                        (min (↑([(110 : UInt8)] ++ hs.getD ((0 : Nat) + i.toNat) []).length : Int)
                                            (9 : Int)).toNat
                                        ([(110 : UInt8)] ++ hs.getD ((0 : Nat) + i.toNat) [])).length :
                                  Int) +
                              (1 : Int))),
                        ((7 : Nat), AVal.int IntKind.i64 (i + (1 : Int)))]
                      { next := (2 : Nat),
                        bs :=
                          [((3 : Nat),
                              ABlk.row (9 : Nat) strRow
                                [List.take
                                    (min (↑([(110 : UInt8)] ++ hs.getD ((0 : Nat) + i.toNat) []).length : Int)
                                        (9 : Int)).toNat
                                    ([(110 : UInt8)] ++ hs.getD ((0 : Nat) + i.toNat) [])]
                                RowMd.plain),
                            ((0 : Nat), ABlk.row (9 : Nat) strRow hs RowMd.ro)] })))))))))
    (Q (AExit.exit (0 : Nat))
      [((0 : Nat), AVal.sl (0 : Nat) (0 : Nat) (1 : Nat) (0 : Nat) n none), ((1 : Nat), AVal.int IntKind.u8 a),
        ((5 : Nat), AVal.nils), ((6 : Nat), AVal.int IntKind.i64 t), ((7 : Nat), AVal.int IntKind.i64 i)]
      { next := (2 : Nat), bs := [((0 : Nat), ABlk.row (9 : Nat) strRow hs RowMd.ro)] }))
  (Q (AExit.exit (0 : Nat))
    [((0 : Nat), AVal.sl (0 : Nat) (0 : Nat) (1 : Nat) (0 : Nat) n none), ((1 : Nat), AVal.int IntKind.u8 a),
      ((5 : Nat), AVal.nils), ((6 : Nat), AVal.int IntKind.i64 t), ((7 : Nat), AVal.int IntKind.i64 i)]
    { next := (2 : Nat), bs := [((0 : Nat), ABlk.row (9 : Nat) strRow hs RowMd.ro)] })) := by kernel_rfl

set_option maxRecDepth 100000 in
theorem w_sh1 (hs l : List (List UInt8)) (n m : Nat) (a t i : Int) (base : Nat) (Q : AExit → Env → AHeap → Prop) : (wpC (TE.ctx Try.prog) 100 6 base (loopOf Try.f6 0) [(0, .sl 0 0 1 0 n none), (1, .int .u8 a), (5, .sl 1 0 1 0 m none), (6, .int .i64 t), (7, .int .i64 i)] ⟨2, [(1, .row 9 strRow l .plain), (0, .row 9 strRow hs .ro)]⟩ (fun x E H => Q x (restr [0, 1, 5, 6, 7] E) (restrH [1, 3, 0] 2 H))
) = (branch (decide (i < (↑n : Int)))
  (branch (decide (i < (10 : Int)))
    (obl (decide ((0 : Int) ≤ i ∧ i < (↑n : Int)))
      (obl (decide ((0 : Nat) + i.toNat < hs.length))
        (obl
          (decide ((↑((1 : Nat) + List.length (hs.getD ((0 : Nat) + i.toNat) [])) : Int) ≤ (9223372036854775807 : Int)))
          (obl
            (decide
              ((0 : Int) ≤ min (↑([(110 : UInt8)] ++ hs.getD ((0 : Nat) + i.toNat) []).length : Int) (9 : Int) ∧
                min (↑([(110 : UInt8)] ++ hs.getD ((0 : Nat) + i.toNat) []).length : Int) (9 : Int) ≤
                  (↑([(110 : UInt8)] ++ hs.getD ((0 : Nat) + i.toNat) []).length : Int)))
            (branch
              (decide
                ((↑(List.take
                            (min (↑([(110 : UInt8)] ++ hs.getD ((0 : Nat) + i.toNat) []).length : Int) (9 : Int)).toNat
                            ([(110 : UInt8)] ++ hs.getD ((0 : Nat) + i.toNat) [])).length :
                      Int) %
                    (2 : Int) =
                  (0 : Int)))
              (obl
                (decide
                  ((0 : Int) ≤ (1 : Int) ∧
                    (1 : Int) ≤
                      (↑(List.take
                              (min (↑([(110 : UInt8)] ++ hs.getD ((0 : Nat) + i.toNat) []).length : Int)
                                  (9 : Int)).toNat
                              ([(110 : UInt8)] ++ hs.getD ((0 : Nat) + i.toNat) [])).length :
                        Int)))
                (obl
                  (true &&
                    decide
                      (m = l.length ∧
                        (1 : Nat) = (1 : Nat) ∧
                          (1 : Nat) = (1 : Nat) ∧
                            (0 : Nat) < (1 : Nat) ∧
                              (l ++
                                      [List.drop (1 : Nat)
                                          (List.take
                                            (min (↑([(110 : UInt8)] ++ hs.getD ((0 : Nat) + i.toNat) []).length : Int)
                                                (9 : Int)).toNat
                                            ([(110 : UInt8)] ++ hs.getD ((0 : Nat) + i.toNat) []))]).length ≤
                                  (9223372036854775807 : Nat) ∧
                                (l ++
                                        [List.drop (1 : Nat)
                                            (List.take
                                              (min (↑([(110 : UInt8)] ++ hs.getD ((0 : Nat) + i.toNat) []).length : Int)
                                                  (9 : Int)).toNat
                                              ([(110 : UInt8)] ++ hs.getD ((0 : Nat) + i.toNat) []))]).length *
                                    (16 : Nat) ≤
                                  (140737488355328 : Nat)))
                  (obl
                    (inI64
                      (t +
                        (↑(List.drop (1 : Nat)
                                (List.take
                                  (min (↑([(110 : UInt8)] ++ hs.getD ((0 : Nat) + i.toNat) []).length : Int)
                                      (9 : Int)).toNat
                                  ([(110 : UInt8)] ++ hs.getD ((0 : Nat) + i.toNat) []))).length :
                          Int)))
                    (obl
                      (inI64
                        (t +
                            (↑(List.drop (1 : Nat)
                                    (List.take
                                      (min (↑([(110 : UInt8)] ++ hs.getD ((0 : Nat) + i.toNat) []).length : Int)
                                          (9 : Int)).toNat
                                      ([(110 : UInt8)] ++ hs.getD ((0 : Nat) + i.toNat) []))).length :
                              Int) +
                          (1 : Int)))
                      (obl (inI64 (i + (1 : Int)))
                        (Q AExit.normal
                          [((0 : Nat), AVal.sl (0 : Nat) (0 : Nat) (1 : Nat) (0 : Nat) n none),
                            ((1 : Nat), AVal.int IntKind.u8 a),
                            ((5 : Nat),
                              AVal.sl (3 : Nat) (0 : Nat) (1 : Nat) (0 : Nat)
                                (l ++
                                    [List.drop (1 : Nat)
                                        (List.take
                                          (min (↑([(110 : UInt8)] ++ hs.getD ((0 : Nat) + i.toNat) []).length : Int)
                                              (9 : Int)).toNat
                                          ([(110 : UInt8)] ++ hs.getD ((0 : Nat) + i.toNat) []))]).length
                                none),
                            ((6 : Nat),
                              AVal.int IntKind.i64
                                (t +
                                    (↑(List.drop (1 : Nat)
                                            (List.take
                                              (min (↑([(110 : UInt8)] ++ hs.getD ((0 : Nat) + i.toNat) []).length : Int)
                                                  (9 : Int)).toNat
                                              ([(110 : UInt8)] ++ hs.getD ((0 : Nat) + i.toNat) []))).length :
                                      Int) +
                                  (1 : Int))),
                            ((7 : Nat), AVal.int IntKind.i64 (i + (1 : Int)))]
                          { next := (2 : Nat),
                            bs :=
                              [((3 : Nat),
                                  ABlk.row (9 : Nat) strRow
                                    (l ++
                                      [List.drop (1 : Nat)
                                          (List.take
                                            (min (↑([(110 : UInt8)] ++ hs.getD ((0 : Nat) + i.toNat) []).length : Int)
                                                (9 : Int)).toNat
                                            ([(110 : UInt8)] ++ hs.getD ((0 : Nat) + i.toNat) []))])
                                    RowMd.plain),
                                ((0 : Nat), ABlk.row (9 : Nat) strRow hs RowMd.ro)] }))))))
              (obl
                (true &&
                  decide
                    (m = l.length ∧
                      (1 : Nat) = (1 : Nat) ∧
                        (1 : Nat) = (1 : Nat) ∧
                          (0 : Nat) < (1 : Nat) ∧
                            (l ++
                                    [List.take
                                        (min (↑([(110 : UInt8)] ++ hs.getD ((0 : Nat) + i.toNat) []).length : Int)
                                            (9 : Int)).toNat
                                        ([(110 : UInt8)] ++ hs.getD ((0 : Nat) + i.toNat) [])]).length ≤
                                (9223372036854775807 : Nat) ∧
                              (l ++
                                      [List.take
                                          (min (↑([(110 : UInt8)] ++ hs.getD ((0 : Nat) + i.toNat) []).length : Int)
                                              (9 : Int)).toNat
                                          ([(110 : UInt8)] ++ hs.getD ((0 : Nat) + i.toNat) [])]).length *
                                  (16 : Nat) ≤
                                (140737488355328 : Nat)))
                (obl
                  (inI64
                    (t +
                      (↑(List.take
                              (min (↑([(110 : UInt8)] ++ hs.getD ((0 : Nat) + i.toNat) []).length : Int)
                                  (9 : Int)).toNat
                              ([(110 : UInt8)] ++ hs.getD ((0 : Nat) + i.toNat) [])).length :
                        Int)))
                  (obl
                    (inI64
                      (t +
                          (↑(List.take
                                  (min (↑([(110 : UInt8)] ++ hs.getD ((0 : Nat) + i.toNat) []).length : Int)
                                      (9 : Int)).toNat
                                  ([(110 : UInt8)] ++ hs.getD ((0 : Nat) + i.toNat) [])).length :
                            Int) +
                        (1 : Int)))
                    (obl (inI64 (i + (1 : Int)))
                      (Q AExit.normal
                        [((0 : Nat), AVal.sl (0 : Nat) (0 : Nat) (1 : Nat) (0 : Nat) n none),
                          ((1 : Nat), AVal.int IntKind.u8 a),
                          ((5 : Nat),
                            AVal.sl (3 : Nat) (0 : Nat) (1 : Nat) (0 : Nat)
                              (l ++
                                  [List.take
                                      (min (↑([(110 : UInt8)] ++ hs.getD ((0 : Nat) + i.toNat) []).length : Int)
                                          (9 : Int)).toNat
                                      ([(110 : UInt8)] ++ hs.getD ((0 : Nat) + i.toNat) [])]).length
                              none),
                          ((6 : Nat),
                            AVal.int IntKind.i64
                              (t +
                                  (↑(List.take
                                          (min (↑([(110 : UInt8)] ++ hs.getD ((0 : Nat) + i.toNat) []).length : Int)
                                              (9 : Int)).toNat
                                          ([(110 : UInt8)] ++ hs.getD ((0 : Nat) + i.toNat) [])).length :
                                    Int) +
                                (1 : Int))),
                          ((7 : Nat), AVal.int IntKind.i64 (i + (1 : Int)))]
                        { next := (2 : Nat),
                          bs :=
                            [((3 : Nat),
                                ABlk.row (9 : Nat) strRow
                                  (l ++
                                    [List.take
                                        (min (↑([(110 : UInt8)] ++ hs.getD ((0 : Nat) + i.toNat) []).length : Int)
                                            (9 : Int)).toNat
                                        ([(110 : UInt8)] ++ hs.getD ((0 : Nat) + i.toNat) [])])
                                  RowMd.plain),
                              ((0 : Nat), ABlk.row (9 : Nat) strRow hs RowMd.ro)] }))))))))))
    (Q (AExit.exit (0 : Nat))
      [((0 : Nat), AVal.sl (0 : Nat) (0 : Nat) (1 : Nat) (0 : Nat) n none), ((1 : Nat), AVal.int IntKind.u8 a),
        ((5 : Nat), AVal.sl (1 : Nat) (0 : Nat) (1 : Nat) (0 : Nat) m none), ((6 : Nat), AVal.int IntKind.i64 t),
        ((7 : Nat), AVal.int IntKind.i64 i)]
      { next := (2 : Nat),
        bs :=
          [((1 : Nat), ABlk.row (9 : Nat) strRow l RowMd.plain), ((0 : Nat), ABlk.row (9 : Nat) strRow hs RowMd.ro)] }))
  (Q (AExit.exit (0 : Nat))
    [((0 : Nat), AVal.sl (0 : Nat) (0 : Nat) (1 : Nat) (0 : Nat) n none), ((1 : Nat), AVal.int IntKind.u8 a),
      ((5 : Nat), AVal.sl (1 : Nat) (0 : Nat) (1 : Nat) (0 : Nat) m none), ((6 : Nat), AVal.int IntKind.i64 t),
      ((7 : Nat), AVal.int IntKind.i64 i)]
    { next := (2 : Nat),
      bs :=
        [((1 : Nat), ABlk.row (9 : Nat) strRow l RowMd.plain),
          ((0 : Nat), ABlk.row (9 : Nat) strRow hs RowMd.ro)] })) := by kernel_rfl

end Go.Proofs.Ytddjaneacmdkmaa
