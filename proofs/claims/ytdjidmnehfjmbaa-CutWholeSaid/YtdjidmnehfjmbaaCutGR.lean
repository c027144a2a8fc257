/-
  Walks, printed: what calls come to, as they are reckoned.
-/
import Derived.Test.YtdjidmnehfjmbaaCutBSt
import Derived.Test.YtdjidmnehfjmbaaCutG
namespace Go.Proofs.Ytdjidmnehfjmbaa
set_option linter.unusedVariables false
set_option linter.unusedSimpArgs false
open Go.RowKit Ev

set_option maxRecDepth 100000 in
theorem w_whole_g (data : List UInt8) (kind : Int) (n : Nat) (all : List UInt8) (i : Int) (pst : Bool) (pen : Bool) (pid : Int) (ptot : Int) (ptyp : Int) (pk : Int) (plb : List UInt8) (pdata : List UInt8) (psum : List UInt8) (typ : Int) (k : Int) (b : List UInt8) (cdata : List UInt8) (at_ : Int) (id : Int) (lk : Int) (lb : List UInt8) (k0 : Int) (b0 : List UInt8) (sp : List Int) (base : Nat) (Q : AExit → Env → AHeap → Prop) : (wpC (TCG.ctx Try.prog) 100 5 base (loopOf Try.f5 0) [(0, .str data), (1, .int .u8 kind), (2, .sl 0 0 1 0 n none), (7, .ptr 2 0 0 0), (8, .ptr 3 0 0 0), (9, .ptr 4 0 0 0), (10, .str all), (11, .ptr 5 0 0 0), (12, .int .i64 i)] ⟨6, [(5, .cells 28 [.bool pst, .bool pen, .int .i64 pid, .int .i64 ptot, .int .i64 ptyp, .int .i64 pk, .str plb, .str pdata, .str psum]), (4, .cells 26 [.int .i64 typ, .int .i64 k, .str b, .str cdata, .int .i64 at_, .int .i64 id]), (3, .cells 24 [.int .i64 lk, .str lb]), (2, .cells 24 [.int .i64 k0, .str b0]), (0, .row 22 (intRow .u16) sp .ro)]⟩ (fun x E H => Q x (restr [0, 1, 2, 7, 8, 9, 10, 11, 12] E) (restrH [5, 4, 3, 2, 0] 6 H))
) = (branch (decide ((↑all.length : Int) < (↑data.length : Int)))
  (obl (decide ((0 : Int) ≤ i ∧ (0 : Int) < (50 : Int)))
    (obl (inI64 ((20 : Int) + i % (50 : Int)))
      (branch (decide (i < (↑n : Int)))
        (obl (decide ((0 : Int) ≤ i ∧ i < (↑n : Int)))
          (obl (decide ((0 : Nat) + i.toNat < sp.length))
            (obl (decide ((0 : Int) ≤ sp.getD ((0 : Nat) + i.toNat) (0 : Int) ∧ (0 : Int) < (5000 : Int)))
              (obl (inI64 (sp.getD ((0 : Nat) + i.toNat) (0 : Int) % (5000 : Int)))
                ((nextR typ k b cdata at_ id lk lb (sp.getD ((0 : Nat) + i.toNat) (0 : Int) % (5000 : Int)) false =
                      NextR.mk false false (0 : Int) (0 : Int) (0 : Int) (0 : Int) [] [] [] k b at_ (2 : Int) →
                    Q AExit.ret
                      [((0 : Nat), AVal.str data), ((1 : Nat), AVal.int IntKind.u8 kind),
                        ((2 : Nat), AVal.sl (0 : Nat) (0 : Nat) (1 : Nat) (0 : Nat) n none),
                        ((7 : Nat), AVal.ptr (2 : Nat) (0 : Nat) (0 : Nat) (0 : Nat)),
                        ((8 : Nat), AVal.ptr (3 : Nat) (0 : Nat) (0 : Nat) (0 : Nat)),
                        ((9 : Nat), AVal.ptr (4 : Nat) (0 : Nat) (0 : Nat) (0 : Nat)), ((10 : Nat), AVal.str all),
                        ((11 : Nat), AVal.ptr (5 : Nat) (0 : Nat) (0 : Nat) (0 : Nat)),
                        ((12 : Nat), AVal.int IntKind.i64 i)]
                      (AHeap.mk (6 : Nat)
                        [((5 : Nat),
                            ABlk.cells (28 : Nat)
                              [AVal.bool pst, AVal.bool pen, AVal.int IntKind.i64 pid, AVal.int IntKind.i64 ptot,
                                AVal.int IntKind.i64 ptyp, AVal.int IntKind.i64 pk, AVal.str plb, AVal.str pdata,
                                AVal.str psum]),
                          ((4 : Nat),
                            ABlk.cells (26 : Nat)
                              [AVal.int IntKind.i64 typ, AVal.int IntKind.i64 k, AVal.str b, AVal.str cdata,
                                AVal.int IntKind.i64 at_, AVal.int IntKind.i64 id]),
                          ((3 : Nat), ABlk.cells (24 : Nat) [AVal.int IntKind.i64 lk, AVal.str lb]),
                          ((2 : Nat), ABlk.cells (24 : Nat) [AVal.int IntKind.i64 k0, AVal.str b0]),
                          ((0 : Nat), ABlk.row (22 : Nat) (intRow IntKind.u16) sp RowMd.ro)])) ∧
                  (nextR typ k b cdata at_ id lk lb (sp.getD ((0 : Nat) + i.toNat) (0 : Int) % (5000 : Int)) false =
                        NextR.mk false false (0 : Int) (0 : Int) (0 : Int) (0 : Int) [] [] [] k b at_ (12 : Int) →
                      branch (decide (sp.getD ((0 : Nat) + i.toNat) (0 : Int) % (5000 : Int) < (20 : Int)))
                        (branch
                          (!(decide (typ = typ) &&
                              (decide (k = k) && (decide (b = b) && true) &&
                                (decide (cdata = cdata) && (decide (at_ = at_) && (decide (id = id) && true))))))
                          (Q AExit.ret
                            [((0 : Nat), AVal.str data), ((1 : Nat), AVal.int IntKind.u8 kind),
                              ((2 : Nat), AVal.sl (0 : Nat) (0 : Nat) (1 : Nat) (0 : Nat) n none),
                              ((7 : Nat), AVal.ptr (2 : Nat) (0 : Nat) (0 : Nat) (0 : Nat)),
                              ((8 : Nat), AVal.ptr (3 : Nat) (0 : Nat) (0 : Nat) (0 : Nat)),
                              ((9 : Nat), AVal.ptr (4 : Nat) (0 : Nat) (0 : Nat) (0 : Nat)), ((10 : Nat), AVal.str all),
                              ((11 : Nat), AVal.ptr (5 : Nat) (0 : Nat) (0 : Nat) (0 : Nat)),
                              ((12 : Nat), AVal.int IntKind.i64 i)]
                            (AHeap.mk (6 : Nat)
                              [((5 : Nat),
                                  ABlk.cells (28 : Nat)
                                    [AVal.bool pst, AVal.bool pen, AVal.int IntKind.i64 pid, AVal.int IntKind.i64 ptot,
                                      AVal.int IntKind.i64 ptyp, AVal.int IntKind.i64 pk, AVal.str plb, AVal.str pdata,
                                      AVal.str psum]),
                                ((4 : Nat),
                                  ABlk.cells (26 : Nat)
                                    [AVal.int IntKind.i64 typ, AVal.int IntKind.i64 k, AVal.str b, AVal.str cdata,
                                      AVal.int IntKind.i64 at_, AVal.int IntKind.i64 id]),
                                ((3 : Nat), ABlk.cells (24 : Nat) [AVal.int IntKind.i64 lk, AVal.str lb]),
                                ((2 : Nat), ABlk.cells (24 : Nat) [AVal.int IntKind.i64 k0, AVal.str b0]),
                                ((0 : Nat), ABlk.row (22 : Nat) (intRow IntKind.u16) sp RowMd.ro)]))
                          (obl (inI64 (i + (1 : Int)))
                            (Q AExit.normal
                              [((0 : Nat), AVal.str data), ((1 : Nat), AVal.int IntKind.u8 kind),
                                ((2 : Nat), AVal.sl (0 : Nat) (0 : Nat) (1 : Nat) (0 : Nat) n none),
                                ((7 : Nat), AVal.ptr (2 : Nat) (0 : Nat) (0 : Nat) (0 : Nat)),
                                ((8 : Nat), AVal.ptr (3 : Nat) (0 : Nat) (0 : Nat) (0 : Nat)),
                                ((9 : Nat), AVal.ptr (4 : Nat) (0 : Nat) (0 : Nat) (0 : Nat)),
                                ((10 : Nat), AVal.str all),
                                ((11 : Nat), AVal.ptr (5 : Nat) (0 : Nat) (0 : Nat) (0 : Nat)),
                                ((12 : Nat), AVal.int IntKind.i64 (i + (1 : Int)))]
                              (AHeap.mk (6 : Nat)
                                [((5 : Nat),
                                    ABlk.cells (28 : Nat)
                                      [AVal.bool pst, AVal.bool pen, AVal.int IntKind.i64 pid,
                                        AVal.int IntKind.i64 ptot, AVal.int IntKind.i64 ptyp, AVal.int IntKind.i64 pk,
                                        AVal.str plb, AVal.str pdata, AVal.str psum]),
                                  ((4 : Nat),
                                    ABlk.cells (26 : Nat)
                                      [AVal.int IntKind.i64 typ, AVal.int IntKind.i64 k, AVal.str b, AVal.str cdata,
                                        AVal.int IntKind.i64 at_, AVal.int IntKind.i64 id]),
                                  ((3 : Nat), ABlk.cells (24 : Nat) [AVal.int IntKind.i64 lk, AVal.str lb]),
                                  ((2 : Nat), ABlk.cells (24 : Nat) [AVal.int IntKind.i64 k0, AVal.str b0]),
                                  ((0 : Nat), ABlk.row (22 : Nat) (intRow IntKind.u16) sp RowMd.ro)]))))
                        (Q AExit.ret
                          [((0 : Nat), AVal.str data), ((1 : Nat), AVal.int IntKind.u8 kind),
                            ((2 : Nat), AVal.sl (0 : Nat) (0 : Nat) (1 : Nat) (0 : Nat) n none),
                            ((7 : Nat), AVal.ptr (2 : Nat) (0 : Nat) (0 : Nat) (0 : Nat)),
                            ((8 : Nat), AVal.ptr (3 : Nat) (0 : Nat) (0 : Nat) (0 : Nat)),
                            ((9 : Nat), AVal.ptr (4 : Nat) (0 : Nat) (0 : Nat) (0 : Nat)), ((10 : Nat), AVal.str all),
                            ((11 : Nat), AVal.ptr (5 : Nat) (0 : Nat) (0 : Nat) (0 : Nat)),
                            ((12 : Nat), AVal.int IntKind.i64 i)]
                          (AHeap.mk (6 : Nat)
                            [((5 : Nat),
                                ABlk.cells (28 : Nat)
                                  [AVal.bool pst, AVal.bool pen, AVal.int IntKind.i64 pid, AVal.int IntKind.i64 ptot,
                                    AVal.int IntKind.i64 ptyp, AVal.int IntKind.i64 pk, AVal.str plb, AVal.str pdata,
                                    AVal.str psum]),
                              ((4 : Nat),
                                ABlk.cells (26 : Nat)
                                  [AVal.int IntKind.i64 typ, AVal.int IntKind.i64 k, AVal.str b, AVal.str cdata,
                                    AVal.int IntKind.i64 at_, AVal.int IntKind.i64 id]),
                              ((3 : Nat), ABlk.cells (24 : Nat) [AVal.int IntKind.i64 lk, AVal.str lb]),
                              ((2 : Nat), ABlk.cells (24 : Nat) [AVal.int IntKind.i64 k0, AVal.str b0]),
                              ((0 : Nat), ABlk.row (22 : Nat) (intRow IntKind.u16) sp RowMd.ro)]))) ∧
                    (nextR typ k b cdata at_ id lk lb (sp.getD ((0 : Nat) + i.toNat) (0 : Int) % (5000 : Int)) false =
                          NextR.mk true true (0 : Int) (0 : Int) typ lk lb cdata [] k b (↑cdata.length : Int)
                            (0 : Int) →
                        obl (decide (lb.length + cdata.length + ([] : List UInt8).length ≤ (9223372036854775000 : Nat)))
                          (branch (!decide (gErr true true (0 : Int) (0 : Int) typ lk lb cdata [] = (0 : Int)))
                            (Q AExit.ret
                              [((0 : Nat), AVal.str data), ((1 : Nat), AVal.int IntKind.u8 kind),
                                ((2 : Nat), AVal.sl (0 : Nat) (0 : Nat) (1 : Nat) (0 : Nat) n none),
                                ((7 : Nat), AVal.ptr (2 : Nat) (0 : Nat) (0 : Nat) (0 : Nat)),
                                ((8 : Nat), AVal.ptr (3 : Nat) (0 : Nat) (0 : Nat) (0 : Nat)),
                                ((9 : Nat), AVal.ptr (4 : Nat) (0 : Nat) (0 : Nat) (0 : Nat)),
                                ((10 : Nat), AVal.str all),
                                ((11 : Nat), AVal.ptr (5 : Nat) (0 : Nat) (0 : Nat) (0 : Nat)),
                                ((12 : Nat), AVal.int IntKind.i64 i)]
                              (AHeap.mk (6 : Nat)
                                [((5 : Nat),
                                    ABlk.cells (28 : Nat)
                                      [AVal.bool pst, AVal.bool pen, AVal.int IntKind.i64 pid,
                                        AVal.int IntKind.i64 ptot, AVal.int IntKind.i64 ptyp, AVal.int IntKind.i64 pk,
                                        AVal.str plb, AVal.str pdata, AVal.str psum]),
                                  ((4 : Nat),
                                    ABlk.cells (26 : Nat)
                                      [AVal.int IntKind.i64 typ, AVal.int IntKind.i64 k, AVal.str b, AVal.str cdata,
                                        AVal.int IntKind.i64 at_, AVal.int IntKind.i64 id]),
                                  ((3 : Nat), ABlk.cells (24 : Nat) [AVal.int IntKind.i64 lk, AVal.str lb]),
                                  ((2 : Nat), ABlk.cells (24 : Nat) [AVal.int IntKind.i64 k0, AVal.str b0]),
                                  ((0 : Nat), ABlk.row (22 : Nat) (intRow IntKind.u16) sp RowMd.ro)]))
                            (branch
                              (decide
                                (sp.getD ((0 : Nat) + i.toNat) (0 : Int) % (5000 : Int) <
                                  (↑(gEnc true true (0 : Int) (0 : Int) typ lk lb cdata []).length : Int)))
                              (Q AExit.ret
                                [((0 : Nat), AVal.str data), ((1 : Nat), AVal.int IntKind.u8 kind),
                                  ((2 : Nat), AVal.sl (0 : Nat) (0 : Nat) (1 : Nat) (0 : Nat) n none),
                                  ((7 : Nat), AVal.ptr (2 : Nat) (0 : Nat) (0 : Nat) (0 : Nat)),
                                  ((8 : Nat), AVal.ptr (3 : Nat) (0 : Nat) (0 : Nat) (0 : Nat)),
                                  ((9 : Nat), AVal.ptr (4 : Nat) (0 : Nat) (0 : Nat) (0 : Nat)),
                                  ((10 : Nat), AVal.str all),
                                  ((11 : Nat), AVal.ptr (5 : Nat) (0 : Nat) (0 : Nat) (0 : Nat)),
                                  ((12 : Nat), AVal.int IntKind.i64 i)]
                                (AHeap.mk (6 : Nat)
                                  [((5 : Nat),
                                      ABlk.cells (28 : Nat)
                                        [AVal.bool pst, AVal.bool pen, AVal.int IntKind.i64 pid,
                                          AVal.int IntKind.i64 ptot, AVal.int IntKind.i64 ptyp, AVal.int IntKind.i64 pk,
                                          AVal.str plb, AVal.str pdata, AVal.str psum]),
                                    ((4 : Nat),
                                      ABlk.cells (26 : Nat)
                                        [AVal.int IntKind.i64 typ, AVal.int IntKind.i64 k, AVal.str b, AVal.str cdata,
                                          AVal.int IntKind.i64 at_, AVal.int IntKind.i64 id]),
                                    ((3 : Nat), ABlk.cells (24 : Nat) [AVal.int IntKind.i64 lk, AVal.str lb]),
                                    ((2 : Nat), ABlk.cells (24 : Nat) [AVal.int IntKind.i64 k0, AVal.str b0]),
                                    ((0 : Nat), ABlk.row (22 : Nat) (intRow IntKind.u16) sp RowMd.ro)]))
                              (branch
                                (decide
                                  ((4097 : Int) <
                                    (↑(gEnc true true (0 : Int) (0 : Int) typ lk lb cdata []).length : Int)))
                                (Q AExit.ret
                                  [((0 : Nat), AVal.str data), ((1 : Nat), AVal.int IntKind.u8 kind),
                                    ((2 : Nat), AVal.sl (0 : Nat) (0 : Nat) (1 : Nat) (0 : Nat) n none),
                                    ((7 : Nat), AVal.ptr (2 : Nat) (0 : Nat) (0 : Nat) (0 : Nat)),
                                    ((8 : Nat), AVal.ptr (3 : Nat) (0 : Nat) (0 : Nat) (0 : Nat)),
                                    ((9 : Nat), AVal.ptr (4 : Nat) (0 : Nat) (0 : Nat) (0 : Nat)),
                                    ((10 : Nat), AVal.str all),
                                    ((11 : Nat), AVal.ptr (5 : Nat) (0 : Nat) (0 : Nat) (0 : Nat)),
                                    ((12 : Nat), AVal.int IntKind.i64 i)]
                                  (AHeap.mk (6 : Nat)
                                    [((5 : Nat),
                                        ABlk.cells (28 : Nat)
                                          [AVal.bool pst, AVal.bool pen, AVal.int IntKind.i64 pid,
                                            AVal.int IntKind.i64 ptot, AVal.int IntKind.i64 ptyp,
                                            AVal.int IntKind.i64 pk, AVal.str plb, AVal.str pdata, AVal.str psum]),
                                      ((4 : Nat),
                                        ABlk.cells (26 : Nat)
                                          [AVal.int IntKind.i64 typ, AVal.int IntKind.i64 k, AVal.str b, AVal.str cdata,
                                            AVal.int IntKind.i64 at_, AVal.int IntKind.i64 id]),
                                      ((3 : Nat), ABlk.cells (24 : Nat) [AVal.int IntKind.i64 lk, AVal.str lb]),
                                      ((2 : Nat), ABlk.cells (24 : Nat) [AVal.int IntKind.i64 k0, AVal.str b0]),
                                      ((0 : Nat), ABlk.row (22 : Nat) (intRow IntKind.u16) sp RowMd.ro)]))
                                (branch (!true == decide (all = []))
                                  (Q AExit.ret
                                    [((0 : Nat), AVal.str data), ((1 : Nat), AVal.int IntKind.u8 kind),
                                      ((2 : Nat), AVal.sl (0 : Nat) (0 : Nat) (1 : Nat) (0 : Nat) n none),
                                      ((7 : Nat), AVal.ptr (2 : Nat) (0 : Nat) (0 : Nat) (0 : Nat)),
                                      ((8 : Nat), AVal.ptr (3 : Nat) (0 : Nat) (0 : Nat) (0 : Nat)),
                                      ((9 : Nat), AVal.ptr (4 : Nat) (0 : Nat) (0 : Nat) (0 : Nat)),
                                      ((10 : Nat), AVal.str all),
                                      ((11 : Nat), AVal.ptr (5 : Nat) (0 : Nat) (0 : Nat) (0 : Nat)),
                                      ((12 : Nat), AVal.int IntKind.i64 i)]
                                    (AHeap.mk (6 : Nat)
                                      [((5 : Nat),
                                          ABlk.cells (28 : Nat)
                                            [AVal.bool pst, AVal.bool pen, AVal.int IntKind.i64 pid,
                                              AVal.int IntKind.i64 ptot, AVal.int IntKind.i64 ptyp,
                                              AVal.int IntKind.i64 pk, AVal.str plb, AVal.str pdata, AVal.str psum]),
                                        ((4 : Nat),
                                          ABlk.cells (26 : Nat)
                                            [AVal.int IntKind.i64 typ, AVal.int IntKind.i64 k, AVal.str b,
                                              AVal.str cdata, AVal.int IntKind.i64 at_, AVal.int IntKind.i64 id]),
                                        ((3 : Nat), ABlk.cells (24 : Nat) [AVal.int IntKind.i64 lk, AVal.str lb]),
                                        ((2 : Nat), ABlk.cells (24 : Nat) [AVal.int IntKind.i64 k0, AVal.str b0]),
                                        ((0 : Nat), ABlk.row (22 : Nat) (intRow IntKind.u16) sp RowMd.ro)]))
                                  (branch (decide (cdata = []))
                                    (Q AExit.ret
                                      [((0 : Nat), AVal.str data), ((1 : Nat), AVal.int IntKind.u8 kind),
                                        ((2 : Nat), AVal.sl (0 : Nat) (0 : Nat) (1 : Nat) (0 : Nat) n none),
                                        ((7 : Nat), AVal.ptr (2 : Nat) (0 : Nat) (0 : Nat) (0 : Nat)),
                                        ((8 : Nat), AVal.ptr (3 : Nat) (0 : Nat) (0 : Nat) (0 : Nat)),
                                        ((9 : Nat), AVal.ptr (4 : Nat) (0 : Nat) (0 : Nat) (0 : Nat)),
                                        ((10 : Nat), AVal.str all),
                                        ((11 : Nat), AVal.ptr (5 : Nat) (0 : Nat) (0 : Nat) (0 : Nat)),
                                        ((12 : Nat), AVal.int IntKind.i64 i)]
                                      (AHeap.mk (6 : Nat)
                                        [((5 : Nat),
                                            ABlk.cells (28 : Nat)
                                              [AVal.bool pst, AVal.bool pen, AVal.int IntKind.i64 pid,
                                                AVal.int IntKind.i64 ptot, AVal.int IntKind.i64 ptyp,
                                                AVal.int IntKind.i64 pk, AVal.str plb, AVal.str pdata, AVal.str psum]),
                                          ((4 : Nat),
                                            ABlk.cells (26 : Nat)
                                              [AVal.int IntKind.i64 typ, AVal.int IntKind.i64 k, AVal.str b,
                                                AVal.str cdata, AVal.int IntKind.i64 at_, AVal.int IntKind.i64 id]),
                                          ((3 : Nat), ABlk.cells (24 : Nat) [AVal.int IntKind.i64 lk, AVal.str lb]),
                                          ((2 : Nat), ABlk.cells (24 : Nat) [AVal.int IntKind.i64 k0, AVal.str b0]),
                                          ((0 : Nat), ABlk.row (22 : Nat) (intRow IntKind.u16) sp RowMd.ro)]))
                                    (obl (inI64 (at_ + (↑cdata.length : Int)))
                                      (branch (!decide ((↑cdata.length : Int) = at_ + (↑cdata.length : Int)))
                                        (Q AExit.ret
                                          [((0 : Nat), AVal.str data), ((1 : Nat), AVal.int IntKind.u8 kind),
                                            ((2 : Nat), AVal.sl (0 : Nat) (0 : Nat) (1 : Nat) (0 : Nat) n none),
                                            ((7 : Nat), AVal.ptr (2 : Nat) (0 : Nat) (0 : Nat) (0 : Nat)),
                                            ((8 : Nat), AVal.ptr (3 : Nat) (0 : Nat) (0 : Nat) (0 : Nat)),
                                            ((9 : Nat), AVal.ptr (4 : Nat) (0 : Nat) (0 : Nat) (0 : Nat)),
                                            ((10 : Nat), AVal.str all),
                                            ((11 : Nat), AVal.ptr (5 : Nat) (0 : Nat) (0 : Nat) (0 : Nat)),
                                            ((12 : Nat), AVal.int IntKind.i64 i)]
                                          (AHeap.mk (6 : Nat)
                                            [((5 : Nat),
                                                ABlk.cells (28 : Nat)
                                                  [AVal.bool pst, AVal.bool pen, AVal.int IntKind.i64 pid,
                                                    AVal.int IntKind.i64 ptot, AVal.int IntKind.i64 ptyp,
                                                    AVal.int IntKind.i64 pk, AVal.str plb, AVal.str pdata,
                                                    AVal.str psum]),
                                              ((4 : Nat),
                                                ABlk.cells (26 : Nat)
                                                  [AVal.int IntKind.i64 typ, AVal.int IntKind.i64 k, AVal.str b,
                                                    AVal.str cdata, AVal.int IntKind.i64 at_, AVal.int IntKind.i64 id]),
                                              ((3 : Nat), ABlk.cells (24 : Nat) [AVal.int IntKind.i64 lk, AVal.str lb]),
                                              ((2 : Nat), ABlk.cells (24 : Nat) [AVal.int IntKind.i64 k0, AVal.str b0]),
                                              ((0 : Nat), ABlk.row (22 : Nat) (intRow IntKind.u16) sp RowMd.ro)]))
                                        (obl
                                          (decide ((↑(all.length + cdata.length) : Int) ≤ (9223372036854775807 : Int)))
                                          (branch
                                            (!true == decide ((↑(all ++ cdata).length : Int) = (↑data.length : Int)))
                                            (Q AExit.ret
                                              [((0 : Nat), AVal.str data), ((1 : Nat), AVal.int IntKind.u8 kind),
                                                ((2 : Nat), AVal.sl (0 : Nat) (0 : Nat) (1 : Nat) (0 : Nat) n none),
                                                ((7 : Nat), AVal.ptr (2 : Nat) (0 : Nat) (0 : Nat) (0 : Nat)),
                                                ((8 : Nat), AVal.ptr (3 : Nat) (0 : Nat) (0 : Nat) (0 : Nat)),
                                                ((9 : Nat), AVal.ptr (4 : Nat) (0 : Nat) (0 : Nat) (0 : Nat)),
                                                ((10 : Nat), AVal.str (all ++ cdata)),
                                                ((11 : Nat), AVal.ptr (5 : Nat) (0 : Nat) (0 : Nat) (0 : Nat)),
                                                ((12 : Nat), AVal.int IntKind.i64 i)]
                                              (AHeap.mk (6 : Nat)
                                                [((5 : Nat),
                                                    ABlk.cells (28 : Nat)
                                                      [AVal.bool pst, AVal.bool pen, AVal.int IntKind.i64 pid,
                                                        AVal.int IntKind.i64 ptot, AVal.int IntKind.i64 ptyp,
                                                        AVal.int IntKind.i64 pk, AVal.str plb, AVal.str pdata,
                                                        AVal.str psum]),
                                                  ((4 : Nat),
                                                    ABlk.cells (26 : Nat)
                                                      [AVal.int IntKind.i64 typ, AVal.int IntKind.i64 k, AVal.str b,
                                                        AVal.str cdata, AVal.int IntKind.i64 at_,
                                                        AVal.int IntKind.i64 id]),
                                                  ((3 : Nat),
                                                    ABlk.cells (24 : Nat) [AVal.int IntKind.i64 lk, AVal.str lb]),
                                                  ((2 : Nat),
                                                    ABlk.cells (24 : Nat) [AVal.int IntKind.i64 k0, AVal.str b0]),
                                                  ((0 : Nat), ABlk.row (22 : Nat) (intRow IntKind.u16) sp RowMd.ro)]))
                                            (branch (!(decide (lk = lk) && (decide (lb = lb) && true)))
                                              (Q AExit.ret
                                                [((0 : Nat), AVal.str data), ((1 : Nat), AVal.int IntKind.u8 kind),
                                                  ((2 : Nat), AVal.sl (0 : Nat) (0 : Nat) (1 : Nat) (0 : Nat) n none),
                                                  ((7 : Nat), AVal.ptr (2 : Nat) (0 : Nat) (0 : Nat) (0 : Nat)),
                                                  ((8 : Nat), AVal.ptr (3 : Nat) (0 : Nat) (0 : Nat) (0 : Nat)),
                                                  ((9 : Nat), AVal.ptr (4 : Nat) (0 : Nat) (0 : Nat) (0 : Nat)),
                                                  ((10 : Nat), AVal.str (all ++ cdata)),
                                                  ((11 : Nat), AVal.ptr (5 : Nat) (0 : Nat) (0 : Nat) (0 : Nat)),
                                                  ((12 : Nat), AVal.int IntKind.i64 i)]
                                                (AHeap.mk (6 : Nat)
                                                  [((5 : Nat),
                                                      ABlk.cells (28 : Nat)
                                                        [AVal.bool pst, AVal.bool pen, AVal.int IntKind.i64 pid,
                                                          AVal.int IntKind.i64 ptot, AVal.int IntKind.i64 ptyp,
                                                          AVal.int IntKind.i64 pk, AVal.str plb, AVal.str pdata,
                                                          AVal.str psum]),
                                                    ((4 : Nat),
                                                      ABlk.cells (26 : Nat)
                                                        [AVal.int IntKind.i64 typ, AVal.int IntKind.i64 k, AVal.str b,
                                                          AVal.str cdata, AVal.int IntKind.i64 at_,
                                                          AVal.int IntKind.i64 id]),
                                                    ((3 : Nat),
                                                      ABlk.cells (24 : Nat) [AVal.int IntKind.i64 lk, AVal.str lb]),
                                                    ((2 : Nat),
                                                      ABlk.cells (24 : Nat) [AVal.int IntKind.i64 k0, AVal.str b0]),
                                                    ((0 : Nat), ABlk.row (22 : Nat) (intRow IntKind.u16) sp RowMd.ro)]))
                                              (obl (inI64 (i + (1 : Int)))
                                                (Q AExit.normal
                                                  [((0 : Nat), AVal.str data), ((1 : Nat), AVal.int IntKind.u8 kind),
                                                    ((2 : Nat), AVal.sl (0 : Nat) (0 : Nat) (1 : Nat) (0 : Nat) n none),
                                                    ((7 : Nat), AVal.ptr (2 : Nat) (0 : Nat) (0 : Nat) (0 : Nat)),
                                                    ((8 : Nat), AVal.ptr (3 : Nat) (0 : Nat) (0 : Nat) (0 : Nat)),
                                                    ((9 : Nat), AVal.ptr (4 : Nat) (0 : Nat) (0 : Nat) (0 : Nat)),
                                                    ((10 : Nat), AVal.str (all ++ cdata)),
                                                    ((11 : Nat), AVal.ptr (5 : Nat) (0 : Nat) (0 : Nat) (0 : Nat)),
                                                    ((12 : Nat), AVal.int IntKind.i64 (i + (1 : Int)))]
                                                  (AHeap.mk (6 : Nat)
                                                    [((5 : Nat),
                                                        ABlk.cells (28 : Nat)
                                                          [AVal.bool true, AVal.bool true,
                                                            AVal.int IntKind.i64 (0 : Int),
                                                            AVal.int IntKind.i64 (0 : Int), AVal.int IntKind.i64 typ,
                                                            AVal.int IntKind.i64 lk, AVal.str lb, AVal.str cdata,
                                                            AVal.str []]),
                                                      ((4 : Nat),
                                                        ABlk.cells (26 : Nat)
                                                          [AVal.int IntKind.i64 typ, AVal.int IntKind.i64 k, AVal.str b,
                                                            AVal.str cdata, AVal.int IntKind.i64 (↑cdata.length : Int),
                                                            AVal.int IntKind.i64 id]),
                                                      ((3 : Nat),
                                                        ABlk.cells (24 : Nat) [AVal.int IntKind.i64 lk, AVal.str lb]),
                                                      ((2 : Nat),
                                                        ABlk.cells (24 : Nat) [AVal.int IntKind.i64 k0, AVal.str b0]),
                                                      ((0 : Nat),
                                                        ABlk.row (22 : Nat) (intRow IntKind.u16) sp
                                                          RowMd.ro)])))))))))))))) ∧
                      (∀ (n_1 : Int) (x : List UInt8),
                          nextR typ k b cdata at_ id lk lb (sp.getD ((0 : Nat) + i.toNat) (0 : Int) % (5000 : Int))
                                false =
                              NextR.mk true false id (pTotal lk lb (↑cdata.length : Int)) typ lk lb x [] lk lb n_1
                                (0 : Int) →
                            obl (decide (lb.length + x.length + ([] : List UInt8).length ≤ (9223372036854775000 : Nat)))
                              (branch
                                (!decide
                                    (gErr true false id (pTotal lk lb (↑cdata.length : Int)) typ lk lb x [] =
                                      (0 : Int)))
                                (Q AExit.ret
                                  [((0 : Nat), AVal.str data), ((1 : Nat), AVal.int IntKind.u8 kind),
                                    ((2 : Nat), AVal.sl (0 : Nat) (0 : Nat) (1 : Nat) (0 : Nat) n none),
                                    ((7 : Nat), AVal.ptr (2 : Nat) (0 : Nat) (0 : Nat) (0 : Nat)),
                                    ((8 : Nat), AVal.ptr (3 : Nat) (0 : Nat) (0 : Nat) (0 : Nat)),
                                    ((9 : Nat), AVal.ptr (4 : Nat) (0 : Nat) (0 : Nat) (0 : Nat)),
                                    ((10 : Nat), AVal.str all),
                                    ((11 : Nat), AVal.ptr (5 : Nat) (0 : Nat) (0 : Nat) (0 : Nat)),
                                    ((12 : Nat), AVal.int IntKind.i64 i)]
                                  (AHeap.mk (6 : Nat)
                                    [((5 : Nat),
                                        ABlk.cells (28 : Nat)
                                          [AVal.bool pst, AVal.bool pen, AVal.int IntKind.i64 pid,
                                            AVal.int IntKind.i64 ptot, AVal.int IntKind.i64 ptyp,
                                            AVal.int IntKind.i64 pk, AVal.str plb, AVal.str pdata, AVal.str psum]),
                                      ((4 : Nat),
                                        ABlk.cells (26 : Nat)
                                          [AVal.int IntKind.i64 typ, AVal.int IntKind.i64 k, AVal.str b, AVal.str cdata,
                                            AVal.int IntKind.i64 at_, AVal.int IntKind.i64 id]),
                                      ((3 : Nat), ABlk.cells (24 : Nat) [AVal.int IntKind.i64 lk, AVal.str lb]),
                                      ((2 : Nat), ABlk.cells (24 : Nat) [AVal.int IntKind.i64 k0, AVal.str b0]),
                                      ((0 : Nat), ABlk.row (22 : Nat) (intRow IntKind.u16) sp RowMd.ro)]))
                                (branch
                                  (decide
                                    (sp.getD ((0 : Nat) + i.toNat) (0 : Int) % (5000 : Int) <
                                      (↑(gEnc true false id (pTotal lk lb (↑cdata.length : Int)) typ lk lb x
                                              []).length :
                                        Int)))
                                  (Q AExit.ret
                                    [((0 : Nat), AVal.str data), ((1 : Nat), AVal.int IntKind.u8 kind),
                                      ((2 : Nat), AVal.sl (0 : Nat) (0 : Nat) (1 : Nat) (0 : Nat) n none),
                                      ((7 : Nat), AVal.ptr (2 : Nat) (0 : Nat) (0 : Nat) (0 : Nat)),
                                      ((8 : Nat), AVal.ptr (3 : Nat) (0 : Nat) (0 : Nat) (0 : Nat)),
                                      ((9 : Nat), AVal.ptr (4 : Nat) (0 : Nat) (0 : Nat) (0 : Nat)),
                                      ((10 : Nat), AVal.str all),
                                      ((11 : Nat), AVal.ptr (5 : Nat) (0 : Nat) (0 : Nat) (0 : Nat)),
                                      ((12 : Nat), AVal.int IntKind.i64 i)]
                                    (AHeap.mk (6 : Nat)
                                      [((5 : Nat),
                                          ABlk.cells (28 : Nat)
                                            [AVal.bool pst, AVal.bool pen, AVal.int IntKind.i64 pid,
                                              AVal.int IntKind.i64 ptot, AVal.int IntKind.i64 ptyp,
                                              AVal.int IntKind.i64 pk, AVal.str plb, AVal.str pdata, AVal.str psum]),
                                        ((4 : Nat),
                                          ABlk.cells (26 : Nat)
                                            [AVal.int IntKind.i64 typ, AVal.int IntKind.i64 k, AVal.str b,
                                              AVal.str cdata, AVal.int IntKind.i64 at_, AVal.int IntKind.i64 id]),
                                        ((3 : Nat), ABlk.cells (24 : Nat) [AVal.int IntKind.i64 lk, AVal.str lb]),
                                        ((2 : Nat), ABlk.cells (24 : Nat) [AVal.int IntKind.i64 k0, AVal.str b0]),
                                        ((0 : Nat), ABlk.row (22 : Nat) (intRow IntKind.u16) sp RowMd.ro)]))
                                  (branch
                                    (decide
                                      ((4097 : Int) <
                                        (↑(gEnc true false id (pTotal lk lb (↑cdata.length : Int)) typ lk lb x
                                                []).length :
                                          Int)))
                                    (Q AExit.ret
                                      [((0 : Nat), AVal.str data), ((1 : Nat), AVal.int IntKind.u8 kind),
                                        ((2 : Nat), AVal.sl (0 : Nat) (0 : Nat) (1 : Nat) (0 : Nat) n none),
                                        ((7 : Nat), AVal.ptr (2 : Nat) (0 : Nat) (0 : Nat) (0 : Nat)),
                                        ((8 : Nat), AVal.ptr (3 : Nat) (0 : Nat) (0 : Nat) (0 : Nat)),
                                        ((9 : Nat), AVal.ptr (4 : Nat) (0 : Nat) (0 : Nat) (0 : Nat)),
                                        ((10 : Nat), AVal.str all),
                                        ((11 : Nat), AVal.ptr (5 : Nat) (0 : Nat) (0 : Nat) (0 : Nat)),
                                        ((12 : Nat), AVal.int IntKind.i64 i)]
                                      (AHeap.mk (6 : Nat)
                                        [((5 : Nat),
                                            ABlk.cells (28 : Nat)
                                              [AVal.bool pst, AVal.bool pen, AVal.int IntKind.i64 pid,
                                                AVal.int IntKind.i64 ptot, AVal.int IntKind.i64 ptyp,
                                                AVal.int IntKind.i64 pk, AVal.str plb, AVal.str pdata, AVal.str psum]),
                                          ((4 : Nat),
                                            ABlk.cells (26 : Nat)
                                              [AVal.int IntKind.i64 typ, AVal.int IntKind.i64 k, AVal.str b,
                                                AVal.str cdata, AVal.int IntKind.i64 at_, AVal.int IntKind.i64 id]),
                                          ((3 : Nat), ABlk.cells (24 : Nat) [AVal.int IntKind.i64 lk, AVal.str lb]),
                                          ((2 : Nat), ABlk.cells (24 : Nat) [AVal.int IntKind.i64 k0, AVal.str b0]),
                                          ((0 : Nat), ABlk.row (22 : Nat) (intRow IntKind.u16) sp RowMd.ro)]))
                                    (branch (!true == decide (all = []))
                                      (Q AExit.ret
                                        [((0 : Nat), AVal.str data), ((1 : Nat), AVal.int IntKind.u8 kind),
                                          ((2 : Nat), AVal.sl (0 : Nat) (0 : Nat) (1 : Nat) (0 : Nat) n none),
                                          ((7 : Nat), AVal.ptr (2 : Nat) (0 : Nat) (0 : Nat) (0 : Nat)),
                                          ((8 : Nat), AVal.ptr (3 : Nat) (0 : Nat) (0 : Nat) (0 : Nat)),
                                          ((9 : Nat), AVal.ptr (4 : Nat) (0 : Nat) (0 : Nat) (0 : Nat)),
                                          ((10 : Nat), AVal.str all),
                                          ((11 : Nat), AVal.ptr (5 : Nat) (0 : Nat) (0 : Nat) (0 : Nat)),
                                          ((12 : Nat), AVal.int IntKind.i64 i)]
                                        (AHeap.mk (6 : Nat)
                                          [((5 : Nat),
                                              ABlk.cells (28 : Nat)
                                                [AVal.bool pst, AVal.bool pen, AVal.int IntKind.i64 pid,
                                                  AVal.int IntKind.i64 ptot, AVal.int IntKind.i64 ptyp,
                                                  AVal.int IntKind.i64 pk, AVal.str plb, AVal.str pdata,
                                                  AVal.str psum]),
                                            ((4 : Nat),
                                              ABlk.cells (26 : Nat)
                                                [AVal.int IntKind.i64 typ, AVal.int IntKind.i64 k, AVal.str b,
                                                  AVal.str cdata, AVal.int IntKind.i64 at_, AVal.int IntKind.i64 id]),
                                            ((3 : Nat), ABlk.cells (24 : Nat) [AVal.int IntKind.i64 lk, AVal.str lb]),
                                            ((2 : Nat), ABlk.cells (24 : Nat) [AVal.int IntKind.i64 k0, AVal.str b0]),
                                            ((0 : Nat), ABlk.row (22 : Nat) (intRow IntKind.u16) sp RowMd.ro)]))
                                      (branch (decide (x = []))
                                        (Q AExit.ret
                                          [((0 : Nat), AVal.str data), ((1 : Nat), AVal.int IntKind.u8 kind),
                                            ((2 : Nat), AVal.sl (0 : Nat) (0 : Nat) (1 : Nat) (0 : Nat) n none),
                                            ((7 : Nat), AVal.ptr (2 : Nat) (0 : Nat) (0 : Nat) (0 : Nat)),
                                            ((8 : Nat), AVal.ptr (3 : Nat) (0 : Nat) (0 : Nat) (0 : Nat)),
                                            ((9 : Nat), AVal.ptr (4 : Nat) (0 : Nat) (0 : Nat) (0 : Nat)),
                                            ((10 : Nat), AVal.str all),
                                            ((11 : Nat), AVal.ptr (5 : Nat) (0 : Nat) (0 : Nat) (0 : Nat)),
                                            ((12 : Nat), AVal.int IntKind.i64 i)]
                                          (AHeap.mk (6 : Nat)
                                            [((5 : Nat),
                                                ABlk.cells (28 : Nat)
                                                  [AVal.bool pst, AVal.bool pen, AVal.int IntKind.i64 pid,
                                                    AVal.int IntKind.i64 ptot, AVal.int IntKind.i64 ptyp,
                                                    AVal.int IntKind.i64 pk, AVal.str plb, AVal.str pdata,
                                                    AVal.str psum]),
                                              ((4 : Nat),
                                                ABlk.cells (26 : Nat)
                                                  [AVal.int IntKind.i64 typ, AVal.int IntKind.i64 k, AVal.str b,
                                                    AVal.str cdata, AVal.int IntKind.i64 at_, AVal.int IntKind.i64 id]),
                                              ((3 : Nat), ABlk.cells (24 : Nat) [AVal.int IntKind.i64 lk, AVal.str lb]),
                                              ((2 : Nat), ABlk.cells (24 : Nat) [AVal.int IntKind.i64 k0, AVal.str b0]),
                                              ((0 : Nat), ABlk.row (22 : Nat) (intRow IntKind.u16) sp RowMd.ro)]))
                                        (obl (inI64 (at_ + (↑x.length : Int)))
                                          (branch (!decide (n_1 = at_ + (↑x.length : Int)))
                                            (Q AExit.ret
                                              [((0 : Nat), AVal.str data), ((1 : Nat), AVal.int IntKind.u8 kind),
                                                ((2 : Nat), AVal.sl (0 : Nat) (0 : Nat) (1 : Nat) (0 : Nat) n none),
                                                ((7 : Nat), AVal.ptr (2 : Nat) (0 : Nat) (0 : Nat) (0 : Nat)),
                                                ((8 : Nat), AVal.ptr (3 : Nat) (0 : Nat) (0 : Nat) (0 : Nat)),
                                                ((9 : Nat), AVal.ptr (4 : Nat) (0 : Nat) (0 : Nat) (0 : Nat)),
                                                ((10 : Nat), AVal.str all),
                                                ((11 : Nat), AVal.ptr (5 : Nat) (0 : Nat) (0 : Nat) (0 : Nat)),
                                                ((12 : Nat), AVal.int IntKind.i64 i)]
                                              (AHeap.mk (6 : Nat)
                                                [((5 : Nat),
                                                    ABlk.cells (28 : Nat)
                                                      [AVal.bool pst, AVal.bool pen, AVal.int IntKind.i64 pid,
                                                        AVal.int IntKind.i64 ptot, AVal.int IntKind.i64 ptyp,
                                                        AVal.int IntKind.i64 pk, AVal.str plb, AVal.str pdata,
                                                        AVal.str psum]),
                                                  ((4 : Nat),
                                                    ABlk.cells (26 : Nat)
                                                      [AVal.int IntKind.i64 typ, AVal.int IntKind.i64 k, AVal.str b,
                                                        AVal.str cdata, AVal.int IntKind.i64 at_,
                                                        AVal.int IntKind.i64 id]),
                                                  ((3 : Nat),
                                                    ABlk.cells (24 : Nat) [AVal.int IntKind.i64 lk, AVal.str lb]),
                                                  ((2 : Nat),
                                                    ABlk.cells (24 : Nat) [AVal.int IntKind.i64 k0, AVal.str b0]),
                                                  ((0 : Nat), ABlk.row (22 : Nat) (intRow IntKind.u16) sp RowMd.ro)]))
                                            (obl
                                              (decide ((↑(all.length + x.length) : Int) ≤ (9223372036854775807 : Int)))
                                              (branch
                                                (!false == decide ((↑(all ++ x).length : Int) = (↑data.length : Int)))
                                                (Q AExit.ret
                                                  [((0 : Nat), AVal.str data), ((1 : Nat), AVal.int IntKind.u8 kind),
                                                    ((2 : Nat), AVal.sl (0 : Nat) (0 : Nat) (1 : Nat) (0 : Nat) n none),
                                                    ((7 : Nat), AVal.ptr (2 : Nat) (0 : Nat) (0 : Nat) (0 : Nat)),
                                                    ((8 : Nat), AVal.ptr (3 : Nat) (0 : Nat) (0 : Nat) (0 : Nat)),
                                                    ((9 : Nat), AVal.ptr (4 : Nat) (0 : Nat) (0 : Nat) (0 : Nat)),
                                                    ((10 : Nat), AVal.str (all ++ x)),
                                                    ((11 : Nat), AVal.ptr (5 : Nat) (0 : Nat) (0 : Nat) (0 : Nat)),
                                                    ((12 : Nat), AVal.int IntKind.i64 i)]
                                                  (AHeap.mk (6 : Nat)
                                                    [((5 : Nat),
                                                        ABlk.cells (28 : Nat)
                                                          [AVal.bool pst, AVal.bool pen, AVal.int IntKind.i64 pid,
                                                            AVal.int IntKind.i64 ptot, AVal.int IntKind.i64 ptyp,
                                                            AVal.int IntKind.i64 pk, AVal.str plb, AVal.str pdata,
                                                            AVal.str psum]),
                                                      ((4 : Nat),
                                                        ABlk.cells (26 : Nat)
                                                          [AVal.int IntKind.i64 typ, AVal.int IntKind.i64 k, AVal.str b,
                                                            AVal.str cdata, AVal.int IntKind.i64 at_,
                                                            AVal.int IntKind.i64 id]),
                                                      ((3 : Nat),
                                                        ABlk.cells (24 : Nat) [AVal.int IntKind.i64 lk, AVal.str lb]),
                                                      ((2 : Nat),
                                                        ABlk.cells (24 : Nat) [AVal.int IntKind.i64 k0, AVal.str b0]),
                                                      ((0 : Nat),
                                                        ABlk.row (22 : Nat) (intRow IntKind.u16) sp RowMd.ro)]))
                                                (obl
                                                  (inI64
                                                    (min (sp.getD ((0 : Nat) + i.toNat) (0 : Int) % (5000 : Int))
                                                        (4097 : Int) -
                                                      (17 : Int)))
                                                  (branch
                                                    (decide
                                                      ((↑x.length : Int) <
                                                        min (sp.getD ((0 : Nat) + i.toNat) (0 : Int) % (5000 : Int))
                                                            (4097 : Int) -
                                                          (17 : Int)))
                                                    (Q AExit.ret
                                                      [((0 : Nat), AVal.str data),
                                                        ((1 : Nat), AVal.int IntKind.u8 kind),
                                                        ((2 : Nat),
                                                          AVal.sl (0 : Nat) (0 : Nat) (1 : Nat) (0 : Nat) n none),
                                                        ((7 : Nat), AVal.ptr (2 : Nat) (0 : Nat) (0 : Nat) (0 : Nat)),
                                                        ((8 : Nat), AVal.ptr (3 : Nat) (0 : Nat) (0 : Nat) (0 : Nat)),
                                                        ((9 : Nat), AVal.ptr (4 : Nat) (0 : Nat) (0 : Nat) (0 : Nat)),
                                                        ((10 : Nat), AVal.str (all ++ x)),
                                                        ((11 : Nat), AVal.ptr (5 : Nat) (0 : Nat) (0 : Nat) (0 : Nat)),
                                                        ((12 : Nat), AVal.int IntKind.i64 i)]
                                                      (AHeap.mk (6 : Nat)
                                                        [((5 : Nat),
                                                            ABlk.cells (28 : Nat)
                                                              [AVal.bool pst, AVal.bool pen, AVal.int IntKind.i64 pid,
                                                                AVal.int IntKind.i64 ptot, AVal.int IntKind.i64 ptyp,
                                                                AVal.int IntKind.i64 pk, AVal.str plb, AVal.str pdata,
                                                                AVal.str psum]),
                                                          ((4 : Nat),
                                                            ABlk.cells (26 : Nat)
                                                              [AVal.int IntKind.i64 typ, AVal.int IntKind.i64 k,
                                                                AVal.str b, AVal.str cdata, AVal.int IntKind.i64 at_,
                                                                AVal.int IntKind.i64 id]),
                                                          ((3 : Nat),
                                                            ABlk.cells (24 : Nat)
                                                              [AVal.int IntKind.i64 lk, AVal.str lb]),
                                                          ((2 : Nat),
                                                            ABlk.cells (24 : Nat)
                                                              [AVal.int IntKind.i64 k0, AVal.str b0]),
                                                          ((0 : Nat),
                                                            ABlk.row (22 : Nat) (intRow IntKind.u16) sp RowMd.ro)]))
                                                    (obl (inI64 kind)
                                                      (branch (!decide (id = kind))
                                                        (Q AExit.ret
                                                          [((0 : Nat), AVal.str data),
                                                            ((1 : Nat), AVal.int IntKind.u8 kind),
                                                            ((2 : Nat),
                                                              AVal.sl (0 : Nat) (0 : Nat) (1 : Nat) (0 : Nat) n none),
                                                            ((7 : Nat),
                                                              AVal.ptr (2 : Nat) (0 : Nat) (0 : Nat) (0 : Nat)),
                                                            ((8 : Nat),
                                                              AVal.ptr (3 : Nat) (0 : Nat) (0 : Nat) (0 : Nat)),
                                                            ((9 : Nat),
                                                              AVal.ptr (4 : Nat) (0 : Nat) (0 : Nat) (0 : Nat)),
                                                            ((10 : Nat), AVal.str (all ++ x)),
                                                            ((11 : Nat),
                                                              AVal.ptr (5 : Nat) (0 : Nat) (0 : Nat) (0 : Nat)),
                                                            ((12 : Nat), AVal.int IntKind.i64 i)]
                                                          (AHeap.mk (6 : Nat)
                                                            [((5 : Nat),
                                                                ABlk.cells (28 : Nat)
                                                                  [AVal.bool pst, AVal.bool pen,
                                                                    AVal.int IntKind.i64 pid, AVal.int IntKind.i64 ptot,
                                                                    AVal.int IntKind.i64 ptyp, AVal.int IntKind.i64 pk,
                                                                    AVal.str plb, AVal.str pdata, AVal.str psum]),
                                                              ((4 : Nat),
                                                                ABlk.cells (26 : Nat)
                                                                  [AVal.int IntKind.i64 typ, AVal.int IntKind.i64 k,
                                                                    AVal.str b, AVal.str cdata,
                                                                    AVal.int IntKind.i64 at_, AVal.int IntKind.i64 id]),
                                                              ((3 : Nat),
                                                                ABlk.cells (24 : Nat)
                                                                  [AVal.int IntKind.i64 lk, AVal.str lb]),
                                                              ((2 : Nat),
                                                                ABlk.cells (24 : Nat)
                                                                  [AVal.int IntKind.i64 k0, AVal.str b0]),
                                                              ((0 : Nat),
                                                                ABlk.row (22 : Nat) (intRow IntKind.u16) sp RowMd.ro)]))
                                                        (branch (!(decide (lk = lk) && (decide (lb = lb) && true)))
                                                          (Q AExit.ret
                                                            [((0 : Nat), AVal.str data),
                                                              ((1 : Nat), AVal.int IntKind.u8 kind),
                                                              ((2 : Nat),
                                                                AVal.sl (0 : Nat) (0 : Nat) (1 : Nat) (0 : Nat) n none),
                                                              ((7 : Nat),
                                                                AVal.ptr (2 : Nat) (0 : Nat) (0 : Nat) (0 : Nat)),
                                                              ((8 : Nat),
                                                                AVal.ptr (3 : Nat) (0 : Nat) (0 : Nat) (0 : Nat)),
                                                              ((9 : Nat),
                                                                AVal.ptr (4 : Nat) (0 : Nat) (0 : Nat) (0 : Nat)),
                                                              ((10 : Nat), AVal.str (all ++ x)),
                                                              ((11 : Nat),
                                                                AVal.ptr (5 : Nat) (0 : Nat) (0 : Nat) (0 : Nat)),
                                                              ((12 : Nat), AVal.int IntKind.i64 i)]
                                                            (AHeap.mk (6 : Nat)
                                                              [((5 : Nat),
                                                                  ABlk.cells (28 : Nat)
                                                                    [AVal.bool pst, AVal.bool pen,
                                                                      AVal.int IntKind.i64 pid,
                                                                      AVal.int IntKind.i64 ptot,
                                                                      AVal.int IntKind.i64 ptyp,
                                                                      AVal.int IntKind.i64 pk, AVal.str plb,
                                                                      AVal.str pdata, AVal.str psum]),
                                                                ((4 : Nat),
                                                                  ABlk.cells (26 : Nat)
                                                                    [AVal.int IntKind.i64 typ, AVal.int IntKind.i64 k,
                                                                      AVal.str b, AVal.str cdata,
                                                                      AVal.int IntKind.i64 at_,
                                                                      AVal.int IntKind.i64 id]),
                                                                ((3 : Nat),
                                                                  ABlk.cells (24 : Nat)
                                                                    [AVal.int IntKind.i64 lk, AVal.str lb]),
                                                                ((2 : Nat),
                                                                  ABlk.cells (24 : Nat)
                                                                    [AVal.int IntKind.i64 k0, AVal.str b0]),
                                                                ((0 : Nat),
                                                                  ABlk.row (22 : Nat) (intRow IntKind.u16) sp
                                                                    RowMd.ro)]))
                                                          (branch
                                                            (!decide
                                                                (pTotal lk lb (↑cdata.length : Int) =
                                                                  pTotal lk lb (↑data.length : Int)))
                                                            (Q AExit.ret
                                                              [((0 : Nat), AVal.str data),
                                                                ((1 : Nat), AVal.int IntKind.u8 kind),
                                                                ((2 : Nat),
                                                                  AVal.sl (0 : Nat) (0 : Nat) (1 : Nat) (0 : Nat) n
                                                                    none),
                                                                ((7 : Nat),
                                                                  AVal.ptr (2 : Nat) (0 : Nat) (0 : Nat) (0 : Nat)),
                                                                ((8 : Nat),
                                                                  AVal.ptr (3 : Nat) (0 : Nat) (0 : Nat) (0 : Nat)),
                                                                ((9 : Nat),
                                                                  AVal.ptr (4 : Nat) (0 : Nat) (0 : Nat) (0 : Nat)),
                                                                ((10 : Nat), AVal.str (all ++ x)),
                                                                ((11 : Nat),
                                                                  AVal.ptr (5 : Nat) (0 : Nat) (0 : Nat) (0 : Nat)),
                                                                ((12 : Nat), AVal.int IntKind.i64 i)]
                                                              (AHeap.mk (6 : Nat)
                                                                [((5 : Nat),
                                                                    ABlk.cells (28 : Nat)
                                                                      [AVal.bool pst, AVal.bool pen,
                                                                        AVal.int IntKind.i64 pid,
                                                                        AVal.int IntKind.i64 ptot,
                                                                        AVal.int IntKind.i64 ptyp,
                                                                        AVal.int IntKind.i64 pk, AVal.str plb,
                                                                        AVal.str pdata, AVal.str psum]),
                                                                  ((4 : Nat),
                                                                    ABlk.cells (26 : Nat)
                                                                      [AVal.int IntKind.i64 typ, AVal.int IntKind.i64 k,
                                                                        AVal.str b, AVal.str cdata,
                                                                        AVal.int IntKind.i64 at_,
                                                                        AVal.int IntKind.i64 id]),
                                                                  ((3 : Nat),
                                                                    ABlk.cells (24 : Nat)
                                                                      [AVal.int IntKind.i64 lk, AVal.str lb]),
                                                                  ((2 : Nat),
                                                                    ABlk.cells (24 : Nat)
                                                                      [AVal.int IntKind.i64 k0, AVal.str b0]),
                                                                  ((0 : Nat),
                                                                    ABlk.row (22 : Nat) (intRow IntKind.u16) sp
                                                                      RowMd.ro)]))
                                                            (obl (inI64 (i + (1 : Int)))
                                                              (Q AExit.normal
                                                                [((0 : Nat), AVal.str data),
                                                                  ((1 : Nat), AVal.int IntKind.u8 kind),
                                                                  ((2 : Nat),
                                                                    AVal.sl (0 : Nat) (0 : Nat) (1 : Nat) (0 : Nat) n
                                                                      none),
                                                                  ((7 : Nat),
                                                                    AVal.ptr (2 : Nat) (0 : Nat) (0 : Nat) (0 : Nat)),
                                                                  ((8 : Nat),
                                                                    AVal.ptr (3 : Nat) (0 : Nat) (0 : Nat) (0 : Nat)),
                                                                  ((9 : Nat),
                                                                    AVal.ptr (4 : Nat) (0 : Nat) (0 : Nat) (0 : Nat)),
                                                                  ((10 : Nat), AVal.str (all ++ x)),
                                                                  ((11 : Nat),
                                                                    AVal.ptr (5 : Nat) (0 : Nat) (0 : Nat) (0 : Nat)),
                                                                  ((12 : Nat), AVal.int IntKind.i64 (i + (1 : Int)))]
                                                                (AHeap.mk (6 : Nat)
                                                                  [((5 : Nat),
                                                                      ABlk.cells (28 : Nat)
                                                                        [AVal.bool true, AVal.bool false,
                                                                          AVal.int IntKind.i64 id,
                                                                          AVal.int IntKind.i64
                                                                            (pTotal lk lb (↑cdata.length : Int)),
                                                                          AVal.int IntKind.i64 typ,
                                                                          AVal.int IntKind.i64 lk, AVal.str lb,
                                                                          AVal.str x, AVal.str []]),
                                                                    ((4 : Nat),
                                                                      ABlk.cells (26 : Nat)
                                                                        [AVal.int IntKind.i64 typ,
                                                                          AVal.int IntKind.i64 lk, AVal.str lb,
                                                                          AVal.str cdata, AVal.int IntKind.i64 n_1,
                                                                          AVal.int IntKind.i64 id]),
                                                                    ((3 : Nat),
                                                                      ABlk.cells (24 : Nat)
                                                                        [AVal.int IntKind.i64 lk, AVal.str lb]),
                                                                    ((2 : Nat),
                                                                      ABlk.cells (24 : Nat)
                                                                        [AVal.int IntKind.i64 k0, AVal.str b0]),
                                                                    ((0 : Nat),
                                                                      ABlk.row (22 : Nat) (intRow IntKind.u16) sp
                                                                        RowMd.ro)]))))))))))))))))))) ∧
                        (∀ (x s : List UInt8),
                            nextR typ k b cdata at_ id lk lb (sp.getD ((0 : Nat) + i.toNat) (0 : Int) % (5000 : Int))
                                  false =
                                NextR.mk false true id (0 : Int) (0 : Int) (0 : Int) [] x s k b (↑cdata.length : Int)
                                  (0 : Int) →
                              obl (decide (([] : List UInt8).length + x.length + s.length ≤ (9223372036854775000 : Nat)))
                                (branch (!decide (gErr false true id (0 : Int) (0 : Int) (0 : Int) [] x s = (0 : Int)))
                                  (Q AExit.ret
                                    [((0 : Nat), AVal.str data), ((1 : Nat), AVal.int IntKind.u8 kind),
                                      ((2 : Nat), AVal.sl (0 : Nat) (0 : Nat) (1 : Nat) (0 : Nat) n none),
                                      ((7 : Nat), AVal.ptr (2 : Nat) (0 : Nat) (0 : Nat) (0 : Nat)),
                                      ((8 : Nat), AVal.ptr (3 : Nat) (0 : Nat) (0 : Nat) (0 : Nat)),
                                      ((9 : Nat), AVal.ptr (4 : Nat) (0 : Nat) (0 : Nat) (0 : Nat)),
                                      ((10 : Nat), AVal.str all),
                                      ((11 : Nat), AVal.ptr (5 : Nat) (0 : Nat) (0 : Nat) (0 : Nat)),
                                      ((12 : Nat), AVal.int IntKind.i64 i)]
                                    (AHeap.mk (6 : Nat)
                                      [((5 : Nat),
                                          ABlk.cells (28 : Nat)
                                            [AVal.bool pst, AVal.bool pen, AVal.int IntKind.i64 pid,
                                              AVal.int IntKind.i64 ptot, AVal.int IntKind.i64 ptyp,
                                              AVal.int IntKind.i64 pk, AVal.str plb, AVal.str pdata, AVal.str psum]),
                                        ((4 : Nat),
                                          ABlk.cells (26 : Nat)
                                            [AVal.int IntKind.i64 typ, AVal.int IntKind.i64 k, AVal.str b,
                                              AVal.str cdata, AVal.int IntKind.i64 at_, AVal.int IntKind.i64 id]),
                                        ((3 : Nat), ABlk.cells (24 : Nat) [AVal.int IntKind.i64 lk, AVal.str lb]),
                                        ((2 : Nat), ABlk.cells (24 : Nat) [AVal.int IntKind.i64 k0, AVal.str b0]),
                                        ((0 : Nat), ABlk.row (22 : Nat) (intRow IntKind.u16) sp RowMd.ro)]))
                                  (branch
                                    (decide
                                      (sp.getD ((0 : Nat) + i.toNat) (0 : Int) % (5000 : Int) <
                                        (↑(gEnc false true id (0 : Int) (0 : Int) (0 : Int) [] x s).length : Int)))
                                    (Q AExit.ret
                                      [((0 : Nat), AVal.str data), ((1 : Nat), AVal.int IntKind.u8 kind),
                                        ((2 : Nat), AVal.sl (0 : Nat) (0 : Nat) (1 : Nat) (0 : Nat) n none),
                                        ((7 : Nat), AVal.ptr (2 : Nat) (0 : Nat) (0 : Nat) (0 : Nat)),
                                        ((8 : Nat), AVal.ptr (3 : Nat) (0 : Nat) (0 : Nat) (0 : Nat)),
                                        ((9 : Nat), AVal.ptr (4 : Nat) (0 : Nat) (0 : Nat) (0 : Nat)),
                                        ((10 : Nat), AVal.str all),
                                        ((11 : Nat), AVal.ptr (5 : Nat) (0 : Nat) (0 : Nat) (0 : Nat)),
                                        ((12 : Nat), AVal.int IntKind.i64 i)]
                                      (AHeap.mk (6 : Nat)
                                        [((5 : Nat),
                                            ABlk.cells (28 : Nat)
                                              [AVal.bool pst, AVal.bool pen, AVal.int IntKind.i64 pid,
                                                AVal.int IntKind.i64 ptot, AVal.int IntKind.i64 ptyp,
                                                AVal.int IntKind.i64 pk, AVal.str plb, AVal.str pdata, AVal.str psum]),
                                          ((4 : Nat),
                                            ABlk.cells (26 : Nat)
                                              [AVal.int IntKind.i64 typ, AVal.int IntKind.i64 k, AVal.str b,
                                                AVal.str cdata, AVal.int IntKind.i64 at_, AVal.int IntKind.i64 id]),
                                          ((3 : Nat), ABlk.cells (24 : Nat) [AVal.int IntKind.i64 lk, AVal.str lb]),
                                          ((2 : Nat), ABlk.cells (24 : Nat) [AVal.int IntKind.i64 k0, AVal.str b0]),
                                          ((0 : Nat), ABlk.row (22 : Nat) (intRow IntKind.u16) sp RowMd.ro)]))
                                    (branch
                                      (decide
                                        ((4097 : Int) <
                                          (↑(gEnc false true id (0 : Int) (0 : Int) (0 : Int) [] x s).length : Int)))
                                      (Q AExit.ret
                                        [((0 : Nat), AVal.str data), ((1 : Nat), AVal.int IntKind.u8 kind),
                                          ((2 : Nat), AVal.sl (0 : Nat) (0 : Nat) (1 : Nat) (0 : Nat) n none),
                                          ((7 : Nat), AVal.ptr (2 : Nat) (0 : Nat) (0 : Nat) (0 : Nat)),
                                          ((8 : Nat), AVal.ptr (3 : Nat) (0 : Nat) (0 : Nat) (0 : Nat)),
                                          ((9 : Nat), AVal.ptr (4 : Nat) (0 : Nat) (0 : Nat) (0 : Nat)),
                                          ((10 : Nat), AVal.str all),
                                          ((11 : Nat), AVal.ptr (5 : Nat) (0 : Nat) (0 : Nat) (0 : Nat)),
                                          ((12 : Nat), AVal.int IntKind.i64 i)]
                                        (AHeap.mk (6 : Nat)
                                          [((5 : Nat),
                                              ABlk.cells (28 : Nat)
                                                [AVal.bool pst, AVal.bool pen, AVal.int IntKind.i64 pid,
                                                  AVal.int IntKind.i64 ptot, AVal.int IntKind.i64 ptyp,
                                                  AVal.int IntKind.i64 pk, AVal.str plb, AVal.str pdata,
                                                  AVal.str psum]),
                                            ((4 : Nat),
                                              ABlk.cells (26 : Nat)
                                                [AVal.int IntKind.i64 typ, AVal.int IntKind.i64 k, AVal.str b,
                                                  AVal.str cdata, AVal.int IntKind.i64 at_, AVal.int IntKind.i64 id]),
                                            ((3 : Nat), ABlk.cells (24 : Nat) [AVal.int IntKind.i64 lk, AVal.str lb]),
                                            ((2 : Nat), ABlk.cells (24 : Nat) [AVal.int IntKind.i64 k0, AVal.str b0]),
                                            ((0 : Nat), ABlk.row (22 : Nat) (intRow IntKind.u16) sp RowMd.ro)]))
                                      (branch (!false == decide (all = []))
                                        (Q AExit.ret
                                          [((0 : Nat), AVal.str data), ((1 : Nat), AVal.int IntKind.u8 kind),
                                            ((2 : Nat), AVal.sl (0 : Nat) (0 : Nat) (1 : Nat) (0 : Nat) n none),
                                            ((7 : Nat), AVal.ptr (2 : Nat) (0 : Nat) (0 : Nat) (0 : Nat)),
                                            ((8 : Nat), AVal.ptr (3 : Nat) (0 : Nat) (0 : Nat) (0 : Nat)),
                                            ((9 : Nat), AVal.ptr (4 : Nat) (0 : Nat) (0 : Nat) (0 : Nat)),
                                            ((10 : Nat), AVal.str all),
                                            ((11 : Nat), AVal.ptr (5 : Nat) (0 : Nat) (0 : Nat) (0 : Nat)),
                                            ((12 : Nat), AVal.int IntKind.i64 i)]
                                          (AHeap.mk (6 : Nat)
                                            [((5 : Nat),
                                                ABlk.cells (28 : Nat)
                                                  [AVal.bool pst, AVal.bool pen, AVal.int IntKind.i64 pid,
                                                    AVal.int IntKind.i64 ptot, AVal.int IntKind.i64 ptyp,
                                                    AVal.int IntKind.i64 pk, AVal.str plb, AVal.str pdata,
                                                    AVal.str psum]),
                                              ((4 : Nat),
                                                ABlk.cells (26 : Nat)
                                                  [AVal.int IntKind.i64 typ, AVal.int IntKind.i64 k, AVal.str b,
                                                    AVal.str cdata, AVal.int IntKind.i64 at_, AVal.int IntKind.i64 id]),
                                              ((3 : Nat), ABlk.cells (24 : Nat) [AVal.int IntKind.i64 lk, AVal.str lb]),
                                              ((2 : Nat), ABlk.cells (24 : Nat) [AVal.int IntKind.i64 k0, AVal.str b0]),
                                              ((0 : Nat), ABlk.row (22 : Nat) (intRow IntKind.u16) sp RowMd.ro)]))
                                        (branch (decide (x = []))
                                          (Q AExit.ret
                                            [((0 : Nat), AVal.str data), ((1 : Nat), AVal.int IntKind.u8 kind),
                                              ((2 : Nat), AVal.sl (0 : Nat) (0 : Nat) (1 : Nat) (0 : Nat) n none),
                                              ((7 : Nat), AVal.ptr (2 : Nat) (0 : Nat) (0 : Nat) (0 : Nat)),
                                              ((8 : Nat), AVal.ptr (3 : Nat) (0 : Nat) (0 : Nat) (0 : Nat)),
                                              ((9 : Nat), AVal.ptr (4 : Nat) (0 : Nat) (0 : Nat) (0 : Nat)),
                                              ((10 : Nat), AVal.str all),
                                              ((11 : Nat), AVal.ptr (5 : Nat) (0 : Nat) (0 : Nat) (0 : Nat)),
                                              ((12 : Nat), AVal.int IntKind.i64 i)]
                                            (AHeap.mk (6 : Nat)
                                              [((5 : Nat),
                                                  ABlk.cells (28 : Nat)
                                                    [AVal.bool pst, AVal.bool pen, AVal.int IntKind.i64 pid,
                                                      AVal.int IntKind.i64 ptot, AVal.int IntKind.i64 ptyp,
                                                      AVal.int IntKind.i64 pk, AVal.str plb, AVal.str pdata,
                                                      AVal.str psum]),
                                                ((4 : Nat),
                                                  ABlk.cells (26 : Nat)
                                                    [AVal.int IntKind.i64 typ, AVal.int IntKind.i64 k, AVal.str b,
                                                      AVal.str cdata, AVal.int IntKind.i64 at_,
                                                      AVal.int IntKind.i64 id]),
                                                ((3 : Nat),
                                                  ABlk.cells (24 : Nat) [AVal.int IntKind.i64 lk, AVal.str lb]),
                                                ((2 : Nat),
                                                  ABlk.cells (24 : Nat) [AVal.int IntKind.i64 k0, AVal.str b0]),
                                                ((0 : Nat), ABlk.row (22 : Nat) (intRow IntKind.u16) sp RowMd.ro)]))
                                          (obl (inI64 (at_ + (↑x.length : Int)))
                                            (branch (!decide ((↑cdata.length : Int) = at_ + (↑x.length : Int)))
                                              (Q AExit.ret
                                                [((0 : Nat), AVal.str data), ((1 : Nat), AVal.int IntKind.u8 kind),
                                                  ((2 : Nat), AVal.sl (0 : Nat) (0 : Nat) (1 : Nat) (0 : Nat) n none),
                                                  ((7 : Nat), AVal.ptr (2 : Nat) (0 : Nat) (0 : Nat) (0 : Nat)),
                                                  ((8 : Nat), AVal.ptr (3 : Nat) (0 : Nat) (0 : Nat) (0 : Nat)),
                                                  ((9 : Nat), AVal.ptr (4 : Nat) (0 : Nat) (0 : Nat) (0 : Nat)),
                                                  ((10 : Nat), AVal.str all),
                                                  ((11 : Nat), AVal.ptr (5 : Nat) (0 : Nat) (0 : Nat) (0 : Nat)),
                                                  ((12 : Nat), AVal.int IntKind.i64 i)]
                                                (AHeap.mk (6 : Nat)
                                                  [((5 : Nat),
                                                      ABlk.cells (28 : Nat)
                                                        [AVal.bool pst, AVal.bool pen, AVal.int IntKind.i64 pid,
                                                          AVal.int IntKind.i64 ptot, AVal.int IntKind.i64 ptyp,
                                                          AVal.int IntKind.i64 pk, AVal.str plb, AVal.str pdata,
                                                          AVal.str psum]),
                                                    ((4 : Nat),
                                                      ABlk.cells (26 : Nat)
                                                        [AVal.int IntKind.i64 typ, AVal.int IntKind.i64 k, AVal.str b,
                                                          AVal.str cdata, AVal.int IntKind.i64 at_,
                                                          AVal.int IntKind.i64 id]),
                                                    ((3 : Nat),
                                                      ABlk.cells (24 : Nat) [AVal.int IntKind.i64 lk, AVal.str lb]),
                                                    ((2 : Nat),
                                                      ABlk.cells (24 : Nat) [AVal.int IntKind.i64 k0, AVal.str b0]),
                                                    ((0 : Nat), ABlk.row (22 : Nat) (intRow IntKind.u16) sp RowMd.ro)]))
                                              (obl
                                                (decide
                                                  ((↑(all.length + x.length) : Int) ≤ (9223372036854775807 : Int)))
                                                (branch
                                                  (!true == decide ((↑(all ++ x).length : Int) = (↑data.length : Int)))
                                                  (Q AExit.ret
                                                    [((0 : Nat), AVal.str data), ((1 : Nat), AVal.int IntKind.u8 kind),
                                                      ((2 : Nat),
                                                        AVal.sl (0 : Nat) (0 : Nat) (1 : Nat) (0 : Nat) n none),
                                                      ((7 : Nat), AVal.ptr (2 : Nat) (0 : Nat) (0 : Nat) (0 : Nat)),
                                                      ((8 : Nat), AVal.ptr (3 : Nat) (0 : Nat) (0 : Nat) (0 : Nat)),
                                                      ((9 : Nat), AVal.ptr (4 : Nat) (0 : Nat) (0 : Nat) (0 : Nat)),
                                                      ((10 : Nat), AVal.str (all ++ x)),
                                                      ((11 : Nat), AVal.ptr (5 : Nat) (0 : Nat) (0 : Nat) (0 : Nat)),
                                                      ((12 : Nat), AVal.int IntKind.i64 i)]
                                                    (AHeap.mk (6 : Nat)
                                                      [((5 : Nat),
                                                          ABlk.cells (28 : Nat)
                                                            [AVal.bool pst, AVal.bool pen, AVal.int IntKind.i64 pid,
                                                              AVal.int IntKind.i64 ptot, AVal.int IntKind.i64 ptyp,
                                                              AVal.int IntKind.i64 pk, AVal.str plb, AVal.str pdata,
                                                              AVal.str psum]),
                                                        ((4 : Nat),
                                                          ABlk.cells (26 : Nat)
                                                            [AVal.int IntKind.i64 typ, AVal.int IntKind.i64 k,
                                                              AVal.str b, AVal.str cdata, AVal.int IntKind.i64 at_,
                                                              AVal.int IntKind.i64 id]),
                                                        ((3 : Nat),
                                                          ABlk.cells (24 : Nat) [AVal.int IntKind.i64 lk, AVal.str lb]),
                                                        ((2 : Nat),
                                                          ABlk.cells (24 : Nat) [AVal.int IntKind.i64 k0, AVal.str b0]),
                                                        ((0 : Nat),
                                                          ABlk.row (22 : Nat) (intRow IntKind.u16) sp RowMd.ro)]))
                                                  (obl (inI64 kind)
                                                    (branch (!decide (id = kind))
                                                      (Q AExit.ret
                                                        [((0 : Nat), AVal.str data),
                                                          ((1 : Nat), AVal.int IntKind.u8 kind),
                                                          ((2 : Nat),
                                                            AVal.sl (0 : Nat) (0 : Nat) (1 : Nat) (0 : Nat) n none),
                                                          ((7 : Nat), AVal.ptr (2 : Nat) (0 : Nat) (0 : Nat) (0 : Nat)),
                                                          ((8 : Nat), AVal.ptr (3 : Nat) (0 : Nat) (0 : Nat) (0 : Nat)),
                                                          ((9 : Nat), AVal.ptr (4 : Nat) (0 : Nat) (0 : Nat) (0 : Nat)),
                                                          ((10 : Nat), AVal.str (all ++ x)),
                                                          ((11 : Nat),
                                                            AVal.ptr (5 : Nat) (0 : Nat) (0 : Nat) (0 : Nat)),
                                                          ((12 : Nat), AVal.int IntKind.i64 i)]
                                                        (AHeap.mk (6 : Nat)
                                                          [((5 : Nat),
                                                              ABlk.cells (28 : Nat)
                                                                [AVal.bool pst, AVal.bool pen, AVal.int IntKind.i64 pid,
                                                                  AVal.int IntKind.i64 ptot, AVal.int IntKind.i64 ptyp,
                                                                  AVal.int IntKind.i64 pk, AVal.str plb, AVal.str pdata,
                                                                  AVal.str psum]),
                                                            ((4 : Nat),
                                                              ABlk.cells (26 : Nat)
                                                                [AVal.int IntKind.i64 typ, AVal.int IntKind.i64 k,
                                                                  AVal.str b, AVal.str cdata, AVal.int IntKind.i64 at_,
                                                                  AVal.int IntKind.i64 id]),
                                                            ((3 : Nat),
                                                              ABlk.cells (24 : Nat)
                                                                [AVal.int IntKind.i64 lk, AVal.str lb]),
                                                            ((2 : Nat),
                                                              ABlk.cells (24 : Nat)
                                                                [AVal.int IntKind.i64 k0, AVal.str b0]),
                                                            ((0 : Nat),
                                                              ABlk.row (22 : Nat) (intRow IntKind.u16) sp RowMd.ro)]))
                                                      (obl (inI64 (i + (1 : Int)))
                                                        (Q AExit.normal
                                                          [((0 : Nat), AVal.str data),
                                                            ((1 : Nat), AVal.int IntKind.u8 kind),
                                                            ((2 : Nat),
                                                              AVal.sl (0 : Nat) (0 : Nat) (1 : Nat) (0 : Nat) n none),
                                                            ((7 : Nat),
                                                              AVal.ptr (2 : Nat) (0 : Nat) (0 : Nat) (0 : Nat)),
                                                            ((8 : Nat),
                                                              AVal.ptr (3 : Nat) (0 : Nat) (0 : Nat) (0 : Nat)),
                                                            ((9 : Nat),
                                                              AVal.ptr (4 : Nat) (0 : Nat) (0 : Nat) (0 : Nat)),
                                                            ((10 : Nat), AVal.str (all ++ x)),
                                                            ((11 : Nat),
                                                              AVal.ptr (5 : Nat) (0 : Nat) (0 : Nat) (0 : Nat)),
                                                            ((12 : Nat), AVal.int IntKind.i64 (i + (1 : Int)))]
                                                          (AHeap.mk (6 : Nat)
                                                            [((5 : Nat),
                                                                ABlk.cells (28 : Nat)
                                                                  [AVal.bool false, AVal.bool true,
                                                                    AVal.int IntKind.i64 id,
                                                                    AVal.int IntKind.i64 (0 : Int),
                                                                    AVal.int IntKind.i64 (0 : Int),
                                                                    AVal.int IntKind.i64 (0 : Int), AVal.str [],
                                                                    AVal.str x, AVal.str s]),
                                                              ((4 : Nat),
                                                                ABlk.cells (26 : Nat)
                                                                  [AVal.int IntKind.i64 typ, AVal.int IntKind.i64 k,
                                                                    AVal.str b, AVal.str cdata,
                                                                    AVal.int IntKind.i64 (↑cdata.length : Int),
                                                                    AVal.int IntKind.i64 id]),
                                                              ((3 : Nat),
                                                                ABlk.cells (24 : Nat)
                                                                  [AVal.int IntKind.i64 lk, AVal.str lb]),
                                                              ((2 : Nat),
                                                                ABlk.cells (24 : Nat)
                                                                  [AVal.int IntKind.i64 k0, AVal.str b0]),
                                                              ((0 : Nat),
                                                                ABlk.row (22 : Nat) (intRow IntKind.u16) sp
                                                                  RowMd.ro)]))))))))))))))) ∧
                          ∀ (n_1 : Int) (x : List UInt8),
                            nextR typ k b cdata at_ id lk lb (sp.getD ((0 : Nat) + i.toNat) (0 : Int) % (5000 : Int))
                                  false =
                                NextR.mk false false id (0 : Int) (0 : Int) (0 : Int) [] x [] k b n_1 (0 : Int) →
                              obl (decide (([] : List UInt8).length + x.length + ([] : List UInt8).length ≤ (9223372036854775000 : Nat)))
                                (branch
                                  (!decide (gErr false false id (0 : Int) (0 : Int) (0 : Int) [] x [] = (0 : Int)))
                                  (Q AExit.ret
                                    [((0 : Nat), AVal.str data), ((1 : Nat), AVal.int IntKind.u8 kind),
                                      ((2 : Nat), AVal.sl (0 : Nat) (0 : Nat) (1 : Nat) (0 : Nat) n none),
                                      ((7 : Nat), AVal.ptr (2 : Nat) (0 : Nat) (0 : Nat) (0 : Nat)),
                                      ((8 : Nat), AVal.ptr (3 : Nat) (0 : Nat) (0 : Nat) (0 : Nat)),
                                      ((9 : Nat), AVal.ptr (4 : Nat) (0 : Nat) (0 : Nat) (0 : Nat)),
                                      ((10 : Nat), AVal.str all),
                                      ((11 : Nat), AVal.ptr (5 : Nat) (0 : Nat) (0 : Nat) (0 : Nat)),
                                      ((12 : Nat), AVal.int IntKind.i64 i)]
                                    (AHeap.mk (6 : Nat)
                                      [((5 : Nat),
                                          ABlk.cells (28 : Nat)
                                            [AVal.bool pst, AVal.bool pen, AVal.int IntKind.i64 pid,
                                              AVal.int IntKind.i64 ptot, AVal.int IntKind.i64 ptyp,
                                              AVal.int IntKind.i64 pk, AVal.str plb, AVal.str pdata, AVal.str psum]),
                                        ((4 : Nat),
                                          ABlk.cells (26 : Nat)
                                            [AVal.int IntKind.i64 typ, AVal.int IntKind.i64 k, AVal.str b,
                                              AVal.str cdata, AVal.int IntKind.i64 at_, AVal.int IntKind.i64 id]),
                                        ((3 : Nat), ABlk.cells (24 : Nat) [AVal.int IntKind.i64 lk, AVal.str lb]),
                                        ((2 : Nat), ABlk.cells (24 : Nat) [AVal.int IntKind.i64 k0, AVal.str b0]),
                                        ((0 : Nat), ABlk.row (22 : Nat) (intRow IntKind.u16) sp RowMd.ro)]))
                                  (branch
                                    (decide
                                      (sp.getD ((0 : Nat) + i.toNat) (0 : Int) % (5000 : Int) <
                                        (↑(gEnc false false id (0 : Int) (0 : Int) (0 : Int) [] x []).length : Int)))
                                    (Q AExit.ret
                                      [((0 : Nat), AVal.str data), ((1 : Nat), AVal.int IntKind.u8 kind),
                                        ((2 : Nat), AVal.sl (0 : Nat) (0 : Nat) (1 : Nat) (0 : Nat) n none),
                                        ((7 : Nat), AVal.ptr (2 : Nat) (0 : Nat) (0 : Nat) (0 : Nat)),
                                        ((8 : Nat), AVal.ptr (3 : Nat) (0 : Nat) (0 : Nat) (0 : Nat)),
                                        ((9 : Nat), AVal.ptr (4 : Nat) (0 : Nat) (0 : Nat) (0 : Nat)),
                                        ((10 : Nat), AVal.str all),
                                        ((11 : Nat), AVal.ptr (5 : Nat) (0 : Nat) (0 : Nat) (0 : Nat)),
                                        ((12 : Nat), AVal.int IntKind.i64 i)]
                                      (AHeap.mk (6 : Nat)
                                        [((5 : Nat),
                                            ABlk.cells (28 : Nat)
                                              [AVal.bool pst, AVal.bool pen, AVal.int IntKind.i64 pid,
                                                AVal.int IntKind.i64 ptot, AVal.int IntKind.i64 ptyp,
                                                AVal.int IntKind.i64 pk, AVal.str plb, AVal.str pdata, AVal.str psum]),
                                          ((4 : Nat),
                                            ABlk.cells (26 : Nat)
                                              [AVal.int IntKind.i64 typ, AVal.int IntKind.i64 k, AVal.str b,
                                                AVal.str cdata, AVal.int IntKind.i64 at_, AVal.int IntKind.i64 id]),
                                          ((3 : Nat), ABlk.cells (24 : Nat) [AVal.int IntKind.i64 lk, AVal.str lb]),
                                          ((2 : Nat), ABlk.cells (24 : Nat) [AVal.int IntKind.i64 k0, AVal.str b0]),
                                          ((0 : Nat), ABlk.row (22 : Nat) (intRow IntKind.u16) sp RowMd.ro)]))
                                    (branch
                                      (decide
                                        ((4097 : Int) <
                                          (↑(gEnc false false id (0 : Int) (0 : Int) (0 : Int) [] x []).length : Int)))
                                      (Q AExit.ret
                                        [((0 : Nat), AVal.str data), ((1 : Nat), AVal.int IntKind.u8 kind),
                                          ((2 : Nat), AVal.sl (0 : Nat) (0 : Nat) (1 : Nat) (0 : Nat) n none),
                                          ((7 : Nat), AVal.ptr (2 : Nat) (0 : Nat) (0 : Nat) (0 : Nat)),
                                          ((8 : Nat), AVal.ptr (3 : Nat) (0 : Nat) (0 : Nat) (0 : Nat)),
                                          ((9 : Nat), AVal.ptr (4 : Nat) (0 : Nat) (0 : Nat) (0 : Nat)),
                                          ((10 : Nat), AVal.str all),
                                          ((11 : Nat), AVal.ptr (5 : Nat) (0 : Nat) (0 : Nat) (0 : Nat)),
                                          ((12 : Nat), AVal.int IntKind.i64 i)]
                                        (AHeap.mk (6 : Nat)
                                          [((5 : Nat),
                                              ABlk.cells (28 : Nat)
                                                [AVal.bool pst, AVal.bool pen, AVal.int IntKind.i64 pid,
                                                  AVal.int IntKind.i64 ptot, AVal.int IntKind.i64 ptyp,
                                                  AVal.int IntKind.i64 pk, AVal.str plb, AVal.str pdata,
                                                  AVal.str psum]),
                                            ((4 : Nat),
                                              ABlk.cells (26 : Nat)
                                                [AVal.int IntKind.i64 typ, AVal.int IntKind.i64 k, AVal.str b,
                                                  AVal.str cdata, AVal.int IntKind.i64 at_, AVal.int IntKind.i64 id]),
                                            ((3 : Nat), ABlk.cells (24 : Nat) [AVal.int IntKind.i64 lk, AVal.str lb]),
                                            ((2 : Nat), ABlk.cells (24 : Nat) [AVal.int IntKind.i64 k0, AVal.str b0]),
                                            ((0 : Nat), ABlk.row (22 : Nat) (intRow IntKind.u16) sp RowMd.ro)]))
                                      (branch (!false == decide (all = []))
                                        (Q AExit.ret
                                          [((0 : Nat), AVal.str data), ((1 : Nat), AVal.int IntKind.u8 kind),
                                            ((2 : Nat), AVal.sl (0 : Nat) (0 : Nat) (1 : Nat) (0 : Nat) n none),
                                            ((7 : Nat), AVal.ptr (2 : Nat) (0 : Nat) (0 : Nat) (0 : Nat)),
                                            ((8 : Nat), AVal.ptr (3 : Nat) (0 : Nat) (0 : Nat) (0 : Nat)),
                                            ((9 : Nat), AVal.ptr (4 : Nat) (0 : Nat) (0 : Nat) (0 : Nat)),
                                            ((10 : Nat), AVal.str all),
                                            ((11 : Nat), AVal.ptr (5 : Nat) (0 : Nat) (0 : Nat) (0 : Nat)),
                                            ((12 : Nat), AVal.int IntKind.i64 i)]
                                          (AHeap.mk (6 : Nat)
                                            [((5 : Nat),
                                                ABlk.cells (28 : Nat)
                                                  [AVal.bool pst, AVal.bool pen, AVal.int IntKind.i64 pid,
                                                    AVal.int IntKind.i64 ptot, AVal.int IntKind.i64 ptyp,
                                                    AVal.int IntKind.i64 pk, AVal.str plb, AVal.str pdata,
                                                    AVal.str psum]),
                                              ((4 : Nat),
                                                ABlk.cells (26 : Nat)
                                                  [AVal.int IntKind.i64 typ, AVal.int IntKind.i64 k, AVal.str b,
                                                    AVal.str cdata, AVal.int IntKind.i64 at_, AVal.int IntKind.i64 id]),
                                              ((3 : Nat), ABlk.cells (24 : Nat) [AVal.int IntKind.i64 lk, AVal.str lb]),
                                              ((2 : Nat), ABlk.cells (24 : Nat) [AVal.int IntKind.i64 k0, AVal.str b0]),
                                              ((0 : Nat), ABlk.row (22 : Nat) (intRow IntKind.u16) sp RowMd.ro)]))
                                        (branch (decide (x = []))
                                          (Q AExit.ret
                                            [((0 : Nat), AVal.str data), ((1 : Nat), AVal.int IntKind.u8 kind),
                                              ((2 : Nat), AVal.sl (0 : Nat) (0 : Nat) (1 : Nat) (0 : Nat) n none),
                                              ((7 : Nat), AVal.ptr (2 : Nat) (0 : Nat) (0 : Nat) (0 : Nat)),
                                              ((8 : Nat), AVal.ptr (3 : Nat) (0 : Nat) (0 : Nat) (0 : Nat)),
                                              ((9 : Nat), AVal.ptr (4 : Nat) (0 : Nat) (0 : Nat) (0 : Nat)),
                                              ((10 : Nat), AVal.str all),
                                              ((11 : Nat), AVal.ptr (5 : Nat) (0 : Nat) (0 : Nat) (0 : Nat)),
                                              ((12 : Nat), AVal.int IntKind.i64 i)]
                                            (AHeap.mk (6 : Nat)
                                              [((5 : Nat),
                                                  ABlk.cells (28 : Nat)
                                                    [AVal.bool pst, AVal.bool pen, AVal.int IntKind.i64 pid,
                                                      AVal.int IntKind.i64 ptot, AVal.int IntKind.i64 ptyp,
                                                      AVal.int IntKind.i64 pk, AVal.str plb, AVal.str pdata,
                                                      AVal.str psum]),
                                                ((4 : Nat),
                                                  ABlk.cells (26 : Nat)
                                                    [AVal.int IntKind.i64 typ, AVal.int IntKind.i64 k, AVal.str b,
                                                      AVal.str cdata, AVal.int IntKind.i64 at_,
                                                      AVal.int IntKind.i64 id]),
                                                ((3 : Nat),
                                                  ABlk.cells (24 : Nat) [AVal.int IntKind.i64 lk, AVal.str lb]),
                                                ((2 : Nat),
                                                  ABlk.cells (24 : Nat) [AVal.int IntKind.i64 k0, AVal.str b0]),
                                                ((0 : Nat), ABlk.row (22 : Nat) (intRow IntKind.u16) sp RowMd.ro)]))
                                          (obl (inI64 (at_ + (↑x.length : Int)))
                                            (branch (!decide (n_1 = at_ + (↑x.length : Int)))
                                              (Q AExit.ret
                                                [((0 : Nat), AVal.str data), ((1 : Nat), AVal.int IntKind.u8 kind),
                                                  ((2 : Nat), AVal.sl (0 : Nat) (0 : Nat) (1 : Nat) (0 : Nat) n none),
                                                  ((7 : Nat), AVal.ptr (2 : Nat) (0 : Nat) (0 : Nat) (0 : Nat)),
                                                  ((8 : Nat), AVal.ptr (3 : Nat) (0 : Nat) (0 : Nat) (0 : Nat)),
                                                  ((9 : Nat), AVal.ptr (4 : Nat) (0 : Nat) (0 : Nat) (0 : Nat)),
                                                  ((10 : Nat), AVal.str all),
                                                  ((11 : Nat), AVal.ptr (5 : Nat) (0 : Nat) (0 : Nat) (0 : Nat)),
                                                  ((12 : Nat), AVal.int IntKind.i64 i)]
                                                (AHeap.mk (6 : Nat)
                                                  [((5 : Nat),
                                                      ABlk.cells (28 : Nat)
                                                        [AVal.bool pst, AVal.bool pen, AVal.int IntKind.i64 pid,
                                                          AVal.int IntKind.i64 ptot, AVal.int IntKind.i64 ptyp,
                                                          AVal.int IntKind.i64 pk, AVal.str plb, AVal.str pdata,
                                                          AVal.str psum]),
                                                    ((4 : Nat),
                                                      ABlk.cells (26 : Nat)
                                                        [AVal.int IntKind.i64 typ, AVal.int IntKind.i64 k, AVal.str b,
                                                          AVal.str cdata, AVal.int IntKind.i64 at_,
                                                          AVal.int IntKind.i64 id]),
                                                    ((3 : Nat),
                                                      ABlk.cells (24 : Nat) [AVal.int IntKind.i64 lk, AVal.str lb]),
                                                    ((2 : Nat),
                                                      ABlk.cells (24 : Nat) [AVal.int IntKind.i64 k0, AVal.str b0]),
                                                    ((0 : Nat), ABlk.row (22 : Nat) (intRow IntKind.u16) sp RowMd.ro)]))
                                              (obl
                                                (decide
                                                  ((↑(all.length + x.length) : Int) ≤ (9223372036854775807 : Int)))
                                                (branch
                                                  (!false == decide ((↑(all ++ x).length : Int) = (↑data.length : Int)))
                                                  (Q AExit.ret
                                                    [((0 : Nat), AVal.str data), ((1 : Nat), AVal.int IntKind.u8 kind),
                                                      ((2 : Nat),
                                                        AVal.sl (0 : Nat) (0 : Nat) (1 : Nat) (0 : Nat) n none),
                                                      ((7 : Nat), AVal.ptr (2 : Nat) (0 : Nat) (0 : Nat) (0 : Nat)),
                                                      ((8 : Nat), AVal.ptr (3 : Nat) (0 : Nat) (0 : Nat) (0 : Nat)),
                                                      ((9 : Nat), AVal.ptr (4 : Nat) (0 : Nat) (0 : Nat) (0 : Nat)),
                                                      ((10 : Nat), AVal.str (all ++ x)),
                                                      ((11 : Nat), AVal.ptr (5 : Nat) (0 : Nat) (0 : Nat) (0 : Nat)),
                                                      ((12 : Nat), AVal.int IntKind.i64 i)]
                                                    (AHeap.mk (6 : Nat)
                                                      [((5 : Nat),
                                                          ABlk.cells (28 : Nat)
                                                            [AVal.bool pst, AVal.bool pen, AVal.int IntKind.i64 pid,
                                                              AVal.int IntKind.i64 ptot, AVal.int IntKind.i64 ptyp,
                                                              AVal.int IntKind.i64 pk, AVal.str plb, AVal.str pdata,
                                                              AVal.str psum]),
                                                        ((4 : Nat),
                                                          ABlk.cells (26 : Nat)
                                                            [AVal.int IntKind.i64 typ, AVal.int IntKind.i64 k,
                                                              AVal.str b, AVal.str cdata, AVal.int IntKind.i64 at_,
                                                              AVal.int IntKind.i64 id]),
                                                        ((3 : Nat),
                                                          ABlk.cells (24 : Nat) [AVal.int IntKind.i64 lk, AVal.str lb]),
                                                        ((2 : Nat),
                                                          ABlk.cells (24 : Nat) [AVal.int IntKind.i64 k0, AVal.str b0]),
                                                        ((0 : Nat),
                                                          ABlk.row (22 : Nat) (intRow IntKind.u16) sp RowMd.ro)]))
                                                  (obl
                                                    (inI64
                                                      (min (sp.getD ((0 : Nat) + i.toNat) (0 : Int) % (5000 : Int))
                                                          (4097 : Int) -
                                                        (17 : Int)))
                                                    (branch
                                                      (decide
                                                        ((↑x.length : Int) <
                                                          min (sp.getD ((0 : Nat) + i.toNat) (0 : Int) % (5000 : Int))
                                                              (4097 : Int) -
                                                            (17 : Int)))
                                                      (Q AExit.ret
                                                        [((0 : Nat), AVal.str data),
                                                          ((1 : Nat), AVal.int IntKind.u8 kind),
                                                          ((2 : Nat),
                                                            AVal.sl (0 : Nat) (0 : Nat) (1 : Nat) (0 : Nat) n none),
                                                          ((7 : Nat), AVal.ptr (2 : Nat) (0 : Nat) (0 : Nat) (0 : Nat)),
                                                          ((8 : Nat), AVal.ptr (3 : Nat) (0 : Nat) (0 : Nat) (0 : Nat)),
                                                          ((9 : Nat), AVal.ptr (4 : Nat) (0 : Nat) (0 : Nat) (0 : Nat)),
                                                          ((10 : Nat), AVal.str (all ++ x)),
                                                          ((11 : Nat),
                                                            AVal.ptr (5 : Nat) (0 : Nat) (0 : Nat) (0 : Nat)),
                                                          ((12 : Nat), AVal.int IntKind.i64 i)]
                                                        (AHeap.mk (6 : Nat)
                                                          [((5 : Nat),
                                                              ABlk.cells (28 : Nat)
                                                                [AVal.bool pst, AVal.bool pen, AVal.int IntKind.i64 pid,
                                                                  AVal.int IntKind.i64 ptot, AVal.int IntKind.i64 ptyp,
                                                                  AVal.int IntKind.i64 pk, AVal.str plb, AVal.str pdata,
                                                                  AVal.str psum]),
                                                            ((4 : Nat),
                                                              ABlk.cells (26 : Nat)
                                                                [AVal.int IntKind.i64 typ, AVal.int IntKind.i64 k,
                                                                  AVal.str b, AVal.str cdata, AVal.int IntKind.i64 at_,
                                                                  AVal.int IntKind.i64 id]),
                                                            ((3 : Nat),
                                                              ABlk.cells (24 : Nat)
                                                                [AVal.int IntKind.i64 lk, AVal.str lb]),
                                                            ((2 : Nat),
                                                              ABlk.cells (24 : Nat)
                                                                [AVal.int IntKind.i64 k0, AVal.str b0]),
                                                            ((0 : Nat),
                                                              ABlk.row (22 : Nat) (intRow IntKind.u16) sp RowMd.ro)]))
                                                      (obl (inI64 kind)
                                                        (branch (!decide (id = kind))
                                                          (Q AExit.ret
                                                            [((0 : Nat), AVal.str data),
                                                              ((1 : Nat), AVal.int IntKind.u8 kind),
                                                              ((2 : Nat),
                                                                AVal.sl (0 : Nat) (0 : Nat) (1 : Nat) (0 : Nat) n none),
                                                              ((7 : Nat),
                                                                AVal.ptr (2 : Nat) (0 : Nat) (0 : Nat) (0 : Nat)),
                                                              ((8 : Nat),
                                                                AVal.ptr (3 : Nat) (0 : Nat) (0 : Nat) (0 : Nat)),
                                                              ((9 : Nat),
                                                                AVal.ptr (4 : Nat) (0 : Nat) (0 : Nat) (0 : Nat)),
                                                              ((10 : Nat), AVal.str (all ++ x)),
                                                              ((11 : Nat),
                                                                AVal.ptr (5 : Nat) (0 : Nat) (0 : Nat) (0 : Nat)),
                                                              ((12 : Nat), AVal.int IntKind.i64 i)]
                                                            (AHeap.mk (6 : Nat)
                                                              [((5 : Nat),
                                                                  ABlk.cells (28 : Nat)
                                                                    [AVal.bool pst, AVal.bool pen,
                                                                      AVal.int IntKind.i64 pid,
                                                                      AVal.int IntKind.i64 ptot,
                                                                      AVal.int IntKind.i64 ptyp,
                                                                      AVal.int IntKind.i64 pk, AVal.str plb,
                                                                      AVal.str pdata, AVal.str psum]),
                                                                ((4 : Nat),
                                                                  ABlk.cells (26 : Nat)
                                                                    [AVal.int IntKind.i64 typ, AVal.int IntKind.i64 k,
                                                                      AVal.str b, AVal.str cdata,
                                                                      AVal.int IntKind.i64 at_,
                                                                      AVal.int IntKind.i64 id]),
                                                                ((3 : Nat),
                                                                  ABlk.cells (24 : Nat)
                                                                    [AVal.int IntKind.i64 lk, AVal.str lb]),
                                                                ((2 : Nat),
                                                                  ABlk.cells (24 : Nat)
                                                                    [AVal.int IntKind.i64 k0, AVal.str b0]),
                                                                ((0 : Nat),
                                                                  ABlk.row (22 : Nat) (intRow IntKind.u16) sp
                                                                    RowMd.ro)]))
                                                          (obl (inI64 (i + (1 : Int)))
                                                            (Q AExit.normal
                                                              [((0 : Nat), AVal.str data),
                                                                ((1 : Nat), AVal.int IntKind.u8 kind),
                                                                ((2 : Nat),
                                                                  AVal.sl (0 : Nat) (0 : Nat) (1 : Nat) (0 : Nat) n
                                                                    none),
                                                                ((7 : Nat),
                                                                  AVal.ptr (2 : Nat) (0 : Nat) (0 : Nat) (0 : Nat)),
                                                                ((8 : Nat),
                                                                  AVal.ptr (3 : Nat) (0 : Nat) (0 : Nat) (0 : Nat)),
                                                                ((9 : Nat),
                                                                  AVal.ptr (4 : Nat) (0 : Nat) (0 : Nat) (0 : Nat)),
                                                                ((10 : Nat), AVal.str (all ++ x)),
                                                                ((11 : Nat),
                                                                  AVal.ptr (5 : Nat) (0 : Nat) (0 : Nat) (0 : Nat)),
                                                                ((12 : Nat), AVal.int IntKind.i64 (i + (1 : Int)))]
                                                              (AHeap.mk (6 : Nat)
                                                                [((5 : Nat),
                                                                    ABlk.cells (28 : Nat)
                                                                      [AVal.bool false, AVal.bool false,
                                                                        AVal.int IntKind.i64 id,
                                                                        AVal.int IntKind.i64 (0 : Int),
                                                                        AVal.int IntKind.i64 (0 : Int),
                                                                        AVal.int IntKind.i64 (0 : Int), AVal.str [],
                                                                        AVal.str x, AVal.str []]),
                                                                  ((4 : Nat),
                                                                    ABlk.cells (26 : Nat)
                                                                      [AVal.int IntKind.i64 typ, AVal.int IntKind.i64 k,
                                                                        AVal.str b, AVal.str cdata,
                                                                        AVal.int IntKind.i64 n_1,
                                                                        AVal.int IntKind.i64 id]),
                                                                  ((3 : Nat),
                                                                    ABlk.cells (24 : Nat)
                                                                      [AVal.int IntKind.i64 lk, AVal.str lb]),
                                                                  ((2 : Nat),
                                                                    ABlk.cells (24 : Nat)
                                                                      [AVal.int IntKind.i64 k0, AVal.str b0]),
                                                                  ((0 : Nat),
                                                                    ABlk.row (22 : Nat) (intRow IntKind.u16) sp
                                                                      RowMd.ro)])))))))))))))))))))))
        ((nextR typ k b cdata at_ id lk lb ((20 : Int) + i % (50 : Int)) false =
              NextR.mk false false (0 : Int) (0 : Int) (0 : Int) (0 : Int) [] [] [] k b at_ (2 : Int) →
            Q AExit.ret
              [((0 : Nat), AVal.str data), ((1 : Nat), AVal.int IntKind.u8 kind),
                ((2 : Nat), AVal.sl (0 : Nat) (0 : Nat) (1 : Nat) (0 : Nat) n none),
                ((7 : Nat), AVal.ptr (2 : Nat) (0 : Nat) (0 : Nat) (0 : Nat)),
                ((8 : Nat), AVal.ptr (3 : Nat) (0 : Nat) (0 : Nat) (0 : Nat)),
                ((9 : Nat), AVal.ptr (4 : Nat) (0 : Nat) (0 : Nat) (0 : Nat)), ((10 : Nat), AVal.str all),
                ((11 : Nat), AVal.ptr (5 : Nat) (0 : Nat) (0 : Nat) (0 : Nat)), ((12 : Nat), AVal.int IntKind.i64 i)]
              (AHeap.mk (6 : Nat)
                [((5 : Nat),
                    ABlk.cells (28 : Nat)
                      [AVal.bool pst, AVal.bool pen, AVal.int IntKind.i64 pid, AVal.int IntKind.i64 ptot,
                        AVal.int IntKind.i64 ptyp, AVal.int IntKind.i64 pk, AVal.str plb, AVal.str pdata,
                        AVal.str psum]),
                  ((4 : Nat),
                    ABlk.cells (26 : Nat)
                      [AVal.int IntKind.i64 typ, AVal.int IntKind.i64 k, AVal.str b, AVal.str cdata,
                        AVal.int IntKind.i64 at_, AVal.int IntKind.i64 id]),
                  ((3 : Nat), ABlk.cells (24 : Nat) [AVal.int IntKind.i64 lk, AVal.str lb]),
                  ((2 : Nat), ABlk.cells (24 : Nat) [AVal.int IntKind.i64 k0, AVal.str b0]),
                  ((0 : Nat), ABlk.row (22 : Nat) (intRow IntKind.u16) sp RowMd.ro)])) ∧
          (nextR typ k b cdata at_ id lk lb ((20 : Int) + i % (50 : Int)) false =
                NextR.mk false false (0 : Int) (0 : Int) (0 : Int) (0 : Int) [] [] [] k b at_ (12 : Int) →
              branch (decide ((20 : Int) + i % (50 : Int) < (20 : Int)))
                (branch
                  (!(decide (typ = typ) &&
                      (decide (k = k) && (decide (b = b) && true) &&
                        (decide (cdata = cdata) && (decide (at_ = at_) && (decide (id = id) && true))))))
                  (Q AExit.ret
                    [((0 : Nat), AVal.str data), ((1 : Nat), AVal.int IntKind.u8 kind),
                      ((2 : Nat), AVal.sl (0 : Nat) (0 : Nat) (1 : Nat) (0 : Nat) n none),
                      ((7 : Nat), AVal.ptr (2 : Nat) (0 : Nat) (0 : Nat) (0 : Nat)),
                      ((8 : Nat), AVal.ptr (3 : Nat) (0 : Nat) (0 : Nat) (0 : Nat)),
                      ((9 : Nat), AVal.ptr (4 : Nat) (0 : Nat) (0 : Nat) (0 : Nat)), ((10 : Nat), AVal.str all),
                      ((11 : Nat), AVal.ptr (5 : Nat) (0 : Nat) (0 : Nat) (0 : Nat)),
                      ((12 : Nat), AVal.int IntKind.i64 i)]
                    (AHeap.mk (6 : Nat)
                      [((5 : Nat),
                          ABlk.cells (28 : Nat)
                            [AVal.bool pst, AVal.bool pen, AVal.int IntKind.i64 pid, AVal.int IntKind.i64 ptot,
                              AVal.int IntKind.i64 ptyp, AVal.int IntKind.i64 pk, AVal.str plb, AVal.str pdata,
                              AVal.str psum]),
                        ((4 : Nat),
                          ABlk.cells (26 : Nat)
                            [AVal.int IntKind.i64 typ, AVal.int IntKind.i64 k, AVal.str b, AVal.str cdata,
                              AVal.int IntKind.i64 at_, AVal.int IntKind.i64 id]),
                        ((3 : Nat), ABlk.cells (24 : Nat) [AVal.int IntKind.i64 lk, AVal.str lb]),
                        ((2 : Nat), ABlk.cells (24 : Nat) [AVal.int IntKind.i64 k0, AVal.str b0]),
                        ((0 : Nat), ABlk.row (22 : Nat) (intRow IntKind.u16) sp RowMd.ro)]))
                  (obl (inI64 (i + (1 : Int)))
                    (Q AExit.normal
                      [((0 : Nat), AVal.str data), ((1 : Nat), AVal.int IntKind.u8 kind),
                        ((2 : Nat), AVal.sl (0 : Nat) (0 : Nat) (1 : Nat) (0 : Nat) n none),
                        ((7 : Nat), AVal.ptr (2 : Nat) (0 : Nat) (0 : Nat) (0 : Nat)),
                        ((8 : Nat), AVal.ptr (3 : Nat) (0 : Nat) (0 : Nat) (0 : Nat)),
                        ((9 : Nat), AVal.ptr (4 : Nat) (0 : Nat) (0 : Nat) (0 : Nat)), ((10 : Nat), AVal.str all),
                        ((11 : Nat), AVal.ptr (5 : Nat) (0 : Nat) (0 : Nat) (0 : Nat)),
                        ((12 : Nat), AVal.int IntKind.i64 (i + (1 : Int)))]
                      (AHeap.mk (6 : Nat)
                        [((5 : Nat),
                            ABlk.cells (28 : Nat)
                              [AVal.bool pst, AVal.bool pen, AVal.int IntKind.i64 pid, AVal.int IntKind.i64 ptot,
                                AVal.int IntKind.i64 ptyp, AVal.int IntKind.i64 pk, AVal.str plb, AVal.str pdata,
                                AVal.str psum]),
                          ((4 : Nat),
                            ABlk.cells (26 : Nat)
                              [AVal.int IntKind.i64 typ, AVal.int IntKind.i64 k, AVal.str b, AVal.str cdata,
                                AVal.int IntKind.i64 at_, AVal.int IntKind.i64 id]),
                          ((3 : Nat), ABlk.cells (24 : Nat) [AVal.int IntKind.i64 lk, AVal.str lb]),
                          ((2 : Nat), ABlk.cells (24 : Nat) [AVal.int IntKind.i64 k0, AVal.str b0]),
                          ((0 : Nat), ABlk.row (22 : Nat) (intRow IntKind.u16) sp RowMd.ro)]))))
                (Q AExit.ret
                  [((0 : Nat), AVal.str data), ((1 : Nat), AVal.int IntKind.u8 kind),
                    ((2 : Nat), AVal.sl (0 : Nat) (0 : Nat) (1 : Nat) (0 : Nat) n none),
                    ((7 : Nat), AVal.ptr (2 : Nat) (0 : Nat) (0 : Nat) (0 : Nat)),
                    ((8 : Nat), AVal.ptr (3 : Nat) (0 : Nat) (0 : Nat) (0 : Nat)),
                    ((9 : Nat), AVal.ptr (4 : Nat) (0 : Nat) (0 : Nat) (0 : Nat)), ((10 : Nat), AVal.str all),
                    ((11 : Nat), AVal.ptr (5 : Nat) (0 : Nat) (0 : Nat) (0 : Nat)),
                    ((12 : Nat), AVal.int IntKind.i64 i)]
                  (AHeap.mk (6 : Nat)
                    [((5 : Nat),
                        ABlk.cells (28 : Nat)
                          [AVal.bool pst, AVal.bool pen, AVal.int IntKind.i64 pid, AVal.int IntKind.i64 ptot,
                            AVal.int IntKind.i64 ptyp, AVal.int IntKind.i64 pk, AVal.str plb, AVal.str pdata,
                            AVal.str psum]),
                      ((4 : Nat),
                        ABlk.cells (26 : Nat)
                          [AVal.int IntKind.i64 typ, AVal.int IntKind.i64 k, AVal.str b, AVal.str cdata,
                            AVal.int IntKind.i64 at_, AVal.int IntKind.i64 id]),
                      ((3 : Nat), ABlk.cells (24 : Nat) [AVal.int IntKind.i64 lk, AVal.str lb]),
                      ((2 : Nat), ABlk.cells (24 : Nat) [AVal.int IntKind.i64 k0, AVal.str b0]),
                      ((0 : Nat), ABlk.row (22 : Nat) (intRow IntKind.u16) sp RowMd.ro)]))) ∧
            (nextR typ k b cdata at_ id lk lb ((20 : Int) + i % (50 : Int)) false =
                  NextR.mk true true (0 : Int) (0 : Int) typ lk lb cdata [] k b (↑cdata.length : Int) (0 : Int) →
                obl (decide (lb.length + cdata.length + ([] : List UInt8).length ≤ (9223372036854775000 : Nat)))
                  (branch (!decide (gErr true true (0 : Int) (0 : Int) typ lk lb cdata [] = (0 : Int)))
                    (Q AExit.ret
                      [((0 : Nat), AVal.str data), ((1 : Nat), AVal.int IntKind.u8 kind),
                        ((2 : Nat), AVal.sl (0 : Nat) (0 : Nat) (1 : Nat) (0 : Nat) n none),
                        ((7 : Nat), AVal.ptr (2 : Nat) (0 : Nat) (0 : Nat) (0 : Nat)),
                        ((8 : Nat), AVal.ptr (3 : Nat) (0 : Nat) (0 : Nat) (0 : Nat)),
                        ((9 : Nat), AVal.ptr (4 : Nat) (0 : Nat) (0 : Nat) (0 : Nat)), ((10 : Nat), AVal.str all),
                        ((11 : Nat), AVal.ptr (5 : Nat) (0 : Nat) (0 : Nat) (0 : Nat)),
                        ((12 : Nat), AVal.int IntKind.i64 i)]
                      (AHeap.mk (6 : Nat)
                        [((5 : Nat),
                            ABlk.cells (28 : Nat)
                              [AVal.bool pst, AVal.bool pen, AVal.int IntKind.i64 pid, AVal.int IntKind.i64 ptot,
                                AVal.int IntKind.i64 ptyp, AVal.int IntKind.i64 pk, AVal.str plb, AVal.str pdata,
                                AVal.str psum]),
                          ((4 : Nat),
                            ABlk.cells (26 : Nat)
                              [AVal.int IntKind.i64 typ, AVal.int IntKind.i64 k, AVal.str b, AVal.str cdata,
                                AVal.int IntKind.i64 at_, AVal.int IntKind.i64 id]),
                          ((3 : Nat), ABlk.cells (24 : Nat) [AVal.int IntKind.i64 lk, AVal.str lb]),
                          ((2 : Nat), ABlk.cells (24 : Nat) [AVal.int IntKind.i64 k0, AVal.str b0]),
                          ((0 : Nat), ABlk.row (22 : Nat) (intRow IntKind.u16) sp RowMd.ro)]))
                    (branch
                      (decide
                        ((20 : Int) + i % (50 : Int) <
                          (↑(gEnc true true (0 : Int) (0 : Int) typ lk lb cdata []).length : Int)))
                      (Q AExit.ret
                        [((0 : Nat), AVal.str data), ((1 : Nat), AVal.int IntKind.u8 kind),
                          ((2 : Nat), AVal.sl (0 : Nat) (0 : Nat) (1 : Nat) (0 : Nat) n none),
                          ((7 : Nat), AVal.ptr (2 : Nat) (0 : Nat) (0 : Nat) (0 : Nat)),
                          ((8 : Nat), AVal.ptr (3 : Nat) (0 : Nat) (0 : Nat) (0 : Nat)),
                          ((9 : Nat), AVal.ptr (4 : Nat) (0 : Nat) (0 : Nat) (0 : Nat)), ((10 : Nat), AVal.str all),
                          ((11 : Nat), AVal.ptr (5 : Nat) (0 : Nat) (0 : Nat) (0 : Nat)),
                          ((12 : Nat), AVal.int IntKind.i64 i)]
                        (AHeap.mk (6 : Nat)
                          [((5 : Nat),
                              ABlk.cells (28 : Nat)
                                [AVal.bool pst, AVal.bool pen, AVal.int IntKind.i64 pid, AVal.int IntKind.i64 ptot,
                                  AVal.int IntKind.i64 ptyp, AVal.int IntKind.i64 pk, AVal.str plb, AVal.str pdata,
                                  AVal.str psum]),
                            ((4 : Nat),
                              ABlk.cells (26 : Nat)
                                [AVal.int IntKind.i64 typ, AVal.int IntKind.i64 k, AVal.str b, AVal.str cdata,
                                  AVal.int IntKind.i64 at_, AVal.int IntKind.i64 id]),
                            ((3 : Nat), ABlk.cells (24 : Nat) [AVal.int IntKind.i64 lk, AVal.str lb]),
                            ((2 : Nat), ABlk.cells (24 : Nat) [AVal.int IntKind.i64 k0, AVal.str b0]),
                            ((0 : Nat), ABlk.row (22 : Nat) (intRow IntKind.u16) sp RowMd.ro)]))
                      (branch
                        (decide
                          ((4097 : Int) < (↑(gEnc true true (0 : Int) (0 : Int) typ lk lb cdata []).length : Int)))
                        (Q AExit.ret
                          [((0 : Nat), AVal.str data), ((1 : Nat), AVal.int IntKind.u8 kind),
                            ((2 : Nat), AVal.sl (0 : Nat) (0 : Nat) (1 : Nat) (0 : Nat) n none),
                            ((7 : Nat), AVal.ptr (2 : Nat) (0 : Nat) (0 : Nat) (0 : Nat)),
                            ((8 : Nat), AVal.ptr (3 : Nat) (0 : Nat) (0 : Nat) (0 : Nat)),
                            ((9 : Nat), AVal.ptr (4 : Nat) (0 : Nat) (0 : Nat) (0 : Nat)), ((10 : Nat), AVal.str all),
                            ((11 : Nat), AVal.ptr (5 : Nat) (0 : Nat) (0 : Nat) (0 : Nat)),
                            ((12 : Nat), AVal.int IntKind.i64 i)]
                          (AHeap.mk (6 : Nat)
                            [((5 : Nat),
                                ABlk.cells (28 : Nat)
                                  [AVal.bool pst, AVal.bool pen, AVal.int IntKind.i64 pid, AVal.int IntKind.i64 ptot,
                                    AVal.int IntKind.i64 ptyp, AVal.int IntKind.i64 pk, AVal.str plb, AVal.str pdata,
                                    AVal.str psum]),
                              ((4 : Nat),
                                ABlk.cells (26 : Nat)
                                  [AVal.int IntKind.i64 typ, AVal.int IntKind.i64 k, AVal.str b, AVal.str cdata,
                                    AVal.int IntKind.i64 at_, AVal.int IntKind.i64 id]),
                              ((3 : Nat), ABlk.cells (24 : Nat) [AVal.int IntKind.i64 lk, AVal.str lb]),
                              ((2 : Nat), ABlk.cells (24 : Nat) [AVal.int IntKind.i64 k0, AVal.str b0]),
                              ((0 : Nat), ABlk.row (22 : Nat) (intRow IntKind.u16) sp RowMd.ro)]))
                        (branch (!true == decide (all = []))
                          (Q AExit.ret
                            [((0 : Nat), AVal.str data), ((1 : Nat), AVal.int IntKind.u8 kind),
                              ((2 : Nat), AVal.sl (0 : Nat) (0 : Nat) (1 : Nat) (0 : Nat) n none),
                              ((7 : Nat), AVal.ptr (2 : Nat) (0 : Nat) (0 : Nat) (0 : Nat)),
                              ((8 : Nat), AVal.ptr (3 : Nat) (0 : Nat) (0 : Nat) (0 : Nat)),
                              ((9 : Nat), AVal.ptr (4 : Nat) (0 : Nat) (0 : Nat) (0 : Nat)), ((10 : Nat), AVal.str all),
                              ((11 : Nat), AVal.ptr (5 : Nat) (0 : Nat) (0 : Nat) (0 : Nat)),
                              ((12 : Nat), AVal.int IntKind.i64 i)]
                            (AHeap.mk (6 : Nat)
                              [((5 : Nat),
                                  ABlk.cells (28 : Nat)
                                    [AVal.bool pst, AVal.bool pen, AVal.int IntKind.i64 pid, AVal.int IntKind.i64 ptot,
                                      AVal.int IntKind.i64 ptyp, AVal.int IntKind.i64 pk, AVal.str plb, AVal.str pdata,
                                      AVal.str psum]),
                                ((4 : Nat),
                                  ABlk.cells (26 : Nat)
                                    [AVal.int IntKind.i64 typ, AVal.int IntKind.i64 k, AVal.str b, AVal.str cdata,
                                      AVal.int IntKind.i64 at_, AVal.int IntKind.i64 id]),
                                ((3 : Nat), ABlk.cells (24 : Nat) [AVal.int IntKind.i64 lk, AVal.str lb]),
                                ((2 : Nat), ABlk.cells (24 : Nat) [AVal.int IntKind.i64 k0, AVal.str b0]),
                                ((0 : Nat), ABlk.row (22 : Nat) (intRow IntKind.u16) sp RowMd.ro)]))
                          (branch (decide (cdata = []))
                            (Q AExit.ret
                              [((0 : Nat), AVal.str data), ((1 : Nat), AVal.int IntKind.u8 kind),
                                ((2 : Nat), AVal.sl (0 : Nat) (0 : Nat) (1 : Nat) (0 : Nat) n none),
                                ((7 : Nat), AVal.ptr (2 : Nat) (0 : Nat) (0 : Nat) (0 : Nat)),
                                ((8 : Nat), AVal.ptr (3 : Nat) (0 : Nat) (0 : Nat) (0 : Nat)),
                                ((9 : Nat), AVal.ptr (4 : Nat) (0 : Nat) (0 : Nat) (0 : Nat)),
                                ((10 : Nat), AVal.str all),
                                ((11 : Nat), AVal.ptr (5 : Nat) (0 : Nat) (0 : Nat) (0 : Nat)),
                                ((12 : Nat), AVal.int IntKind.i64 i)]
                              (AHeap.mk (6 : Nat)
                                [((5 : Nat),
                                    ABlk.cells (28 : Nat)
                                      [AVal.bool pst, AVal.bool pen, AVal.int IntKind.i64 pid,
                                        AVal.int IntKind.i64 ptot, AVal.int IntKind.i64 ptyp, AVal.int IntKind.i64 pk,
                                        AVal.str plb, AVal.str pdata, AVal.str psum]),
                                  ((4 : Nat),
                                    ABlk.cells (26 : Nat)
                                      [AVal.int IntKind.i64 typ, AVal.int IntKind.i64 k, AVal.str b, AVal.str cdata,
                                        AVal.int IntKind.i64 at_, AVal.int IntKind.i64 id]),
                                  ((3 : Nat), ABlk.cells (24 : Nat) [AVal.int IntKind.i64 lk, AVal.str lb]),
                                  ((2 : Nat), ABlk.cells (24 : Nat) [AVal.int IntKind.i64 k0, AVal.str b0]),
                                  ((0 : Nat), ABlk.row (22 : Nat) (intRow IntKind.u16) sp RowMd.ro)]))
                            (obl (inI64 (at_ + (↑cdata.length : Int)))
                              (branch (!decide ((↑cdata.length : Int) = at_ + (↑cdata.length : Int)))
                                (Q AExit.ret
                                  [((0 : Nat), AVal.str data), ((1 : Nat), AVal.int IntKind.u8 kind),
                                    ((2 : Nat), AVal.sl (0 : Nat) (0 : Nat) (1 : Nat) (0 : Nat) n none),
                                    ((7 : Nat), AVal.ptr (2 : Nat) (0 : Nat) (0 : Nat) (0 : Nat)),
                                    ((8 : Nat), AVal.ptr (3 : Nat) (0 : Nat) (0 : Nat) (0 : Nat)),
                                    ((9 : Nat), AVal.ptr (4 : Nat) (0 : Nat) (0 : Nat) (0 : Nat)),
                                    ((10 : Nat), AVal.str all),
                                    ((11 : Nat), AVal.ptr (5 : Nat) (0 : Nat) (0 : Nat) (0 : Nat)),
                                    ((12 : Nat), AVal.int IntKind.i64 i)]
                                  (AHeap.mk (6 : Nat)
                                    [((5 : Nat),
                                        ABlk.cells (28 : Nat)
                                          [AVal.bool pst, AVal.bool pen, AVal.int IntKind.i64 pid,
                                            AVal.int IntKind.i64 ptot, AVal.int IntKind.i64 ptyp,
                                            AVal.int IntKind.i64 pk, AVal.str plb, AVal.str pdata, AVal.str psum]),
                                      ((4 : Nat),
                                        ABlk.cells (26 : Nat)
                                          [AVal.int IntKind.i64 typ, AVal.int IntKind.i64 k, AVal.str b, AVal.str cdata,
                                            AVal.int IntKind.i64 at_, AVal.int IntKind.i64 id]),
                                      ((3 : Nat), ABlk.cells (24 : Nat) [AVal.int IntKind.i64 lk, AVal.str lb]),
                                      ((2 : Nat), ABlk.cells (24 : Nat) [AVal.int IntKind.i64 k0, AVal.str b0]),
                                      ((0 : Nat), ABlk.row (22 : Nat) (intRow IntKind.u16) sp RowMd.ro)]))
                                (obl (decide ((↑(all.length + cdata.length) : Int) ≤ (9223372036854775807 : Int)))
                                  (branch (!true == decide ((↑(all ++ cdata).length : Int) = (↑data.length : Int)))
                                    (Q AExit.ret
                                      [((0 : Nat), AVal.str data), ((1 : Nat), AVal.int IntKind.u8 kind),
                                        ((2 : Nat), AVal.sl (0 : Nat) (0 : Nat) (1 : Nat) (0 : Nat) n none),
                                        ((7 : Nat), AVal.ptr (2 : Nat) (0 : Nat) (0 : Nat) (0 : Nat)),
                                        ((8 : Nat), AVal.ptr (3 : Nat) (0 : Nat) (0 : Nat) (0 : Nat)),
                                        ((9 : Nat), AVal.ptr (4 : Nat) (0 : Nat) (0 : Nat) (0 : Nat)),
                                        ((10 : Nat), AVal.str (all ++ cdata)),
                                        ((11 : Nat), AVal.ptr (5 : Nat) (0 : Nat) (0 : Nat) (0 : Nat)),
                                        ((12 : Nat), AVal.int IntKind.i64 i)]
                                      (AHeap.mk (6 : Nat)
                                        [((5 : Nat),
                                            ABlk.cells (28 : Nat)
                                              [AVal.bool pst, AVal.bool pen, AVal.int IntKind.i64 pid,
                                                AVal.int IntKind.i64 ptot, AVal.int IntKind.i64 ptyp,
                                                AVal.int IntKind.i64 pk, AVal.str plb, AVal.str pdata, AVal.str psum]),
                                          ((4 : Nat),
                                            ABlk.cells (26 : Nat)
                                              [AVal.int IntKind.i64 typ, AVal.int IntKind.i64 k, AVal.str b,
                                                AVal.str cdata, AVal.int IntKind.i64 at_, AVal.int IntKind.i64 id]),
                                          ((3 : Nat), ABlk.cells (24 : Nat) [AVal.int IntKind.i64 lk, AVal.str lb]),
                                          ((2 : Nat), ABlk.cells (24 : Nat) [AVal.int IntKind.i64 k0, AVal.str b0]),
                                          ((0 : Nat), ABlk.row (22 : Nat) (intRow IntKind.u16) sp RowMd.ro)]))
                                    (branch (!(decide (lk = lk) && (decide (lb = lb) && true)))
                                      (Q AExit.ret
                                        [((0 : Nat), AVal.str data), ((1 : Nat), AVal.int IntKind.u8 kind),
                                          ((2 : Nat), AVal.sl (0 : Nat) (0 : Nat) (1 : Nat) (0 : Nat) n none),
                                          ((7 : Nat), AVal.ptr (2 : Nat) (0 : Nat) (0 : Nat) (0 : Nat)),
                                          ((8 : Nat), AVal.ptr (3 : Nat) (0 : Nat) (0 : Nat) (0 : Nat)),
                                          ((9 : Nat), AVal.ptr (4 : Nat) (0 : Nat) (0 : Nat) (0 : Nat)),
                                          ((10 : Nat), AVal.str (all ++ cdata)),
                                          ((11 : Nat), AVal.ptr (5 : Nat) (0 : Nat) (0 : Nat) (0 : Nat)),
                                          ((12 : Nat), AVal.int IntKind.i64 i)]
                                        (AHeap.mk (6 : Nat)
                                          [((5 : Nat),
                                              ABlk.cells (28 : Nat)
                                                [AVal.bool pst, AVal.bool pen, AVal.int IntKind.i64 pid,
                                                  AVal.int IntKind.i64 ptot, AVal.int IntKind.i64 ptyp,
                                                  AVal.int IntKind.i64 pk, AVal.str plb, AVal.str pdata,
                                                  AVal.str psum]),
                                            ((4 : Nat),
                                              ABlk.cells (26 : Nat)
                                                [AVal.int IntKind.i64 typ, AVal.int IntKind.i64 k, AVal.str b,
                                                  AVal.str cdata, AVal.int IntKind.i64 at_, AVal.int IntKind.i64 id]),
                                            ((3 : Nat), ABlk.cells (24 : Nat) [AVal.int IntKind.i64 lk, AVal.str lb]),
                                            ((2 : Nat), ABlk.cells (24 : Nat) [AVal.int IntKind.i64 k0, AVal.str b0]),
                                            ((0 : Nat), ABlk.row (22 : Nat) (intRow IntKind.u16) sp RowMd.ro)]))
                                      (obl (inI64 (i + (1 : Int)))
                                        (Q AExit.normal
                                          [((0 : Nat), AVal.str data), ((1 : Nat), AVal.int IntKind.u8 kind),
                                            ((2 : Nat), AVal.sl (0 : Nat) (0 : Nat) (1 : Nat) (0 : Nat) n none),
                                            ((7 : Nat), AVal.ptr (2 : Nat) (0 : Nat) (0 : Nat) (0 : Nat)),
                                            ((8 : Nat), AVal.ptr (3 : Nat) (0 : Nat) (0 : Nat) (0 : Nat)),
                                            ((9 : Nat), AVal.ptr (4 : Nat) (0 : Nat) (0 : Nat) (0 : Nat)),
                                            ((10 : Nat), AVal.str (all ++ cdata)),
                                            ((11 : Nat), AVal.ptr (5 : Nat) (0 : Nat) (0 : Nat) (0 : Nat)),
                                            ((12 : Nat), AVal.int IntKind.i64 (i + (1 : Int)))]
                                          (AHeap.mk (6 : Nat)
                                            [((5 : Nat),
                                                ABlk.cells (28 : Nat)
                                                  [AVal.bool true, AVal.bool true, AVal.int IntKind.i64 (0 : Int),
                                                    AVal.int IntKind.i64 (0 : Int), AVal.int IntKind.i64 typ,
                                                    AVal.int IntKind.i64 lk, AVal.str lb, AVal.str cdata, AVal.str []]),
                                              ((4 : Nat),
                                                ABlk.cells (26 : Nat)
                                                  [AVal.int IntKind.i64 typ, AVal.int IntKind.i64 k, AVal.str b,
                                                    AVal.str cdata, AVal.int IntKind.i64 (↑cdata.length : Int),
                                                    AVal.int IntKind.i64 id]),
                                              ((3 : Nat), ABlk.cells (24 : Nat) [AVal.int IntKind.i64 lk, AVal.str lb]),
                                              ((2 : Nat), ABlk.cells (24 : Nat) [AVal.int IntKind.i64 k0, AVal.str b0]),
                                              ((0 : Nat),
                                                ABlk.row (22 : Nat) (intRow IntKind.u16) sp RowMd.ro)])))))))))))))) ∧
              (∀ (n_1 : Int) (x : List UInt8),
                  nextR typ k b cdata at_ id lk lb ((20 : Int) + i % (50 : Int)) false =
                      NextR.mk true false id (pTotal lk lb (↑cdata.length : Int)) typ lk lb x [] lk lb n_1 (0 : Int) →
                    obl (decide (lb.length + x.length + ([] : List UInt8).length ≤ (9223372036854775000 : Nat)))
                      (branch
                        (!decide (gErr true false id (pTotal lk lb (↑cdata.length : Int)) typ lk lb x [] = (0 : Int)))
                        (Q AExit.ret
                          [((0 : Nat), AVal.str data), ((1 : Nat), AVal.int IntKind.u8 kind),
                            ((2 : Nat), AVal.sl (0 : Nat) (0 : Nat) (1 : Nat) (0 : Nat) n none),
                            ((7 : Nat), AVal.ptr (2 : Nat) (0 : Nat) (0 : Nat) (0 : Nat)),
                            ((8 : Nat), AVal.ptr (3 : Nat) (0 : Nat) (0 : Nat) (0 : Nat)),
                            ((9 : Nat), AVal.ptr (4 : Nat) (0 : Nat) (0 : Nat) (0 : Nat)), ((10 : Nat), AVal.str all),
                            ((11 : Nat), AVal.ptr (5 : Nat) (0 : Nat) (0 : Nat) (0 : Nat)),
                            ((12 : Nat), AVal.int IntKind.i64 i)]
                          (AHeap.mk (6 : Nat)
                            [((5 : Nat),
                                ABlk.cells (28 : Nat)
                                  [AVal.bool pst, AVal.bool pen, AVal.int IntKind.i64 pid, AVal.int IntKind.i64 ptot,
                                    AVal.int IntKind.i64 ptyp, AVal.int IntKind.i64 pk, AVal.str plb, AVal.str pdata,
                                    AVal.str psum]),
                              ((4 : Nat),
                                ABlk.cells (26 : Nat)
                                  [AVal.int IntKind.i64 typ, AVal.int IntKind.i64 k, AVal.str b, AVal.str cdata,
                                    AVal.int IntKind.i64 at_, AVal.int IntKind.i64 id]),
                              ((3 : Nat), ABlk.cells (24 : Nat) [AVal.int IntKind.i64 lk, AVal.str lb]),
                              ((2 : Nat), ABlk.cells (24 : Nat) [AVal.int IntKind.i64 k0, AVal.str b0]),
                              ((0 : Nat), ABlk.row (22 : Nat) (intRow IntKind.u16) sp RowMd.ro)]))
                        (branch
                          (decide
                            ((20 : Int) + i % (50 : Int) <
                              (↑(gEnc true false id (pTotal lk lb (↑cdata.length : Int)) typ lk lb x []).length : Int)))
                          (Q AExit.ret
                            [((0 : Nat), AVal.str data), ((1 : Nat), AVal.int IntKind.u8 kind),
                              ((2 : Nat), AVal.sl (0 : Nat) (0 : Nat) (1 : Nat) (0 : Nat) n none),
                              ((7 : Nat), AVal.ptr (2 : Nat) (0 : Nat) (0 : Nat) (0 : Nat)),
                              ((8 : Nat), AVal.ptr (3 : Nat) (0 : Nat) (0 : Nat) (0 : Nat)),
                              ((9 : Nat), AVal.ptr (4 : Nat) (0 : Nat) (0 : Nat) (0 : Nat)), ((10 : Nat), AVal.str all),
                              ((11 : Nat), AVal.ptr (5 : Nat) (0 : Nat) (0 : Nat) (0 : Nat)),
                              ((12 : Nat), AVal.int IntKind.i64 i)]
                            (AHeap.mk (6 : Nat)
                              [((5 : Nat),
                                  ABlk.cells (28 : Nat)
                                    [AVal.bool pst, AVal.bool pen, AVal.int IntKind.i64 pid, AVal.int IntKind.i64 ptot,
                                      AVal.int IntKind.i64 ptyp, AVal.int IntKind.i64 pk, AVal.str plb, AVal.str pdata,
                                      AVal.str psum]),
                                ((4 : Nat),
                                  ABlk.cells (26 : Nat)
                                    [AVal.int IntKind.i64 typ, AVal.int IntKind.i64 k, AVal.str b, AVal.str cdata,
                                      AVal.int IntKind.i64 at_, AVal.int IntKind.i64 id]),
                                ((3 : Nat), ABlk.cells (24 : Nat) [AVal.int IntKind.i64 lk, AVal.str lb]),
                                ((2 : Nat), ABlk.cells (24 : Nat) [AVal.int IntKind.i64 k0, AVal.str b0]),
                                ((0 : Nat), ABlk.row (22 : Nat) (intRow IntKind.u16) sp RowMd.ro)]))
                          (branch
                            (decide
                              ((4097 : Int) <
                                (↑(gEnc true false id (pTotal lk lb (↑cdata.length : Int)) typ lk lb x []).length :
                                  Int)))
                            (Q AExit.ret
                              [((0 : Nat), AVal.str data), ((1 : Nat), AVal.int IntKind.u8 kind),
                                ((2 : Nat), AVal.sl (0 : Nat) (0 : Nat) (1 : Nat) (0 : Nat) n none),
                                ((7 : Nat), AVal.ptr (2 : Nat) (0 : Nat) (0 : Nat) (0 : Nat)),
                                ((8 : Nat), AVal.ptr (3 : Nat) (0 : Nat) (0 : Nat) (0 : Nat)),
                                ((9 : Nat), AVal.ptr (4 : Nat) (0 : Nat) (0 : Nat) (0 : Nat)),
                                ((10 : Nat), AVal.str all),
                                ((11 : Nat), AVal.ptr (5 : Nat) (0 : Nat) (0 : Nat) (0 : Nat)),
                                ((12 : Nat), AVal.int IntKind.i64 i)]
                              (AHeap.mk (6 : Nat)
                                [((5 : Nat),
                                    ABlk.cells (28 : Nat)
                                      [AVal.bool pst, AVal.bool pen, AVal.int IntKind.i64 pid,
                                        AVal.int IntKind.i64 ptot, AVal.int IntKind.i64 ptyp, AVal.int IntKind.i64 pk,
                                        AVal.str plb, AVal.str pdata, AVal.str psum]),
                                  ((4 : Nat),
                                    ABlk.cells (26 : Nat)
                                      [AVal.int IntKind.i64 typ, AVal.int IntKind.i64 k, AVal.str b, AVal.str cdata,
                                        AVal.int IntKind.i64 at_, AVal.int IntKind.i64 id]),
                                  ((3 : Nat), ABlk.cells (24 : Nat) [AVal.int IntKind.i64 lk, AVal.str lb]),
                                  ((2 : Nat), ABlk.cells (24 : Nat) [AVal.int IntKind.i64 k0, AVal.str b0]),
                                  ((0 : Nat), ABlk.row (22 : Nat) (intRow IntKind.u16) sp RowMd.ro)]))
                            (branch (!true == decide (all = []))
                              (Q AExit.ret
                                [((0 : Nat), AVal.str data), ((1 : Nat), AVal.int IntKind.u8 kind),
                                  ((2 : Nat), AVal.sl (0 : Nat) (0 : Nat) (1 : Nat) (0 : Nat) n none),
                                  ((7 : Nat), AVal.ptr (2 : Nat) (0 : Nat) (0 : Nat) (0 : Nat)),
                                  ((8 : Nat), AVal.ptr (3 : Nat) (0 : Nat) (0 : Nat) (0 : Nat)),
                                  ((9 : Nat), AVal.ptr (4 : Nat) (0 : Nat) (0 : Nat) (0 : Nat)),
                                  ((10 : Nat), AVal.str all),
                                  ((11 : Nat), AVal.ptr (5 : Nat) (0 : Nat) (0 : Nat) (0 : Nat)),
                                  ((12 : Nat), AVal.int IntKind.i64 i)]
                                (AHeap.mk (6 : Nat)
                                  [((5 : Nat),
                                      ABlk.cells (28 : Nat)
                                        [AVal.bool pst, AVal.bool pen, AVal.int IntKind.i64 pid,
                                          AVal.int IntKind.i64 ptot, AVal.int IntKind.i64 ptyp, AVal.int IntKind.i64 pk,
                                          AVal.str plb, AVal.str pdata, AVal.str psum]),
                                    ((4 : Nat),
                                      ABlk.cells (26 : Nat)
                                        [AVal.int IntKind.i64 typ, AVal.int IntKind.i64 k, AVal.str b, AVal.str cdata,
                                          AVal.int IntKind.i64 at_, AVal.int IntKind.i64 id]),
                                    ((3 : Nat), ABlk.cells (24 : Nat) [AVal.int IntKind.i64 lk, AVal.str lb]),
                                    ((2 : Nat), ABlk.cells (24 : Nat) [AVal.int IntKind.i64 k0, AVal.str b0]),
                                    ((0 : Nat), ABlk.row (22 : Nat) (intRow IntKind.u16) sp RowMd.ro)]))
                              (branch (decide (x = []))
                                (Q AExit.ret
                                  [((0 : Nat), AVal.str data), ((1 : Nat), AVal.int IntKind.u8 kind),
                                    ((2 : Nat), AVal.sl (0 : Nat) (0 : Nat) (1 : Nat) (0 : Nat) n none),
                                    ((7 : Nat), AVal.ptr (2 : Nat) (0 : Nat) (0 : Nat) (0 : Nat)),
                                    ((8 : Nat), AVal.ptr (3 : Nat) (0 : Nat) (0 : Nat) (0 : Nat)),
                                    ((9 : Nat), AVal.ptr (4 : Nat) (0 : Nat) (0 : Nat) (0 : Nat)),
                                    ((10 : Nat), AVal.str all),
                                    ((11 : Nat), AVal.ptr (5 : Nat) (0 : Nat) (0 : Nat) (0 : Nat)),
                                    ((12 : Nat), AVal.int IntKind.i64 i)]
                                  (AHeap.mk (6 : Nat)
                                    [((5 : Nat),
                                        ABlk.cells (28 : Nat)
                                          [AVal.bool pst, AVal.bool pen, AVal.int IntKind.i64 pid,
                                            AVal.int IntKind.i64 ptot, AVal.int IntKind.i64 ptyp,
                                            AVal.int IntKind.i64 pk, AVal.str plb, AVal.str pdata, AVal.str psum]),
                                      ((4 : Nat),
                                        ABlk.cells (26 : Nat)
                                          [AVal.int IntKind.i64 typ, AVal.int IntKind.i64 k, AVal.str b, AVal.str cdata,
                                            AVal.int IntKind.i64 at_, AVal.int IntKind.i64 id]),
                                      ((3 : Nat), ABlk.cells (24 : Nat) [AVal.int IntKind.i64 lk, AVal.str lb]),
                                      ((2 : Nat), ABlk.cells (24 : Nat) [AVal.int IntKind.i64 k0, AVal.str b0]),
                                      ((0 : Nat), ABlk.row (22 : Nat) (intRow IntKind.u16) sp RowMd.ro)]))
                                (obl (inI64 (at_ + (↑x.length : Int)))
                                  (branch (!decide (n_1 = at_ + (↑x.length : Int)))
                                    (Q AExit.ret
                                      [((0 : Nat), AVal.str data), ((1 : Nat), AVal.int IntKind.u8 kind),
                                        ((2 : Nat), AVal.sl (0 : Nat) (0 : Nat) (1 : Nat) (0 : Nat) n none),
                                        ((7 : Nat), AVal.ptr (2 : Nat) (0 : Nat) (0 : Nat) (0 : Nat)),
                                        ((8 : Nat), AVal.ptr (3 : Nat) (0 : Nat) (0 : Nat) (0 : Nat)),
                                        ((9 : Nat), AVal.ptr (4 : Nat) (0 : Nat) (0 : Nat) (0 : Nat)),
                                        ((10 : Nat), AVal.str all),
                                        ((11 : Nat), AVal.ptr (5 : Nat) (0 : Nat) (0 : Nat) (0 : Nat)),
                                        ((12 : Nat), AVal.int IntKind.i64 i)]
                                      (AHeap.mk (6 : Nat)
                                        [((5 : Nat),
                                            ABlk.cells (28 : Nat)
                                              [AVal.bool pst, AVal.bool pen, AVal.int IntKind.i64 pid,
                                                AVal.int IntKind.i64 ptot, AVal.int IntKind.i64 ptyp,
                                                AVal.int IntKind.i64 pk, AVal.str plb, AVal.str pdata, AVal.str psum]),
                                          ((4 : Nat),
                                            ABlk.cells (26 : Nat)
                                              [AVal.int IntKind.i64 typ, AVal.int IntKind.i64 k, AVal.str b,
                                                AVal.str cdata, AVal.int IntKind.i64 at_, AVal.int IntKind.i64 id]),
                                          ((3 : Nat), ABlk.cells (24 : Nat) [AVal.int IntKind.i64 lk, AVal.str lb]),
                                          ((2 : Nat), ABlk.cells (24 : Nat) [AVal.int IntKind.i64 k0, AVal.str b0]),
                                          ((0 : Nat), ABlk.row (22 : Nat) (intRow IntKind.u16) sp RowMd.ro)]))
                                    (obl (decide ((↑(all.length + x.length) : Int) ≤ (9223372036854775807 : Int)))
                                      (branch (!false == decide ((↑(all ++ x).length : Int) = (↑data.length : Int)))
                                        (Q AExit.ret
                                          [((0 : Nat), AVal.str data), ((1 : Nat), AVal.int IntKind.u8 kind),
                                            ((2 : Nat), AVal.sl (0 : Nat) (0 : Nat) (1 : Nat) (0 : Nat) n none),
                                            ((7 : Nat), AVal.ptr (2 : Nat) (0 : Nat) (0 : Nat) (0 : Nat)),
                                            ((8 : Nat), AVal.ptr (3 : Nat) (0 : Nat) (0 : Nat) (0 : Nat)),
                                            ((9 : Nat), AVal.ptr (4 : Nat) (0 : Nat) (0 : Nat) (0 : Nat)),
                                            ((10 : Nat), AVal.str (all ++ x)),
                                            ((11 : Nat), AVal.ptr (5 : Nat) (0 : Nat) (0 : Nat) (0 : Nat)),
                                            ((12 : Nat), AVal.int IntKind.i64 i)]
                                          (AHeap.mk (6 : Nat)
                                            [((5 : Nat),
                                                ABlk.cells (28 : Nat)
                                                  [AVal.bool pst, AVal.bool pen, AVal.int IntKind.i64 pid,
                                                    AVal.int IntKind.i64 ptot, AVal.int IntKind.i64 ptyp,
                                                    AVal.int IntKind.i64 pk, AVal.str plb, AVal.str pdata,
                                                    AVal.str psum]),
                                              ((4 : Nat),
                                                ABlk.cells (26 : Nat)
                                                  [AVal.int IntKind.i64 typ, AVal.int IntKind.i64 k, AVal.str b,
                                                    AVal.str cdata, AVal.int IntKind.i64 at_, AVal.int IntKind.i64 id]),
                                              ((3 : Nat), ABlk.cells (24 : Nat) [AVal.int IntKind.i64 lk, AVal.str lb]),
                                              ((2 : Nat), ABlk.cells (24 : Nat) [AVal.int IntKind.i64 k0, AVal.str b0]),
                                              ((0 : Nat), ABlk.row (22 : Nat) (intRow IntKind.u16) sp RowMd.ro)]))
                                        (obl (inI64 (min ((20 : Int) + i % (50 : Int)) (4097 : Int) - (17 : Int)))
                                          (branch
                                            (decide
                                              ((↑x.length : Int) <
                                                min ((20 : Int) + i % (50 : Int)) (4097 : Int) - (17 : Int)))
                                            (Q AExit.ret
                                              [((0 : Nat), AVal.str data), ((1 : Nat), AVal.int IntKind.u8 kind),
                                                ((2 : Nat), AVal.sl (0 : Nat) (0 : Nat) (1 : Nat) (0 : Nat) n none),
                                                ((7 : Nat), AVal.ptr (2 : Nat) (0 : Nat) (0 : Nat) (0 : Nat)),
                                                ((8 : Nat), AVal.ptr (3 : Nat) (0 : Nat) (0 : Nat) (0 : Nat)),
                                                ((9 : Nat), AVal.ptr (4 : Nat) (0 : Nat) (0 : Nat) (0 : Nat)),
                                                ((10 : Nat), AVal.str (all ++ x)),
                                                ((11 : Nat), AVal.ptr (5 : Nat) (0 : Nat) (0 : Nat) (0 : Nat)),
                                                ((12 : Nat), AVal.int IntKind.i64 i)]
                                              (AHeap.mk (6 : Nat)
                                                [((5 : Nat),
                                                    ABlk.cells (28 : Nat)
                                                      [AVal.bool pst, AVal.bool pen, AVal.int IntKind.i64 pid,
                                                        AVal.int IntKind.i64 ptot, AVal.int IntKind.i64 ptyp,
                                                        AVal.int IntKind.i64 pk, AVal.str plb, AVal.str pdata,
                                                        AVal.str psum]),
                                                  ((4 : Nat),
                                                    ABlk.cells (26 : Nat)
                                                      [AVal.int IntKind.i64 typ, AVal.int IntKind.i64 k, AVal.str b,
                                                        AVal.str cdata, AVal.int IntKind.i64 at_,
                                                        AVal.int IntKind.i64 id]),
                                                  ((3 : Nat),
                                                    ABlk.cells (24 : Nat) [AVal.int IntKind.i64 lk, AVal.str lb]),
                                                  ((2 : Nat),
                                                    ABlk.cells (24 : Nat) [AVal.int IntKind.i64 k0, AVal.str b0]),
                                                  ((0 : Nat), ABlk.row (22 : Nat) (intRow IntKind.u16) sp RowMd.ro)]))
                                            (obl (inI64 kind)
                                              (branch (!decide (id = kind))
                                                (Q AExit.ret
                                                  [((0 : Nat), AVal.str data), ((1 : Nat), AVal.int IntKind.u8 kind),
                                                    ((2 : Nat), AVal.sl (0 : Nat) (0 : Nat) (1 : Nat) (0 : Nat) n none),
                                                    ((7 : Nat), AVal.ptr (2 : Nat) (0 : Nat) (0 : Nat) (0 : Nat)),
                                                    ((8 : Nat), AVal.ptr (3 : Nat) (0 : Nat) (0 : Nat) (0 : Nat)),
                                                    ((9 : Nat), AVal.ptr (4 : Nat) (0 : Nat) (0 : Nat) (0 : Nat)),
                                                    ((10 : Nat), AVal.str (all ++ x)),
                                                    ((11 : Nat), AVal.ptr (5 : Nat) (0 : Nat) (0 : Nat) (0 : Nat)),
                                                    ((12 : Nat), AVal.int IntKind.i64 i)]
                                                  (AHeap.mk (6 : Nat)
                                                    [((5 : Nat),
                                                        ABlk.cells (28 : Nat)
                                                          [AVal.bool pst, AVal.bool pen, AVal.int IntKind.i64 pid,
                                                            AVal.int IntKind.i64 ptot, AVal.int IntKind.i64 ptyp,
                                                            AVal.int IntKind.i64 pk, AVal.str plb, AVal.str pdata,
                                                            AVal.str psum]),
                                                      ((4 : Nat),
                                                        ABlk.cells (26 : Nat)
                                                          [AVal.int IntKind.i64 typ, AVal.int IntKind.i64 k, AVal.str b,
                                                            AVal.str cdata, AVal.int IntKind.i64 at_,
                                                            AVal.int IntKind.i64 id]),
                                                      ((3 : Nat),
                                                        ABlk.cells (24 : Nat) [AVal.int IntKind.i64 lk, AVal.str lb]),
                                                      ((2 : Nat),
                                                        ABlk.cells (24 : Nat) [AVal.int IntKind.i64 k0, AVal.str b0]),
                                                      ((0 : Nat),
                                                        ABlk.row (22 : Nat) (intRow IntKind.u16) sp RowMd.ro)]))
                                                (branch (!(decide (lk = lk) && (decide (lb = lb) && true)))
                                                  (Q AExit.ret
                                                    [((0 : Nat), AVal.str data), ((1 : Nat), AVal.int IntKind.u8 kind),
                                                      ((2 : Nat),
                                                        AVal.sl (0 : Nat) (0 : Nat) (1 : Nat) (0 : Nat) n none),
                                                      ((7 : Nat), AVal.ptr (2 : Nat) (0 : Nat) (0 : Nat) (0 : Nat)),
                                                      ((8 : Nat), AVal.ptr (3 : Nat) (0 : Nat) (0 : Nat) (0 : Nat)),
                                                      ((9 : Nat), AVal.ptr (4 : Nat) (0 : Nat) (0 : Nat) (0 : Nat)),
                                                      ((10 : Nat), AVal.str (all ++ x)),
                                                      ((11 : Nat), AVal.ptr (5 : Nat) (0 : Nat) (0 : Nat) (0 : Nat)),
                                                      ((12 : Nat), AVal.int IntKind.i64 i)]
                                                    (AHeap.mk (6 : Nat)
                                                      [((5 : Nat),
                                                          ABlk.cells (28 : Nat)
                                                            [AVal.bool pst, AVal.bool pen, AVal.int IntKind.i64 pid,
                                                              AVal.int IntKind.i64 ptot, AVal.int IntKind.i64 ptyp,
                                                              AVal.int IntKind.i64 pk, AVal.str plb, AVal.str pdata,
                                                              AVal.str psum]),
                                                        ((4 : Nat),
                                                          ABlk.cells (26 : Nat)
                                                            [AVal.int IntKind.i64 typ, AVal.int IntKind.i64 k,
                                                              AVal.str b, AVal.str cdata, AVal.int IntKind.i64 at_,
                                                              AVal.int IntKind.i64 id]),
                                                        ((3 : Nat),
                                                          ABlk.cells (24 : Nat) [AVal.int IntKind.i64 lk, AVal.str lb]),
                                                        ((2 : Nat),
                                                          ABlk.cells (24 : Nat) [AVal.int IntKind.i64 k0, AVal.str b0]),
                                                        ((0 : Nat),
                                                          ABlk.row (22 : Nat) (intRow IntKind.u16) sp RowMd.ro)]))
                                                  (branch
                                                    (!decide
                                                        (pTotal lk lb (↑cdata.length : Int) =
                                                          pTotal lk lb (↑data.length : Int)))
                                                    (Q AExit.ret
                                                      [((0 : Nat), AVal.str data),
                                                        ((1 : Nat), AVal.int IntKind.u8 kind),
                                                        ((2 : Nat),
                                                          AVal.sl (0 : Nat) (0 : Nat) (1 : Nat) (0 : Nat) n none),
                                                        ((7 : Nat), AVal.ptr (2 : Nat) (0 : Nat) (0 : Nat) (0 : Nat)),
                                                        ((8 : Nat), AVal.ptr (3 : Nat) (0 : Nat) (0 : Nat) (0 : Nat)),
                                                        ((9 : Nat), AVal.ptr (4 : Nat) (0 : Nat) (0 : Nat) (0 : Nat)),
                                                        ((10 : Nat), AVal.str (all ++ x)),
                                                        ((11 : Nat), AVal.ptr (5 : Nat) (0 : Nat) (0 : Nat) (0 : Nat)),
                                                        ((12 : Nat), AVal.int IntKind.i64 i)]
                                                      (AHeap.mk (6 : Nat)
                                                        [((5 : Nat),
                                                            ABlk.cells (28 : Nat)
                                                              [AVal.bool pst, AVal.bool pen, AVal.int IntKind.i64 pid,
                                                                AVal.int IntKind.i64 ptot, AVal.int IntKind.i64 ptyp,
                                                                AVal.int IntKind.i64 pk, AVal.str plb, AVal.str pdata,
                                                                AVal.str psum]),
                                                          ((4 : Nat),
                                                            ABlk.cells (26 : Nat)
                                                              [AVal.int IntKind.i64 typ, AVal.int IntKind.i64 k,
                                                                AVal.str b, AVal.str cdata, AVal.int IntKind.i64 at_,
                                                                AVal.int IntKind.i64 id]),
                                                          ((3 : Nat),
                                                            ABlk.cells (24 : Nat)
                                                              [AVal.int IntKind.i64 lk, AVal.str lb]),
                                                          ((2 : Nat),
                                                            ABlk.cells (24 : Nat)
                                                              [AVal.int IntKind.i64 k0, AVal.str b0]),
                                                          ((0 : Nat),
                                                            ABlk.row (22 : Nat) (intRow IntKind.u16) sp RowMd.ro)]))
                                                    (obl (inI64 (i + (1 : Int)))
                                                      (Q AExit.normal
                                                        [((0 : Nat), AVal.str data),
                                                          ((1 : Nat), AVal.int IntKind.u8 kind),
                                                          ((2 : Nat),
                                                            AVal.sl (0 : Nat) (0 : Nat) (1 : Nat) (0 : Nat) n none),
                                                          ((7 : Nat), AVal.ptr (2 : Nat) (0 : Nat) (0 : Nat) (0 : Nat)),
                                                          ((8 : Nat), AVal.ptr (3 : Nat) (0 : Nat) (0 : Nat) (0 : Nat)),
                                                          ((9 : Nat), AVal.ptr (4 : Nat) (0 : Nat) (0 : Nat) (0 : Nat)),
                                                          ((10 : Nat), AVal.str (all ++ x)),
                                                          ((11 : Nat),
                                                            AVal.ptr (5 : Nat) (0 : Nat) (0 : Nat) (0 : Nat)),
                                                          ((12 : Nat), AVal.int IntKind.i64 (i + (1 : Int)))]
                                                        (AHeap.mk (6 : Nat)
                                                          [((5 : Nat),
                                                              ABlk.cells (28 : Nat)
                                                                [AVal.bool true, AVal.bool false,
                                                                  AVal.int IntKind.i64 id,
                                                                  AVal.int IntKind.i64
                                                                    (pTotal lk lb (↑cdata.length : Int)),
                                                                  AVal.int IntKind.i64 typ, AVal.int IntKind.i64 lk,
                                                                  AVal.str lb, AVal.str x, AVal.str []]),
                                                            ((4 : Nat),
                                                              ABlk.cells (26 : Nat)
                                                                [AVal.int IntKind.i64 typ, AVal.int IntKind.i64 lk,
                                                                  AVal.str lb, AVal.str cdata, AVal.int IntKind.i64 n_1,
                                                                  AVal.int IntKind.i64 id]),
                                                            ((3 : Nat),
                                                              ABlk.cells (24 : Nat)
                                                                [AVal.int IntKind.i64 lk, AVal.str lb]),
                                                            ((2 : Nat),
                                                              ABlk.cells (24 : Nat)
                                                                [AVal.int IntKind.i64 k0, AVal.str b0]),
                                                            ((0 : Nat),
                                                              ABlk.row (22 : Nat) (intRow IntKind.u16) sp
                                                                RowMd.ro)]))))))))))))))))))) ∧
                (∀ (x s : List UInt8),
                    nextR typ k b cdata at_ id lk lb ((20 : Int) + i % (50 : Int)) false =
                        NextR.mk false true id (0 : Int) (0 : Int) (0 : Int) [] x s k b (↑cdata.length : Int)
                          (0 : Int) →
                      obl (decide (([] : List UInt8).length + x.length + s.length ≤ (9223372036854775000 : Nat)))
                        (branch (!decide (gErr false true id (0 : Int) (0 : Int) (0 : Int) [] x s = (0 : Int)))
                          (Q AExit.ret
                            [((0 : Nat), AVal.str data), ((1 : Nat), AVal.int IntKind.u8 kind),
                              ((2 : Nat), AVal.sl (0 : Nat) (0 : Nat) (1 : Nat) (0 : Nat) n none),
                              ((7 : Nat), AVal.ptr (2 : Nat) (0 : Nat) (0 : Nat) (0 : Nat)),
                              ((8 : Nat), AVal.ptr (3 : Nat) (0 : Nat) (0 : Nat) (0 : Nat)),
                              ((9 : Nat), AVal.ptr (4 : Nat) (0 : Nat) (0 : Nat) (0 : Nat)), ((10 : Nat), AVal.str all),
                              ((11 : Nat), AVal.ptr (5 : Nat) (0 : Nat) (0 : Nat) (0 : Nat)),
                              ((12 : Nat), AVal.int IntKind.i64 i)]
                            (AHeap.mk (6 : Nat)
                              [((5 : Nat),
                                  ABlk.cells (28 : Nat)
                                    [AVal.bool pst, AVal.bool pen, AVal.int IntKind.i64 pid, AVal.int IntKind.i64 ptot,
                                      AVal.int IntKind.i64 ptyp, AVal.int IntKind.i64 pk, AVal.str plb, AVal.str pdata,
                                      AVal.str psum]),
                                ((4 : Nat),
                                  ABlk.cells (26 : Nat)
                                    [AVal.int IntKind.i64 typ, AVal.int IntKind.i64 k, AVal.str b, AVal.str cdata,
                                      AVal.int IntKind.i64 at_, AVal.int IntKind.i64 id]),
                                ((3 : Nat), ABlk.cells (24 : Nat) [AVal.int IntKind.i64 lk, AVal.str lb]),
                                ((2 : Nat), ABlk.cells (24 : Nat) [AVal.int IntKind.i64 k0, AVal.str b0]),
                                ((0 : Nat), ABlk.row (22 : Nat) (intRow IntKind.u16) sp RowMd.ro)]))
                          (branch
                            (decide
                              ((20 : Int) + i % (50 : Int) <
                                (↑(gEnc false true id (0 : Int) (0 : Int) (0 : Int) [] x s).length : Int)))
                            (Q AExit.ret
                              [((0 : Nat), AVal.str data), ((1 : Nat), AVal.int IntKind.u8 kind),
                                ((2 : Nat), AVal.sl (0 : Nat) (0 : Nat) (1 : Nat) (0 : Nat) n none),
                                ((7 : Nat), AVal.ptr (2 : Nat) (0 : Nat) (0 : Nat) (0 : Nat)),
                                ((8 : Nat), AVal.ptr (3 : Nat) (0 : Nat) (0 : Nat) (0 : Nat)),
                                ((9 : Nat), AVal.ptr (4 : Nat) (0 : Nat) (0 : Nat) (0 : Nat)),
                                ((10 : Nat), AVal.str all),
                                ((11 : Nat), AVal.ptr (5 : Nat) (0 : Nat) (0 : Nat) (0 : Nat)),
                                ((12 : Nat), AVal.int IntKind.i64 i)]
                              (AHeap.mk (6 : Nat)
                                [((5 : Nat),
                                    ABlk.cells (28 : Nat)
                                      [AVal.bool pst, AVal.bool pen, AVal.int IntKind.i64 pid,
                                        AVal.int IntKind.i64 ptot, AVal.int IntKind.i64 ptyp, AVal.int IntKind.i64 pk,
                                        AVal.str plb, AVal.str pdata, AVal.str psum]),
                                  ((4 : Nat),
                                    ABlk.cells (26 : Nat)
                                      [AVal.int IntKind.i64 typ, AVal.int IntKind.i64 k, AVal.str b, AVal.str cdata,
                                        AVal.int IntKind.i64 at_, AVal.int IntKind.i64 id]),
                                  ((3 : Nat), ABlk.cells (24 : Nat) [AVal.int IntKind.i64 lk, AVal.str lb]),
                                  ((2 : Nat), ABlk.cells (24 : Nat) [AVal.int IntKind.i64 k0, AVal.str b0]),
                                  ((0 : Nat), ABlk.row (22 : Nat) (intRow IntKind.u16) sp RowMd.ro)]))
                            (branch
                              (decide
                                ((4097 : Int) <
                                  (↑(gEnc false true id (0 : Int) (0 : Int) (0 : Int) [] x s).length : Int)))
                              (Q AExit.ret
                                [((0 : Nat), AVal.str data), ((1 : Nat), AVal.int IntKind.u8 kind),
                                  ((2 : Nat), AVal.sl (0 : Nat) (0 : Nat) (1 : Nat) (0 : Nat) n none),
                                  ((7 : Nat), AVal.ptr (2 : Nat) (0 : Nat) (0 : Nat) (0 : Nat)),
                                  ((8 : Nat), AVal.ptr (3 : Nat) (0 : Nat) (0 : Nat) (0 : Nat)),
                                  ((9 : Nat), AVal.ptr (4 : Nat) (0 : Nat) (0 : Nat) (0 : Nat)),
                                  ((10 : Nat), AVal.str all),
                                  ((11 : Nat), AVal.ptr (5 : Nat) (0 : Nat) (0 : Nat) (0 : Nat)),
                                  ((12 : Nat), AVal.int IntKind.i64 i)]
                                (AHeap.mk (6 : Nat)
                                  [((5 : Nat),
                                      ABlk.cells (28 : Nat)
                                        [AVal.bool pst, AVal.bool pen, AVal.int IntKind.i64 pid,
                                          AVal.int IntKind.i64 ptot, AVal.int IntKind.i64 ptyp, AVal.int IntKind.i64 pk,
                                          AVal.str plb, AVal.str pdata, AVal.str psum]),
                                    ((4 : Nat),
                                      ABlk.cells (26 : Nat)
                                        [AVal.int IntKind.i64 typ, AVal.int IntKind.i64 k, AVal.str b, AVal.str cdata,
                                          AVal.int IntKind.i64 at_, AVal.int IntKind.i64 id]),
                                    ((3 : Nat), ABlk.cells (24 : Nat) [AVal.int IntKind.i64 lk, AVal.str lb]),
                                    ((2 : Nat), ABlk.cells (24 : Nat) [AVal.int IntKind.i64 k0, AVal.str b0]),
                                    ((0 : Nat), ABlk.row (22 : Nat) (intRow IntKind.u16) sp RowMd.ro)]))
                              (branch (!false == decide (all = []))
                                (Q AExit.ret
                                  [((0 : Nat), AVal.str data), ((1 : Nat), AVal.int IntKind.u8 kind),
                                    ((2 : Nat), AVal.sl (0 : Nat) (0 : Nat) (1 : Nat) (0 : Nat) n none),
                                    ((7 : Nat), AVal.ptr (2 : Nat) (0 : Nat) (0 : Nat) (0 : Nat)),
                                    ((8 : Nat), AVal.ptr (3 : Nat) (0 : Nat) (0 : Nat) (0 : Nat)),
                                    ((9 : Nat), AVal.ptr (4 : Nat) (0 : Nat) (0 : Nat) (0 : Nat)),
                                    ((10 : Nat), AVal.str all),
                                    ((11 : Nat), AVal.ptr (5 : Nat) (0 : Nat) (0 : Nat) (0 : Nat)),
                                    ((12 : Nat), AVal.int IntKind.i64 i)]
                                  (AHeap.mk (6 : Nat)
                                    [((5 : Nat),
                                        ABlk.cells (28 : Nat)
                                          [AVal.bool pst, AVal.bool pen, AVal.int IntKind.i64 pid,
                                            AVal.int IntKind.i64 ptot, AVal.int IntKind.i64 ptyp,
                                            AVal.int IntKind.i64 pk, AVal.str plb, AVal.str pdata, AVal.str psum]),
                                      ((4 : Nat),
                                        ABlk.cells (26 : Nat)
                                          [AVal.int IntKind.i64 typ, AVal.int IntKind.i64 k, AVal.str b, AVal.str cdata,
                                            AVal.int IntKind.i64 at_, AVal.int IntKind.i64 id]),
                                      ((3 : Nat), ABlk.cells (24 : Nat) [AVal.int IntKind.i64 lk, AVal.str lb]),
                                      ((2 : Nat), ABlk.cells (24 : Nat) [AVal.int IntKind.i64 k0, AVal.str b0]),
                                      ((0 : Nat), ABlk.row (22 : Nat) (intRow IntKind.u16) sp RowMd.ro)]))
                                (branch (decide (x = []))
                                  (Q AExit.ret
                                    [((0 : Nat), AVal.str data), ((1 : Nat), AVal.int IntKind.u8 kind),
                                      ((2 : Nat), AVal.sl (0 : Nat) (0 : Nat) (1 : Nat) (0 : Nat) n none),
                                      ((7 : Nat), AVal.ptr (2 : Nat) (0 : Nat) (0 : Nat) (0 : Nat)),
                                      ((8 : Nat), AVal.ptr (3 : Nat) (0 : Nat) (0 : Nat) (0 : Nat)),
                                      ((9 : Nat), AVal.ptr (4 : Nat) (0 : Nat) (0 : Nat) (0 : Nat)),
                                      ((10 : Nat), AVal.str all),
                                      ((11 : Nat), AVal.ptr (5 : Nat) (0 : Nat) (0 : Nat) (0 : Nat)),
                                      ((12 : Nat), AVal.int IntKind.i64 i)]
                                    (AHeap.mk (6 : Nat)
                                      [((5 : Nat),
                                          ABlk.cells (28 : Nat)
                                            [AVal.bool pst, AVal.bool pen, AVal.int IntKind.i64 pid,
                                              AVal.int IntKind.i64 ptot, AVal.int IntKind.i64 ptyp,
                                              AVal.int IntKind.i64 pk, AVal.str plb, AVal.str pdata, AVal.str psum]),
                                        ((4 : Nat),
                                          ABlk.cells (26 : Nat)
                                            [AVal.int IntKind.i64 typ, AVal.int IntKind.i64 k, AVal.str b,
                                              AVal.str cdata, AVal.int IntKind.i64 at_, AVal.int IntKind.i64 id]),
                                        ((3 : Nat), ABlk.cells (24 : Nat) [AVal.int IntKind.i64 lk, AVal.str lb]),
                                        ((2 : Nat), ABlk.cells (24 : Nat) [AVal.int IntKind.i64 k0, AVal.str b0]),
                                        ((0 : Nat), ABlk.row (22 : Nat) (intRow IntKind.u16) sp RowMd.ro)]))
                                  (obl (inI64 (at_ + (↑x.length : Int)))
                                    (branch (!decide ((↑cdata.length : Int) = at_ + (↑x.length : Int)))
                                      (Q AExit.ret
                                        [((0 : Nat), AVal.str data), ((1 : Nat), AVal.int IntKind.u8 kind),
                                          ((2 : Nat), AVal.sl (0 : Nat) (0 : Nat) (1 : Nat) (0 : Nat) n none),
                                          ((7 : Nat), AVal.ptr (2 : Nat) (0 : Nat) (0 : Nat) (0 : Nat)),
                                          ((8 : Nat), AVal.ptr (3 : Nat) (0 : Nat) (0 : Nat) (0 : Nat)),
                                          ((9 : Nat), AVal.ptr (4 : Nat) (0 : Nat) (0 : Nat) (0 : Nat)),
                                          ((10 : Nat), AVal.str all),
                                          ((11 : Nat), AVal.ptr (5 : Nat) (0 : Nat) (0 : Nat) (0 : Nat)),
                                          ((12 : Nat), AVal.int IntKind.i64 i)]
                                        (AHeap.mk (6 : Nat)
                                          [((5 : Nat),
                                              ABlk.cells (28 : Nat)
                                                [AVal.bool pst, AVal.bool pen, AVal.int IntKind.i64 pid,
                                                  AVal.int IntKind.i64 ptot, AVal.int IntKind.i64 ptyp,
                                                  AVal.int IntKind.i64 pk, AVal.str plb, AVal.str pdata,
                                                  AVal.str psum]),
                                            ((4 : Nat),
                                              ABlk.cells (26 : Nat)
                                                [AVal.int IntKind.i64 typ, AVal.int IntKind.i64 k, AVal.str b,
                                                  AVal.str cdata, AVal.int IntKind.i64 at_, AVal.int IntKind.i64 id]),
                                            ((3 : Nat), ABlk.cells (24 : Nat) [AVal.int IntKind.i64 lk, AVal.str lb]),
                                            ((2 : Nat), ABlk.cells (24 : Nat) [AVal.int IntKind.i64 k0, AVal.str b0]),
                                            ((0 : Nat), ABlk.row (22 : Nat) (intRow IntKind.u16) sp RowMd.ro)]))
                                      (obl (decide ((↑(all.length + x.length) : Int) ≤ (9223372036854775807 : Int)))
                                        (branch (!true == decide ((↑(all ++ x).length : Int) = (↑data.length : Int)))
                                          (Q AExit.ret
                                            [((0 : Nat), AVal.str data), ((1 : Nat), AVal.int IntKind.u8 kind),
                                              ((2 : Nat), AVal.sl (0 : Nat) (0 : Nat) (1 : Nat) (0 : Nat) n none),
                                              ((7 : Nat), AVal.ptr (2 : Nat) (0 : Nat) (0 : Nat) (0 : Nat)),
                                              ((8 : Nat), AVal.ptr (3 : Nat) (0 : Nat) (0 : Nat) (0 : Nat)),
                                              ((9 : Nat), AVal.ptr (4 : Nat) (0 : Nat) (0 : Nat) (0 : Nat)),
                                              ((10 : Nat), AVal.str (all ++ x)),
                                              ((11 : Nat), AVal.ptr (5 : Nat) (0 : Nat) (0 : Nat) (0 : Nat)),
                                              ((12 : Nat), AVal.int IntKind.i64 i)]
                                            (AHeap.mk (6 : Nat)
                                              [((5 : Nat),
                                                  ABlk.cells (28 : Nat)
                                                    [AVal.bool pst, AVal.bool pen, AVal.int IntKind.i64 pid,
                                                      AVal.int IntKind.i64 ptot, AVal.int IntKind.i64 ptyp,
                                                      AVal.int IntKind.i64 pk, AVal.str plb, AVal.str pdata,
                                                      AVal.str psum]),
                                                ((4 : Nat),
                                                  ABlk.cells (26 : Nat)
                                                    [AVal.int IntKind.i64 typ, AVal.int IntKind.i64 k, AVal.str b,
                                                      AVal.str cdata, AVal.int IntKind.i64 at_,
                                                      AVal.int IntKind.i64 id]),
                                                ((3 : Nat),
                                                  ABlk.cells (24 : Nat) [AVal.int IntKind.i64 lk, AVal.str lb]),
                                                ((2 : Nat),
                                                  ABlk.cells (24 : Nat) [AVal.int IntKind.i64 k0, AVal.str b0]),
                                                ((0 : Nat), ABlk.row (22 : Nat) (intRow IntKind.u16) sp RowMd.ro)]))
                                          (obl (inI64 kind)
                                            (branch (!decide (id = kind))
                                              (Q AExit.ret
                                                [((0 : Nat), AVal.str data), ((1 : Nat), AVal.int IntKind.u8 kind),
                                                  ((2 : Nat), AVal.sl (0 : Nat) (0 : Nat) (1 : Nat) (0 : Nat) n none),
                                                  ((7 : Nat), AVal.ptr (2 : Nat) (0 : Nat) (0 : Nat) (0 : Nat)),
                                                  ((8 : Nat), AVal.ptr (3 : Nat) (0 : Nat) (0 : Nat) (0 : Nat)),
                                                  ((9 : Nat), AVal.ptr (4 : Nat) (0 : Nat) (0 : Nat) (0 : Nat)),
                                                  ((10 : Nat), AVal.str (all ++ x)),
                                                  ((11 : Nat), AVal.ptr (5 : Nat) (0 : Nat) (0 : Nat) (0 : Nat)),
                                                  ((12 : Nat), AVal.int IntKind.i64 i)]
                                                (AHeap.mk (6 : Nat)
                                                  [((5 : Nat),
                                                      ABlk.cells (28 : Nat)
                                                        [AVal.bool pst, AVal.bool pen, AVal.int IntKind.i64 pid,
                                                          AVal.int IntKind.i64 ptot, AVal.int IntKind.i64 ptyp,
                                                          AVal.int IntKind.i64 pk, AVal.str plb, AVal.str pdata,
                                                          AVal.str psum]),
                                                    ((4 : Nat),
                                                      ABlk.cells (26 : Nat)
                                                        [AVal.int IntKind.i64 typ, AVal.int IntKind.i64 k, AVal.str b,
                                                          AVal.str cdata, AVal.int IntKind.i64 at_,
                                                          AVal.int IntKind.i64 id]),
                                                    ((3 : Nat),
                                                      ABlk.cells (24 : Nat) [AVal.int IntKind.i64 lk, AVal.str lb]),
                                                    ((2 : Nat),
                                                      ABlk.cells (24 : Nat) [AVal.int IntKind.i64 k0, AVal.str b0]),
                                                    ((0 : Nat), ABlk.row (22 : Nat) (intRow IntKind.u16) sp RowMd.ro)]))
                                              (obl (inI64 (i + (1 : Int)))
                                                (Q AExit.normal
                                                  [((0 : Nat), AVal.str data), ((1 : Nat), AVal.int IntKind.u8 kind),
                                                    ((2 : Nat), AVal.sl (0 : Nat) (0 : Nat) (1 : Nat) (0 : Nat) n none),
                                                    ((7 : Nat), AVal.ptr (2 : Nat) (0 : Nat) (0 : Nat) (0 : Nat)),
                                                    ((8 : Nat), AVal.ptr (3 : Nat) (0 : Nat) (0 : Nat) (0 : Nat)),
                                                    ((9 : Nat), AVal.ptr (4 : Nat) (0 : Nat) (0 : Nat) (0 : Nat)),
                                                    ((10 : Nat), AVal.str (all ++ x)),
                                                    ((11 : Nat), AVal.ptr (5 : Nat) (0 : Nat) (0 : Nat) (0 : Nat)),
                                                    ((12 : Nat), AVal.int IntKind.i64 (i + (1 : Int)))]
                                                  (AHeap.mk (6 : Nat)
                                                    [((5 : Nat),
                                                        ABlk.cells (28 : Nat)
                                                          [AVal.bool false, AVal.bool true, AVal.int IntKind.i64 id,
                                                            AVal.int IntKind.i64 (0 : Int),
                                                            AVal.int IntKind.i64 (0 : Int),
                                                            AVal.int IntKind.i64 (0 : Int), AVal.str [], AVal.str x,
                                                            AVal.str s]),
                                                      ((4 : Nat),
                                                        ABlk.cells (26 : Nat)
                                                          [AVal.int IntKind.i64 typ, AVal.int IntKind.i64 k, AVal.str b,
                                                            AVal.str cdata, AVal.int IntKind.i64 (↑cdata.length : Int),
                                                            AVal.int IntKind.i64 id]),
                                                      ((3 : Nat),
                                                        ABlk.cells (24 : Nat) [AVal.int IntKind.i64 lk, AVal.str lb]),
                                                      ((2 : Nat),
                                                        ABlk.cells (24 : Nat) [AVal.int IntKind.i64 k0, AVal.str b0]),
                                                      ((0 : Nat),
                                                        ABlk.row (22 : Nat) (intRow IntKind.u16) sp
                                                          RowMd.ro)]))))))))))))))) ∧
                  ∀ (n_1 : Int) (x : List UInt8),
                    nextR typ k b cdata at_ id lk lb ((20 : Int) + i % (50 : Int)) false =
                        NextR.mk false false id (0 : Int) (0 : Int) (0 : Int) [] x [] k b n_1 (0 : Int) →
                      obl (decide (([] : List UInt8).length + x.length + ([] : List UInt8).length ≤ (9223372036854775000 : Nat)))
                        (branch (!decide (gErr false false id (0 : Int) (0 : Int) (0 : Int) [] x [] = (0 : Int)))
                          (Q AExit.ret
                            [((0 : Nat), AVal.str data), ((1 : Nat), AVal.int IntKind.u8 kind),
                              ((2 : Nat), AVal.sl (0 : Nat) (0 : Nat) (1 : Nat) (0 : Nat) n none),
                              ((7 : Nat), AVal.ptr (2 : Nat) (0 : Nat) (0 : Nat) (0 : Nat)),
                              ((8 : Nat), AVal.ptr (3 : Nat) (0 : Nat) (0 : Nat) (0 : Nat)),
                              ((9 : Nat), AVal.ptr (4 : Nat) (0 : Nat) (0 : Nat) (0 : Nat)), ((10 : Nat), AVal.str all),
                              ((11 : Nat), AVal.ptr (5 : Nat) (0 : Nat) (0 : Nat) (0 : Nat)),
                              ((12 : Nat), AVal.int IntKind.i64 i)]
                            (AHeap.mk (6 : Nat)
                              [((5 : Nat),
                                  ABlk.cells (28 : Nat)
                                    [AVal.bool pst, AVal.bool pen, AVal.int IntKind.i64 pid, AVal.int IntKind.i64 ptot,
                                      AVal.int IntKind.i64 ptyp, AVal.int IntKind.i64 pk, AVal.str plb, AVal.str pdata,
                                      AVal.str psum]),
                                ((4 : Nat),
                                  ABlk.cells (26 : Nat)
                                    [AVal.int IntKind.i64 typ, AVal.int IntKind.i64 k, AVal.str b, AVal.str cdata,
                                      AVal.int IntKind.i64 at_, AVal.int IntKind.i64 id]),
                                ((3 : Nat), ABlk.cells (24 : Nat) [AVal.int IntKind.i64 lk, AVal.str lb]),
                                ((2 : Nat), ABlk.cells (24 : Nat) [AVal.int IntKind.i64 k0, AVal.str b0]),
                                ((0 : Nat), ABlk.row (22 : Nat) (intRow IntKind.u16) sp RowMd.ro)]))
                          (branch
                            (decide
                              ((20 : Int) + i % (50 : Int) <
                                (↑(gEnc false false id (0 : Int) (0 : Int) (0 : Int) [] x []).length : Int)))
                            (Q AExit.ret
                              [((0 : Nat), AVal.str data), ((1 : Nat), AVal.int IntKind.u8 kind),
                                ((2 : Nat), AVal.sl (0 : Nat) (0 : Nat) (1 : Nat) (0 : Nat) n none),
                                ((7 : Nat), AVal.ptr (2 : Nat) (0 : Nat) (0 : Nat) (0 : Nat)),
                                ((8 : Nat), AVal.ptr (3 : Nat) (0 : Nat) (0 : Nat) (0 : Nat)),
                                ((9 : Nat), AVal.ptr (4 : Nat) (0 : Nat) (0 : Nat) (0 : Nat)),
                                ((10 : Nat), AVal.str all),
                                ((11 : Nat), AVal.ptr (5 : Nat) (0 : Nat) (0 : Nat) (0 : Nat)),
                                ((12 : Nat), AVal.int IntKind.i64 i)]
                              (AHeap.mk (6 : Nat)
                                [((5 : Nat),
                                    ABlk.cells (28 : Nat)
                                      [AVal.bool pst, AVal.bool pen, AVal.int IntKind.i64 pid,
                                        AVal.int IntKind.i64 ptot, AVal.int IntKind.i64 ptyp, AVal.int IntKind.i64 pk,
                                        AVal.str plb, AVal.str pdata, AVal.str psum]),
                                  ((4 : Nat),
                                    ABlk.cells (26 : Nat)
                                      [AVal.int IntKind.i64 typ, AVal.int IntKind.i64 k, AVal.str b, AVal.str cdata,
                                        AVal.int IntKind.i64 at_, AVal.int IntKind.i64 id]),
                                  ((3 : Nat), ABlk.cells (24 : Nat) [AVal.int IntKind.i64 lk, AVal.str lb]),
                                  ((2 : Nat), ABlk.cells (24 : Nat) [AVal.int IntKind.i64 k0, AVal.str b0]),
                                  ((0 : Nat), ABlk.row (22 : Nat) (intRow IntKind.u16) sp RowMd.ro)]))
                            (branch
                              (decide
                                ((4097 : Int) <
                                  (↑(gEnc false false id (0 : Int) (0 : Int) (0 : Int) [] x []).length : Int)))
                              (Q AExit.ret
                                [((0 : Nat), AVal.str data), ((1 : Nat), AVal.int IntKind.u8 kind),
                                  ((2 : Nat), AVal.sl (0 : Nat) (0 : Nat) (1 : Nat) (0 : Nat) n none),
                                  ((7 : Nat), AVal.ptr (2 : Nat) (0 : Nat) (0 : Nat) (0 : Nat)),
                                  ((8 : Nat), AVal.ptr (3 : Nat) (0 : Nat) (0 : Nat) (0 : Nat)),
                                  ((9 : Nat), AVal.ptr (4 : Nat) (0 : Nat) (0 : Nat) (0 : Nat)),
                                  ((10 : Nat), AVal.str all),
                                  ((11 : Nat), AVal.ptr (5 : Nat) (0 : Nat) (0 : Nat) (0 : Nat)),
                                  ((12 : Nat), AVal.int IntKind.i64 i)]
                                (AHeap.mk (6 : Nat)
                                  [((5 : Nat),
                                      ABlk.cells (28 : Nat)
                                        [AVal.bool pst, AVal.bool pen, AVal.int IntKind.i64 pid,
                                          AVal.int IntKind.i64 ptot, AVal.int IntKind.i64 ptyp, AVal.int IntKind.i64 pk,
                                          AVal.str plb, AVal.str pdata, AVal.str psum]),
                                    ((4 : Nat),
                                      ABlk.cells (26 : Nat)
                                        [AVal.int IntKind.i64 typ, AVal.int IntKind.i64 k, AVal.str b, AVal.str cdata,
                                          AVal.int IntKind.i64 at_, AVal.int IntKind.i64 id]),
                                    ((3 : Nat), ABlk.cells (24 : Nat) [AVal.int IntKind.i64 lk, AVal.str lb]),
                                    ((2 : Nat), ABlk.cells (24 : Nat) [AVal.int IntKind.i64 k0, AVal.str b0]),
                                    ((0 : Nat), ABlk.row (22 : Nat) (intRow IntKind.u16) sp RowMd.ro)]))
                              (branch (!false == decide (all = []))
                                (Q AExit.ret
                                  [((0 : Nat), AVal.str data), ((1 : Nat), AVal.int IntKind.u8 kind),
                                    ((2 : Nat), AVal.sl (0 : Nat) (0 : Nat) (1 : Nat) (0 : Nat) n none),
                                    ((7 : Nat), AVal.ptr (2 : Nat) (0 : Nat) (0 : Nat) (0 : Nat)),
                                    ((8 : Nat), AVal.ptr (3 : Nat) (0 : Nat) (0 : Nat) (0 : Nat)),
                                    ((9 : Nat), AVal.ptr (4 : Nat) (0 : Nat) (0 : Nat) (0 : Nat)),
                                    ((10 : Nat), AVal.str all),
                                    ((11 : Nat), AVal.ptr (5 : Nat) (0 : Nat) (0 : Nat) (0 : Nat)),
                                    ((12 : Nat), AVal.int IntKind.i64 i)]
                                  (AHeap.mk (6 : Nat)
                                    [((5 : Nat),
                                        ABlk.cells (28 : Nat)
                                          [AVal.bool pst, AVal.bool pen, AVal.int IntKind.i64 pid,
                                            AVal.int IntKind.i64 ptot, AVal.int IntKind.i64 ptyp,
                                            AVal.int IntKind.i64 pk, AVal.str plb, AVal.str pdata, AVal.str psum]),
                                      ((4 : Nat),
                                        ABlk.cells (26 : Nat)
                                          [AVal.int IntKind.i64 typ, AVal.int IntKind.i64 k, AVal.str b, AVal.str cdata,
                                            AVal.int IntKind.i64 at_, AVal.int IntKind.i64 id]),
                                      ((3 : Nat), ABlk.cells (24 : Nat) [AVal.int IntKind.i64 lk, AVal.str lb]),
                                      ((2 : Nat), ABlk.cells (24 : Nat) [AVal.int IntKind.i64 k0, AVal.str b0]),
                                      ((0 : Nat), ABlk.row (22 : Nat) (intRow IntKind.u16) sp RowMd.ro)]))
                                (branch (decide (x = []))
                                  (Q AExit.ret
                                    [((0 : Nat), AVal.str data), ((1 : Nat), AVal.int IntKind.u8 kind),
                                      ((2 : Nat), AVal.sl (0 : Nat) (0 : Nat) (1 : Nat) (0 : Nat) n none),
                                      ((7 : Nat), AVal.ptr (2 : Nat) (0 : Nat) (0 : Nat) (0 : Nat)),
                                      ((8 : Nat), AVal.ptr (3 : Nat) (0 : Nat) (0 : Nat) (0 : Nat)),
                                      ((9 : Nat), AVal.ptr (4 : Nat) (0 : Nat) (0 : Nat) (0 : Nat)),
                                      ((10 : Nat), AVal.str all),
                                      ((11 : Nat), AVal.ptr (5 : Nat) (0 : Nat) (0 : Nat) (0 : Nat)),
                                      ((12 : Nat), AVal.int IntKind.i64 i)]
                                    (AHeap.mk (6 : Nat)
                                      [((5 : Nat),
                                          ABlk.cells (28 : Nat)
                                            [AVal.bool pst, AVal.bool pen, AVal.int IntKind.i64 pid,
                                              AVal.int IntKind.i64 ptot, AVal.int IntKind.i64 ptyp,
                                              AVal.int IntKind.i64 pk, AVal.str plb, AVal.str pdata, AVal.str psum]),
                                        ((4 : Nat),
                                          ABlk.cells (26 : Nat)
                                            [AVal.int IntKind.i64 typ, AVal.int IntKind.i64 k, AVal.str b,
                                              AVal.str cdata, AVal.int IntKind.i64 at_, AVal.int IntKind.i64 id]),
                                        ((3 : Nat), ABlk.cells (24 : Nat) [AVal.int IntKind.i64 lk, AVal.str lb]),
                                        ((2 : Nat), ABlk.cells (24 : Nat) [AVal.int IntKind.i64 k0, AVal.str b0]),
                                        ((0 : Nat), ABlk.row (22 : Nat) (intRow IntKind.u16) sp RowMd.ro)]))
                                  (obl (inI64 (at_ + (↑x.length : Int)))
                                    (branch (!decide (n_1 = at_ + (↑x.length : Int)))
                                      (Q AExit.ret
                                        [((0 : Nat), AVal.str data), ((1 : Nat), AVal.int IntKind.u8 kind),
                                          ((2 : Nat), AVal.sl (0 : Nat) (0 : Nat) (1 : Nat) (0 : Nat) n none),
                                          ((7 : Nat), AVal.ptr (2 : Nat) (0 : Nat) (0 : Nat) (0 : Nat)),
                                          ((8 : Nat), AVal.ptr (3 : Nat) (0 : Nat) (0 : Nat) (0 : Nat)),
                                          ((9 : Nat), AVal.ptr (4 : Nat) (0 : Nat) (0 : Nat) (0 : Nat)),
                                          ((10 : Nat), AVal.str all),
                                          ((11 : Nat), AVal.ptr (5 : Nat) (0 : Nat) (0 : Nat) (0 : Nat)),
                                          ((12 : Nat), AVal.int IntKind.i64 i)]
                                        (AHeap.mk (6 : Nat)
                                          [((5 : Nat),
                                              ABlk.cells (28 : Nat)
                                                [AVal.bool pst, AVal.bool pen, AVal.int IntKind.i64 pid,
                                                  AVal.int IntKind.i64 ptot, AVal.int IntKind.i64 ptyp,
                                                  AVal.int IntKind.i64 pk, AVal.str plb, AVal.str pdata,
                                                  AVal.str psum]),
                                            ((4 : Nat),
                                              ABlk.cells (26 : Nat)
                                                [AVal.int IntKind.i64 typ, AVal.int IntKind.i64 k, AVal.str b,
                                                  AVal.str cdata, AVal.int IntKind.i64 at_, AVal.int IntKind.i64 id]),
                                            ((3 : Nat), ABlk.cells (24 : Nat) [AVal.int IntKind.i64 lk, AVal.str lb]),
                                            ((2 : Nat), ABlk.cells (24 : Nat) [AVal.int IntKind.i64 k0, AVal.str b0]),
                                            ((0 : Nat), ABlk.row (22 : Nat) (intRow IntKind.u16) sp RowMd.ro)]))
                                      (obl (decide ((↑(all.length + x.length) : Int) ≤ (9223372036854775807 : Int)))
                                        (branch (!false == decide ((↑(all ++ x).length : Int) = (↑data.length : Int)))
                                          (Q AExit.ret
                                            [((0 : Nat), AVal.str data), ((1 : Nat), AVal.int IntKind.u8 kind),
                                              ((2 : Nat), AVal.sl (0 : Nat) (0 : Nat) (1 : Nat) (0 : Nat) n none),
                                              ((7 : Nat), AVal.ptr (2 : Nat) (0 : Nat) (0 : Nat) (0 : Nat)),
                                              ((8 : Nat), AVal.ptr (3 : Nat) (0 : Nat) (0 : Nat) (0 : Nat)),
                                              ((9 : Nat), AVal.ptr (4 : Nat) (0 : Nat) (0 : Nat) (0 : Nat)),
                                              ((10 : Nat), AVal.str (all ++ x)),
                                              ((11 : Nat), AVal.ptr (5 : Nat) (0 : Nat) (0 : Nat) (0 : Nat)),
                                              ((12 : Nat), AVal.int IntKind.i64 i)]
                                            (AHeap.mk (6 : Nat)
                                              [((5 : Nat),
                                                  ABlk.cells (28 : Nat)
                                                    [AVal.bool pst, AVal.bool pen, AVal.int IntKind.i64 pid,
                                                      AVal.int IntKind.i64 ptot, AVal.int IntKind.i64 ptyp,
                                                      AVal.int IntKind.i64 pk, AVal.str plb, AVal.str pdata,
                                                      AVal.str psum]),
                                                ((4 : Nat),
                                                  ABlk.cells (26 : Nat)
                                                    [AVal.int IntKind.i64 typ, AVal.int IntKind.i64 k, AVal.str b,
                                                      AVal.str cdata, AVal.int IntKind.i64 at_,
                                                      AVal.int IntKind.i64 id]),
                                                ((3 : Nat),
                                                  ABlk.cells (24 : Nat) [AVal.int IntKind.i64 lk, AVal.str lb]),
                                                ((2 : Nat),
                                                  ABlk.cells (24 : Nat) [AVal.int IntKind.i64 k0, AVal.str b0]),
                                                ((0 : Nat), ABlk.row (22 : Nat) (intRow IntKind.u16) sp RowMd.ro)]))
                                          (obl (inI64 (min ((20 : Int) + i % (50 : Int)) (4097 : Int) - (17 : Int)))
                                            (branch
                                              (decide
                                                ((↑x.length : Int) <
                                                  min ((20 : Int) + i % (50 : Int)) (4097 : Int) - (17 : Int)))
                                              (Q AExit.ret
                                                [((0 : Nat), AVal.str data), ((1 : Nat), AVal.int IntKind.u8 kind),
                                                  ((2 : Nat), AVal.sl (0 : Nat) (0 : Nat) (1 : Nat) (0 : Nat) n none),
                                                  ((7 : Nat), AVal.ptr (2 : Nat) (0 : Nat) (0 : Nat) (0 : Nat)),
                                                  ((8 : Nat), AVal.ptr (3 : Nat) (0 : Nat) (0 : Nat) (0 : Nat)),
                                                  ((9 : Nat), AVal.ptr (4 : Nat) (0 : Nat) (0 : Nat) (0 : Nat)),
                                                  ((10 : Nat), AVal.str (all ++ x)),
                                                  ((11 : Nat), AVal.ptr (5 : Nat) (0 : Nat) (0 : Nat) (0 : Nat)),
                                                  ((12 : Nat), AVal.int IntKind.i64 i)]
                                                (AHeap.mk (6 : Nat)
                                                  [((5 : Nat),
                                                      ABlk.cells (28 : Nat)
                                                        [AVal.bool pst, AVal.bool pen, AVal.int IntKind.i64 pid,
                                                          AVal.int IntKind.i64 ptot, AVal.int IntKind.i64 ptyp,
                                                          AVal.int IntKind.i64 pk, AVal.str plb, AVal.str pdata,
                                                          AVal.str psum]),
                                                    ((4 : Nat),
                                                      ABlk.cells (26 : Nat)
                                                        [AVal.int IntKind.i64 typ, AVal.int IntKind.i64 k, AVal.str b,
                                                          AVal.str cdata, AVal.int IntKind.i64 at_,
                                                          AVal.int IntKind.i64 id]),
                                                    ((3 : Nat),
                                                      ABlk.cells (24 : Nat) [AVal.int IntKind.i64 lk, AVal.str lb]),
                                                    ((2 : Nat),
                                                      ABlk.cells (24 : Nat) [AVal.int IntKind.i64 k0, AVal.str b0]),
                                                    ((0 : Nat), ABlk.row (22 : Nat) (intRow IntKind.u16) sp RowMd.ro)]))
                                              (obl (inI64 kind)
                                                (branch (!decide (id = kind))
                                                  (Q AExit.ret
                                                    [((0 : Nat), AVal.str data), ((1 : Nat), AVal.int IntKind.u8 kind),
                                                      ((2 : Nat),
                                                        AVal.sl (0 : Nat) (0 : Nat) (1 : Nat) (0 : Nat) n none),
                                                      ((7 : Nat), AVal.ptr (2 : Nat) (0 : Nat) (0 : Nat) (0 : Nat)),
                                                      ((8 : Nat), AVal.ptr (3 : Nat) (0 : Nat) (0 : Nat) (0 : Nat)),
                                                      ((9 : Nat), AVal.ptr (4 : Nat) (0 : Nat) (0 : Nat) (0 : Nat)),
                                                      ((10 : Nat), AVal.str (all ++ x)),
                                                      ((11 : Nat), AVal.ptr (5 : Nat) (0 : Nat) (0 : Nat) (0 : Nat)),
                                                      ((12 : Nat), AVal.int IntKind.i64 i)]
                                                    (AHeap.mk (6 : Nat)
                                                      [((5 : Nat),
                                                          ABlk.cells (28 : Nat)
                                                            [AVal.bool pst, AVal.bool pen, AVal.int IntKind.i64 pid,
                                                              AVal.int IntKind.i64 ptot, AVal.int IntKind.i64 ptyp,
                                                              AVal.int IntKind.i64 pk, AVal.str plb, AVal.str pdata,
                                                              AVal.str psum]),
                                                        ((4 : Nat),
                                                          ABlk.cells (26 : Nat)
                                                            [AVal.int IntKind.i64 typ, AVal.int IntKind.i64 k,
                                                              AVal.str b, AVal.str cdata, AVal.int IntKind.i64 at_,
                                                              AVal.int IntKind.i64 id]),
                                                        ((3 : Nat),
                                                          ABlk.cells (24 : Nat) [AVal.int IntKind.i64 lk, AVal.str lb]),
                                                        ((2 : Nat),
                                                          ABlk.cells (24 : Nat) [AVal.int IntKind.i64 k0, AVal.str b0]),
                                                        ((0 : Nat),
                                                          ABlk.row (22 : Nat) (intRow IntKind.u16) sp RowMd.ro)]))
                                                  (obl (inI64 (i + (1 : Int)))
                                                    (Q AExit.normal
                                                      [((0 : Nat), AVal.str data),
                                                        ((1 : Nat), AVal.int IntKind.u8 kind),
                                                        ((2 : Nat),
                                                          AVal.sl (0 : Nat) (0 : Nat) (1 : Nat) (0 : Nat) n none),
                                                        ((7 : Nat), AVal.ptr (2 : Nat) (0 : Nat) (0 : Nat) (0 : Nat)),
                                                        ((8 : Nat), AVal.ptr (3 : Nat) (0 : Nat) (0 : Nat) (0 : Nat)),
                                                        ((9 : Nat), AVal.ptr (4 : Nat) (0 : Nat) (0 : Nat) (0 : Nat)),
                                                        ((10 : Nat), AVal.str (all ++ x)),
                                                        ((11 : Nat), AVal.ptr (5 : Nat) (0 : Nat) (0 : Nat) (0 : Nat)),
                                                        ((12 : Nat), AVal.int IntKind.i64 (i + (1 : Int)))]
                                                      (AHeap.mk (6 : Nat)
                                                        [((5 : Nat),
                                                            ABlk.cells (28 : Nat)
                                                              [AVal.bool false, AVal.bool false,
                                                                AVal.int IntKind.i64 id, AVal.int IntKind.i64 (0 : Int),
                                                                AVal.int IntKind.i64 (0 : Int),
                                                                AVal.int IntKind.i64 (0 : Int), AVal.str [], AVal.str x,
                                                                AVal.str []]),
                                                          ((4 : Nat),
                                                            ABlk.cells (26 : Nat)
                                                              [AVal.int IntKind.i64 typ, AVal.int IntKind.i64 k,
                                                                AVal.str b, AVal.str cdata, AVal.int IntKind.i64 n_1,
                                                                AVal.int IntKind.i64 id]),
                                                          ((3 : Nat),
                                                            ABlk.cells (24 : Nat)
                                                              [AVal.int IntKind.i64 lk, AVal.str lb]),
                                                          ((2 : Nat),
                                                            ABlk.cells (24 : Nat)
                                                              [AVal.int IntKind.i64 k0, AVal.str b0]),
                                                          ((0 : Nat),
                                                            ABlk.row (22 : Nat) (intRow IntKind.u16) sp
                                                              RowMd.ro)]))))))))))))))))))))
  (Q (AExit.exit (0 : Nat))
    [((0 : Nat), AVal.str data), ((1 : Nat), AVal.int IntKind.u8 kind),
      ((2 : Nat), AVal.sl (0 : Nat) (0 : Nat) (1 : Nat) (0 : Nat) n none),
      ((7 : Nat), AVal.ptr (2 : Nat) (0 : Nat) (0 : Nat) (0 : Nat)),
      ((8 : Nat), AVal.ptr (3 : Nat) (0 : Nat) (0 : Nat) (0 : Nat)),
      ((9 : Nat), AVal.ptr (4 : Nat) (0 : Nat) (0 : Nat) (0 : Nat)), ((10 : Nat), AVal.str all),
      ((11 : Nat), AVal.ptr (5 : Nat) (0 : Nat) (0 : Nat) (0 : Nat)), ((12 : Nat), AVal.int IntKind.i64 i)]
    (AHeap.mk (6 : Nat)
      [((5 : Nat),
          ABlk.cells (28 : Nat)
            [AVal.bool pst, AVal.bool pen, AVal.int IntKind.i64 pid, AVal.int IntKind.i64 ptot,
              AVal.int IntKind.i64 ptyp, AVal.int IntKind.i64 pk, AVal.str plb, AVal.str pdata, AVal.str psum]),
        ((4 : Nat),
          ABlk.cells (26 : Nat)
            [AVal.int IntKind.i64 typ, AVal.int IntKind.i64 k, AVal.str b, AVal.str cdata, AVal.int IntKind.i64 at_,
              AVal.int IntKind.i64 id]),
        ((3 : Nat), ABlk.cells (24 : Nat) [AVal.int IntKind.i64 lk, AVal.str lb]),
        ((2 : Nat), ABlk.cells (24 : Nat) [AVal.int IntKind.i64 k0, AVal.str b0]),
        ((0 : Nat), ABlk.row (22 : Nat) (intRow IntKind.u16) sp RowMd.ro)]))) := by kernel_rfl

end Go.Proofs.Ytdjidmnehfjmbaa
