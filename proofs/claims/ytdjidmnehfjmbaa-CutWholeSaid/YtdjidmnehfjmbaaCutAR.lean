/-
  Walks, printed: what calls come to, as they are reckoned.
-/
import Derived.Test.YtdjidmnehfjmbaaCutASt
namespace Go.Proofs.Ytdjidmnehfjmbaa
set_option linter.unusedVariables false
set_option linter.unusedSimpArgs false
open Go.RowKit Ev

set_option maxRecDepth 100000 in
theorem w_again_round (sp : Int) (x : Int) (typ : Int) (k : Int) (b : List UInt8) (data : List UInt8) (at_ : Int) (id : Int) (typ3 : Int) (k3 : Int) (b3 : List UInt8) (data3 : List UInt8) (at3 : Int) (id3 : Int) (lk : Int) (lb : List UInt8) (base : Nat) (Q : AExit → Env → AHeap → Prop) : (wpC (TC.ctx Try.prog) 100 3 base (loopOf Try.f3 0) [(2, .int .u16 sp), (8, .ptr 0 0 0 0), (11, .ptr 3 0 0 0), (13, .ptr 4 0 0 0), (14, .int .i64 x)] ⟨5, [(4, .cells 26 [.int .i64 typ, .int .i64 k, .str b, .str data, .int .i64 at_, .int .i64 id]), (3, .cells 26 [.int .i64 typ3, .int .i64 k3, .str b3, .str data3, .int .i64 at3, .int .i64 id3]), (0, .cells 24 [.int .i64 lk, .str lb])]⟩ (fun x E H => Q x (restr [2, 8, 11, 13, 14] E) (restrH [4, 3, 0] 5 H))
) = (branch (decide (at_ < at3))
  (branch (decide (x < (400 : Int)))
    (branch (decide (at_ = (0 : Int)))
      (branch (!decide ((nextR typ k b data at_ id lk lb (11 : Int) false).err = (0 : Int)))
        (Q AExit.ret
          [((2 : Nat), AVal.int IntKind.u16 sp), ((8 : Nat), AVal.ptr (0 : Nat) (0 : Nat) (0 : Nat) (0 : Nat)),
            ((11 : Nat), AVal.ptr (3 : Nat) (0 : Nat) (0 : Nat) (0 : Nat)),
            ((13 : Nat), AVal.ptr (4 : Nat) (0 : Nat) (0 : Nat) (0 : Nat)), ((14 : Nat), AVal.int IntKind.i64 x)]
          { next := (5 : Nat),
            bs :=
              [((4 : Nat),
                  ABlk.cells (26 : Nat)
                    [AVal.int IntKind.i64 typ,
                      AVal.int IntKind.i64 (nextR typ k b data at_ id lk lb (11 : Int) false).k2,
                      AVal.str (nextR typ k b data at_ id lk lb (11 : Int) false).b2, AVal.str data,
                      AVal.int IntKind.i64 (nextR typ k b data at_ id lk lb (11 : Int) false).at2,
                      AVal.int IntKind.i64 id]),
                ((3 : Nat),
                  ABlk.cells (26 : Nat)
                    [AVal.int IntKind.i64 typ3, AVal.int IntKind.i64 k3, AVal.str b3, AVal.str data3,
                      AVal.int IntKind.i64 at3, AVal.int IntKind.i64 id3]),
                ((0 : Nat), ABlk.cells (24 : Nat) [AVal.int IntKind.i64 lk, AVal.str lb])] })
        (obl (inI64 (x + (1 : Int)))
          (Q AExit.normal
            [((2 : Nat), AVal.int IntKind.u16 sp), ((8 : Nat), AVal.ptr (0 : Nat) (0 : Nat) (0 : Nat) (0 : Nat)),
              ((11 : Nat), AVal.ptr (3 : Nat) (0 : Nat) (0 : Nat) (0 : Nat)),
              ((13 : Nat), AVal.ptr (4 : Nat) (0 : Nat) (0 : Nat) (0 : Nat)),
              ((14 : Nat), AVal.int IntKind.i64 (x + (1 : Int)))]
            { next := (5 : Nat),
              bs :=
                [((4 : Nat),
                    ABlk.cells (26 : Nat)
                      [AVal.int IntKind.i64 typ,
                        AVal.int IntKind.i64 (nextR typ k b data at_ id lk lb (11 : Int) false).k2,
                        AVal.str (nextR typ k b data at_ id lk lb (11 : Int) false).b2, AVal.str data,
                        AVal.int IntKind.i64 (nextR typ k b data at_ id lk lb (11 : Int) false).at2,
                        AVal.int IntKind.i64 id]),
                  ((3 : Nat),
                    ABlk.cells (26 : Nat)
                      [AVal.int IntKind.i64 typ3, AVal.int IntKind.i64 k3, AVal.str b3, AVal.str data3,
                        AVal.int IntKind.i64 at3, AVal.int IntKind.i64 id3]),
                  ((0 : Nat), ABlk.cells (24 : Nat) [AVal.int IntKind.i64 lk, AVal.str lb])] })))
      (branch (!decide ((nextR typ k b data at_ id lk lb (4 : Int) false).err = (0 : Int)))
        (Q AExit.ret
          [((2 : Nat), AVal.int IntKind.u16 sp), ((8 : Nat), AVal.ptr (0 : Nat) (0 : Nat) (0 : Nat) (0 : Nat)),
            ((11 : Nat), AVal.ptr (3 : Nat) (0 : Nat) (0 : Nat) (0 : Nat)),
            ((13 : Nat), AVal.ptr (4 : Nat) (0 : Nat) (0 : Nat) (0 : Nat)), ((14 : Nat), AVal.int IntKind.i64 x)]
          { next := (5 : Nat),
            bs :=
              [((4 : Nat),
                  ABlk.cells (26 : Nat)
                    [AVal.int IntKind.i64 typ,
                      AVal.int IntKind.i64 (nextR typ k b data at_ id lk lb (4 : Int) false).k2,
                      AVal.str (nextR typ k b data at_ id lk lb (4 : Int) false).b2, AVal.str data,
                      AVal.int IntKind.i64 (nextR typ k b data at_ id lk lb (4 : Int) false).at2,
                      AVal.int IntKind.i64 id]),
                ((3 : Nat),
                  ABlk.cells (26 : Nat)
                    [AVal.int IntKind.i64 typ3, AVal.int IntKind.i64 k3, AVal.str b3, AVal.str data3,
                      AVal.int IntKind.i64 at3, AVal.int IntKind.i64 id3]),
                ((0 : Nat), ABlk.cells (24 : Nat) [AVal.int IntKind.i64 lk, AVal.str lb])] })
        (obl (inI64 (x + (1 : Int)))
          (Q AExit.normal
            [((2 : Nat), AVal.int IntKind.u16 sp), ((8 : Nat), AVal.ptr (0 : Nat) (0 : Nat) (0 : Nat) (0 : Nat)),
              ((11 : Nat), AVal.ptr (3 : Nat) (0 : Nat) (0 : Nat) (0 : Nat)),
              ((13 : Nat), AVal.ptr (4 : Nat) (0 : Nat) (0 : Nat) (0 : Nat)),
              ((14 : Nat), AVal.int IntKind.i64 (x + (1 : Int)))]
            { next := (5 : Nat),
              bs :=
                [((4 : Nat),
                    ABlk.cells (26 : Nat)
                      [AVal.int IntKind.i64 typ,
                        AVal.int IntKind.i64 (nextR typ k b data at_ id lk lb (4 : Int) false).k2,
                        AVal.str (nextR typ k b data at_ id lk lb (4 : Int) false).b2, AVal.str data,
                        AVal.int IntKind.i64 (nextR typ k b data at_ id lk lb (4 : Int) false).at2,
                        AVal.int IntKind.i64 id]),
                  ((3 : Nat),
                    ABlk.cells (26 : Nat)
                      [AVal.int IntKind.i64 typ3, AVal.int IntKind.i64 k3, AVal.str b3, AVal.str data3,
                        AVal.int IntKind.i64 at3, AVal.int IntKind.i64 id3]),
                  ((0 : Nat), ABlk.cells (24 : Nat) [AVal.int IntKind.i64 lk, AVal.str lb])] }))))
    (Q (AExit.exit (0 : Nat))
      [((2 : Nat), AVal.int IntKind.u16 sp), ((8 : Nat), AVal.ptr (0 : Nat) (0 : Nat) (0 : Nat) (0 : Nat)),
        ((11 : Nat), AVal.ptr (3 : Nat) (0 : Nat) (0 : Nat) (0 : Nat)),
        ((13 : Nat), AVal.ptr (4 : Nat) (0 : Nat) (0 : Nat) (0 : Nat)), ((14 : Nat), AVal.int IntKind.i64 x)]
      { next := (5 : Nat),
        bs :=
          [((4 : Nat),
              ABlk.cells (26 : Nat)
                [AVal.int IntKind.i64 typ, AVal.int IntKind.i64 k, AVal.str b, AVal.str data, AVal.int IntKind.i64 at_,
                  AVal.int IntKind.i64 id]),
            ((3 : Nat),
              ABlk.cells (26 : Nat)
                [AVal.int IntKind.i64 typ3, AVal.int IntKind.i64 k3, AVal.str b3, AVal.str data3,
                  AVal.int IntKind.i64 at3, AVal.int IntKind.i64 id3]),
            ((0 : Nat), ABlk.cells (24 : Nat) [AVal.int IntKind.i64 lk, AVal.str lb])] }))
  (Q (AExit.exit (0 : Nat))
    [((2 : Nat), AVal.int IntKind.u16 sp), ((8 : Nat), AVal.ptr (0 : Nat) (0 : Nat) (0 : Nat) (0 : Nat)),
      ((11 : Nat), AVal.ptr (3 : Nat) (0 : Nat) (0 : Nat) (0 : Nat)),
      ((13 : Nat), AVal.ptr (4 : Nat) (0 : Nat) (0 : Nat) (0 : Nat)), ((14 : Nat), AVal.int IntKind.i64 x)]
    { next := (5 : Nat),
      bs :=
        [((4 : Nat),
            ABlk.cells (26 : Nat)
              [AVal.int IntKind.i64 typ, AVal.int IntKind.i64 k, AVal.str b, AVal.str data, AVal.int IntKind.i64 at_,
                AVal.int IntKind.i64 id]),
          ((3 : Nat),
            ABlk.cells (26 : Nat)
              [AVal.int IntKind.i64 typ3, AVal.int IntKind.i64 k3, AVal.str b3, AVal.str data3,
                AVal.int IntKind.i64 at3, AVal.int IntKind.i64 id3]),
          ((0 : Nat), ABlk.cells (24 : Nat) [AVal.int IntKind.i64 lk, AVal.str lb])] })) := by kernel_rfl

end Go.Proofs.Ytdjidmnehfjmbaa
