/-
  Walks, printed: what calls come to, as they are reckoned.
-/
import Derived.Test.YtjacnjecggedhaaFlKSt
namespace Go.Proofs.Ytjacnjecggedhaa
set_option linter.unusedVariables false
set_option linter.unusedSimpArgs false
open Go.RowKit Ev

set_option maxRecDepth 100000 in
theorem w_known_f2 (Q : AExit → Env → AHeap → Prop) : (wpN (TF.ctx Try.prog) 4 400 6 0 (tailN 3 (bodyC Try.f6)) k1E k1H itK2 Q
) = ((AVal.sl (0 : Nat) (0 : Nat) (5 : Nat) (0 : Nat) (4 : Nat) (some (4 : Nat)) =
      AVal.sl (0 : Nat) (0 : Nat) (5 : Nat) (0 : Nat) (4 : Nat) (some (4 : Nat)) ∧
    True) ∧
  ABlk.cells (51 : Nat)
        [AVal.int IntKind.u8 (0 : Int), AVal.int IntKind.u8 (0 : Int), AVal.int IntKind.u8 (1 : Int),
          AVal.str [(97 : UInt8)], AVal.int IntKind.u16 (0 : Int), AVal.int IntKind.u8 (0 : Int),
          AVal.int IntKind.u8 (1 : Int), AVal.int IntKind.u8 (1 : Int), AVal.str [(98 : UInt8)],
          AVal.int IntKind.u16 (0 : Int), AVal.int IntKind.u8 (0 : Int), AVal.int IntKind.u8 (1 : Int),
          AVal.int IntKind.u8 (1 : Int), AVal.str [(99 : UInt8)], AVal.int IntKind.u16 (0 : Int),
          AVal.int IntKind.u8 (0 : Int), AVal.int IntKind.u8 (2 : Int), AVal.int IntKind.u8 (1 : Int),
          AVal.str [(100 : UInt8)], AVal.int IntKind.u16 (0 : Int)] =
      ABlk.cells (51 : Nat)
        [AVal.int IntKind.u8 (0 : Int), AVal.int IntKind.u8 (0 : Int), AVal.int IntKind.u8 (1 : Int),
          AVal.str [(97 : UInt8)], AVal.int IntKind.u16 (0 : Int), AVal.int IntKind.u8 (0 : Int),
          AVal.int IntKind.u8 (1 : Int), AVal.int IntKind.u8 (1 : Int), AVal.str [(98 : UInt8)],
          AVal.int IntKind.u16 (0 : Int), AVal.int IntKind.u8 (0 : Int), AVal.int IntKind.u8 (1 : Int),
          AVal.int IntKind.u8 (1 : Int), AVal.str [(99 : UInt8)], AVal.int IntKind.u16 (0 : Int),
          AVal.int IntKind.u8 (0 : Int), AVal.int IntKind.u8 (2 : Int), AVal.int IntKind.u8 (1 : Int),
          AVal.str [(100 : UInt8)], AVal.int IntKind.u16 (0 : Int)] ∧
    True) := by kernel_rfl

end Go.Proofs.Ytjacnjecggedhaa
