/-
  Walks, printed: what calls come to, as they are reckoned.
-/
import Derived.Test.YtjacnjecggedhaaFlKSt
namespace Go.Proofs.Ytjacnjecggedhaa
set_option linter.unusedVariables false
set_option linter.unusedSimpArgs false
open Go.RowKit Ev

set_option maxRecDepth 100000 in
theorem w_known_f1 (Q : AExit → Env → AHeap → Prop) : (wpN (TF.ctx Try.prog) 3 400 6 0 (bodyC Try.f6) (env0 [] 0) ⟨0, []⟩ itK1 Q
) = (twice
  (twice
    (twice
      (twice
        ((AVal.sl (0 : Nat) (0 : Nat) (5 : Nat) (0 : Nat) (4 : Nat) (some (4 : Nat)) =
              AVal.sl (0 : Nat) (0 : Nat) (5 : Nat) (0 : Nat) (4 : Nat) (some (4 : Nat)) ∧
            AVal.str
                  [(192 : UInt8), (10 : UInt8), (8 : UInt8), (0 : UInt8), (97 : UInt8), (98 : UInt8), (99 : UInt8),
                    (100 : UInt8), (101 : UInt8), (102 : UInt8), (99 : UInt8), (0 : UInt8), (208 : UInt8), (7 : UInt8),
                    (8 : UInt8), (0 : UInt8), (97 : UInt8), (98 : UInt8), (99 : UInt8), (97 : UInt8), (0 : UInt8),
                    (192 : UInt8), (10 : UInt8), (8 : UInt8), (0 : UInt8), (97 : UInt8), (98 : UInt8), (99 : UInt8),
                    (100 : UInt8), (101 : UInt8), (102 : UInt8), (98 : UInt8), (0 : UInt8), (208 : UInt8), (7 : UInt8),
                    (8 : UInt8), (0 : UInt8), (120 : UInt8), (121 : UInt8), (122 : UInt8), (100 : UInt8), (0 : UInt8)] =
                AVal.str
                  [(192 : UInt8), (10 : UInt8), (8 : UInt8), (0 : UInt8), (97 : UInt8), (98 : UInt8), (99 : UInt8),
                    (100 : UInt8), (101 : UInt8), (102 : UInt8), (99 : UInt8), (0 : UInt8), (208 : UInt8), (7 : UInt8),
                    (8 : UInt8), (0 : UInt8), (97 : UInt8), (98 : UInt8), (99 : UInt8), (97 : UInt8), (0 : UInt8),
                    (192 : UInt8), (10 : UInt8), (8 : UInt8), (0 : UInt8), (97 : UInt8), (98 : UInt8), (99 : UInt8),
                    (100 : UInt8), (101 : UInt8), (102 : UInt8), (98 : UInt8), (0 : UInt8), (208 : UInt8), (7 : UInt8),
                    (8 : UInt8), (0 : UInt8), (120 : UInt8), (121 : UInt8), (122 : UInt8), (100 : UInt8), (0 : UInt8)] ∧
              AVal.sl (581 : Nat) (0 : Nat) (1 : Nat) (0 : Nat) (4 : Nat) none =
                  AVal.sl (581 : Nat) (0 : Nat) (1 : Nat) (0 : Nat) (4 : Nat) none ∧
                True) ∧
          ABlk.row (33 : Nat) (intRow IntKind.u64) [(3 : Int), (1 : Int), (2 : Int), (4 : Int)] RowMd.plain =
              ABlk.row (33 : Nat) (intRow IntKind.u64) [(3 : Int), (1 : Int), (2 : Int), (4 : Int)] RowMd.plain ∧
            ABlk.cells (51 : Nat)
                  [AVal.int IntKind.u8 (0 : Int), AVal.int IntKind.u8 (0 : Int), AVal.int IntKind.u8 (1 : Int),
                    AVal.str [(97 : UInt8)], AVal.int IntKind.u16 (0 : Int), AVal.int IntKind.u8 (0 : Int),
                    AVal.int IntKind.u8 (1 : Int), AVal.int IntKind.u8 (1 : Int), AVal.str [(98 : UInt8)],
                    AVal.int IntKind.u16 (0 : Int), AVal.int IntKind.u8 (0 : Int), AVal.int IntKind.u8 (1 : Int),
                    AVal.int IntKind.u8 (1 : Int), AVal.str [(99 : UInt8)], AVal.int IntKind.u16 (0 : Int),
                    AVal.int IntKind.u8 (0 : Int), AVal.int IntKind.u8 (2 : Int), AVal.int IntKind.u8 (1 : Int),
                    AVal.str [(100 : UInt8)], AVal.int IntKind.u16 (0 : Int)] =
                ABlk.cells (51 : Nat)
                  [AVal.int IntKind.u8 (0 : Int), AVal.int IntKind.u8 (0 : Int), AVal.int IntKind.u8 (1 : Int),
                    AVal.str [(97 : UInt8)], AVal.int IntKind.u16 (0 : Int), AVal.int IntKind.u8 (0 : Int),
                    AVal.int IntKind.u8 (1 : Int), AVal.int IntKind.u8 (1 : Int), AVal.str [(98 : UInt8)],
                    AVal.int IntKind.u16 (0 : Int), AVal.int IntKind.u8 (0 : Int), AVal.int IntKind.u8 (1 : Int),
                    AVal.int IntKind.u8 (1 : Int), AVal.str [(99 : UInt8)], AVal.int IntKind.u16 (0 : Int),
                    AVal.int IntKind.u8 (0 : Int), AVal.int IntKind.u8 (2 : Int), AVal.int IntKind.u8 (1 : Int),
                    AVal.str [(100 : UInt8)], AVal.int IntKind.u16 (0 : Int)] ∧
              True))))) := by kernel_rfl

end Go.Proofs.Ytjacnjecggedhaa
