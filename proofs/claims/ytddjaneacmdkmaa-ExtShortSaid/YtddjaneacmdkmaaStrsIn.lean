/-
  A slice of strings: what its cells hold.
-/
import Derived.Test.YtddjaneacmdkmaaAux
import Derived.Test.YtddjaneacmdkmaaProg
import Derived.ProofKit
import Derived.OpenShut
namespace Go.Proofs.Ytddjaneacmdkmaa
set_option linter.unusedVariables false
open Go.RowKit Go.ChangeShapes Go.WideShapes

/-- The cells behind a hold the strings l, in a block below n₀. -/
def StrCells (n₀ : Nat) (w : World) (a : Option Addr) (l : List ByteArray) : Prop :=
  ∀ i (h : i < l.length), ∃ b off, a = some ⟨b, off, none⟩ ∧ b < n₀ ∧ w.cell? ⟨b, off + i, none⟩ = some (.string l[i])

theorem StrCells.below {n₀ : Nat} {w w' : World} {a : Option Addr} {l : List ByteArray} (h : StrCells n₀ w a l) (hb : Below n₀ w w') : StrCells n₀ w' a l := fun i hi =>
  let ⟨b, off, ha, hl, hc⟩ := h i hi
  ⟨b, off, ha, hl, (hb.cell (p := ⟨b, off + i, none⟩) hl).trans hc⟩

theorem StrCells.mono {n₀ n₁ : Nat} {w : World} {a : Option Addr} {l : List ByteArray} (h : StrCells n₀ w a l) (hn : n₀ ≤ n₁) : StrCells n₁ w a l := fun i hi =>
  let ⟨b, off, ha, hl, hc⟩ := h i hi
  ⟨b, off, ha, Nat.lt_of_lt_of_le hl hn, hc⟩

end Go.Proofs.Ytddjaneacmdkmaa
