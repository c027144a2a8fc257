/-
  The predicate of a removal.
-/
import Derived.Test.YtcgnoegejmhgmaaMbV
namespace Go.Proofs.Ytcgnoegejmhgmaa
set_option linter.unusedVariables false
set_option linter.unusedSimpArgs false
open Go.RowKit Ev

theorem pred_walk (x t : Int) (c : Nat) (W : World) (hc : W.cell? ⟨c, 0, none⟩ = some (.int .i64 t)) :
    Calls Try.prog 21 #[.int .i64 x, .pointer (some ⟨c, 0, none⟩)] W fun e w' => e = .returned (.bool (decide (x = t))) ∧ w' = W := by
  go_enter Try.func21, Try.ntmps21
  go_wp2
  go_ret
  refine ⟨?_, rfl⟩
  rfl

end Go.Proofs.Ytcgnoegejmhgmaa
