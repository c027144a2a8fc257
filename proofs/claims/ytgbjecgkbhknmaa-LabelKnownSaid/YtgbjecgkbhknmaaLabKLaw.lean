/-
  LabelKnown: it is true.
-/
import Derived.Test.YtgbjecgkbhknmaaLabK
namespace Go.Proofs.Ytgbjecgkbhknmaa
set_option linter.unusedVariables false
set_option linter.unusedSimpArgs false
open Go.RowKit Ev

theorem lknown_true : LawT (TLS.ctx Try.prog) 7 [] :=
  ⟨by rw [w_known (fun o => o = .ret (.bool true))]⟩

end Go.Proofs.Ytgbjecgkbhknmaa
