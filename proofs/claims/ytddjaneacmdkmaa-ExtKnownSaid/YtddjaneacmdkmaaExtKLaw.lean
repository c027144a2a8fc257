/-
  ExtKnown: it is true.
-/
import Derived.Test.YtddjaneacmdkmaaExtK
namespace Go.Proofs.Ytddjaneacmdkmaa
set_option linter.unusedVariables false
set_option linter.unusedSimpArgs false
open Go.RowKit Ev

theorem eknown_true : LawT (TE.ctx Try.prog) 7 [] :=
  ⟨by rw [w_eknown (fun o => o = .ret (.bool true))]⟩

end Go.Proofs.Ytddjaneacmdkmaa
