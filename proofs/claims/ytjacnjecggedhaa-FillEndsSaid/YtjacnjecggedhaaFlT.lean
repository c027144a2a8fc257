/-
  The tables of the packets' chapter: pieces of pieces too.
-/
import Derived.Test.YtjacnjecggedhaaGseMath
import Derived.Test.YtjacnjecggedhaaCutOk1
namespace Go.Proofs.Ytjacnjecggedhaa
set_option linter.unusedVariables false
set_option linter.unusedSimpArgs false
open Go.RowKit Ev

noncomputable def TE : Tabs := (((TD.addFc 80 fcMayC).addFc 82 fcGone).addFc 78 fcNext)
theorem TEok : TabsOk TE Try.prog := (((TDok.addFc mayC_sound).addFc gone_sound).addFc next_sound)

end Go.Proofs.Ytjacnjecggedhaa
