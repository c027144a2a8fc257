/-
  CutWhole's tables.
-/
import Derived.Test.YtdjidmnehfjmbaaCutWLc
import Derived.Test.YtdjidmnehfjmbaaCutAOk
namespace Go.Proofs.Ytdjidmnehfjmbaa
open Ev

noncomputable def TCGW : Tabs := TCG.addFc 7 fcCWorks
theorem TCGWok : TabsOk TCGW Try.prog := TCGok.addFc cworks_sound

end Go.Proofs.Ytdjidmnehfjmbaa
