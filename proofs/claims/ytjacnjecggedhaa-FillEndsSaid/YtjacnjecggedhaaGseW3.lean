/-
  Walks, printed: what calls come to, as they are reckoned.
-/
import Derived.Test.YtjacnjecggedhaaGseOk2
namespace Go.Proofs.Ytjacnjecggedhaa
set_option linter.unusedVariables false
set_option linter.unusedSimpArgs false
open Go.RowKit Ev

set_option maxRecDepth 100000 in
theorem w_gsize (st en : Bool) (id total typ k : Int) (lb data sum : List UInt8) (K : Out → Prop) : (callC (TG2.ctx Try.prog) 100 14 [.agg [.bool st, .bool en, .int .i64 id, .int .i64 total, .int .i64 typ, .int .i64 k, .str lb, .str data, .str sum]] ⟨0, []⟩ (fun o _ => K o)
) = (obl (decide (lb.length + data.length + sum.length ≤ (9223372036854775000 : Nat)))
  (K
    (Out.ret
      (AVal.tup
        [AVal.int IntKind.i64 (↑(gEnc st en id total typ k lb data sum).length : Int),
          AVal.int IntKind.i64 (gErr st en id total typ k lb data sum)])))) := by kernel_rfl

end Go.Proofs.Ytjacnjecggedhaa
