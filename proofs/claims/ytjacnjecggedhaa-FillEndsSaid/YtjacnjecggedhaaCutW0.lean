/-
  Walks, printed: what calls come to, as they are reckoned.
-/
import Derived.Test.YtjacnjecggedhaaGseOk3
namespace Go.Proofs.Ytjacnjecggedhaa
set_option linter.unusedVariables false
set_option linter.unusedSimpArgs false
open Go.RowKit Ev

set_option maxRecDepth 100000 in
theorem w_cmay (typ k at_ id : Int) (b data : List UInt8) (K : Out → Prop) : (callC (TG.ctx Try.prog) 100 80 [.agg [.int .i64 typ, .int .i64 k, .str b, .str data, .int .i64 at_, .int .i64 id]] ⟨0, []⟩ (fun o _ => K o)
) = (branch (decide ((0 : Int) ≤ typ))
  (branch (decide (typ ≤ (65535 : Int)))
    (branch (decide ((if lOk k b = true then (0 : Int) else (2 : Int)) = (0 : Int)))
      (branch (decide ((0 : Int) ≤ at_))
        (branch (decide (at_ < (↑data.length : Int)))
          (branch (decide ((↑data.length : Int) ≤ (65519 : Int)))
            (branch (decide ((0 : Int) ≤ id)) (K (Out.ret (AVal.bool (decide (id < (256 : Int))))))
              (K (Out.ret (AVal.bool false))))
            (K (Out.ret (AVal.bool false))))
          (K (Out.ret (AVal.bool false))))
        (K (Out.ret (AVal.bool false))))
      (K (Out.ret (AVal.bool false))))
    (K (Out.ret (AVal.bool false))))
  (K (Out.ret (AVal.bool false)))) := by kernel_rfl

set_option maxRecDepth 100000 in
theorem w_gone (typ k at_ id n : Int) (b data : List UInt8) (K : Out → Prop) : (callC (TG.ctx Try.prog) 100 82 [.agg [.int .i64 typ, .int .i64 k, .str b, .str data, .int .i64 at_, .int .i64 id], .int .i64 n] ⟨0, []⟩ (fun o _ => K o)
) = (obl (inI64 (at_ + n))
  (K
    (Out.ret
      (AVal.agg
        [AVal.int IntKind.i64 typ, AVal.int IntKind.i64 k, AVal.str b, AVal.str data, AVal.int IntKind.i64 (at_ + n),
          AVal.int IntKind.i64 id])))) := by kernel_rfl

end Go.Proofs.Ytjacnjecggedhaa
