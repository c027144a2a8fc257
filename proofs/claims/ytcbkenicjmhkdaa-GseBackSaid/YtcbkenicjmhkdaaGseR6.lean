/-
  Walks, printed: what calls come to, as they are reckoned.
-/
import Derived.Test.YtcbkenicjmhkdaaGseR5
namespace Go.Proofs.Ytcbkenicjmhkdaa
set_option linter.unusedVariables false
set_option linter.unusedSimpArgs false
open Go.RowKit Ev

set_option maxRecDepth 100000 in
theorem w_rbody_tt (id total typ k : Int) (lb data sum : List UInt8) (K : Out → Prop) : (callC (TE1.ctx Try.prog) 100 30 [.agg [.bool true, .bool true, .int .i64 id, .int .i64 total, .int .i64 typ, .int .i64 k, .str lb, .str data, .str sum]] ⟨0, []⟩ (fun o _ => K o)
) = (obl (decide ((0 : Int) ≤ typ ∧ typ ≤ (9223372036854775807 : Int)))
  (obl (decide ((↑((two typ).length + lb.length) : Int) ≤ (9223372036854775807 : Int)))
    (obl (decide ((↑((two typ ++ lb).length + data.length) : Int) ≤ (9223372036854775807 : Int)))
      (K (Out.ret (AVal.str (two typ ++ lb ++ data))))))) := by kernel_rfl

set_option maxRecDepth 100000 in
theorem w_rbody_tf (id total typ k : Int) (lb data sum : List UInt8) (K : Out → Prop) : (callC (TE1.ctx Try.prog) 100 30 [.agg [.bool true, .bool false, .int .i64 id, .int .i64 total, .int .i64 typ, .int .i64 k, .str lb, .str data, .str sum]] ⟨0, []⟩ (fun o _ => K o)
) = (obl (decide ((0 : Int) ≤ total ∧ total ≤ (9223372036854775807 : Int)))
  (obl (decide ((0 : Int) ≤ typ ∧ typ ≤ (9223372036854775807 : Int)))
    (obl
      (decide
        ((↑(([UInt8.ofNat (id % (256 : Int)).toNat] ++ two total ++ two typ).length + lb.length) : Int) ≤
          (9223372036854775807 : Int)))
      (obl
        (decide
          ((↑(([UInt8.ofNat (id % (256 : Int)).toNat] ++ two total ++ two typ ++ lb).length + data.length) : Int) ≤
            (9223372036854775807 : Int)))
        (K
          (Out.ret
            (AVal.str
              ([UInt8.ofNat (id % (256 : Int)).toNat] ++ two total ++ two typ ++ lb ++ data)))))))) := by kernel_rfl

set_option maxRecDepth 100000 in
theorem w_rbody_ft (id total typ k : Int) (lb data sum : List UInt8) (K : Out → Prop) : (callC (TE1.ctx Try.prog) 100 30 [.agg [.bool false, .bool true, .int .i64 id, .int .i64 total, .int .i64 typ, .int .i64 k, .str lb, .str data, .str sum]] ⟨0, []⟩ (fun o _ => K o)
) = (obl (decide ((↑([UInt8.ofNat (id % (256 : Int)).toNat].length + data.length) : Int) ≤ (9223372036854775807 : Int)))
  (obl
    (decide
      ((↑(([UInt8.ofNat (id % (256 : Int)).toNat] ++ data).length + sum.length) : Int) ≤ (9223372036854775807 : Int)))
    (K (Out.ret (AVal.str ([UInt8.ofNat (id % (256 : Int)).toNat] ++ data ++ sum)))))) := by kernel_rfl

set_option maxRecDepth 100000 in
theorem w_rbody_ff (id total typ k : Int) (lb data sum : List UInt8) (K : Out → Prop) : (callC (TE1.ctx Try.prog) 100 30 [.agg [.bool false, .bool false, .int .i64 id, .int .i64 total, .int .i64 typ, .int .i64 k, .str lb, .str data, .str sum]] ⟨0, []⟩ (fun o _ => K o)
) = (obl (decide ((↑([UInt8.ofNat (id % (256 : Int)).toNat].length + data.length) : Int) ≤ (9223372036854775807 : Int)))
  (obl
    (decide
      ((↑(([UInt8.ofNat (id % (256 : Int)).toNat] ++ data).length + sum.length) : Int) ≤ (9223372036854775807 : Int)))
    (K (Out.ret (AVal.str ([UInt8.ofNat (id % (256 : Int)).toNat] ++ data ++ sum)))))) := by kernel_rfl

set_option maxRecDepth 100000 in
theorem w_works8 (K : Out → Prop) : (callC (TE1.ctx Try.prog) 100 8 [] ⟨0, []⟩ (fun o _ => K o)
) = (K (Out.ret (AVal.bool true))) := by kernel_rfl

end Go.Proofs.Ytcbkenicjmhkdaa
