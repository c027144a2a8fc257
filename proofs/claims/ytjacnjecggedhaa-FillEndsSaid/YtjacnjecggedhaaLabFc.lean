/-
  The label's plain functions: what they come to.
-/
import Derived.Test.YtjacnjecggedhaaCtx
namespace Go.Proofs.Ytjacnjecggedhaa
set_option linter.unusedVariables false
set_option linter.unusedSimpArgs false
open Go.RowKit Ev

/-- How many bytes a kind has. -/
def lSize (k : Int) : Int := if k = 0 then 6 else if k = 1 then 3 else 0

/-- May a label be? -/
def lOk (k : Int) (b : List UInt8) : Bool := decide (0 ≤ k ∧ k < 4 ∧ (b.length : Int) = lSize k)

def fcSizes : FC := fun args _ => match args with
  | [] => some (true, .agg [.int .i64 6, .int .i64 3, .int .i64 0, .int .i64 0])
  | _ => none

def fcSize : FC := fun args _ => match args with
  | [.int .i64 k] => some (true, .int .i64 (lSize k))
  | _ => none

def fcCheck : FC := fun args _ => match args with
  | [.agg [.int .i64 k, .str b]] => some (true, .int .i64 (if lOk k b then 0 else 2))
  | _ => none

def fcMay : FC := fun args _ => match args with
  | [.agg [.int .i64 k, .str b]] => some (true, .bool (lOk k b))
  | _ => none

noncomputable def TL1 : Tabs := (T0.addFc 58 fcSizes)
noncomputable def TL2 : Tabs := ((TL1.addFc 57 fcSize).addFc 52 fcSize)
noncomputable def TL : Tabs := ((TL2.addFc 47 fcCheck).addFc 35 fcMay)

end Go.Proofs.Ytjacnjecggedhaa
