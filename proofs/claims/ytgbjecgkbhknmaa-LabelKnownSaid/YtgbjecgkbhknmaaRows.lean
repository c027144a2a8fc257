/-
  No cell of these rows narrows 'for every input' (looked for: loops, veiled, ifaces, maps, wideKeys, modest, calm, conditions, laid).
  DERIVED. THE GIVEN ROWS OF THIS SEAT. 5 by the template 'for every input the law returns true; each argument reads behind the call as it read before'; 0 by the template 'total and deterministic' (their statements: YtgbjecgkbhknmaaTotals.lean).
  GIVEN WITH THE SEED: the statements are not yours to turn. If you find one false, say at which input.
  Laid BY PROGRAM, IN A SANDBOX (cutbox-rows.mjs): the forced cells as the released guide's own fill.sh prints them over the translation b88a673f1831cdab… (all of the seat's roots in one cut). By AI agents, Wed Nov 11 2026. No macro, syntax, notation, axiom, sorry.
-/
import Derived.Test.YtgbjecgkbhknmaaChecked
import GoSem.Claim
import GoSem.ClaimJoined
import GoSem.ClaimMapViews
import Derived.JoinedTies
import Derived.KernelRfl
namespace Go.Proofs.Ytgbjecgkbhknmaa
/- THE CELL 'sum', in the pinned program and in every row, IS THE sha256 OF THE DUMP (.gsa) THAT YtgbjecgkbhknmaaProg.lean LOADS. Nothing in Lean hashes anything: it is a label: what it is worth is what the hold of that sum in a sandbox is worth. -/
noncomputable def Try.pinned : Pinned := { name := "ytgbjecgkbhknmaa", sum := "b88a673f1831cdab189fcdeb60dcd44ab8b3555f966fe1af5a50080864df6c34", checked := Try.checked }
namespace Rows
def none {H : Type} : Left H := { results := [], args := [] }

/-- 'aeriallaw07.LabelRuns': WHATEVER THE INPUT: true; the input reads as it did. -/
def labelRunsSpec : ChangeSpec := { name := "labelRuns", fn := fun _ => fun
  | [d] => { results := [.lit (.bool true)], args := [d] }
  | _ => none }
def labelRunsRow : OpenClaim := { program := "ytgbjecgkbhknmaa", sum := "b88a673f1831cdab189fcdeb60dcd44ab8b3555f966fe1af5a50080864df6c34", func := "aerial/aeriallaw07.LabelRuns", spec := "labelRuns", apart := false }
def LabelRunsSaid : Prop := labelRunsRow.holds Try.pinned (OpenSpec.ofChange labelRunsSpec)

/-- ITS FALSE NEIGHBOUR: 'it returns false'. Refute it at one input. -/
def labelRunsWrong : ChangeSpec := { name := "labelRuns", fn := fun _ => fun
  | [d] => { results := [.lit (.bool false)], args := [d] }
  | _ => none }
def LabelRunsWrongFalsely : Prop := labelRunsRow.holds Try.pinned (OpenSpec.ofChange labelRunsWrong)

/-- 'aeriallaw07.LabelTells': WHATEVER THE INPUT: true; the input reads as it did. -/
def labelTellsSpec : ChangeSpec := { name := "labelTells", fn := fun _ => fun
  | [d1, d2] => { results := [.lit (.bool true)], args := [d1, d2] }
  | _ => none }
def labelTellsRow : OpenClaim := { program := "ytgbjecgkbhknmaa", sum := "b88a673f1831cdab189fcdeb60dcd44ab8b3555f966fe1af5a50080864df6c34", func := "aerial/aeriallaw07.LabelTells", spec := "labelTells", apart := false }
def LabelTellsSaid : Prop := labelTellsRow.holds Try.pinned (OpenSpec.ofChange labelTellsSpec)

/-- ITS FALSE NEIGHBOUR: 'it returns false'. Refute it at one input. -/
def labelTellsWrong : ChangeSpec := { name := "labelTells", fn := fun _ => fun
  | [d1, d2] => { results := [.lit (.bool false)], args := [d1, d2] }
  | _ => none }
def LabelTellsWrongFalsely : Prop := labelTellsRow.holds Try.pinned (OpenSpec.ofChange labelTellsWrong)

/-- 'aeriallaw07.LabelPlays': WHATEVER THE INPUT: true; the input reads as it did. -/
def labelPlaysSpec : ChangeSpec := { name := "labelPlays", fn := fun _ => fun
  | [d] => { results := [.lit (.bool true)], args := [d] }
  | _ => none }
def labelPlaysRow : OpenClaim := { program := "ytgbjecgkbhknmaa", sum := "b88a673f1831cdab189fcdeb60dcd44ab8b3555f966fe1af5a50080864df6c34", func := "aerial/aeriallaw07.LabelPlays", spec := "labelPlays", apart := false }
def LabelPlaysSaid : Prop := labelPlaysRow.holds Try.pinned (OpenSpec.ofChange labelPlaysSpec)

/-- ITS FALSE NEIGHBOUR: 'it returns false'. Refute it at one input. -/
def labelPlaysWrong : ChangeSpec := { name := "labelPlays", fn := fun _ => fun
  | [d] => { results := [.lit (.bool false)], args := [d] }
  | _ => none }
def LabelPlaysWrongFalsely : Prop := labelPlaysRow.holds Try.pinned (OpenSpec.ofChange labelPlaysWrong)

/-- 'aeriallaw07.LabelBack': WHATEVER THE INPUT: true; the input reads as it did. -/
def labelBackSpec : ChangeSpec := { name := "labelBack", fn := fun _ => fun
  | [d1, d2] => { results := [.lit (.bool true)], args := [d1, d2] }
  | _ => none }
def labelBackRow : OpenClaim := { program := "ytgbjecgkbhknmaa", sum := "b88a673f1831cdab189fcdeb60dcd44ab8b3555f966fe1af5a50080864df6c34", func := "aerial/aeriallaw07.LabelBack", spec := "labelBack", apart := false }
def LabelBackSaid : Prop := labelBackRow.holds Try.pinned (OpenSpec.ofChange labelBackSpec)

/-- ITS FALSE NEIGHBOUR: 'it returns false'. Refute it at one input. -/
def labelBackWrong : ChangeSpec := { name := "labelBack", fn := fun _ => fun
  | [d1, d2] => { results := [.lit (.bool false)], args := [d1, d2] }
  | _ => none }
def LabelBackWrongFalsely : Prop := labelBackRow.holds Try.pinned (OpenSpec.ofChange labelBackWrong)

/-- 'aeriallaw07.LabelKnown': WHATEVER THE INPUT: true; the input reads as it did. -/
def labelKnownSpec : ChangeSpec := { name := "labelKnown", fn := fun _ => fun
  | [] => { results := [.lit (.bool true)], args := [] }
  | _ => none }
def labelKnownRow : OpenClaim := { program := "ytgbjecgkbhknmaa", sum := "b88a673f1831cdab189fcdeb60dcd44ab8b3555f966fe1af5a50080864df6c34", func := "aerial/aeriallaw07.LabelKnown", spec := "labelKnown", apart := false }
def LabelKnownSaid : Prop := labelKnownRow.holds Try.pinned (OpenSpec.ofChange labelKnownSpec)

/-- ITS FALSE NEIGHBOUR: 'it returns false'. Refute it at one input. -/
def labelKnownWrong : ChangeSpec := { name := "labelKnown", fn := fun _ => fun
  | [] => { results := [.lit (.bool false)], args := [] }
  | _ => none }
def LabelKnownWrongFalsely : Prop := labelKnownRow.holds Try.pinned (OpenSpec.ofChange labelKnownWrong)

/- THE SECOND FORM. 'bulk': how many values and letters a reading holds, each counted each time it is reached (what is shared counts as often as it is met; a slice's spare places count too). A statement '..UptoSaid' is the law's where the arguments, and the package variables that the reading takes, are together of bulk at most 1048576: NARROWER than '..Said'. Prove '..Said' where nothing that the law and all that it calls make is longer than what came in: it says more and counts as full. Else prove '..UptoSaid'. A law counts once. -/
mutual
def uptoBulk {H : Type} : DataW H → Nat
  | .lit (.string bytes) => bytes.length + 1
  | .lit _ => 1
  | .nil => 1
  | .ptr d => uptoBulk d + 1
  | .slice elems spare => uptoBulkAll elems + uptoBulkAll spare + 1
  | .agg parts => uptoBulkAll parts + 1
  | .iface _ d => uptoBulk d + 1
  | .map entries => uptoBulkEntries entries + 1
  | .held _ => 1
def uptoBulkAll {H : Type} : List (DataW H) → Nat
  | [] => 0
  | d :: r => uptoBulk d + uptoBulkAll r
def uptoBulkEntries {H : Type} : List (Lit × DataW H) → Nat
  | [] => 0
  | x :: r => uptoBulkEntry x + uptoBulkEntries r
def uptoBulkEntry {H : Type} : Lit × DataW H → Nat
  | (.string bytes, d) => bytes.length + uptoBulk d + 1
  | (_, d) => uptoBulk d + 1
 end
def uptoSmall : (H : Type) → List (DataW H) → Bool := fun _ ds => decide (uptoBulkAll ds ≤ 1048576)
def OpenSpec.upto (s : _root_.Go.ChangeSpec) : _root_.Go.OpenSpec := { _root_.Go.OpenSpec.ofChange s with cond := some uptoSmall }

/-- 'aeriallaw07.LabelRuns', WHERE WHAT IT READS IS OF BULK AT MOST 1048576: true; the input reads as it did. -/
def labelRunsUptoRow : OpenClaim := { program := "ytgbjecgkbhknmaa", sum := "b88a673f1831cdab189fcdeb60dcd44ab8b3555f966fe1af5a50080864df6c34", func := "aerial/aeriallaw07.LabelRuns", spec := "labelRuns", apart := false, narrowed := true }
def LabelRunsUptoSaid : Prop := labelRunsUptoRow.holds Try.pinned (OpenSpec.upto labelRunsSpec)

/-- 'aeriallaw07.LabelTells', WHERE WHAT IT READS IS OF BULK AT MOST 1048576: true; the input reads as it did. -/
def labelTellsUptoRow : OpenClaim := { program := "ytgbjecgkbhknmaa", sum := "b88a673f1831cdab189fcdeb60dcd44ab8b3555f966fe1af5a50080864df6c34", func := "aerial/aeriallaw07.LabelTells", spec := "labelTells", apart := false, narrowed := true }
def LabelTellsUptoSaid : Prop := labelTellsUptoRow.holds Try.pinned (OpenSpec.upto labelTellsSpec)

/-- 'aeriallaw07.LabelPlays', WHERE WHAT IT READS IS OF BULK AT MOST 1048576: true; the input reads as it did. -/
def labelPlaysUptoRow : OpenClaim := { program := "ytgbjecgkbhknmaa", sum := "b88a673f1831cdab189fcdeb60dcd44ab8b3555f966fe1af5a50080864df6c34", func := "aerial/aeriallaw07.LabelPlays", spec := "labelPlays", apart := false, narrowed := true }
def LabelPlaysUptoSaid : Prop := labelPlaysUptoRow.holds Try.pinned (OpenSpec.upto labelPlaysSpec)

/-- 'aeriallaw07.LabelBack', WHERE WHAT IT READS IS OF BULK AT MOST 1048576: true; the input reads as it did. -/
def labelBackUptoRow : OpenClaim := { program := "ytgbjecgkbhknmaa", sum := "b88a673f1831cdab189fcdeb60dcd44ab8b3555f966fe1af5a50080864df6c34", func := "aerial/aeriallaw07.LabelBack", spec := "labelBack", apart := false, narrowed := true }
def LabelBackUptoSaid : Prop := labelBackUptoRow.holds Try.pinned (OpenSpec.upto labelBackSpec)

/-- 'aeriallaw07.LabelKnown', WHERE WHAT IT READS IS OF BULK AT MOST 1048576: true; the input reads as it did. -/
def labelKnownUptoRow : OpenClaim := { program := "ytgbjecgkbhknmaa", sum := "b88a673f1831cdab189fcdeb60dcd44ab8b3555f966fe1af5a50080864df6c34", func := "aerial/aeriallaw07.LabelKnown", spec := "labelKnown", apart := false, narrowed := true }
def LabelKnownUptoSaid : Prop := labelKnownUptoRow.holds Try.pinned (OpenSpec.upto labelKnownSpec)

end Rows
end Go.Proofs.Ytgbjecgkbhknmaa
