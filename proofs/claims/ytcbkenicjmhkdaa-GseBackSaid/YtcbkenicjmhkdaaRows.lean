/-
  No cell of these rows narrows 'for every input' (looked for: loops, veiled, ifaces, maps, wideKeys, modest, calm, conditions, laid).
  DERIVED. THE GIVEN ROWS OF THIS SEAT. 5 by the template 'for every input the law returns true; each argument reads behind the call as it read before'; 0 by the template 'total and deterministic' (their statements: YtcbkenicjmhkdaaTotals.lean).
  GIVEN WITH THE SEED: the statements are not yours to turn. If you find one false, say at which input.
  Laid BY PROGRAM, IN A SANDBOX (cutbox-rows.mjs): the forced cells as the released guide's own fill.sh prints them over the translation 403e653bd2bca5bd… (all of the seat's roots in one cut). By AI agents, Wed Nov 11 2026. No macro, syntax, notation, axiom, sorry.
-/
import Derived.Test.YtcbkenicjmhkdaaChecked
import GoSem.Claim
import GoSem.ClaimJoined
import GoSem.ClaimMapViews
import Derived.JoinedTies
import Derived.KernelRfl
namespace Go.Proofs.Ytcbkenicjmhkdaa
/- THE CELL 'sum', in the pinned program and in every row, IS THE sha256 OF THE DUMP (.gsa) THAT YtcbkenicjmhkdaaProg.lean LOADS. Nothing in Lean hashes anything: it is a label: what it is worth is what the hold of that sum in a sandbox is worth. -/
noncomputable def Try.pinned : Pinned := { name := "ytcbkenicjmhkdaa", sum := "403e653bd2bca5bd063d25d5964d6502f024888483e88738e2e50e01cbe20216", checked := Try.checked }
namespace Rows
def none {H : Type} : Left H := { results := [], args := [] }

/-- 'aeriallaw08.GseAgain': WHATEVER THE INPUT: true; the input reads as it did. -/
def gseAgainSpec : ChangeSpec := { name := "gseAgain", fn := fun _ => fun
  | [d1, d2] => { results := [.lit (.bool true)], args := [d1, d2] }
  | _ => none }
def gseAgainRow : OpenClaim := { program := "ytcbkenicjmhkdaa", sum := "403e653bd2bca5bd063d25d5964d6502f024888483e88738e2e50e01cbe20216", func := "aerial/aeriallaw08.GseAgain", spec := "gseAgain", unfollowed := true, recurses := true, apart := false }
def GseAgainSaid : Prop := gseAgainRow.holds Try.pinned (OpenSpec.ofChange gseAgainSpec)

/-- ITS FALSE NEIGHBOUR: 'it returns false'. Refute it at one input. -/
def gseAgainWrong : ChangeSpec := { name := "gseAgain", fn := fun _ => fun
  | [d1, d2] => { results := [.lit (.bool false)], args := [d1, d2] }
  | _ => none }
def GseAgainWrongFalsely : Prop := gseAgainRow.holds Try.pinned (OpenSpec.ofChange gseAgainWrong)

/-- 'aeriallaw08.GseLays': WHATEVER THE INPUT: true; the input reads as it did. -/
def gseLaysSpec : ChangeSpec := { name := "gseLays", fn := fun _ => fun
  | [d1, d2] => { results := [.lit (.bool true)], args := [d1, d2] }
  | _ => none }
def gseLaysRow : OpenClaim := { program := "ytcbkenicjmhkdaa", sum := "403e653bd2bca5bd063d25d5964d6502f024888483e88738e2e50e01cbe20216", func := "aerial/aeriallaw08.GseLays", spec := "gseLays", unfollowed := true, recurses := true, apart := false }
def GseLaysSaid : Prop := gseLaysRow.holds Try.pinned (OpenSpec.ofChange gseLaysSpec)

/-- ITS FALSE NEIGHBOUR: 'it returns false'. Refute it at one input. -/
def gseLaysWrong : ChangeSpec := { name := "gseLays", fn := fun _ => fun
  | [d1, d2] => { results := [.lit (.bool false)], args := [d1, d2] }
  | _ => none }
def GseLaysWrongFalsely : Prop := gseLaysRow.holds Try.pinned (OpenSpec.ofChange gseLaysWrong)

/-- 'aeriallaw08.GseReads': WHATEVER THE INPUT: true; the input reads as it did. -/
def gseReadsSpec : ChangeSpec := { name := "gseReads", fn := fun _ => fun
  | [d] => { results := [.lit (.bool true)], args := [d] }
  | _ => none }
def gseReadsRow : OpenClaim := { program := "ytcbkenicjmhkdaa", sum := "403e653bd2bca5bd063d25d5964d6502f024888483e88738e2e50e01cbe20216", func := "aerial/aeriallaw08.GseReads", spec := "gseReads", unfollowed := true, recurses := true, apart := false }
def GseReadsSaid : Prop := gseReadsRow.holds Try.pinned (OpenSpec.ofChange gseReadsSpec)

/-- ITS FALSE NEIGHBOUR: 'it returns false'. Refute it at one input. -/
def gseReadsWrong : ChangeSpec := { name := "gseReads", fn := fun _ => fun
  | [d] => { results := [.lit (.bool false)], args := [d] }
  | _ => none }
def GseReadsWrongFalsely : Prop := gseReadsRow.holds Try.pinned (OpenSpec.ofChange gseReadsWrong)

/-- 'aeriallaw08.GseBack': WHATEVER THE INPUT: true; the input reads as it did. -/
def gseBackSpec : ChangeSpec := { name := "gseBack", fn := fun _ => fun
  | [d1, d2] => { results := [.lit (.bool true)], args := [d1, d2] }
  | _ => none }
def gseBackRow : OpenClaim := { program := "ytcbkenicjmhkdaa", sum := "403e653bd2bca5bd063d25d5964d6502f024888483e88738e2e50e01cbe20216", func := "aerial/aeriallaw08.GseBack", spec := "gseBack", unfollowed := true, recurses := true, apart := false }
def GseBackSaid : Prop := gseBackRow.holds Try.pinned (OpenSpec.ofChange gseBackSpec)

/-- ITS FALSE NEIGHBOUR: 'it returns false'. Refute it at one input. -/
def gseBackWrong : ChangeSpec := { name := "gseBack", fn := fun _ => fun
  | [d1, d2] => { results := [.lit (.bool false)], args := [d1, d2] }
  | _ => none }
def GseBackWrongFalsely : Prop := gseBackRow.holds Try.pinned (OpenSpec.ofChange gseBackWrong)

/-- 'aeriallaw08.GseKnown': WHATEVER THE INPUT: true; the input reads as it did. -/
def gseKnownSpec : ChangeSpec := { name := "gseKnown", fn := fun _ => fun
  | [] => { results := [.lit (.bool true)], args := [] }
  | _ => none }
def gseKnownRow : OpenClaim := { program := "ytcbkenicjmhkdaa", sum := "403e653bd2bca5bd063d25d5964d6502f024888483e88738e2e50e01cbe20216", func := "aerial/aeriallaw08.GseKnown", spec := "gseKnown", unfollowed := true, recurses := true, apart := false }
def GseKnownSaid : Prop := gseKnownRow.holds Try.pinned (OpenSpec.ofChange gseKnownSpec)

/-- ITS FALSE NEIGHBOUR: 'it returns false'. Refute it at one input. -/
def gseKnownWrong : ChangeSpec := { name := "gseKnown", fn := fun _ => fun
  | [] => { results := [.lit (.bool false)], args := [] }
  | _ => none }
def GseKnownWrongFalsely : Prop := gseKnownRow.holds Try.pinned (OpenSpec.ofChange gseKnownWrong)

/- THE SECOND FORM. 'bulk': how many values and letters a reading holds, each counted each time it is reached (what is shared counts as often as it is met; a slice's spare places count too). A statement '..UptoSaid' is the law's where the arguments, and the package variables that the reading takes, are together of bulk at most 1048576: NARROWER than '..Said'. Prove '..Said' where nothing that the law and all that it calls make is longer than what came in: it says more and counts as full. Else prove '..UptoSaid'. A law counts once. -/
mutual
def uptoBulk {H : Type} : DataW H → Nat
  | .lit (.string bytes) => bytes.length + 1
  | .lit _ => 1
  | .nil => 1
  | .ptr d => uptoBulk d + 1
  | .slice elems spare => uptoBulkAll elems + uptoBulkAll spare + 1
  | .agg parts => uptoBulkAll parts + 1
  | .iface _ d => uptoBulk d + 1
  | .map entries => uptoBulkEntries entries + 1
  | .held _ => 1
def uptoBulkAll {H : Type} : List (DataW H) → Nat
  | [] => 0
  | d :: r => uptoBulk d + uptoBulkAll r
def uptoBulkEntries {H : Type} : List (Lit × DataW H) → Nat
  | [] => 0
  | x :: r => uptoBulkEntry x + uptoBulkEntries r
def uptoBulkEntry {H : Type} : Lit × DataW H → Nat
  | (.string bytes, d) => bytes.length + uptoBulk d + 1
  | (_, d) => uptoBulk d + 1
 end
def uptoSmall : (H : Type) → List (DataW H) → Bool := fun _ ds => decide (uptoBulkAll ds ≤ 1048576)
def OpenSpec.upto (s : _root_.Go.ChangeSpec) : _root_.Go.OpenSpec := { _root_.Go.OpenSpec.ofChange s with cond := some uptoSmall }

/-- 'aeriallaw08.GseAgain', WHERE WHAT IT READS IS OF BULK AT MOST 1048576: true; the input reads as it did. -/
def gseAgainUptoRow : OpenClaim := { program := "ytcbkenicjmhkdaa", sum := "403e653bd2bca5bd063d25d5964d6502f024888483e88738e2e50e01cbe20216", func := "aerial/aeriallaw08.GseAgain", spec := "gseAgain", unfollowed := true, recurses := true, apart := false, narrowed := true }
def GseAgainUptoSaid : Prop := gseAgainUptoRow.holds Try.pinned (OpenSpec.upto gseAgainSpec)

/-- 'aeriallaw08.GseLays', WHERE WHAT IT READS IS OF BULK AT MOST 1048576: true; the input reads as it did. -/
def gseLaysUptoRow : OpenClaim := { program := "ytcbkenicjmhkdaa", sum := "403e653bd2bca5bd063d25d5964d6502f024888483e88738e2e50e01cbe20216", func := "aerial/aeriallaw08.GseLays", spec := "gseLays", unfollowed := true, recurses := true, apart := false, narrowed := true }
def GseLaysUptoSaid : Prop := gseLaysUptoRow.holds Try.pinned (OpenSpec.upto gseLaysSpec)

/-- 'aeriallaw08.GseReads', WHERE WHAT IT READS IS OF BULK AT MOST 1048576: true; the input reads as it did. -/
def gseReadsUptoRow : OpenClaim := { program := "ytcbkenicjmhkdaa", sum := "403e653bd2bca5bd063d25d5964d6502f024888483e88738e2e50e01cbe20216", func := "aerial/aeriallaw08.GseReads", spec := "gseReads", unfollowed := true, recurses := true, apart := false, narrowed := true }
def GseReadsUptoSaid : Prop := gseReadsUptoRow.holds Try.pinned (OpenSpec.upto gseReadsSpec)

/-- 'aeriallaw08.GseBack', WHERE WHAT IT READS IS OF BULK AT MOST 1048576: true; the input reads as it did. -/
def gseBackUptoRow : OpenClaim := { program := "ytcbkenicjmhkdaa", sum := "403e653bd2bca5bd063d25d5964d6502f024888483e88738e2e50e01cbe20216", func := "aerial/aeriallaw08.GseBack", spec := "gseBack", unfollowed := true, recurses := true, apart := false, narrowed := true }
def GseBackUptoSaid : Prop := gseBackUptoRow.holds Try.pinned (OpenSpec.upto gseBackSpec)

/-- 'aeriallaw08.GseKnown', WHERE WHAT IT READS IS OF BULK AT MOST 1048576: true; the input reads as it did. -/
def gseKnownUptoRow : OpenClaim := { program := "ytcbkenicjmhkdaa", sum := "403e653bd2bca5bd063d25d5964d6502f024888483e88738e2e50e01cbe20216", func := "aerial/aeriallaw08.GseKnown", spec := "gseKnown", unfollowed := true, recurses := true, apart := false, narrowed := true }
def GseKnownUptoSaid : Prop := gseKnownUptoRow.holds Try.pinned (OpenSpec.upto gseKnownSpec)

end Rows
end Go.Proofs.Ytcbkenicjmhkdaa
