/-
  No cell of these rows narrows 'for every input' (looked for: loops, veiled, ifaces, maps, wideKeys, modest, calm, conditions, laid).
  DERIVED. THE GIVEN ROWS OF THIS SEAT. 5 by the template 'for every input the law returns true; each argument reads behind the call as it read before'; 0 by the template 'total and deterministic' (their statements: YtigllfnplglkiaaTotals.lean).
  GIVEN WITH THE SEED: the statements are not yours to turn. If you find one false, say at which input.
  Laid BY PROGRAM, IN A SANDBOX (cutbox-rows.mjs): the forced cells as the released guide's own fill.sh prints them over the translation 80de01d057d30366… (all of the seat's roots in one cut). By AI agents, Wed Nov 11 2026. No macro, syntax, notation, axiom, sorry.
-/
import Derived.Test.YtigllfnplglkiaaChecked
import GoSem.Claim
import GoSem.ClaimJoined
import GoSem.ClaimMapViews
import Derived.JoinedTies
import Derived.KernelRfl
namespace Go.Proofs.Ytigllfnplglkiaa
/- THE CELL 'sum', in the pinned program and in every row, IS THE sha256 OF THE DUMP (.gsa) THAT YtigllfnplglkiaaProg.lean LOADS. Nothing in Lean hashes anything: it is a label: what it is worth is what the hold of that sum in a sandbox is worth. -/
noncomputable def Try.pinned : Pinned := { name := "ytigllfnplglkiaa", sum := "80de01d057d303664adb330c9d2925998c0e3cee695ada83395dd523085f2524", checked := Try.checked }
namespace Rows
def none {H : Type} : Left H := { results := [], args := [] }

/-- 'aeriallaw03.Crc32Sums': WHATEVER THE INPUT: true; the input reads as it did. -/
def crc32SumsSpec : ChangeSpec := { name := "crc32Sums", fn := fun _ => fun
  | [d] => { results := [.lit (.bool true)], args := [d] }
  | _ => none }
def crc32SumsRow : OpenClaim := { program := "ytigllfnplglkiaa", sum := "80de01d057d303664adb330c9d2925998c0e3cee695ada83395dd523085f2524", func := "aerial/aeriallaw03.Crc32Sums", spec := "crc32Sums", unfollowed := true, recurses := true, apart := false }
def Crc32SumsSaid : Prop := crc32SumsRow.holds Try.pinned (OpenSpec.ofChange crc32SumsSpec)

/-- ITS FALSE NEIGHBOUR: 'it returns false'. Refute it at one input. -/
def crc32SumsWrong : ChangeSpec := { name := "crc32Sums", fn := fun _ => fun
  | [d] => { results := [.lit (.bool false)], args := [d] }
  | _ => none }
def Crc32SumsWrongFalsely : Prop := crc32SumsRow.holds Try.pinned (OpenSpec.ofChange crc32SumsWrong)

/-- 'aeriallaw03.Crc32Zero': WHATEVER THE INPUT: true; the input reads as it did. -/
def crc32ZeroSpec : ChangeSpec := { name := "crc32Zero", fn := fun _ => fun
  | [d] => { results := [.lit (.bool true)], args := [d] }
  | _ => none }
def crc32ZeroRow : OpenClaim := { program := "ytigllfnplglkiaa", sum := "80de01d057d303664adb330c9d2925998c0e3cee695ada83395dd523085f2524", func := "aerial/aeriallaw03.Crc32Zero", spec := "crc32Zero", unfollowed := true, recurses := true, apart := false }
def Crc32ZeroSaid : Prop := crc32ZeroRow.holds Try.pinned (OpenSpec.ofChange crc32ZeroSpec)

/-- ITS FALSE NEIGHBOUR: 'it returns false'. Refute it at one input. -/
def crc32ZeroWrong : ChangeSpec := { name := "crc32Zero", fn := fun _ => fun
  | [d] => { results := [.lit (.bool false)], args := [d] }
  | _ => none }
def Crc32ZeroWrongFalsely : Prop := crc32ZeroRow.holds Try.pinned (OpenSpec.ofChange crc32ZeroWrong)

/-- 'aeriallaw03.Crc32Turned': WHATEVER THE INPUT: true; the input reads as it did. -/
def crc32TurnedSpec : ChangeSpec := { name := "crc32Turned", fn := fun _ => fun
  | [d1, d2, d3] => { results := [.lit (.bool true)], args := [d1, d2, d3] }
  | _ => none }
def crc32TurnedRow : OpenClaim := { program := "ytigllfnplglkiaa", sum := "80de01d057d303664adb330c9d2925998c0e3cee695ada83395dd523085f2524", func := "aerial/aeriallaw03.Crc32Turned", spec := "crc32Turned", unfollowed := true, recurses := true, apart := false }
def Crc32TurnedSaid : Prop := crc32TurnedRow.holds Try.pinned (OpenSpec.ofChange crc32TurnedSpec)

/-- ITS FALSE NEIGHBOUR: 'it returns false'. Refute it at one input. -/
def crc32TurnedWrong : ChangeSpec := { name := "crc32Turned", fn := fun _ => fun
  | [d1, d2, d3] => { results := [.lit (.bool false)], args := [d1, d2, d3] }
  | _ => none }
def Crc32TurnedWrongFalsely : Prop := crc32TurnedRow.holds Try.pinned (OpenSpec.ofChange crc32TurnedWrong)

/-- 'aeriallaw03.Crc32Adds': WHATEVER THE INPUT: true; the input reads as it did. -/
def crc32AddsSpec : ChangeSpec := { name := "crc32Adds", fn := fun _ => fun
  | [d1, d2, d3] => { results := [.lit (.bool true)], args := [d1, d2, d3] }
  | _ => none }
def crc32AddsRow : OpenClaim := { program := "ytigllfnplglkiaa", sum := "80de01d057d303664adb330c9d2925998c0e3cee695ada83395dd523085f2524", func := "aerial/aeriallaw03.Crc32Adds", spec := "crc32Adds", unfollowed := true, recurses := true, apart := false }
def Crc32AddsSaid : Prop := crc32AddsRow.holds Try.pinned (OpenSpec.ofChange crc32AddsSpec)

/-- ITS FALSE NEIGHBOUR: 'it returns false'. Refute it at one input. -/
def crc32AddsWrong : ChangeSpec := { name := "crc32Adds", fn := fun _ => fun
  | [d1, d2, d3] => { results := [.lit (.bool false)], args := [d1, d2, d3] }
  | _ => none }
def Crc32AddsWrongFalsely : Prop := crc32AddsRow.holds Try.pinned (OpenSpec.ofChange crc32AddsWrong)

/-- 'aeriallaw03.Crc32Known': WHATEVER THE INPUT: true; the input reads as it did. -/
def crc32KnownSpec : ChangeSpec := { name := "crc32Known", fn := fun _ => fun
  | [] => { results := [.lit (.bool true)], args := [] }
  | _ => none }
def crc32KnownRow : OpenClaim := { program := "ytigllfnplglkiaa", sum := "80de01d057d303664adb330c9d2925998c0e3cee695ada83395dd523085f2524", func := "aerial/aeriallaw03.Crc32Known", spec := "crc32Known", unfollowed := true, recurses := true, apart := false }
def Crc32KnownSaid : Prop := crc32KnownRow.holds Try.pinned (OpenSpec.ofChange crc32KnownSpec)

/-- ITS FALSE NEIGHBOUR: 'it returns false'. Refute it at one input. -/
def crc32KnownWrong : ChangeSpec := { name := "crc32Known", fn := fun _ => fun
  | [] => { results := [.lit (.bool false)], args := [] }
  | _ => none }
def Crc32KnownWrongFalsely : Prop := crc32KnownRow.holds Try.pinned (OpenSpec.ofChange crc32KnownWrong)

/- THE SECOND FORM. 'bulk': how many values and letters a reading holds, each counted each time it is reached (what is shared counts as often as it is met; a slice's spare places count too). A statement '..UptoSaid' is the law's where the arguments, and the package variables that the reading takes, are together of bulk at most 1048576: NARROWER than '..Said'. Prove '..Said' where nothing that the law and all that it calls make is longer than what came in: it says more and counts as full. Else prove '..UptoSaid'. A law counts once. -/
mutual
def uptoBulk {H : Type} : DataW H → Nat
  | .lit (.string bytes) => bytes.length + 1
  | .lit _ => 1
  | .nil => 1
  | .ptr d => uptoBulk d + 1
  | .slice elems spare => uptoBulkAll elems + uptoBulkAll spare + 1
  | .agg parts => uptoBulkAll parts + 1
  | .iface _ d => uptoBulk d + 1
  | .map entries => uptoBulkEntries entries + 1
  | .held _ => 1
def uptoBulkAll {H : Type} : List (DataW H) → Nat
  | [] => 0
  | d :: r => uptoBulk d + uptoBulkAll r
def uptoBulkEntries {H : Type} : List (Lit × DataW H) → Nat
  | [] => 0
  | x :: r => uptoBulkEntry x + uptoBulkEntries r
def uptoBulkEntry {H : Type} : Lit × DataW H → Nat
  | (.string bytes, d) => bytes.length + uptoBulk d + 1
  | (_, d) => uptoBulk d + 1
 end
def uptoSmall : (H : Type) → List (DataW H) → Bool := fun _ ds => decide (uptoBulkAll ds ≤ 1048576)
def OpenSpec.upto (s : _root_.Go.ChangeSpec) : _root_.Go.OpenSpec := { _root_.Go.OpenSpec.ofChange s with cond := some uptoSmall }

/-- 'aeriallaw03.Crc32Sums', WHERE WHAT IT READS IS OF BULK AT MOST 1048576: true; the input reads as it did. -/
def crc32SumsUptoRow : OpenClaim := { program := "ytigllfnplglkiaa", sum := "80de01d057d303664adb330c9d2925998c0e3cee695ada83395dd523085f2524", func := "aerial/aeriallaw03.Crc32Sums", spec := "crc32Sums", unfollowed := true, recurses := true, apart := false, narrowed := true }
def Crc32SumsUptoSaid : Prop := crc32SumsUptoRow.holds Try.pinned (OpenSpec.upto crc32SumsSpec)

/-- 'aeriallaw03.Crc32Zero', WHERE WHAT IT READS IS OF BULK AT MOST 1048576: true; the input reads as it did. -/
def crc32ZeroUptoRow : OpenClaim := { program := "ytigllfnplglkiaa", sum := "80de01d057d303664adb330c9d2925998c0e3cee695ada83395dd523085f2524", func := "aerial/aeriallaw03.Crc32Zero", spec := "crc32Zero", unfollowed := true, recurses := true, apart := false, narrowed := true }
def Crc32ZeroUptoSaid : Prop := crc32ZeroUptoRow.holds Try.pinned (OpenSpec.upto crc32ZeroSpec)

/-- 'aeriallaw03.Crc32Turned', WHERE WHAT IT READS IS OF BULK AT MOST 1048576: true; the input reads as it did. -/
def crc32TurnedUptoRow : OpenClaim := { program := "ytigllfnplglkiaa", sum := "80de01d057d303664adb330c9d2925998c0e3cee695ada83395dd523085f2524", func := "aerial/aeriallaw03.Crc32Turned", spec := "crc32Turned", unfollowed := true, recurses := true, apart := false, narrowed := true }
def Crc32TurnedUptoSaid : Prop := crc32TurnedUptoRow.holds Try.pinned (OpenSpec.upto crc32TurnedSpec)

/-- 'aeriallaw03.Crc32Adds', WHERE WHAT IT READS IS OF BULK AT MOST 1048576: true; the input reads as it did. -/
def crc32AddsUptoRow : OpenClaim := { program := "ytigllfnplglkiaa", sum := "80de01d057d303664adb330c9d2925998c0e3cee695ada83395dd523085f2524", func := "aerial/aeriallaw03.Crc32Adds", spec := "crc32Adds", unfollowed := true, recurses := true, apart := false, narrowed := true }
def Crc32AddsUptoSaid : Prop := crc32AddsUptoRow.holds Try.pinned (OpenSpec.upto crc32AddsSpec)

/-- 'aeriallaw03.Crc32Known', WHERE WHAT IT READS IS OF BULK AT MOST 1048576: true; the input reads as it did. -/
def crc32KnownUptoRow : OpenClaim := { program := "ytigllfnplglkiaa", sum := "80de01d057d303664adb330c9d2925998c0e3cee695ada83395dd523085f2524", func := "aerial/aeriallaw03.Crc32Known", spec := "crc32Known", unfollowed := true, recurses := true, apart := false, narrowed := true }
def Crc32KnownUptoSaid : Prop := crc32KnownUptoRow.holds Try.pinned (OpenSpec.upto crc32KnownSpec)

end Rows
end Go.Proofs.Ytigllfnplglkiaa
