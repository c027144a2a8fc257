/-
  No cell of these rows narrows 'for every input' (looked for: loops, veiled, ifaces, maps, wideKeys, modest, calm, conditions, laid).
  DERIVED. THE GIVEN ROWS OF THIS SEAT. 5 by the template 'for every input the law returns true; each argument reads behind the call as it read before'; 0 by the template 'total and deterministic' (their statements: YtjacnjecggedhaaTotals.lean).
  GIVEN WITH THE SEED: the statements are not yours to turn. If you find one false, say at which input.
  Laid BY PROGRAM, IN A SANDBOX (cutbox-rows.mjs): the forced cells as the released guide's own fill.sh prints them over the translation 7766854e0d24cdde… (all of the seat's roots in one cut). By AI agents, Wed Nov 11 2026. No macro, syntax, notation, axiom, sorry.
-/
import Derived.Test.YtjacnjecggedhaaChecked
import GoSem.Claim
import GoSem.ClaimJoined
import GoSem.ClaimMapViews
import Derived.JoinedTies
import Derived.KernelRfl
namespace Go.Proofs.Ytjacnjecggedhaa
/- THE CELL 'sum', in the pinned program and in every row, IS THE sha256 OF THE DUMP (.gsa) THAT YtjacnjecggedhaaProg.lean LOADS. Nothing in Lean hashes anything: it is a label: what it is worth is what the hold of that sum in a sandbox is worth. -/
noncomputable def Try.pinned : Pinned := { name := "ytjacnjecggedhaa", sum := "7766854e0d24cddeecf55a37332638e7e5f5be91b2dac6ae2e602d4f9436f1ac", checked := Try.checked }
namespace Rows
def none {H : Type} : Left H := { results := [], args := [] }

/-- 'aeriallaw24.FillIs': WHATEVER THE INPUT: true; the input reads as it did. -/
def fillIsSpec : ChangeSpec := { name := "fillIs", fn := fun _ => fun
  | [d1, d2, d3] => { results := [.lit (.bool true)], args := [d1, d2, d3] }
  | _ => none }
def fillIsRow : OpenClaim := { program := "ytjacnjecggedhaa", sum := "7766854e0d24cddeecf55a37332638e7e5f5be91b2dac6ae2e602d4f9436f1ac", func := "aerial/aeriallaw24.FillIs", spec := "fillIs", unfollowed := true, recurses := true, apart := false }
def FillIsSaid : Prop := fillIsRow.holds Try.pinned (OpenSpec.ofChange fillIsSpec)

/-- ITS FALSE NEIGHBOUR: 'it returns false'. Refute it at one input. -/
def fillIsWrong : ChangeSpec := { name := "fillIs", fn := fun _ => fun
  | [d1, d2, d3] => { results := [.lit (.bool false)], args := [d1, d2, d3] }
  | _ => none }
def FillIsWrongFalsely : Prop := fillIsRow.holds Try.pinned (OpenSpec.ofChange fillIsWrong)

/-- 'aeriallaw24.FillFits': WHATEVER THE INPUT: true; the input reads as it did. -/
def fillFitsSpec : ChangeSpec := { name := "fillFits", fn := fun _ => fun
  | [d1, d2] => { results := [.lit (.bool true)], args := [d1, d2] }
  | _ => none }
def fillFitsRow : OpenClaim := { program := "ytjacnjecggedhaa", sum := "7766854e0d24cddeecf55a37332638e7e5f5be91b2dac6ae2e602d4f9436f1ac", func := "aerial/aeriallaw24.FillFits", spec := "fillFits", unfollowed := true, recurses := true, apart := false }
def FillFitsSaid : Prop := fillFitsRow.holds Try.pinned (OpenSpec.ofChange fillFitsSpec)

/-- ITS FALSE NEIGHBOUR: 'it returns false'. Refute it at one input. -/
def fillFitsWrong : ChangeSpec := { name := "fillFits", fn := fun _ => fun
  | [d1, d2] => { results := [.lit (.bool false)], args := [d1, d2] }
  | _ => none }
def FillFitsWrongFalsely : Prop := fillFitsRow.holds Try.pinned (OpenSpec.ofChange fillFitsWrong)

/-- 'aeriallaw24.FillWhole': WHATEVER THE INPUT: true; the input reads as it did. -/
def fillWholeSpec : ChangeSpec := { name := "fillWhole", fn := fun _ => fun
  | [d] => { results := [.lit (.bool true)], args := [d] }
  | _ => none }
def fillWholeRow : OpenClaim := { program := "ytjacnjecggedhaa", sum := "7766854e0d24cddeecf55a37332638e7e5f5be91b2dac6ae2e602d4f9436f1ac", func := "aerial/aeriallaw24.FillWhole", spec := "fillWhole", unfollowed := true, recurses := true, apart := false }
def FillWholeSaid : Prop := fillWholeRow.holds Try.pinned (OpenSpec.ofChange fillWholeSpec)

/-- ITS FALSE NEIGHBOUR: 'it returns false'. Refute it at one input. -/
def fillWholeWrong : ChangeSpec := { name := "fillWhole", fn := fun _ => fun
  | [d] => { results := [.lit (.bool false)], args := [d] }
  | _ => none }
def FillWholeWrongFalsely : Prop := fillWholeRow.holds Try.pinned (OpenSpec.ofChange fillWholeWrong)

/-- 'aeriallaw24.FillKnown': WHATEVER THE INPUT: true; the input reads as it did. -/
def fillKnownSpec : ChangeSpec := { name := "fillKnown", fn := fun _ => fun
  | [] => { results := [.lit (.bool true)], args := [] }
  | _ => none }
def fillKnownRow : OpenClaim := { program := "ytjacnjecggedhaa", sum := "7766854e0d24cddeecf55a37332638e7e5f5be91b2dac6ae2e602d4f9436f1ac", func := "aerial/aeriallaw24.FillKnown", spec := "fillKnown", unfollowed := true, recurses := true, apart := false }
def FillKnownSaid : Prop := fillKnownRow.holds Try.pinned (OpenSpec.ofChange fillKnownSpec)

/-- ITS FALSE NEIGHBOUR: 'it returns false'. Refute it at one input. -/
def fillKnownWrong : ChangeSpec := { name := "fillKnown", fn := fun _ => fun
  | [] => { results := [.lit (.bool false)], args := [] }
  | _ => none }
def FillKnownWrongFalsely : Prop := fillKnownRow.holds Try.pinned (OpenSpec.ofChange fillKnownWrong)

/-- 'aeriallaw24.FillEnds': WHATEVER THE INPUT: true; the input reads as it did. -/
def fillEndsSpec : ChangeSpec := { name := "fillEnds", fn := fun _ => fun
  | [d1, d2, d3] => { results := [.lit (.bool true)], args := [d1, d2, d3] }
  | _ => none }
def fillEndsRow : OpenClaim := { program := "ytjacnjecggedhaa", sum := "7766854e0d24cddeecf55a37332638e7e5f5be91b2dac6ae2e602d4f9436f1ac", func := "aerial/aeriallaw24.FillEnds", spec := "fillEnds", unfollowed := true, recurses := true, apart := false }
def FillEndsSaid : Prop := fillEndsRow.holds Try.pinned (OpenSpec.ofChange fillEndsSpec)

/-- ITS FALSE NEIGHBOUR: 'it returns false'. Refute it at one input. -/
def fillEndsWrong : ChangeSpec := { name := "fillEnds", fn := fun _ => fun
  | [d1, d2, d3] => { results := [.lit (.bool false)], args := [d1, d2, d3] }
  | _ => none }
def FillEndsWrongFalsely : Prop := fillEndsRow.holds Try.pinned (OpenSpec.ofChange fillEndsWrong)

/- THE SECOND FORM. 'bulk': how many values and letters a reading holds, each counted each time it is reached (what is shared counts as often as it is met; a slice's spare places count too). A statement '..UptoSaid' is the law's where the arguments, and the package variables that the reading takes, are together of bulk at most 1048576: NARROWER than '..Said'. Prove '..Said' where nothing that the law and all that it calls make is longer than what came in: it says more and counts as full. Else prove '..UptoSaid'. A law counts once. -/
mutual
def uptoBulk {H : Type} : DataW H → Nat
  | .lit (.string bytes) => bytes.length + 1
  | .lit _ => 1
  | .nil => 1
  | .ptr d => uptoBulk d + 1
  | .slice elems spare => uptoBulkAll elems + uptoBulkAll spare + 1
  | .agg parts => uptoBulkAll parts + 1
  | .iface _ d => uptoBulk d + 1
  | .map entries => uptoBulkEntries entries + 1
  | .held _ => 1
def uptoBulkAll {H : Type} : List (DataW H) → Nat
  | [] => 0
  | d :: r => uptoBulk d + uptoBulkAll r
def uptoBulkEntries {H : Type} : List (Lit × DataW H) → Nat
  | [] => 0
  | x :: r => uptoBulkEntry x + uptoBulkEntries r
def uptoBulkEntry {H : Type} : Lit × DataW H → Nat
  | (.string bytes, d) => bytes.length + uptoBulk d + 1
  | (_, d) => uptoBulk d + 1
 end
def uptoSmall : (H : Type) → List (DataW H) → Bool := fun _ ds => decide (uptoBulkAll ds ≤ 1048576)
def OpenSpec.upto (s : _root_.Go.ChangeSpec) : _root_.Go.OpenSpec := { _root_.Go.OpenSpec.ofChange s with cond := some uptoSmall }

/-- 'aeriallaw24.FillIs', WHERE WHAT IT READS IS OF BULK AT MOST 1048576: true; the input reads as it did. -/
def fillIsUptoRow : OpenClaim := { program := "ytjacnjecggedhaa", sum := "7766854e0d24cddeecf55a37332638e7e5f5be91b2dac6ae2e602d4f9436f1ac", func := "aerial/aeriallaw24.FillIs", spec := "fillIs", unfollowed := true, recurses := true, apart := false, narrowed := true }
def FillIsUptoSaid : Prop := fillIsUptoRow.holds Try.pinned (OpenSpec.upto fillIsSpec)

/-- 'aeriallaw24.FillFits', WHERE WHAT IT READS IS OF BULK AT MOST 1048576: true; the input reads as it did. -/
def fillFitsUptoRow : OpenClaim := { program := "ytjacnjecggedhaa", sum := "7766854e0d24cddeecf55a37332638e7e5f5be91b2dac6ae2e602d4f9436f1ac", func := "aerial/aeriallaw24.FillFits", spec := "fillFits", unfollowed := true, recurses := true, apart := false, narrowed := true }
def FillFitsUptoSaid : Prop := fillFitsUptoRow.holds Try.pinned (OpenSpec.upto fillFitsSpec)

/-- 'aeriallaw24.FillWhole', WHERE WHAT IT READS IS OF BULK AT MOST 1048576: true; the input reads as it did. -/
def fillWholeUptoRow : OpenClaim := { program := "ytjacnjecggedhaa", sum := "7766854e0d24cddeecf55a37332638e7e5f5be91b2dac6ae2e602d4f9436f1ac", func := "aerial/aeriallaw24.FillWhole", spec := "fillWhole", unfollowed := true, recurses := true, apart := false, narrowed := true }
def FillWholeUptoSaid : Prop := fillWholeUptoRow.holds Try.pinned (OpenSpec.upto fillWholeSpec)

/-- 'aeriallaw24.FillKnown', WHERE WHAT IT READS IS OF BULK AT MOST 1048576: true; the input reads as it did. -/
def fillKnownUptoRow : OpenClaim := { program := "ytjacnjecggedhaa", sum := "7766854e0d24cddeecf55a37332638e7e5f5be91b2dac6ae2e602d4f9436f1ac", func := "aerial/aeriallaw24.FillKnown", spec := "fillKnown", unfollowed := true, recurses := true, apart := false, narrowed := true }
def FillKnownUptoSaid : Prop := fillKnownUptoRow.holds Try.pinned (OpenSpec.upto fillKnownSpec)

/-- 'aeriallaw24.FillEnds', WHERE WHAT IT READS IS OF BULK AT MOST 1048576: true; the input reads as it did. -/
def fillEndsUptoRow : OpenClaim := { program := "ytjacnjecggedhaa", sum := "7766854e0d24cddeecf55a37332638e7e5f5be91b2dac6ae2e602d4f9436f1ac", func := "aerial/aeriallaw24.FillEnds", spec := "fillEnds", unfollowed := true, recurses := true, apart := false, narrowed := true }
def FillEndsUptoSaid : Prop := fillEndsUptoRow.holds Try.pinned (OpenSpec.upto fillEndsSpec)

end Rows
end Go.Proofs.Ytjacnjecggedhaa
