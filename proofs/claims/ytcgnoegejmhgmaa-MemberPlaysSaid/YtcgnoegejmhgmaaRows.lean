/-
  No cell of these rows narrows 'for every input' (looked for: loops, veiled, ifaces, maps, wideKeys, modest, calm, conditions, laid).
  DERIVED. THE GIVEN ROWS OF THIS SEAT. 4 by the template 'for every input the law returns true; each argument reads behind the call as it read before'; 0 by the template 'total and deterministic' (their statements: YtcgnoegejmhgmaaTotals.lean).
  GIVEN WITH THE SEED: the statements are not yours to turn. If you find one false, say at which input.
  Laid BY PROGRAM, IN A SANDBOX (cutbox-rows.mjs): the forced cells as the released guide's own fill.sh prints them over the translation ae2d2d47b23c3643… (all of the seat's roots in one cut). By AI agents, Wed Nov 11 2026. No macro, syntax, notation, axiom, sorry.
-/
import Derived.Test.YtcgnoegejmhgmaaChecked
import GoSem.Claim
import GoSem.ClaimJoined
import GoSem.ClaimMapViews
import Derived.JoinedTies
import Derived.KernelRfl
namespace Go.Proofs.Ytcgnoegejmhgmaa
/- THE CELL 'sum', in the pinned program and in every row, IS THE sha256 OF THE DUMP (.gsa) THAT YtcgnoegejmhgmaaProg.lean LOADS. Nothing in Lean hashes anything: it is a label: what it is worth is what the hold of that sum in a sandbox is worth. -/
noncomputable def Try.pinned : Pinned := { name := "ytcgnoegejmhgmaa", sum := "ae2d2d47b23c364347f454795506e908cb935f691988b5aa847ec323f41e6a1e", checked := Try.checked }
namespace Rows
def none {H : Type} : Left H := { results := [], args := [] }

/-- 'aeriallaw17.MemberLast': WHATEVER THE INPUT: true; the input reads as it did. -/
def memberLastSpec : ChangeSpec := { name := "memberLast", fn := fun _ => fun
  | [d1, d2, d3] => { results := [.lit (.bool true)], args := [d1, d2, d3] }
  | _ => none }
def memberLastRow : OpenClaim := { program := "ytcgnoegejmhgmaa", sum := "ae2d2d47b23c364347f454795506e908cb935f691988b5aa847ec323f41e6a1e", func := "aerial/aeriallaw17.MemberLast", spec := "memberLast", unfollowed := true, recurses := true, apart := false }
def MemberLastSaid : Prop := memberLastRow.holds Try.pinned (OpenSpec.ofChange memberLastSpec)

/-- ITS FALSE NEIGHBOUR: 'it returns false'. Refute it at one input. -/
def memberLastWrong : ChangeSpec := { name := "memberLast", fn := fun _ => fun
  | [d1, d2, d3] => { results := [.lit (.bool false)], args := [d1, d2, d3] }
  | _ => none }
def MemberLastWrongFalsely : Prop := memberLastRow.holds Try.pinned (OpenSpec.ofChange memberLastWrong)

/-- 'aeriallaw17.MemberPlays': WHATEVER THE INPUT: true; the input reads as it did. -/
def memberPlaysSpec : ChangeSpec := { name := "memberPlays", fn := fun _ => fun
  | [d1, d2, d3] => { results := [.lit (.bool true)], args := [d1, d2, d3] }
  | _ => none }
def memberPlaysRow : OpenClaim := { program := "ytcgnoegejmhgmaa", sum := "ae2d2d47b23c364347f454795506e908cb935f691988b5aa847ec323f41e6a1e", func := "aerial/aeriallaw17.MemberPlays", spec := "memberPlays", unfollowed := true, recurses := true, apart := false }
def MemberPlaysSaid : Prop := memberPlaysRow.holds Try.pinned (OpenSpec.ofChange memberPlaysSpec)

/-- ITS FALSE NEIGHBOUR: 'it returns false'. Refute it at one input. -/
def memberPlaysWrong : ChangeSpec := { name := "memberPlays", fn := fun _ => fun
  | [d1, d2, d3] => { results := [.lit (.bool false)], args := [d1, d2, d3] }
  | _ => none }
def MemberPlaysWrongFalsely : Prop := memberPlaysRow.holds Try.pinned (OpenSpec.ofChange memberPlaysWrong)

/-- 'aeriallaw17.MemberOnce': WHATEVER THE INPUT: true; the input reads as it did. -/
def memberOnceSpec : ChangeSpec := { name := "memberOnce", fn := fun _ => fun
  | [d1, d2] => { results := [.lit (.bool true)], args := [d1, d2] }
  | _ => none }
def memberOnceRow : OpenClaim := { program := "ytcgnoegejmhgmaa", sum := "ae2d2d47b23c364347f454795506e908cb935f691988b5aa847ec323f41e6a1e", func := "aerial/aeriallaw17.MemberOnce", spec := "memberOnce", unfollowed := true, recurses := true, apart := false }
def MemberOnceSaid : Prop := memberOnceRow.holds Try.pinned (OpenSpec.ofChange memberOnceSpec)

/-- ITS FALSE NEIGHBOUR: 'it returns false'. Refute it at one input. -/
def memberOnceWrong : ChangeSpec := { name := "memberOnce", fn := fun _ => fun
  | [d1, d2] => { results := [.lit (.bool false)], args := [d1, d2] }
  | _ => none }
def MemberOnceWrongFalsely : Prop := memberOnceRow.holds Try.pinned (OpenSpec.ofChange memberOnceWrong)

/-- 'aeriallaw17.MemberKnown': WHATEVER THE INPUT: true; the input reads as it did. -/
def memberKnownSpec : ChangeSpec := { name := "memberKnown", fn := fun _ => fun
  | [] => { results := [.lit (.bool true)], args := [] }
  | _ => none }
def memberKnownRow : OpenClaim := { program := "ytcgnoegejmhgmaa", sum := "ae2d2d47b23c364347f454795506e908cb935f691988b5aa847ec323f41e6a1e", func := "aerial/aeriallaw17.MemberKnown", spec := "memberKnown", unfollowed := true, recurses := true, apart := false }
def MemberKnownSaid : Prop := memberKnownRow.holds Try.pinned (OpenSpec.ofChange memberKnownSpec)

/-- ITS FALSE NEIGHBOUR: 'it returns false'. Refute it at one input. -/
def memberKnownWrong : ChangeSpec := { name := "memberKnown", fn := fun _ => fun
  | [] => { results := [.lit (.bool false)], args := [] }
  | _ => none }
def MemberKnownWrongFalsely : Prop := memberKnownRow.holds Try.pinned (OpenSpec.ofChange memberKnownWrong)

/- THE SECOND FORM. 'bulk': how many values and letters a reading holds, each counted each time it is reached (what is shared counts as often as it is met; a slice's spare places count too). A statement '..UptoSaid' is the law's where the arguments, and the package variables that the reading takes, are together of bulk at most 1048576: NARROWER than '..Said'. Prove '..Said' where nothing that the law and all that it calls make is longer than what came in: it says more and counts as full. Else prove '..UptoSaid'. A law counts once. -/
mutual
def uptoBulk {H : Type} : DataW H → Nat
  | .lit (.string bytes) => bytes.length + 1
  | .lit _ => 1
  | .nil => 1
  | .ptr d => uptoBulk d + 1
  | .slice elems spare => uptoBulkAll elems + uptoBulkAll spare + 1
  | .agg parts => uptoBulkAll parts + 1
  | .iface _ d => uptoBulk d + 1
  | .map entries => uptoBulkEntries entries + 1
  | .held _ => 1
def uptoBulkAll {H : Type} : List (DataW H) → Nat
  | [] => 0
  | d :: r => uptoBulk d + uptoBulkAll r
def uptoBulkEntries {H : Type} : List (Lit × DataW H) → Nat
  | [] => 0
  | x :: r => uptoBulkEntry x + uptoBulkEntries r
def uptoBulkEntry {H : Type} : Lit × DataW H → Nat
  | (.string bytes, d) => bytes.length + uptoBulk d + 1
  | (_, d) => uptoBulk d + 1
 end
def uptoSmall : (H : Type) → List (DataW H) → Bool := fun _ ds => decide (uptoBulkAll ds ≤ 1048576)
def OpenSpec.upto (s : _root_.Go.ChangeSpec) : _root_.Go.OpenSpec := { _root_.Go.OpenSpec.ofChange s with cond := some uptoSmall }

/-- 'aeriallaw17.MemberLast', WHERE WHAT IT READS IS OF BULK AT MOST 1048576: true; the input reads as it did. -/
def memberLastUptoRow : OpenClaim := { program := "ytcgnoegejmhgmaa", sum := "ae2d2d47b23c364347f454795506e908cb935f691988b5aa847ec323f41e6a1e", func := "aerial/aeriallaw17.MemberLast", spec := "memberLast", unfollowed := true, recurses := true, apart := false, narrowed := true }
def MemberLastUptoSaid : Prop := memberLastUptoRow.holds Try.pinned (OpenSpec.upto memberLastSpec)

/-- 'aeriallaw17.MemberPlays', WHERE WHAT IT READS IS OF BULK AT MOST 1048576: true; the input reads as it did. -/
def memberPlaysUptoRow : OpenClaim := { program := "ytcgnoegejmhgmaa", sum := "ae2d2d47b23c364347f454795506e908cb935f691988b5aa847ec323f41e6a1e", func := "aerial/aeriallaw17.MemberPlays", spec := "memberPlays", unfollowed := true, recurses := true, apart := false, narrowed := true }
def MemberPlaysUptoSaid : Prop := memberPlaysUptoRow.holds Try.pinned (OpenSpec.upto memberPlaysSpec)

/-- 'aeriallaw17.MemberOnce', WHERE WHAT IT READS IS OF BULK AT MOST 1048576: true; the input reads as it did. -/
def memberOnceUptoRow : OpenClaim := { program := "ytcgnoegejmhgmaa", sum := "ae2d2d47b23c364347f454795506e908cb935f691988b5aa847ec323f41e6a1e", func := "aerial/aeriallaw17.MemberOnce", spec := "memberOnce", unfollowed := true, recurses := true, apart := false, narrowed := true }
def MemberOnceUptoSaid : Prop := memberOnceUptoRow.holds Try.pinned (OpenSpec.upto memberOnceSpec)

/-- 'aeriallaw17.MemberKnown', WHERE WHAT IT READS IS OF BULK AT MOST 1048576: true; the input reads as it did. -/
def memberKnownUptoRow : OpenClaim := { program := "ytcgnoegejmhgmaa", sum := "ae2d2d47b23c364347f454795506e908cb935f691988b5aa847ec323f41e6a1e", func := "aerial/aeriallaw17.MemberKnown", spec := "memberKnown", unfollowed := true, recurses := true, apart := false, narrowed := true }
def MemberKnownUptoSaid : Prop := memberKnownUptoRow.holds Try.pinned (OpenSpec.upto memberKnownSpec)

end Rows
end Go.Proofs.Ytcgnoegejmhgmaa
