/-
  No cell of these rows narrows 'for every input' (looked for: loops, veiled, ifaces, maps, wideKeys, modest, calm, conditions, laid).
  DERIVED. THE GIVEN ROWS OF THIS SEAT. 6 by the template 'for every input the law returns true; each argument reads behind the call as it read before'; 0 by the template 'total and deterministic' (their statements: YtofnedbclnlnmaaTotals.lean).
  GIVEN WITH THE SEED: the statements are not yours to turn. If you find one false, say at which input.
  Laid BY PROGRAM, IN A SANDBOX (cutbox-rows.mjs): the forced cells as the released guide's own fill.sh prints them over the translation 4b5b30e9db5e8c5c… (all of the seat's roots in one cut). By AI agents, Wed Nov 11 2026. No macro, syntax, notation, axiom, sorry.
-/
import Derived.Test.YtofnedbclnlnmaaChecked
import GoSem.Claim
import GoSem.ClaimJoined
import GoSem.ClaimMapViews
import Derived.JoinedTies
import Derived.KernelRfl
namespace Go.Proofs.Ytofnedbclnlnmaa
/- THE CELL 'sum', in the pinned program and in every row, IS THE sha256 OF THE DUMP (.gsa) THAT YtofnedbclnlnmaaProg.lean LOADS. Nothing in Lean hashes anything: it is a label: what it is worth is what the hold of that sum in a sandbox is worth. -/
noncomputable def Try.pinned : Pinned := { name := "ytofnedbclnlnmaa", sum := "4b5b30e9db5e8c5cddc1f6de0d02cae927e76251240270130db298b4126dbdbb", checked := Try.checked }
namespace Rows
def none {H : Type} : Left H := { results := [], args := [] }

/-- 'aeriallaw10.PduTells': WHATEVER THE INPUT: true; the input reads as it did. -/
def pduTellsSpec : ChangeSpec := { name := "pduTells", fn := fun _ => fun
  | [d1, d2, d3] => { results := [.lit (.bool true)], args := [d1, d2, d3] }
  | _ => none }
def pduTellsRow : OpenClaim := { program := "ytofnedbclnlnmaa", sum := "4b5b30e9db5e8c5cddc1f6de0d02cae927e76251240270130db298b4126dbdbb", func := "aerial/aeriallaw10.PduTells", spec := "pduTells", unfollowed := true, recurses := true, apart := false }
def PduTellsSaid : Prop := pduTellsRow.holds Try.pinned (OpenSpec.ofChange pduTellsSpec)

/-- ITS FALSE NEIGHBOUR: 'it returns false'. Refute it at one input. -/
def pduTellsWrong : ChangeSpec := { name := "pduTells", fn := fun _ => fun
  | [d1, d2, d3] => { results := [.lit (.bool false)], args := [d1, d2, d3] }
  | _ => none }
def PduTellsWrongFalsely : Prop := pduTellsRow.holds Try.pinned (OpenSpec.ofChange pduTellsWrong)

/-- 'aeriallaw10.PduTypes': WHATEVER THE INPUT: true; the input reads as it did. -/
def pduTypesSpec : ChangeSpec := { name := "pduTypes", fn := fun _ => fun
  | [d1, d2, d3] => { results := [.lit (.bool true)], args := [d1, d2, d3] }
  | _ => none }
def pduTypesRow : OpenClaim := { program := "ytofnedbclnlnmaa", sum := "4b5b30e9db5e8c5cddc1f6de0d02cae927e76251240270130db298b4126dbdbb", func := "aerial/aeriallaw10.PduTypes", spec := "pduTypes", unfollowed := true, recurses := true, apart := false }
def PduTypesSaid : Prop := pduTypesRow.holds Try.pinned (OpenSpec.ofChange pduTypesSpec)

/-- ITS FALSE NEIGHBOUR: 'it returns false'. Refute it at one input. -/
def pduTypesWrong : ChangeSpec := { name := "pduTypes", fn := fun _ => fun
  | [d1, d2, d3] => { results := [.lit (.bool false)], args := [d1, d2, d3] }
  | _ => none }
def PduTypesWrongFalsely : Prop := pduTypesRow.holds Try.pinned (OpenSpec.ofChange pduTypesWrong)

/-- 'aeriallaw10.PduRight': WHATEVER THE INPUT: true; the input reads as it did. -/
def pduRightSpec : ChangeSpec := { name := "pduRight", fn := fun _ => fun
  | [d] => { results := [.lit (.bool true)], args := [d] }
  | _ => none }
def pduRightRow : OpenClaim := { program := "ytofnedbclnlnmaa", sum := "4b5b30e9db5e8c5cddc1f6de0d02cae927e76251240270130db298b4126dbdbb", func := "aerial/aeriallaw10.PduRight", spec := "pduRight", unfollowed := true, recurses := true, apart := false }
def PduRightSaid : Prop := pduRightRow.holds Try.pinned (OpenSpec.ofChange pduRightSpec)

/-- ITS FALSE NEIGHBOUR: 'it returns false'. Refute it at one input. -/
def pduRightWrong : ChangeSpec := { name := "pduRight", fn := fun _ => fun
  | [d] => { results := [.lit (.bool false)], args := [d] }
  | _ => none }
def PduRightWrongFalsely : Prop := pduRightRow.holds Try.pinned (OpenSpec.ofChange pduRightWrong)

/-- 'aeriallaw10.PduKeeps': WHATEVER THE INPUT: true; the input reads as it did. -/
def pduKeepsSpec : ChangeSpec := { name := "pduKeeps", fn := fun _ => fun
  | [d1, d2, d3] => { results := [.lit (.bool true)], args := [d1, d2, d3] }
  | _ => none }
def pduKeepsRow : OpenClaim := { program := "ytofnedbclnlnmaa", sum := "4b5b30e9db5e8c5cddc1f6de0d02cae927e76251240270130db298b4126dbdbb", func := "aerial/aeriallaw10.PduKeeps", spec := "pduKeeps", unfollowed := true, recurses := true, apart := false }
def PduKeepsSaid : Prop := pduKeepsRow.holds Try.pinned (OpenSpec.ofChange pduKeepsSpec)

/-- ITS FALSE NEIGHBOUR: 'it returns false'. Refute it at one input. -/
def pduKeepsWrong : ChangeSpec := { name := "pduKeeps", fn := fun _ => fun
  | [d1, d2, d3] => { results := [.lit (.bool false)], args := [d1, d2, d3] }
  | _ => none }
def PduKeepsWrongFalsely : Prop := pduKeepsRow.holds Try.pinned (OpenSpec.ofChange pduKeepsWrong)

/-- 'aeriallaw10.PduSums': WHATEVER THE INPUT: true; the input reads as it did. -/
def pduSumsSpec : ChangeSpec := { name := "pduSums", fn := fun _ => fun
  | [d1, d2] => { results := [.lit (.bool true)], args := [d1, d2] }
  | _ => none }
def pduSumsRow : OpenClaim := { program := "ytofnedbclnlnmaa", sum := "4b5b30e9db5e8c5cddc1f6de0d02cae927e76251240270130db298b4126dbdbb", func := "aerial/aeriallaw10.PduSums", spec := "pduSums", unfollowed := true, recurses := true, apart := false }
def PduSumsSaid : Prop := pduSumsRow.holds Try.pinned (OpenSpec.ofChange pduSumsSpec)

/-- ITS FALSE NEIGHBOUR: 'it returns false'. Refute it at one input. -/
def pduSumsWrong : ChangeSpec := { name := "pduSums", fn := fun _ => fun
  | [d1, d2] => { results := [.lit (.bool false)], args := [d1, d2] }
  | _ => none }
def PduSumsWrongFalsely : Prop := pduSumsRow.holds Try.pinned (OpenSpec.ofChange pduSumsWrong)

/-- 'aeriallaw10.PduKnown': WHATEVER THE INPUT: true; the input reads as it did. -/
def pduKnownSpec : ChangeSpec := { name := "pduKnown", fn := fun _ => fun
  | [] => { results := [.lit (.bool true)], args := [] }
  | _ => none }
def pduKnownRow : OpenClaim := { program := "ytofnedbclnlnmaa", sum := "4b5b30e9db5e8c5cddc1f6de0d02cae927e76251240270130db298b4126dbdbb", func := "aerial/aeriallaw10.PduKnown", spec := "pduKnown", unfollowed := true, recurses := true, apart := false }
def PduKnownSaid : Prop := pduKnownRow.holds Try.pinned (OpenSpec.ofChange pduKnownSpec)

/-- ITS FALSE NEIGHBOUR: 'it returns false'. Refute it at one input. -/
def pduKnownWrong : ChangeSpec := { name := "pduKnown", fn := fun _ => fun
  | [] => { results := [.lit (.bool false)], args := [] }
  | _ => none }
def PduKnownWrongFalsely : Prop := pduKnownRow.holds Try.pinned (OpenSpec.ofChange pduKnownWrong)

/- THE SECOND FORM. 'bulk': how many values and letters a reading holds, each counted each time it is reached (what is shared counts as often as it is met; a slice's spare places count too). A statement '..UptoSaid' is the law's where the arguments, and the package variables that the reading takes, are together of bulk at most 1048576: NARROWER than '..Said'. Prove '..Said' where nothing that the law and all that it calls make is longer than what came in: it says more and counts as full. Else prove '..UptoSaid'. A law counts once. -/
mutual
def uptoBulk {H : Type} : DataW H → Nat
  | .lit (.string bytes) => bytes.length + 1
  | .lit _ => 1
  | .nil => 1
  | .ptr d => uptoBulk d + 1
  | .slice elems spare => uptoBulkAll elems + uptoBulkAll spare + 1
  | .agg parts => uptoBulkAll parts + 1
  | .iface _ d => uptoBulk d + 1
  | .map entries => uptoBulkEntries entries + 1
  | .held _ => 1
def uptoBulkAll {H : Type} : List (DataW H) → Nat
  | [] => 0
  | d :: r => uptoBulk d + uptoBulkAll r
def uptoBulkEntries {H : Type} : List (Lit × DataW H) → Nat
  | [] => 0
  | x :: r => uptoBulkEntry x + uptoBulkEntries r
def uptoBulkEntry {H : Type} : Lit × DataW H → Nat
  | (.string bytes, d) => bytes.length + uptoBulk d + 1
  | (_, d) => uptoBulk d + 1
 end
def uptoSmall : (H : Type) → List (DataW H) → Bool := fun _ ds => decide (uptoBulkAll ds ≤ 1048576)
def OpenSpec.upto (s : _root_.Go.ChangeSpec) : _root_.Go.OpenSpec := { _root_.Go.OpenSpec.ofChange s with cond := some uptoSmall }

/-- 'aeriallaw10.PduTells', WHERE WHAT IT READS IS OF BULK AT MOST 1048576: true; the input reads as it did. -/
def pduTellsUptoRow : OpenClaim := { program := "ytofnedbclnlnmaa", sum := "4b5b30e9db5e8c5cddc1f6de0d02cae927e76251240270130db298b4126dbdbb", func := "aerial/aeriallaw10.PduTells", spec := "pduTells", unfollowed := true, recurses := true, apart := false, narrowed := true }
def PduTellsUptoSaid : Prop := pduTellsUptoRow.holds Try.pinned (OpenSpec.upto pduTellsSpec)

/-- 'aeriallaw10.PduTypes', WHERE WHAT IT READS IS OF BULK AT MOST 1048576: true; the input reads as it did. -/
def pduTypesUptoRow : OpenClaim := { program := "ytofnedbclnlnmaa", sum := "4b5b30e9db5e8c5cddc1f6de0d02cae927e76251240270130db298b4126dbdbb", func := "aerial/aeriallaw10.PduTypes", spec := "pduTypes", unfollowed := true, recurses := true, apart := false, narrowed := true }
def PduTypesUptoSaid : Prop := pduTypesUptoRow.holds Try.pinned (OpenSpec.upto pduTypesSpec)

/-- 'aeriallaw10.PduRight', WHERE WHAT IT READS IS OF BULK AT MOST 1048576: true; the input reads as it did. -/
def pduRightUptoRow : OpenClaim := { program := "ytofnedbclnlnmaa", sum := "4b5b30e9db5e8c5cddc1f6de0d02cae927e76251240270130db298b4126dbdbb", func := "aerial/aeriallaw10.PduRight", spec := "pduRight", unfollowed := true, recurses := true, apart := false, narrowed := true }
def PduRightUptoSaid : Prop := pduRightUptoRow.holds Try.pinned (OpenSpec.upto pduRightSpec)

/-- 'aeriallaw10.PduKeeps', WHERE WHAT IT READS IS OF BULK AT MOST 1048576: true; the input reads as it did. -/
def pduKeepsUptoRow : OpenClaim := { program := "ytofnedbclnlnmaa", sum := "4b5b30e9db5e8c5cddc1f6de0d02cae927e76251240270130db298b4126dbdbb", func := "aerial/aeriallaw10.PduKeeps", spec := "pduKeeps", unfollowed := true, recurses := true, apart := false, narrowed := true }
def PduKeepsUptoSaid : Prop := pduKeepsUptoRow.holds Try.pinned (OpenSpec.upto pduKeepsSpec)

/-- 'aeriallaw10.PduSums', WHERE WHAT IT READS IS OF BULK AT MOST 1048576: true; the input reads as it did. -/
def pduSumsUptoRow : OpenClaim := { program := "ytofnedbclnlnmaa", sum := "4b5b30e9db5e8c5cddc1f6de0d02cae927e76251240270130db298b4126dbdbb", func := "aerial/aeriallaw10.PduSums", spec := "pduSums", unfollowed := true, recurses := true, apart := false, narrowed := true }
def PduSumsUptoSaid : Prop := pduSumsUptoRow.holds Try.pinned (OpenSpec.upto pduSumsSpec)

/-- 'aeriallaw10.PduKnown', WHERE WHAT IT READS IS OF BULK AT MOST 1048576: true; the input reads as it did. -/
def pduKnownUptoRow : OpenClaim := { program := "ytofnedbclnlnmaa", sum := "4b5b30e9db5e8c5cddc1f6de0d02cae927e76251240270130db298b4126dbdbb", func := "aerial/aeriallaw10.PduKnown", spec := "pduKnown", unfollowed := true, recurses := true, apart := false, narrowed := true }
def PduKnownUptoSaid : Prop := pduKnownUptoRow.holds Try.pinned (OpenSpec.upto pduKnownSpec)

end Rows
end Go.Proofs.Ytofnedbclnlnmaa
