/-
  Two lists of numbers, alike?: states.
-/
import Derived.Test.YtcgnoegejmhgmaaMbOk5
namespace Go.Proofs.Ytcgnoegejmhgmaa
set_option linter.unusedVariables false
set_option linter.unusedSimpArgs false
open Go.RowKit Ev

noncomputable abbrev nuB : Code := bodyC Try.f12
noncomputable abbrev nuR : Code := codeAt [true, true, false, true, false, false] nuB
def roI (l : List Int) : ABlk := .row 3 (intRow .i64) l .ro
def nuH (a b : List Int) : AHeap := ⟨2, [(0, roI a), (1, roI b)]⟩
def sl0 (l : List Int) (k : Nat) : AVal := .sl 0 0 1 0 l.length (some k)
def sl1 (l : List Int) (k : Nat) : AVal := .sl 1 0 1 0 l.length (some k)
def nuE (a b : List Int) (ka kb : Nat) (i : Int) : Env := [(0, sl0 a ka), (1, sl1 b kb), (5, .int .i64 i)]
def tsN : AExit → List Nat := fun x => match x with
  | .ret => [4]
  | _ => [0, 1, 5]

end Go.Proofs.Ytcgnoegejmhgmaa
