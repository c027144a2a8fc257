/-
  LabelTells of two labels that come in.
-/
import Derived.Test.YtgbjecgkbhknmaaLabTells
import Derived.Test.YtgbjecgkbhknmaaLabOpen
namespace Go.Proofs.Ytgbjecgkbhknmaa
set_option linter.unusedVariables false
open Go.RowKit

theorem tells_raw {H : Type} {enc : TypeId × Value → H} {base base' : Nat} {d d' : DataW H} {p p' : List MemPlace} (v v' : Value) (W : World)
    (hv : Value.okWide Try.prog W .any base 24 v) (h : DataW.Trod enc Try.prog W 0 (fun _ => true) true 24 v d p) (_ : ∀ x ∈ p, x.block < W.heap.size)
    (hv' : Value.okWide Try.prog W .any base' 24 v') (h' : DataW.Trod enc Try.prog W 0 (fun _ => true) true 24 v' d' p') (_ : ∀ x ∈ p', x.block < W.heap.size) :
    Calls Try.prog 4 #[v, v'] W fun e w' => e = .returned (.bool true) ∧ Below W.heap.size W w' := by
  obtain ⟨k, b, rfl, hb, _⟩ := open_label hv h
  obtain ⟨k', b', rfl, hb', _⟩ := open_label hv' h'
  exact tells_any k k' b b' W hb hb'

end Go.Proofs.Ytgbjecgkbhknmaa
