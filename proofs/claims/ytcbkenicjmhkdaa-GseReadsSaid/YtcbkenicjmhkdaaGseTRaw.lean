/-
  GseT: the laws' arguments, opened.
-/
import Derived.Test.YtcbkenicjmhkdaaGseTLaw
import Derived.Test.YtcbkenicjmhkdaaEm4
namespace Go.Proofs.Ytcbkenicjmhkdaa
set_option linter.unusedVariables false
set_option linter.unusedSimpArgs false
open Go.RowKit Ev

theorem gseReads_raw {H : Type} {enc : TypeId × Value → H} {b0 : Nat} {d0 : DataW H} {p0 : List MemPlace} (v0 : Value) (W : World)
    (hv0 : Value.okWide Try.prog W .any b0 9 v0) (h0 : DataW.Trod enc Try.prog W 0 (fun _ => true) true 9 v0 d0 p0) (_ : ∀ x ∈ p0, x.block < W.heap.size) :
    Calls Try.prog 5 #[v0] W fun e w' => e = .returned (.bool true) ∧ Below W.heap.size W w' := by
  obtain ⟨_, e0, ⟨s, rfl, w_s⟩⟩ := open_any (K := .one (.str)) (by kernel_rfl) hv0 h0
  rw [e0 rho0]
  exact law_true TSok.ctx (args := [.str s]) (reads_true s) rfl rho0 W

end Go.Proofs.Ytcbkenicjmhkdaa
