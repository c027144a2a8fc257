/-
  A label that comes in, opened: a kind and bytes.
-/
import Derived.Test.YtgbjecgkbhknmaaProg
import Derived.Lib.SmallJoins
import Derived.ProofKit
import Derived.OpenShut
import Derived.KernelRfl
namespace Go.Proofs.Ytgbjecgkbhknmaa
set_option linter.unusedVariables false
open Go.RowKit Go.Joins

theorem cells_label : Try.prog.cellsOf 24 = 2 := by kernel_rfl

theorem open_label {H : Type} {enc : TypeId × Value → H} {W : World} {base : Nat} {v : Value} {d : DataW H} {p : List MemPlace}
    (hv : Value.okWide Try.prog W .any base 24 v) (h : DataW.Trod enc Try.prog W 0 (fun _ => true) true 24 v d p) :
    ∃ k b, v = .agg #[.int .i64 k, .string b] ∧ b.size ≤ maxLen ∧ (Lit.int .i64 k).wf = true := by
  obtain ⟨c0, c1, y0, y1, m, rfl, rfl, rfl, hy0, hy1⟩ := open_agg2 Try.underlying24 (by kernel_rfl) cells_label hv h
  obtain ⟨a, e0, rfl, wa⟩ := DataW.trod_int Try.underlying3 hy0
  obtain ⟨s, e1, rfl, ws⟩ := DataW.trod_string Try.underlying9 hy1
  simp at e0 e1
  subst e0 e1
  exact ⟨a, s, rfl, ws, wa⟩

end Go.Proofs.Ytgbjecgkbhknmaa
