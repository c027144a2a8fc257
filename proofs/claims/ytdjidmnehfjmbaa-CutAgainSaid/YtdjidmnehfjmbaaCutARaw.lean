/-
  CutA: the laws' arguments, opened.
-/
import Derived.Test.YtdjidmnehfjmbaaCutALaw
import Derived.Test.YtdjidmnehfjmbaaEm4
namespace Go.Proofs.Ytdjidmnehfjmbaa
set_option linter.unusedVariables false
set_option linter.unusedSimpArgs false
open Go.RowKit Ev

theorem cutAgain_raw {H : Type} {enc : TypeId × Value → H} {b0 b1 b2 : Nat} {d0 d1 d2 : DataW H} {p0 p1 p2 : List MemPlace} (v0 v1 v2 : Value) (W : World)
    (hv0 : Value.okWide Try.prog W .any b0 9 v0) (h0 : DataW.Trod enc Try.prog W 0 (fun _ => true) true 9 v0 d0 p0) (_ : ∀ x ∈ p0, x.block < W.heap.size)
    (hv1 : Value.okWide Try.prog W .any b1 22 v1) (h1 : DataW.Trod enc Try.prog W 0 (fun _ => true) true 22 v1 d1 p1) (_ : ∀ x ∈ p1, x.block < W.heap.size)
    (hv2 : Value.okWide Try.prog W .any b2 22 v2) (h2 : DataW.Trod enc Try.prog W 0 (fun _ => true) true 22 v2 d2 p2) (_ : ∀ x ∈ p2, x.block < W.heap.size) :
    Calls Try.prog 3 #[v0, v1, v2] W fun e w' => e = .returned (.bool true) ∧ Below W.heap.size W w' := by
  obtain ⟨_, e0, ⟨data, rfl, w_data⟩⟩ := open_any (K := .one (.str)) (by kernel_rfl) hv0 h0
  obtain ⟨_, e1, ⟨at_, rfl, w_at_⟩⟩ := open_any (K := .one (.int .u16)) (by kernel_rfl) hv1 h1
  obtain ⟨_, e2, ⟨sp, rfl, w_sp⟩⟩ := open_any (K := .one (.int .u16)) (by kernel_rfl) hv2 h2
  have w_at_ : 0 ≤ at_ ∧ at_ ≤ 65535 := by simpa [Lit.wf, IntKind.min, IntKind.max, IntKind.signed, IntKind.bits] using w_at_
  have w_sp : 0 ≤ sp ∧ sp ≤ 65535 := by simpa [Lit.wf, IntKind.min, IntKind.max, IntKind.signed, IntKind.bits] using w_sp
  rw [e0 rho0, e1 rho0, e2 rho0]
  exact law_true TCAok.ctx (args := [.str data, .int .u16 at_, .int .u16 sp]) (cagain_true data at_ sp w_data w_at_.1 w_at_.2 w_sp.1 w_sp.2) rfl rho0 W

end Go.Proofs.Ytdjidmnehfjmbaa
