/-
  Gse1: the laws' arguments, opened.
-/
import Derived.Test.YtcbkenicjmhkdaaGseLaw1
import Derived.Test.YtcbkenicjmhkdaaEm4
namespace Go.Proofs.Ytcbkenicjmhkdaa
set_option linter.unusedVariables false
set_option linter.unusedSimpArgs false
open Go.RowKit Ev

theorem gseLays_raw {H : Type} {enc : TypeId × Value → H} {b0 b1 : Nat} {d0 d1 : DataW H} {p0 p1 : List MemPlace} (v0 v1 : Value) (W : World)
    (hv0 : Value.okWide Try.prog W .any b0 27 v0) (h0 : DataW.Trod enc Try.prog W 0 (fun _ => true) true 27 v0 d0 p0) (_ : ∀ x ∈ p0, x.block < W.heap.size)
    (hv1 : Value.okWide Try.prog W .any b1 22 v1) (h1 : DataW.Trod enc Try.prog W 0 (fun _ => true) true 22 v1 d1 p1) (_ : ∀ x ∈ p1, x.block < W.heap.size) :
    Calls Try.prog 4 #[v0, v1] W fun e w' => e = .returned (.bool true) ∧ Below W.heap.size W w' := by
  obtain ⟨_, e0, ⟨_, rfl, _, _, rfl, ⟨st, rfl⟩, _, _, rfl, ⟨en, rfl⟩, _, _, rfl, ⟨id, rfl, w_id⟩, _, _, rfl, ⟨total, rfl, w_total⟩, _, _, rfl, ⟨typ, rfl, w_typ⟩, _, _, rfl, ⟨k, rfl, w_k⟩, _, _, rfl, ⟨lb, rfl, w_lb⟩, _, _, rfl, ⟨data, rfl, w_data⟩, _, _, rfl, ⟨sum, rfl, w_sum⟩, rfl⟩⟩ := open_any (K := .agg [.bool, .bool, .int .i64, .int .i64, .int .i64, .int .i64, .str, .str, .str]) (by kernel_rfl) hv0 h0
  obtain ⟨_, e1, ⟨zeros, rfl, w_zeros⟩⟩ := open_any (K := .one (.int .u16)) (by kernel_rfl) hv1 h1
  have w_id : -9223372036854775808 ≤ id ∧ id ≤ 9223372036854775807 := by simpa [Lit.wf, IntKind.min, IntKind.max, IntKind.signed, IntKind.bits] using w_id
  have w_total : -9223372036854775808 ≤ total ∧ total ≤ 9223372036854775807 := by simpa [Lit.wf, IntKind.min, IntKind.max, IntKind.signed, IntKind.bits] using w_total
  have w_typ : -9223372036854775808 ≤ typ ∧ typ ≤ 9223372036854775807 := by simpa [Lit.wf, IntKind.min, IntKind.max, IntKind.signed, IntKind.bits] using w_typ
  have w_k : -9223372036854775808 ≤ k ∧ k ≤ 9223372036854775807 := by simpa [Lit.wf, IntKind.min, IntKind.max, IntKind.signed, IntKind.bits] using w_k
  have w_zeros : 0 ≤ zeros ∧ zeros ≤ 65535 := by simpa [Lit.wf, IntKind.min, IntKind.max, IntKind.signed, IntKind.bits] using w_zeros
  rw [e0 rho0, e1 rho0]
  exact law_true TEok.ctx (args := [.agg [.bool st, .bool en, .int .i64 id, .int .i64 total, .int .i64 typ, .int .i64 k, .str lb, .str data, .str sum], .int .u16 zeros]) (lays_true st en id total typ k lb data sum zeros w_zeros.1 w_zeros.2) rfl rho0 W

theorem gseAgain_raw {H : Type} {enc : TypeId × Value → H} {b0 b1 : Nat} {d0 d1 : DataW H} {p0 p1 : List MemPlace} (v0 v1 : Value) (W : World)
    (hv0 : Value.okWide Try.prog W .any b0 9 v0) (h0 : DataW.Trod enc Try.prog W 0 (fun _ => true) true 9 v0 d0 p0) (_ : ∀ x ∈ p0, x.block < W.heap.size)
    (hv1 : Value.okWide Try.prog W .any b1 22 v1) (h1 : DataW.Trod enc Try.prog W 0 (fun _ => true) true 22 v1 d1 p1) (_ : ∀ x ∈ p1, x.block < W.heap.size) :
    Calls Try.prog 3 #[v0, v1] W fun e w' => e = .returned (.bool true) ∧ Below W.heap.size W w' := by
  obtain ⟨_, e0, ⟨s, rfl, w_s⟩⟩ := open_any (K := .one (.str)) (by kernel_rfl) hv0 h0
  obtain ⟨_, e1, ⟨at_, rfl, w_at_⟩⟩ := open_any (K := .one (.int .u16)) (by kernel_rfl) hv1 h1
  have w_at_ : 0 ≤ at_ ∧ at_ ≤ 65535 := by simpa [Lit.wf, IntKind.min, IntKind.max, IntKind.signed, IntKind.bits] using w_at_
  rw [e0 rho0, e1 rho0]
  exact law_true TE2ok.ctx (args := [.str s, .int .u16 at_]) (again_true s at_ w_at_.1 w_at_.2) rfl rho0 W

end Go.Proofs.Ytcbkenicjmhkdaa
