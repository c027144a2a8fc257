/-
  FlE: the laws' arguments, opened.
-/
import Derived.Test.YtjacnjecggedhaaFlELaw
import Derived.Test.YtjacnjecggedhaaEm4
namespace Go.Proofs.Ytjacnjecggedhaa
set_option linter.unusedVariables false
set_option linter.unusedSimpArgs false
open Go.RowKit Ev

set_option maxRecDepth 100000 in
theorem fillEnds_raw {H : Type} {enc : TypeId × Value → H} {b0 b1 b2 : Nat} {d0 d1 d2 : DataW H} {p0 p1 p2 : List MemPlace} (v0 v1 v2 : Value) (W : World)
    (hv0 : Value.okWide Try.prog W .any b0 46 v0) (h0 : DataW.Trod enc Try.prog W 0 (fun _ => true) true 46 v0 d0 p0) (_ : ∀ x ∈ p0, x.block < W.heap.size)
    (hv1 : Value.okWide Try.prog W .any b1 54 v1) (h1 : DataW.Trod enc Try.prog W 0 (fun _ => true) true 54 v1 d1 p1) (_ : ∀ x ∈ p1, x.block < W.heap.size)
    (hv2 : Value.okWide Try.prog W .any b2 23 v2) (h2 : DataW.Trod enc Try.prog W 0 (fun _ => true) true 23 v2 d2 p2) (_ : ∀ x ∈ p2, x.block < W.heap.size) :
    Calls Try.prog 7 #[v0, v1, v2] W fun e w' => e = .returned (.bool true) ∧ Below W.heap.size W w' := by
  obtain ⟨_, e0, ⟨_, rfl, _, _, rfl, ⟨st, rfl⟩, _, _, rfl, ⟨en, rfl⟩, _, _, rfl, ⟨id, rfl, w_id⟩, _, _, rfl, ⟨total, rfl, w_total⟩, _, _, rfl, ⟨typ, rfl, w_typ⟩, _, _, rfl, ⟨k, rfl, w_k⟩, _, _, rfl, ⟨lb, rfl, w_lb⟩, _, _, rfl, ⟨data, rfl, w_data⟩, _, _, rfl, ⟨sum, rfl, w_sum⟩, rfl⟩⟩ := open_any (K := .agg [.bool, .bool, .int .i64, .int .i64, .int .i64, .int .i64, .str, .str, .str]) (by kernel_rfl) hv0 h0
  obtain ⟨_, e1, ⟨_, rfl, _, _, rfl, ⟨s0, rfl⟩, _, _, rfl, ⟨s1, rfl⟩, rfl⟩⟩ := open_any (K := .agg [.bool, .bool]) (by kernel_rfl) hv1 h1
  obtain ⟨_, e2, ⟨sp, rfl, w_sp⟩⟩ := open_any (K := .one (.int .u16)) (by kernel_rfl) hv2 h2
  have w_id : -9223372036854775808 ≤ id ∧ id ≤ 9223372036854775807 := by simpa [Lit.wf, IntKind.min, IntKind.max, IntKind.signed, IntKind.bits] using w_id
  have w_total : -9223372036854775808 ≤ total ∧ total ≤ 9223372036854775807 := by simpa [Lit.wf, IntKind.min, IntKind.max, IntKind.signed, IntKind.bits] using w_total
  have w_typ : -9223372036854775808 ≤ typ ∧ typ ≤ 9223372036854775807 := by simpa [Lit.wf, IntKind.min, IntKind.max, IntKind.signed, IntKind.bits] using w_typ
  have w_k : -9223372036854775808 ≤ k ∧ k ≤ 9223372036854775807 := by simpa [Lit.wf, IntKind.min, IntKind.max, IntKind.signed, IntKind.bits] using w_k
  have w_sp : 0 ≤ sp ∧ sp ≤ 65535 := by simpa [Lit.wf, IntKind.min, IntKind.max, IntKind.signed, IntKind.bits] using w_sp
  rw [e0 rho0, e1 rho0, e2 rho0]
  exact law_true TOok.ctx (args := [.agg [.bool st, .bool en, .int .i64 id, .int .i64 total, .int .i64 typ, .int .i64 k, .str lb, .str data, .str sum], .agg [.bool s0, .bool s1], .int .u16 sp]) (ends_law st en id total typ k lb data sum s0 s1 sp w_sp.1 w_sp.2) rfl rho0 W

end Go.Proofs.Ytjacnjecggedhaa
