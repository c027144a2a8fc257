/-
  Pdu: the laws' arguments, opened.
-/
import Derived.Test.YtofnedbclnlnmaaPduLaw
import Derived.Test.YtofnedbclnlnmaaEvY
namespace Go.Proofs.Ytofnedbclnlnmaa
set_option linter.unusedVariables false
set_option linter.unusedSimpArgs false
open Go.RowKit Ev

theorem pduTells_raw {H : Type} {enc : TypeId × Value → H} {b0 b1 b2 : Nat} {d0 d1 d2 : DataW H} {p0 p1 p2 : List MemPlace} (v0 v1 v2 : Value) (W : World)
    (hv0 : Value.okWide Try.prog W .any b0 3 v0) (h0 : DataW.Trod enc Try.prog W 0 (fun _ => true) true 3 v0 d0 p0) (_ : ∀ x ∈ p0, x.block < W.heap.size)
    (hv1 : Value.okWide Try.prog W .any b1 23 v1) (h1 : DataW.Trod enc Try.prog W 0 (fun _ => true) true 23 v1 d1 p1) (_ : ∀ x ∈ p1, x.block < W.heap.size)
    (hv2 : Value.okWide Try.prog W .any b2 26 v2) (h2 : DataW.Trod enc Try.prog W 0 (fun _ => true) true 26 v2 d2 p2) (_ : ∀ x ∈ p2, x.block < W.heap.size) :
    Calls Try.prog 3 #[v0, v1, v2] W fun e w' => e = .returned (.bool true) ∧ Below W.heap.size W w' := by
  obtain ⟨_, e0, ⟨typ, rfl, w_typ⟩⟩ := open_any (K := .one (.int .i64)) (by kernel_rfl) hv0 h0
  obtain ⟨_, e1, ⟨_, rfl, _, _, rfl, ⟨k, rfl, w_k⟩, _, _, rfl, ⟨b, rfl, w_b⟩, rfl⟩⟩ := open_any (K := .agg [.int .i64, .str]) (by kernel_rfl) hv1 h1
  obtain ⟨_, e2, ⟨_, rfl, _, _, rfl, ⟨s, rfl, w_s⟩, _, _, rfl, ⟨n, rfl, w_n⟩, rfl⟩⟩ := open_any (K := .agg [.str, .int .u32]) (by kernel_rfl) hv2 h2
  have w_typ : -9223372036854775808 ≤ typ ∧ typ ≤ 9223372036854775807 := by simpa [Lit.wf, IntKind.min, IntKind.max, IntKind.signed, IntKind.bits] using w_typ
  have w_k : -9223372036854775808 ≤ k ∧ k ≤ 9223372036854775807 := by simpa [Lit.wf, IntKind.min, IntKind.max, IntKind.signed, IntKind.bits] using w_k
  have w_n : 0 ≤ n ∧ n ≤ 4294967295 := by simpa [Lit.wf, IntKind.min, IntKind.max, IntKind.signed, IntKind.bits] using w_n
  rw [e0 rho0, e1 rho0, e2 rho0]
  exact law_pure TP4ok.ctx (tells_true typ k n b s w_n.1) (args := [.int .i64 typ, .agg [.int .i64 k, .str b], .agg [.str s, .int .u32 n]]) rfl rfl rho0 W

theorem pduRight_raw {H : Type} {enc : TypeId × Value → H} {b0 : Nat} {d0 : DataW H} {p0 : List MemPlace} (v0 : Value) (W : World)
    (hv0 : Value.okWide Try.prog W .any b0 41 v0) (h0 : DataW.Trod enc Try.prog W 0 (fun _ => true) true 41 v0 d0 p0) (_ : ∀ x ∈ p0, x.block < W.heap.size) :
    Calls Try.prog 5 #[v0] W fun e w' => e = .returned (.bool true) ∧ Below W.heap.size W w' := by
  obtain ⟨_, e0, ⟨_, rfl, _, _, rfl, ⟨total, rfl, w_total⟩, _, _, rfl, ⟨typ, rfl, w_typ⟩, _, _, rfl, ⟨k, rfl, w_k⟩, _, _, rfl, ⟨b, rfl, w_b⟩, _, _, rfl, ⟨data, rfl, w_data⟩, _, _, rfl, ⟨sum, rfl, w_sum⟩, rfl⟩⟩ := open_any (K := .agg [.int .i64, .int .i64, .int .i64, .str, .str, .str]) (by kernel_rfl) hv0 h0
  have w_total : -9223372036854775808 ≤ total ∧ total ≤ 9223372036854775807 := by simpa [Lit.wf, IntKind.min, IntKind.max, IntKind.signed, IntKind.bits] using w_total
  have w_typ : -9223372036854775808 ≤ typ ∧ typ ≤ 9223372036854775807 := by simpa [Lit.wf, IntKind.min, IntKind.max, IntKind.signed, IntKind.bits] using w_typ
  have w_k : -9223372036854775808 ≤ k ∧ k ≤ 9223372036854775807 := by simpa [Lit.wf, IntKind.min, IntKind.max, IntKind.signed, IntKind.bits] using w_k
  rw [e0 rho0]
  exact law_pure TP4ok.ctx (lright_true total typ k b data sum) (args := [.agg [.int .i64 total, .int .i64 typ, .int .i64 k, .str b, .str data, .str sum]]) rfl rfl rho0 W

theorem pduSums_raw {H : Type} {enc : TypeId × Value → H} {b0 b1 : Nat} {d0 d1 : DataW H} {p0 p1 : List MemPlace} (v0 v1 : Value) (W : World)
    (hv0 : Value.okWide Try.prog W .any b0 37 v0) (h0 : DataW.Trod enc Try.prog W 0 (fun _ => true) true 37 v0 d0 p0) (_ : ∀ x ∈ p0, x.block < W.heap.size)
    (hv1 : Value.okWide Try.prog W .any b1 24 v1) (h1 : DataW.Trod enc Try.prog W 0 (fun _ => true) true 24 v1 d1 p1) (_ : ∀ x ∈ p1, x.block < W.heap.size) :
    Calls Try.prog 7 #[v0, v1] W fun e w' => e = .returned (.bool true) ∧ Below W.heap.size W w' := by
  obtain ⟨_, e0, ⟨_, rfl, _, _, rfl, ⟨typ, rfl, w_typ⟩, _, _, rfl, ⟨kind, rfl, w_kind⟩, _, _, rfl, ⟨l0, rfl, w_l0⟩, _, _, rfl, ⟨l1, rfl, w_l1⟩, _, _, rfl, ⟨l2, rfl, w_l2⟩, _, _, rfl, ⟨l3, rfl, w_l3⟩, _, _, rfl, ⟨l4, rfl, w_l4⟩, _, _, rfl, ⟨l5, rfl, w_l5⟩, _, _, rfl, ⟨data, rfl, w_data⟩, rfl⟩⟩ := open_any (K := .agg [.int .u16, .int .u8, .int .u8, .int .u8, .int .u8, .int .u8, .int .u8, .int .u8, .str]) (by kernel_rfl) hv0 h0
  obtain ⟨_, e1, ⟨bits, rfl, w_bits⟩⟩ := open_any (K := .one (.int .u32)) (by kernel_rfl) hv1 h1
  have w_typ : 0 ≤ typ ∧ typ ≤ 65535 := by simpa [Lit.wf, IntKind.min, IntKind.max, IntKind.signed, IntKind.bits] using w_typ
  have w_kind : 0 ≤ kind ∧ kind ≤ 255 := by simpa [Lit.wf, IntKind.min, IntKind.max, IntKind.signed, IntKind.bits] using w_kind
  have w_l0 : 0 ≤ l0 ∧ l0 ≤ 255 := by simpa [Lit.wf, IntKind.min, IntKind.max, IntKind.signed, IntKind.bits] using w_l0
  have w_l1 : 0 ≤ l1 ∧ l1 ≤ 255 := by simpa [Lit.wf, IntKind.min, IntKind.max, IntKind.signed, IntKind.bits] using w_l1
  have w_l2 : 0 ≤ l2 ∧ l2 ≤ 255 := by simpa [Lit.wf, IntKind.min, IntKind.max, IntKind.signed, IntKind.bits] using w_l2
  have w_l3 : 0 ≤ l3 ∧ l3 ≤ 255 := by simpa [Lit.wf, IntKind.min, IntKind.max, IntKind.signed, IntKind.bits] using w_l3
  have w_l4 : 0 ≤ l4 ∧ l4 ≤ 255 := by simpa [Lit.wf, IntKind.min, IntKind.max, IntKind.signed, IntKind.bits] using w_l4
  have w_l5 : 0 ≤ l5 ∧ l5 ≤ 255 := by simpa [Lit.wf, IntKind.min, IntKind.max, IntKind.signed, IntKind.bits] using w_l5
  have w_bits : 0 ≤ bits ∧ bits ≤ 4294967295 := by simpa [Lit.wf, IntKind.min, IntKind.max, IntKind.signed, IntKind.bits] using w_bits
  rw [e0 rho0, e1 rho0]
  exact law_pure TP4ok.ctx (sums_true typ kind bits l0 l1 l2 l3 l4 l5 data w_typ.1 w_typ.2 w_kind.1 w_bits.1 (by omega)) (args := [.agg [.int .u16 typ, .int .u8 kind, .int .u8 l0, .int .u8 l1, .int .u8 l2, .int .u8 l3, .int .u8 l4, .int .u8 l5, .str data], .int .u32 bits]) rfl rfl rho0 W

theorem pduKnown_raw (W : World)
 :
    Calls Try.prog 8 #[] W fun e w' => e = .returned (.bool true) ∧ Below W.heap.size W w' := by
  exact law_pure TP4ok.ctx (known_true) (args := []) rfl rfl rho0 W

end Go.Proofs.Ytofnedbclnlnmaa
