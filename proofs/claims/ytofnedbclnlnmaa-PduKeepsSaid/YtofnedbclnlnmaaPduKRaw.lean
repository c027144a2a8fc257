/-
  PduK: the laws' arguments, opened.
-/
import Derived.Test.YtofnedbclnlnmaaPduKLaw
import Derived.Test.YtofnedbclnlnmaaEm4
namespace Go.Proofs.Ytofnedbclnlnmaa
set_option linter.unusedVariables false
set_option linter.unusedSimpArgs false
open Go.RowKit Ev

theorem pduKeeps_raw {H : Type} {enc : TypeId × Value → H} {b0 b1 b2 : Nat} {d0 d1 d2 : DataW H} {p0 p1 p2 : List MemPlace} (v0 v1 v2 : Value) (W : World)
    (hv0 : Value.okWide Try.prog W .any b0 37 v0) (h0 : DataW.Trod enc Try.prog W 0 (fun _ => true) true 37 v0 d0 p0) (_ : ∀ x ∈ p0, x.block < W.heap.size)
    (hv1 : Value.okWide Try.prog W .any b1 34 v1) (h1 : DataW.Trod enc Try.prog W 0 (fun _ => true) true 34 v1 d1 p1) (_ : ∀ x ∈ p1, x.block < W.heap.size)
    (hv2 : Value.okWide Try.prog W .any b2 45 v2) (h2 : DataW.Trod enc Try.prog W 0 (fun _ => true) true 45 v2 d2 p2) (_ : ∀ x ∈ p2, x.block < W.heap.size) :
    Calls Try.prog 6 #[v0, v1, v2] W fun e w' => e = .returned (.bool true) ∧ Below W.heap.size W w' := by
  obtain ⟨_, e0, ⟨_, rfl, _, _, rfl, ⟨typ, rfl, w_typ⟩, _, _, rfl, ⟨kind, rfl, w_kind⟩, _, _, rfl, ⟨l0, rfl, w_l0⟩, _, _, rfl, ⟨l1, rfl, w_l1⟩, _, _, rfl, ⟨l2, rfl, w_l2⟩, _, _, rfl, ⟨l3, rfl, w_l3⟩, _, _, rfl, ⟨l4, rfl, w_l4⟩, _, _, rfl, ⟨l5, rfl, w_l5⟩, _, _, rfl, ⟨data, rfl, w_data⟩, rfl⟩⟩ := open_any (K := .agg [.int .u16, .int .u8, .int .u8, .int .u8, .int .u8, .int .u8, .int .u8, .int .u8, .str]) (by kernel_rfl) hv0 h0
  obtain ⟨_, e1, ⟨other, rfl, w_other⟩⟩ := open_any (K := .one (.int .u16)) (by kernel_rfl) hv1 h1
  obtain ⟨_, e2, ⟨_, rfl, _, _, rfl, ⟨at_, rfl, w_at_⟩, _, _, rfl, ⟨bits, rfl, w_bits⟩, rfl⟩⟩ := open_any (K := .agg [.int .u16, .int .u32]) (by kernel_rfl) hv2 h2
  have w_typ : 0 ≤ typ ∧ typ ≤ 65535 := by simpa [Lit.wf, IntKind.min, IntKind.max, IntKind.signed, IntKind.bits] using w_typ
  have w_kind : 0 ≤ kind ∧ kind ≤ 255 := by simpa [Lit.wf, IntKind.min, IntKind.max, IntKind.signed, IntKind.bits] using w_kind
  have w_l0 : 0 ≤ l0 ∧ l0 ≤ 255 := by simpa [Lit.wf, IntKind.min, IntKind.max, IntKind.signed, IntKind.bits] using w_l0
  have w_l1 : 0 ≤ l1 ∧ l1 ≤ 255 := by simpa [Lit.wf, IntKind.min, IntKind.max, IntKind.signed, IntKind.bits] using w_l1
  have w_l2 : 0 ≤ l2 ∧ l2 ≤ 255 := by simpa [Lit.wf, IntKind.min, IntKind.max, IntKind.signed, IntKind.bits] using w_l2
  have w_l3 : 0 ≤ l3 ∧ l3 ≤ 255 := by simpa [Lit.wf, IntKind.min, IntKind.max, IntKind.signed, IntKind.bits] using w_l3
  have w_l4 : 0 ≤ l4 ∧ l4 ≤ 255 := by simpa [Lit.wf, IntKind.min, IntKind.max, IntKind.signed, IntKind.bits] using w_l4
  have w_l5 : 0 ≤ l5 ∧ l5 ≤ 255 := by simpa [Lit.wf, IntKind.min, IntKind.max, IntKind.signed, IntKind.bits] using w_l5
  have w_other : 0 ≤ other ∧ other ≤ 65535 := by simpa [Lit.wf, IntKind.min, IntKind.max, IntKind.signed, IntKind.bits] using w_other
  have w_at_ : 0 ≤ at_ ∧ at_ ≤ 65535 := by simpa [Lit.wf, IntKind.min, IntKind.max, IntKind.signed, IntKind.bits] using w_at_
  have w_bits : 0 ≤ bits ∧ bits ≤ 4294967295 := by simpa [Lit.wf, IntKind.min, IntKind.max, IntKind.signed, IntKind.bits] using w_bits
  rw [e0 rho0, e1 rho0, e2 rho0]
  exact law_true (TP4ok.addLc (lcK_sound _)).ctx (args := [.agg [.int .u16 typ, .int .u8 kind, .int .u8 l0, .int .u8 l1, .int .u8 l2, .int .u8 l3, .int .u8 l4, .int .u8 l5, .str data], .int .u16 other, .agg [.int .u16 at_, .int .u32 bits]]) (keeps_true typ kind l0 l1 l2 l3 l4 l5 other at_ bits data w_typ w_kind.1 w_other w_at_) rfl rho0 W

end Go.Proofs.Ytofnedbclnlnmaa
