/-
  ExtBack: its arguments, opened.
-/
import Derived.Test.YtddjaneacmdkmaaExtBLaw
namespace Go.Proofs.Ytddjaneacmdkmaa
set_option linter.unusedVariables false
set_option linter.unusedSimpArgs false
open Go.RowKit Ev

theorem ro_own {e : TypeId} {T : RowTy} {l : List T.α} : ∀ b x, (⟨1, [(0, .row e T l .ro)]⟩ : AHeap).get b = some x → x.own = false := by
  intro b x hx
  obtain ⟨rfl, hx⟩ := get_one hx
  cases (show some (ABlk.row e T l .ro) = some x from hx)
  rfl

theorem eback_raw {H : Type} {enc : TypeId × Value → H} {base : Nat} {d' : DataW H} {p : List MemPlace} (t : Int) (d : ByteArray) (v : Value) (W : World) (ht : (Lit.int .u16 t).wf = true) (hd : d.size ≤ maxLen)
    (hv : Value.okWide Try.prog W .any base 27 v) (h : DataW.Trod enc Try.prog W 0 (fun _ => true) true 27 v d' p) (hz : ∀ n ∈ d'.weights Try.prog 27, n ≤ reachBytes) :
    Calls Try.prog 5 #[.int .u16 t, .string d, v] W fun e w' => e = .returned (.bool true) ∧ Below W.heap.size W w' := by
  have w_t : 0 ≤ t ∧ t ≤ 65535 := by simpa [Lit.wf, IntKind.min, IntKind.max, IntKind.signed, IntKind.bits] using ht
  have hd2 : d.data.toList.length ≤ maxLen := by rw [Array.length_toList]; exact hd
  rcases open_strsW hv h hz with h0 | ⟨ρ, l, rfl, hl, hR⟩
  · rw [h0 rho0, ← str_tr d rho0]
    exact law_true TEok.ctx (args := [.int .u16 t, .str d.data.toList, .nils]) (ebackn_true t d.data.toList hd2 w_t.1 w_t.2) rfl rho0 W
  · rw [← str_tr d ρ]
    exact law_row (TEok.addLc (lcB_sound l)).ctx (args := [.int .u16 t, .str d.data.toList, .sl 0 0 1 0 l.length none]) (eback_true t d.data.toList l hd2 w_t.1 w_t.2 hl) ro_own rfl ρ W hR

end Go.Proofs.Ytddjaneacmdkmaa
