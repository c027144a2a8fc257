/-
  GseBack: its arguments, opened.
-/
import Derived.Test.YtcbkenicjmhkdaaGseU4
import Derived.SizedLaws
import Derived.Deep.Slices
import Derived.ChangeArms
namespace Go.Proofs.Ytcbkenicjmhkdaa
set_option linter.unusedVariables false
set_option linter.unusedSimpArgs false
open Go.RowKit Go.Joins Go.ChangeShapes Go.WideShapes Ev

theorem cells_piece : Try.prog.cellsOf 27 = 9 := by kernel_rfl

theorem open_pieces {H : Type} {enc : TypeId × Value → H} {w : World} {base : Nat} {spare : Nat → Bool} {held : Bool} {b0 : Nat} {v : Value} {d : DataW H} {p : List MemPlace}
    (hv : Value.okWide Try.prog w .any b0 41 v) (h : DataW.Trod enc Try.prog w base spare held 41 v d p) :
    (∀ ρ, v = tr ρ .nils) ∨ ∃ (ρ : Rho) (l : List PieceR), v = tr ρ (.sl 0 0 9 0 l.length none) ∧ Rel ρ ⟨1, [(0, .row 27 pieceRow l .ro)]⟩ w := by
  have ht := Try.underlying41
  obtain ⟨a0, len0, cap0, rfl⟩ := okWide_slice ht hv
  obtain ⟨fuel, hfu⟩ := h
  rcases Go.Deep.open_slice ht hfu with ⟨hcs, _⟩ | ⟨x, len, cap, m, n, D, Pl, hcs, hb, hl, hm, hmm, hx, hi⟩
  · simp [Value.cells] at hcs
    obtain ⟨rfl, rfl, rfl⟩ := hcs
    exact .inl (fun ρ => rfl)
  · simp [Value.cells] at hcs
    obtain ⟨rfl, rfl, rfl⟩ := hcs
    obtain ⟨hsp, hlt⟩ := okWide_has ht hv
    obtain ⟨bk, off, spot⟩ := x
    simp only at hsp hlt
    subst hsp
    have hlm : len0 ≤ m := by rw [hmm]; split <;> omega
    have key : ∀ i, ∃ a : PieceR, i < len0 → ∀ ρ, w.cells? base ((⟨bk, off, none⟩ : Addr).add (i * 9)) 9 = some (trL ρ (pieceRow.enc a)) := by
      intro i
      by_cases hi' : i < len0
      · obtain ⟨cs', h1, h2⟩ := hi i (by omega)
        rw [cells_piece] at h1
        obtain ⟨avs, e1, e2⟩ := opens (P := Try.prog) 8 27 cs' [.bool, .bool, .int .i64, .int .i64, .int .i64, .int .i64, .str, .str, .str] (by kernel_rfl) ⟨n, _, h2⟩
        obtain ⟨_, _, rfl, ⟨st, rfl⟩, _, _, rfl, ⟨en, rfl⟩, _, _, rfl, ⟨id, rfl, _⟩, _, _, rfl, ⟨total, rfl, _⟩, _, _, rfl, ⟨typ, rfl, _⟩, _, _, rfl, ⟨k, rfl, _⟩, _, _, rfl, ⟨lb, rfl, _⟩, _, _, rfl, ⟨data, rfl, _⟩, _, _, rfl, ⟨sum, rfl, _⟩, rfl⟩ := e2
        exact ⟨⟨st, en, id, total, typ, k, lb, data, sum⟩, fun _ ρ => by rw [h1, e1 ρ]⟩
      · exact ⟨⟨false, false, 0, 0, 0, 0, [], [], []⟩, fun h => absurd h hi'⟩
    obtain ⟨f, hfk⟩ := Classical.axiomOfChoice key
    let ρ : Rho := ⟨fun _ => bk, fun _ => off, fun _ => cap0⟩
    have hlen : ((List.range len0).map f).length = len0 := by rw [List.length_map, List.length_range]
    refine .inr ⟨ρ, (List.range len0).map f, ?_, ?_⟩
    · show Value.slice (some ⟨bk, off, none⟩) len0 cap0 = Value.slice (some ⟨bk, off + (0 * 9 + 0), none⟩) ((List.range len0).map f).length (cap0 - 0)
      rw [hlen]; simp
    · refine ⟨fun b y hy => ?_, fun b b' y y' hy hy' ho hne => ?_⟩
      · obtain ⟨rfl, hy⟩ := get_one hy
        cases (show some (ABlk.row 27 pieceRow ((List.range len0).map f) .ro) = some y from hy)
        refine ⟨Nat.zero_lt_one, rfl, hlt, ?_⟩
        refine ⟨by rw [hlen]; exact hl, hm, hlt, fun j u hu => ?_⟩
        have hj : j < ((List.range len0).map f).length * 9 := by
          have := (List.getElem?_eq_some_iff.1 hu).1
          rw [flat_length] at this
          exact this
        rw [hlen] at hj
        have hq : j / 9 < len0 := by omega
        have hr : j % 9 < 9 := by omega
        have hget : ((List.range len0).map f)[j / 9]? = some (f (j / 9)) := by
          rw [List.getElem?_map, List.getElem?_range hq]; rfl
        have hu2 := flat_get pieceRow ((List.range len0).map f) (j / 9) (f (j / 9)) (j % 9) hget hr
        rw [show j / 9 * pieceRow.sz + j % 9 = j by show j / 9 * 9 + j % 9 = j; omega] at hu2
        rw [hu2] at hu
        obtain ⟨_, _, hat⟩ := World.cells?_some (hfk (j / 9) hq ρ)
        have := hat (j % 9) hr
        rw [addr_add, addr_add] at this
        show w.cell? ⟨bk, off + j, none⟩ = some (tr ρ u)
        rw [show off + j = off + j / 9 * 9 + j % 9 by omega, this, trL_get, hu]
        rfl
      · obtain ⟨rfl, hy⟩ := get_one hy
        obtain ⟨rfl, _⟩ := get_one hy'
        exact absurd rfl hne

theorem gseBack_raw {H : Type} {enc : TypeId × Value → H} {b0 b1 : Nat} {d0 d1 : DataW H} {p0 p1 : List MemPlace} (v0 v1 : Value) (W : World)
    (hv0 : Value.okWide Try.prog W .any b0 41 v0) (h0 : DataW.Trod enc Try.prog W 0 (fun _ => true) true 41 v0 d0 p0) (_ : ∀ x ∈ p0, x.block < W.heap.size)
    (hv1 : Value.okWide Try.prog W .any b1 5 v1) (h1 : DataW.Trod enc Try.prog W 0 (fun _ => true) true 5 v1 d1 p1) (_ : ∀ x ∈ p1, x.block < W.heap.size) :
    Calls Try.prog 6 #[v0, v1] W fun e w' => e = .returned (.bool true) ∧ Below W.heap.size W w' := by
  obtain ⟨_, e1, ⟨zeros, rfl, w_zeros⟩⟩ := open_any (K := .one (.int .u8)) (by kernel_rfl) hv1 h1
  have w_zeros : 0 ≤ zeros ∧ zeros ≤ 255 := by simpa [Lit.wf, IntKind.min, IntKind.max, IntKind.signed, IntKind.bits] using w_zeros
  rcases open_pieces hv0 h0 with e0 | ⟨ρ, l, e0, hR⟩
  · rw [e0 rho0, e1 rho0]
    exact law_true TSok.ctx (args := [.nils, .int .u8 zeros]) (bnil_true zeros w_zeros.1 w_zeros.2) rfl rho0 W
  · rw [e0, e1 ρ]
    exact back_true l zeros w_zeros.1 w_zeros.2 ρ W hR

end Go.Proofs.Ytcbkenicjmhkdaa
