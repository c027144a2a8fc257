/-
  Texts for RowFillIs: of the reckoner, walks, contracts and plain laws that its row stands on.
-/
import Derived.Test.YtjacnjecggedhaaIb12
import Derived.SizedLaws
import Derived.Deep.Slices
import Derived.ChangeArms
import Derived.Test.YtjacnjecggedhaaIb14
namespace Go.Proofs.Ytjacnjecggedhaa
set_option linter.unusedVariables false
set_option linter.unusedSimpArgs false
open Go.RowKit Go.Joins Go.ChangeShapes Go.WideShapes Ev
theorem cells_pack : Try.prog.cellsOf 51 = 5 := by kernel_rfl
set_option maxRecDepth 100000 in
theorem open_packs {H : Type} {enc : TypeId × Value → H} {w : World} {base : Nat} {spare : Nat → Bool} {held : Bool} {b0 : Nat} {v : Value} {d : DataW H} {p : List MemPlace}
    (hv : Value.okWide Try.prog w .any b0 22 v) (h : DataW.Trod enc Try.prog w base spare held 22 v d p) :
    (∀ ρ, v = tr ρ .nils) ∨ ∃ (ρ : Rho) (l : List PackR), v = tr ρ (.sl 0 0 5 0 l.length none) ∧ Rel ρ ⟨1, [(0, pRow l .ro)]⟩ w ∧ pOk l := by
  have ht := Try.underlying22
  obtain ⟨a0, len0, cap0, rfl⟩ := okWide_slice ht hv
  obtain ⟨fuel, hfu⟩ := h
  rcases Go.Deep.open_slice ht hfu with ⟨hcs, _⟩ | ⟨x, len, cap, m, n, D, Pl, hcs, hb, hl, hm, hmm, hx, hi⟩
  · simp [Value.cells] at hcs
    obtain ⟨rfl, rfl, rfl⟩ := hcs
    exact .inl (fun ρ => rfl)
  · simp [Value.cells] at hcs
    obtain ⟨rfl, rfl, rfl⟩ := hcs
    obtain ⟨hsp, hlt⟩ := okWide_has ht hv
    obtain ⟨bk, off, spot⟩ := x
    simp only at hsp hlt
    subst hsp
    have hlm : len0 ≤ m := by rw [hmm]; split <;> omega
    have key : ∀ i, ∃ a : PackR, PackOk a ∧ (i < len0 → ∀ ρ, w.cells? base ((⟨bk, off, none⟩ : Addr).add (i * 5)) 5 = some (trL ρ (packRow.enc a))) := by
      intro i
      by_cases hi' : i < len0
      · obtain ⟨cs', h1, h2⟩ := hi i (by omega)
        rw [cells_pack] at h1
        obtain ⟨avs, e1, e2⟩ := opens (P := Try.prog) 5 51 cs' [.int .u8, .int .u8, .int .u8, .str, .int .u16] (by kernel_rfl) ⟨n, _, h2⟩
        obtain ⟨_, _, rfl, ⟨cls, rfl, w1⟩, _, _, rfl, ⟨lab, rfl, w2⟩, _, _, rfl, ⟨pos, rfl, w3⟩, _, _, rfl, ⟨data, rfl, _⟩, _, _, rfl, ⟨zeros, rfl, w4⟩, rfl⟩ := e2
        have w1 : 0 ≤ cls ∧ cls ≤ 255 := by simpa [Lit.wf, IntKind.min, IntKind.max, IntKind.signed, IntKind.bits] using w1
        have w2 : 0 ≤ lab ∧ lab ≤ 255 := by simpa [Lit.wf, IntKind.min, IntKind.max, IntKind.signed, IntKind.bits] using w2
        have w3 : 0 ≤ pos ∧ pos ≤ 255 := by simpa [Lit.wf, IntKind.min, IntKind.max, IntKind.signed, IntKind.bits] using w3
        have w4 : 0 ≤ zeros ∧ zeros ≤ 65535 := by simpa [Lit.wf, IntKind.min, IntKind.max, IntKind.signed, IntKind.bits] using w4
        exact ⟨⟨cls, lab, pos, data, zeros⟩, ⟨w1.1, w1.2, w2.1, w2.2, w3.1, w3.2, w4.1, w4.2⟩, fun _ ρ => by rw [h1, e1 ρ]⟩
      · exact ⟨⟨0, 0, 0, [], 0⟩, ⟨by decide, by decide, by decide, by decide, by decide, by decide, by decide, by decide⟩, fun h => absurd h hi'⟩
    obtain ⟨f, hfk⟩ := Classical.axiomOfChoice key
    let ρ : Rho := ⟨fun _ => bk, fun _ => off, fun _ => cap0⟩
    have hlen : ((List.range len0).map f).length = len0 := by rw [List.length_map, List.length_range]
    refine .inr ⟨ρ, (List.range len0).map f, ?_, ?_, ?_⟩
    · show Value.slice (some ⟨bk, off, none⟩) len0 cap0 = Value.slice (some ⟨bk, off + (0 * 5 + 0), none⟩) ((List.range len0).map f).length (cap0 - 0)
      rw [hlen]; simp
    · refine ⟨fun b y hy => ?_, fun b b' y y' hy hy' ho hne => ?_⟩
      · obtain ⟨rfl, hy⟩ := get_one hy
        cases (show some (ABlk.row 51 packRow ((List.range len0).map f) .ro) = some y from hy)
        refine ⟨Nat.zero_lt_one, rfl, hlt, ?_⟩
        refine ⟨by rw [hlen]; exact hl, hm, hlt, fun j u hu => ?_⟩
        have hj : j < ((List.range len0).map f).length * 5 := by
          have := (List.getElem?_eq_some_iff.1 hu).1
          rw [flat_length] at this
          exact this
        rw [hlen] at hj
        have hq : j / 5 < len0 := by omega
        have hr : j % 5 < 5 := by omega
        have hget : ((List.range len0).map f)[j / 5]? = some (f (j / 5)) := by
          rw [List.getElem?_map, List.getElem?_range hq]; rfl
        have hu2 := flat_get packRow ((List.range len0).map f) (j / 5) (f (j / 5)) (j % 5) hget hr
        rw [show j / 5 * packRow.sz + j % 5 = j by show j / 5 * 5 + j % 5 = j; omega] at hu2
        rw [hu2] at hu
        obtain ⟨_, _, hat⟩ := World.cells?_some ((hfk (j / 5)).2 hq ρ)
        have := hat (j % 5) hr
        rw [addr_add, addr_add] at this
        show w.cell? ⟨bk, off + j, none⟩ = some (tr ρ u)
        rw [show off + j = off + j / 5 * 5 + j % 5 by omega, this, trL_get, hu]
        rfl
      · obtain ⟨rfl, hy⟩ := get_one hy
        obtain ⟨rfl, _⟩ := get_one hy'
        exact absurd rfl hne
    · intro x hx
      obtain ⟨j, _, rfl⟩ := List.mem_map.1 hx
      exact (hfk j).1
theorem pack_below {ρ ρ' : Rho} {hs : List PackR} {H' : AHeap} {w w' : World} (h : Step ρ ⟨1, [(0, pRow hs .ro)]⟩ w ρ' H' w') : Below w.heap.size w w' := by
  refine h.below (Nat.le_refl _) (fun g hg => ?_)
  obtain ⟨b, x, hx, ho, _⟩ := hg
  obtain ⟨rfl, hx⟩ := get_one hx
  cases (show some (pRow hs .ro) = some x from hx)
  cases ho
end Go.Proofs.Ytjacnjecggedhaa
namespace Go.Proofs.Ytjacnjecggedhaa
set_option linter.unusedVariables false
set_option linter.unusedSimpArgs false
open Go.RowKit Go.Joins Go.ChangeShapes Go.WideShapes Ev
theorem small_is {sp : Int} {K : Out → Prop} (hK : K (.ret (.bool true))) (h0 : 0 ≤ sp) (h1 : sp ≤ 65535) : obl (inI64 sp) (same (decide (sp < (1 : Int))) (K (Out.ret (AVal.bool true)))) := by
  refine obl_int (by omega) ?_
  unfold same
  first | exact hK | (cases decide (sp < (1 : Int)) <;> exact hK)
set_option maxRecDepth 100000 in
theorem fillIs_raw {H : Type} {enc : TypeId × Value → H} {b0 b1 b2 : Nat} {d0 d1 d2 : DataW H} {p0 p1 p2 : List MemPlace} (v0 v1 v2 : Value) (W : World)
    (hv0 : Value.okWide Try.prog W .any b0 22 v0) (h0 : DataW.Trod enc Try.prog W 0 (fun _ => true) true 22 v0 d0 p0) (_ : ∀ x ∈ p0, x.block < W.heap.size)
    (hv1 : Value.okWide Try.prog W .any b1 5 v1) (h1 : DataW.Trod enc Try.prog W 0 (fun _ => true) true 5 v1 d1 p1) (_ : ∀ x ∈ p1, x.block < W.heap.size)
    (hv2 : Value.okWide Try.prog W .any b2 23 v2) (h2 : DataW.Trod enc Try.prog W 0 (fun _ => true) true 23 v2 d2 p2) (_ : ∀ x ∈ p2, x.block < W.heap.size) :
    Calls Try.prog 3 #[v0, v1, v2] W fun e w' => e = .returned (.bool true) ∧ Below W.heap.size W w' := by
  obtain ⟨_, e1, ⟨fi, rfl, w_fi⟩⟩ := open_any (K := .one (.int .u8)) (by kernel_rfl) hv1 h1
  obtain ⟨_, e2, ⟨sp, rfl, w_sp⟩⟩ := open_any (K := .one (.int .u16)) (by kernel_rfl) hv2 h2
  have w_fi : 0 ≤ fi ∧ fi ≤ 255 := by simpa [Lit.wf, IntKind.min, IntKind.max, IntKind.signed, IntKind.bits] using w_fi
  have w_sp : 0 ≤ sp ∧ sp ≤ 65535 := by simpa [Lit.wf, IntKind.min, IntKind.max, IntKind.signed, IntKind.bits] using w_sp
  rcases open_packs hv0 h0 with e0 | ⟨ρ, l, e0, hR, hp⟩
  · rw [e0 rho0, e1 rho0, e2 rho0]
    exact law_pure TFok.ctx (n := 400) (v := .bool true) (args := [.nils, .int .u8 fi, .int .u16 sp]) (Eq.mpr (w_is_nil fi sp _) (small_is (K := fun o => o = .ret (.bool true)) rfl w_sp.1 w_sp.2)) rfl rfl rho0 W
  · rw [e0, e1 ρ, e2 ρ]
    by_cases hl : l.length = 0
    · obtain rfl : l = [] := by cases l; rfl; simp at hl
      refine ((callC_ok TFok.ctx 400) 3 [.sl 0 0 5 0 0 none, .int .u8 fi, .int .u16 sp] ⟨1, [(0, pRow [] .ro)]⟩ (fun o _ => o = .ret (.bool true)) (Eq.mpr (w_is_emp fi sp _) (small_is (K := fun o => o = .ret (.bool true)) rfl w_sp.1 w_sp.2)) ρ W hR rfl).2.mono ?_
      rintro e w' ⟨out, H', ρ', q1, rfl, q3⟩
      cases e <;> simp only [Out.rel] at q1
      exact ⟨by rw [q1.1]; rfl, pack_below q3⟩
    · refine (fn_good (TIsok l).ctx (fn := Try.f3) (by kernel_rfl) (by kernel_rfl) (is_good l hp hl fi sp w_fi.1 w_fi.2 w_sp.1 w_sp.2) hR rfl).mono ?_
      rintro e w' ⟨out, H', ρ', q1, rfl, q3⟩
      cases e <;> simp only [Out.rel] at q1
      exact ⟨by rw [q1.1]; rfl, pack_below q3⟩
end Go.Proofs.Ytjacnjecggedhaa
