/-
  CutWhole: its arguments, opened.
-/
import Derived.Test.YtdjidmnehfjmbaaCutVT
import Derived.SizedLaws
import Derived.Deep.Slices
import Derived.ChangeArms
namespace Go.Proofs.Ytdjidmnehfjmbaa
set_option linter.unusedVariables false
set_option linter.unusedSimpArgs false
open Go.RowKit Go.Joins Go.ChangeShapes Go.WideShapes Ev

theorem law_row {X : Ctx} (hX : CtxOk X) {f : FuncId} {args : List AVal} {H : AHeap} (h : LawH X f args H) (hro : ∀ b x, H.get b = some x → x.own = false) (ha : belowL H.next args = true) (ρ : Rho) (w : World) (hR : Rel ρ H w) :
    Calls X.P f (trL ρ args).toArray w fun e w' => e = .returned (.bool true) ∧ Below w.heap.size w w' := by
  refine ((callC_ok hX 100) f args H _ h.h ρ w hR ha).2.mono ?_
  rintro e w' ⟨out, H', ρ', h1, h2, h3⟩
  subst h2
  refine ⟨?_, h3.below (Nat.le_refl _) (fun g hg => by obtain ⟨b, x, hx, ho, _⟩ := hg; rw [hro b x hx] at ho; cases ho)⟩
  cases e <;> simp only [Out.rel] at h1
  obtain ⟨rfl, _⟩ := h1
  rfl

theorem bytes16 : Try.prog.bytesOf 22 = 2 := by kernel_rfl

theorem open_u16W {H : Type} {enc : TypeId × Value → H} {w : World} {base : Nat} {spare : Nat → Bool} {held : Bool} {b0 : Nat} {v : Value} {d : DataW H} {p : List MemPlace}
    (hv : Value.okWide Try.prog w .any b0 37 v) (h : DataW.Trod enc Try.prog w base spare held 37 v d p) (hz : ∀ n ∈ d.weights Try.prog 37, n ≤ reachBytes) :
    (∀ ρ, v = tr ρ .nils) ∨ ∃ (ρ : Rho) (l : List Int), v = tr ρ (.sl 0 0 1 0 l.length none) ∧ l.length ≤ 140737488355327 ∧ (∀ x ∈ l, 0 ≤ x ∧ x ≤ 65535) ∧ Rel ρ ⟨1, [(0, .row 22 (intRow .u16) l .ro)]⟩ w := by
  have ht := Try.underlying37
  rcases open_row (T := intRow .u16) (l := [.int .u16]) ht (by kernel_rfl) (by kernel_rfl) (by decide) (fun avs ha => by
      obtain ⟨v, r, rfl, ⟨n, rfl, _⟩, h2⟩ := ha
      cases (show r = [] from h2)
      exact ⟨n, rfl⟩) hv h with h0 | ⟨ρ, l, hl, _, hb, hR⟩
  · exact .inl h0
  · refine .inr ⟨ρ, l, hl, ?_, ?_, hR⟩
    · obtain ⟨fuel, hfu⟩ := h
      rcases Go.Deep.open_slice ht hfu with ⟨hcs, _⟩ | ⟨x, len, cap, m, n, D, Pl, hcs, _, _, _, _, hx, _⟩
      · subst hl; simp [Value.cells, tr] at hcs
      · have hlen : len = l.length := by subst hl; simp [Value.cells, tr] at hcs; exact hcs.2.1.symm
        simp only [Prod.mk.injEq] at hx
        have hw := hz ((((List.range len).map D).length + ((List.range (m - len)).map fun j => D (len + j)).length) * Try.prog.bytesOf 22) (by
          rw [hx.1]
          simp only [DataW.weights, ht, List.mem_cons]
          first | exact .inl trivial | exact .inl rfl | simp)
        rw [bytes16, List.length_map, List.length_range] at hw
        have := reachBytes_lt
        omega
    · intro x hx
      obtain ⟨v, r, he, ⟨n, rfl, hwf⟩, _⟩ := hb x hx
      cases he
      simpa [Lit.wf, IntKind.min, IntKind.max, IntKind.signed, IntKind.bits] using hwf

theorem ro_own {e : TypeId} {T : RowTy} {l : List T.α} : ∀ b x, (⟨1, [(0, .row e T l .ro)]⟩ : AHeap).get b = some x → x.own = false := by
  intro b x hx
  obtain ⟨rfl, hx⟩ := get_one hx
  cases (show some (ABlk.row e T l .ro) = some x from hx)
  rfl

theorem rel_one (ρ : Rho) (w : World) : Rel ρ ⟨1, []⟩ w := ⟨fun b x hx => by simp [AHeap.get, getB] at hx, fun b b' x x' hx => by simp [AHeap.get, getB] at hx⟩

theorem cwhole_raw {H : Type} {enc : TypeId × Value → H} {base : Nat} {d' : DataW H} {p : List MemPlace} (d : ByteArray) (t : Int) (v : Value) (W : World) (hd : d.size ≤ maxLen) (ht : (Lit.int .u8 t).wf = true)
    (hv : Value.okWide Try.prog W .any base 37 v) (h : DataW.Trod enc Try.prog W 0 (fun _ => true) true 37 v d' p) (hz : ∀ n ∈ d'.weights Try.prog 37, n ≤ reachBytes) :
    Calls Try.prog 5 #[.string d, .int .u8 t, v] W fun e w' => e = .returned (.bool true) ∧ Below W.heap.size W w' := by
  have w_t : 0 ≤ t ∧ t ≤ 255 := by simpa [Lit.wf, IntKind.min, IntKind.max, IntKind.signed, IntKind.bits] using ht
  rcases open_u16W hv h hz with h0 | ⟨ρ, l, rfl, hl, hb, hR⟩
  · rw [h0 rho0, ← str_tr d rho0]
    exact law_row (TCGWok.addLc lcV_sound).ctx (args := [.str d.data.toList, .int .u8 t, .nils]) (cwholen_true d.data.toList t w_t.1 w_t.2) (fun b x hx => by simp [AHeap.get, getB] at hx) rfl rho0 W (rel_one _ _)
  · rw [← str_tr d ρ]
    exact law_row (TCGWok.addLc (lcW_sound l)).ctx (args := [.str d.data.toList, .int .u8 t, .sl 0 0 1 0 l.length none]) (cwhole_true d.data.toList t l w_t.1 w_t.2 hl hb) ro_own rfl ρ W hR

end Go.Proofs.Ytdjidmnehfjmbaa
