/-
  A slice of texts as argument: opened, with what it weighs; a law over a row that is read.
-/
import Derived.Test.YtddjaneacmdkmaaExtFc
import Derived.SizedLaws
import Derived.Deep.Slices
import Derived.ChangeArms
namespace Go.Proofs.Ytddjaneacmdkmaa
set_option linter.unusedVariables false
set_option linter.unusedSimpArgs false
open Go.RowKit Go.Joins Go.ChangeShapes Go.WideShapes Ev

structure LawH (X : Ctx) (f : FuncId) (args : List AVal) (H : AHeap) : Prop where
  h : callC X 100 f args H (fun o _ => o = .ret (.bool true))

theorem law_row {X : Ctx} (hX : CtxOk X) {f : FuncId} {args : List AVal} {H : AHeap} (h : LawH X f args H) (hro : ∀ b x, H.get b = some x → x.own = false) (ha : belowL H.next args = true) (ρ : Rho) (w : World) (hR : Rel ρ H w) :
    Calls X.P f (trL ρ args).toArray w fun e w' => e = .returned (.bool true) ∧ Below w.heap.size w w' := by
  refine ((callC_ok hX 100) f args H _ h.h ρ w hR ha).2.mono ?_
  rintro e w' ⟨out, H', ρ', h1, h2, h3⟩
  subst h2
  refine ⟨?_, h3.below (Nat.le_refl _) (fun g hg => by obtain ⟨b, x, hx, ho, _⟩ := hg; rw [hro b x hx] at ho; cases ho)⟩
  cases e <;> simp only [Out.rel] at h1
  obtain ⟨rfl, _⟩ := h1
  rfl

theorem weights_all {H : Type} {P : Program} {e : TypeId} : ∀ {l : List (DataW H)} {d : DataW H}, d ∈ l → ∀ n ∈ d.weights P e, n ∈ DataW.weightsAll P e l
  | x :: l, d, hd, n, hn => by
    simp only [DataW.weightsAll, List.mem_append]
    rcases List.mem_cons.1 hd with rfl | h
    · exact .inl hn
    · exact .inr (weights_all h n hn)

theorem cells_txt : Try.prog.cellsOf 9 = 1 := by kernel_rfl

theorem open_strsW {H : Type} {enc : TypeId × Value → H} {w : World} {base : Nat} {spare : Nat → Bool} {held : Bool} {b0 : Nat} {v : Value} {d : DataW H} {p : List MemPlace}
    (hv : Value.okWide Try.prog w .any b0 27 v) (h : DataW.Trod enc Try.prog w base spare held 27 v d p) (hz : ∀ n ∈ d.weights Try.prog 27, n ≤ reachBytes) :
    (∀ ρ, v = tr ρ .nils) ∨ ∃ (ρ : Rho) (l : List (List UInt8)), v = tr ρ (.sl 0 0 1 0 l.length none) ∧ (∀ s ∈ l, s.length ≤ 140737488355327) ∧ Rel ρ ⟨1, [(0, .row 9 strRow l .ro)]⟩ w := by
  have ht := Try.underlying27
  obtain ⟨a0, len0, cap0, rfl⟩ := okWide_slice ht hv
  obtain ⟨fuel, hfu⟩ := h
  rcases Go.Deep.open_slice ht hfu with ⟨hcs, _⟩ | ⟨x, len, cap, m, n, D, Pl, hcs, hb, hl, hm, hmm, hx, hi⟩
  · simp [Value.cells] at hcs
    obtain ⟨rfl, rfl, rfl⟩ := hcs
    exact .inl (fun ρ => rfl)
  · simp [Value.cells] at hcs
    obtain ⟨rfl, rfl, rfl⟩ := hcs
    obtain ⟨hsp, hlt⟩ := okWide_has ht hv
    obtain ⟨bk, off, spot⟩ := x
    simp only at hsp hlt
    subst hsp
    have hlm : len0 ≤ m := by rw [hmm]; split <;> omega
    simp only [Prod.mk.injEq] at hx
    obtain ⟨hd, _⟩ := hx
    have key : ∀ i, ∃ a : List UInt8, i < len0 → (∀ ρ, w.cells? base ((⟨bk, off, none⟩ : Addr).add (i * 1)) 1 = some (trL ρ [.str a])) ∧ a.length ≤ 140737488355327 := by
      intro i
      by_cases hi' : i < len0
      · obtain ⟨cs', h1, h2⟩ := hi i (by omega)
        obtain ⟨s, rfl, hDs, _⟩ := DataW.trod_string Try.underlying9 h2
        rw [cells_txt] at h1
        refine ⟨s.data.toList, fun _ => ⟨fun ρ => by rw [h1]; simp [trL, str_tr], ?_⟩⟩
        have hw : s.data.toList.length ≤ reachBytes := by
          refine hz _ ?_
          rw [hd]
          simp only [DataW.weights, ht, List.mem_cons, List.mem_append]
          refine .inr (.inl (weights_all (d := D i) (List.mem_map.2 ⟨i, List.mem_range.2 hi', rfl⟩) _ ?_))
          rw [(Prod.mk.inj hDs).1]
          simp [DataW.weights]
        have := reachBytes_lt
        omega
      · exact ⟨[], fun h => absurd h hi'⟩
    obtain ⟨f, hfk⟩ := Classical.axiomOfChoice key
    let ρ : Rho := ⟨fun _ => bk, fun _ => off, fun _ => cap0⟩
    have hlen : ((List.range len0).map f).length = len0 := by rw [List.length_map, List.length_range]
    refine .inr ⟨ρ, (List.range len0).map f, ?_, ?_, ?_⟩
    · show Value.slice (some ⟨bk, off, none⟩) len0 cap0 = Value.slice (some ⟨bk, off + (0 * 1 + 0), none⟩) ((List.range len0).map f).length (cap0 - 0)
      rw [hlen]; simp
    · intro a ha
      obtain ⟨i, hi', rfl⟩ := List.mem_map.1 ha
      exact (hfk i (List.mem_range.1 hi')).2
    · refine ⟨fun b y hy => ?_, fun b b' y y' hy hy' ho hne => ?_⟩
      · obtain ⟨rfl, hy⟩ := get_one hy
        cases (show some (ABlk.row 9 strRow ((List.range len0).map f) .ro) = some y from hy)
        refine ⟨Nat.zero_lt_one, rfl, hlt, ?_⟩
        refine ⟨by rw [hlen]; exact hl, hm, hlt, fun j u hu => ?_⟩
        have hj : j < ((List.range len0).map f).length * 1 := by
          have := (List.getElem?_eq_some_iff.1 hu).1
          rw [flat_length] at this
          exact this
        rw [hlen, Nat.mul_one] at hj
        have hget : ((List.range len0).map f)[j]? = some (f j) := by
          rw [List.getElem?_map, List.getElem?_range hj]; rfl
        have hu2 := flat_get strRow ((List.range len0).map f) j (f j) 0 hget (by decide)
        rw [show j * strRow.sz + 0 = j by show j * 1 + 0 = j; omega] at hu2
        rw [hu2] at hu
        obtain ⟨_, _, hat⟩ := World.cells?_some ((hfk j hj).1 ρ)
        have := hat 0 (by decide)
        rw [addr_add, addr_add] at this
        show w.cell? ⟨bk, off + j, none⟩ = some (tr ρ u)
        rw [show off + j = off + j * 1 + 0 by omega, this]
        cases (show some (AVal.str (f j)) = some u from hu)
        rfl
      · obtain ⟨rfl, hy⟩ := get_one hy
        obtain ⟨rfl, _⟩ := get_one hy'
        exact absurd rfl hne

end Go.Proofs.Ytddjaneacmdkmaa
