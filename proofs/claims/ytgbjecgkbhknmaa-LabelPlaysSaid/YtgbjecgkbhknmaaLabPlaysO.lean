/-
  A slice of acts that comes in, opened.
-/
import Derived.Test.YtgbjecgkbhknmaaLabOpen
import Derived.Test.YtgbjecgkbhknmaaAux
import Derived.Deep.Slices
import Derived.ChangeSame
namespace Go.Proofs.Ytgbjecgkbhknmaa
set_option linter.unusedVariables false
open Go.RowKit Go.Joins Go.ChangeShapes Go.WideShapes Go.Deep

theorem cells_act : Try.prog.cellsOf 40 = 3 := by kernel_rfl
theorem cells_i : Try.prog.cellsOf 3 = 1 := by kernel_rfl
theorem cells_s : Try.prog.cellsOf 9 = 1 := by kernel_rfl

/-- Element i of a slice of acts: a number, and a label of k and b. -/
def ActAt (W : World) (a : Option Addr) (i : Nat) : Prop :=
  ∃ b off what k bs, a = some ⟨b, off, none⟩ ∧ b < W.heap.size ∧ W.cell? ⟨b, off + i * 3, none⟩ = some (.int .i64 what) ∧ W.cell? ⟨b, off + i * 3 + 1, none⟩ = some (.int .i64 k) ∧ W.cell? ⟨b, off + i * 3 + 2, none⟩ = some (.string bs) ∧ bs.size ≤ maxLen

theorem add_none (b off i : Nat) : (⟨b, off, none⟩ : Addr).add i = ⟨b, off + i, none⟩ := by unfold Addr.add; split <;> simp_all

theorem open_acts {H : Type} {enc : TypeId × Value → H} {W : World} {base : Nat} {v : Value} {d : DataW H} {p : List MemPlace}
    (hv : Value.okWide Try.prog W .any base 36 v) (h : DataW.Trod enc Try.prog W 0 (fun _ => true) true 36 v d p) :
    ∃ a len cap, v = .slice a len cap ∧ len ≤ maxLen ∧ ∀ i, i < len → ActAt W a i := by
  obtain ⟨a0, len, cap, rfl⟩ := okWide_slice Try.underlying36 hv
  obtain ⟨fuel, hf⟩ := h
  rcases open_slice Try.underlying36 hf with ⟨hcs, _⟩ | ⟨x, l, c, m, n, D, Pl, hcs, hb, hl, hm, hmm, hx, hi⟩
  · simp [Value.cells] at hcs
    obtain ⟨rfl, rfl, rfl⟩ := hcs
    exact ⟨_, _, _, rfl, by simp, fun i hi => absurd hi (by omega)⟩
  · simp [Value.cells] at hcs
    obtain ⟨rfl, rfl, rfl⟩ := hcs
    simp only [if_true] at hmm
    subst hmm
    refine ⟨_, _, _, rfl, by omega, fun i hil => ?_⟩
    obtain ⟨b, off, spot⟩ := x
    have hspot : spot = none := by
      obtain ⟨cs', h1, _⟩ := hi 0 (by omega)
      rw [cells_act] at h1
      obtain ⟨_, hcl, hat⟩ := World.cells?_some h1
      have a0 := hat 0 (by omega)
      have e : cs'[0]? = some (cs'[0]'(by omega)) := List.getElem?_eq_getElem (by omega)
      simpa [Addr.add] using World.cell?_spot (a0.trans e)
    subst hspot
    obtain ⟨cs', h1, h2⟩ := hi i (by omega)
    rw [cells_act] at h1
    obtain ⟨_, hcl, hat⟩ := World.cells?_some h1
    obtain ⟨y0, y1, n1, _, _, g0, g1⟩ := trod_struct2 Try.underlying40 h2
    match cs', hcl with
    | [c0, c1, c2], _ =>
      simp only [cells_i, cells_label, List.drop_succ_cons, List.drop_zero, List.take_succ_cons, List.take_zero] at g0 g1
      obtain ⟨z0, z1, n2, _, _, k0, k1⟩ := trod_struct2 Try.underlying24 g1
      simp only [cells_i, cells_s, List.drop_succ_cons, List.drop_zero, List.take_succ_cons, List.take_zero] at k0 k1
      obtain ⟨what, e0, rfl, _⟩ := DataW.trod_int Try.underlying3 g0
      obtain ⟨k, e1, rfl, _⟩ := DataW.trod_int Try.underlying3 k0
      obtain ⟨bs, e2, rfl, hbs⟩ := DataW.trod_string Try.underlying9 k1
      simp at e0 e1 e2
      subst e0 e1 e2
      have a0 := hat 0 (by omega)
      have a1 := hat 1 (by omega)
      have a2 := hat 2 (by omega)
      simp only [add_none] at a0 a1 a2
      exact ⟨b, off, what, k, bs, rfl, block_lt (a0.trans (by simp : _ = some (Value.int .i64 what))), by simpa using a0, by simpa using a1, by simpa using a2, hbs⟩

end Go.Proofs.Ytgbjecgkbhknmaa
