/-
  A slice of strings that comes in, opened.
-/
import Derived.Test.YtddjaneacmdkmaaStrsIn
import Derived.Deep.Slices
import Derived.ChangeSame
import Derived.ChangeArms
import Derived.Lib.SmallJoins
namespace Go.Proofs.Ytddjaneacmdkmaa
set_option linter.unusedVariables false
open Go.RowKit Go.Joins Go.ChangeShapes Go.WideShapes Go.Deep

theorem cells_str : Try.prog.cellsOf 9 = 1 := by kernel_rfl

theorem open_strs {H : Type} {enc : TypeId × Value → H} {W : World} {base : Nat} {v : Value} {d : DataW H} {p : List MemPlace}
    (hv : Value.okWide Try.prog W .any base 27 v) (h : DataW.Trod enc Try.prog W 0 (fun _ => true) true 27 v d p) :
    ∃ a cap l, v = .slice a l.length cap ∧ l.length ≤ maxLen ∧ (∀ s ∈ l, s.size ≤ maxLen) ∧ StrCells W.heap.size W a l := by
  obtain ⟨a0, len, cap, rfl⟩ := okWide_slice Try.underlying27 hv
  obtain ⟨fuel, hf⟩ := h
  rcases open_slice Try.underlying27 hf with ⟨hcs, _⟩ | ⟨x, l, c, m, n, D, Pl, hcs, hb, hl, hm, hmm, hx, hi⟩
  · simp [Value.cells] at hcs
    obtain ⟨rfl, rfl, rfl⟩ := hcs
    exact ⟨none, 0, [], rfl, by simp, by simp, fun i hi => absurd hi (by simp)⟩
  · simp [Value.cells] at hcs
    obtain ⟨rfl, rfl, rfl⟩ := hcs
    simp only [if_true] at hmm
    subst hmm
    have key : ∀ i, i < len → ∃ b off s, x = ⟨b, off, none⟩ ∧ b < W.heap.size ∧ W.cell? ⟨b, off + i, none⟩ = some (.string s) ∧ s.size ≤ maxLen := fun i hil => by
      obtain ⟨b, off, spot⟩ := x
      have hspot : spot = none := by
        obtain ⟨cs', h1, _⟩ := hi 0 (by omega)
        rw [cells_str] at h1
        obtain ⟨_, hcl, hat⟩ := World.cells?_some h1
        have a0 := hat 0 (by omega)
        have e : cs'[0]? = some (cs'[0]'(by omega)) := List.getElem?_eq_getElem (by omega)
        simpa [Addr.add] using World.cell?_spot (a0.trans e)
      subst hspot
      obtain ⟨cs', h1, h2⟩ := hi i (by omega)
      rw [cells_str] at h1
      obtain ⟨_, hcl, hat⟩ := World.cells?_some h1
      match cs', hcl with
      | [c0], _ =>
        obtain ⟨s, e, _, hs⟩ := DataW.trod_string Try.underlying9 h2
        simp at e
        subst e
        have a0 := hat 0 (by omega)
        have hadd : ∀ (o j : Nat), (⟨b, o, none⟩ : Addr).add j = ⟨b, o + j, none⟩ := fun o j => by unfold Addr.add; split <;> simp_all
        simp only [hadd] at a0
        have a1 : W.cell? ⟨b, off + i, none⟩ = some (.string s) := by simpa using a0
        exact ⟨b, off, s, rfl, block_lt a1, a1, hs⟩
    let f : Nat → ByteArray := fun i => match W.cell? (x.add i) with | some (.string s) => s | _ => ByteArray.empty
    have hf' : ∀ i, i < len → ∃ b off, some x = some ⟨b, off, none⟩ ∧ b < W.heap.size ∧ W.cell? ⟨b, off + i, none⟩ = some (.string (f i)) ∧ (f i).size ≤ maxLen := fun i hil => by
      obtain ⟨b, off, s, rfl, h1, h2, h3⟩ := key i hil
      have hadd : (⟨b, off, none⟩ : Addr).add i = ⟨b, off + i, none⟩ := by unfold Addr.add; split <;> simp_all
      have e : f i = s := by simp only [f, hadd, h2]
      rw [e]
      exact ⟨b, off, rfl, h1, h2, h3⟩
    refine ⟨some x, _, (List.range len).map f, by rw [List.length_map, List.length_range], by rw [List.length_map, List.length_range]; omega, ?_, ?_⟩
    · intro s hs
      obtain ⟨i, hi, rfl⟩ := List.mem_map.1 hs
      obtain ⟨_, _, _, _, _, h⟩ := hf' i (List.mem_range.1 hi)
      exact h
    · intro i hi
      have hi' : i < len := by simpa using hi
      obtain ⟨b, off, h1, h2, h3, _⟩ := hf' i hi'
      exact ⟨b, off, h1, h2, by simpa using h3⟩

end Go.Proofs.Ytddjaneacmdkmaa
