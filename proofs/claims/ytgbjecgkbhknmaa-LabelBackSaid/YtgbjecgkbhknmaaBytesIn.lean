/-
  A slice of bytes that comes in, opened.
-/
import Derived.Test.YtgbjecgkbhknmaaAux
import Derived.Test.YtgbjecgkbhknmaaProg
import Derived.ProofKit
import Derived.OpenShut
namespace Go.Proofs.Ytgbjecgkbhknmaa
set_option linter.unusedVariables false
open Go.RowKit Go.ChangeShapes Go.WideShapes

/-- What stands is no new block. -/
theorem ne_new {w : World} {g o : Nat} {v : Value} (h : w.cell? ⟨g, o, none⟩ = some v) : ¬ w.heap.size = g := by
  have := block_lt h; omega

/-- A slice of bytes that came in: it is nil, or leads to cells that hold the bytes z. -/
def BytesIn (w : World) (v : Value) (z : List UInt8) : Prop :=
  z.length ≤ maxLen ∧ ((z = [] ∧ ∃ a c, v = .slice a 0 c) ∨ ∃ b off cap, v = .slice (some ⟨b, off, none⟩) z.length cap ∧ ∀ i (h : i < z.length), w.cell? ⟨b, off + i, none⟩ = some (.int .u8 (z[i].toNat : Int)))

theorem BytesIn.form {w : World} {v : Value} {z : List UInt8} (h : BytesIn w v z) :
    ∃ a cap, v = .slice a z.length cap ∧ ∀ i (h : i < z.length), ∃ b off, a = some ⟨b, off, none⟩ ∧ b < w.heap.size ∧ w.cell? ⟨b, off + i, none⟩ = some (.int .u8 (z[i].toNat : Int)) := by
  rcases h.2 with ⟨rfl, a, c, rfl⟩ | ⟨b, off, cap, rfl, hc⟩
  · exact ⟨a, c, rfl, fun i hi => absurd hi (by simp)⟩
  · exact ⟨some ⟨b, off, none⟩, cap, rfl, fun i hi => ⟨b, off, rfl, block_lt (hc i hi), hc i hi⟩⟩

theorem open_bytes {H : Type} {enc : TypeId × Value → H} {W : World} {base : Nat} {v : Value} {d : DataW H} {p : List MemPlace}
    (hv : Value.okWide Try.prog W .any base 22 v) (h : DataW.Trod enc Try.prog W 0 (fun _ => true) true 22 v d p) :
    ∃ z, BytesIn W v z := by
  obtain ⟨a0, len, cap, rfl⟩ := okWide_slice Try.underlying22 hv
  obtain ⟨fuel, hf⟩ := h
  rcases open_ints Try.underlying22 Try.underlying5 (by kernel_rfl) hf with ⟨hcs, _⟩ | ⟨x, l, c, zs, hcs, _, hl, hm, hz, _, hcell, hwz⟩
  · simp [Value.cells] at hcs
    obtain ⟨rfl, rfl, rfl⟩ := hcs
    exact ⟨[], by simp, .inl ⟨rfl, _, _, rfl⟩⟩
  · simp [Value.cells] at hcs
    obtain ⟨rfl, rfl, rfl⟩ := hcs
    have hz' : zs.length = cap := by simpa using hz
    obtain ⟨b, off, spot⟩ := x
    by_cases h0 : len = 0
    · subst h0
      exact ⟨[], by simp, .inl ⟨rfl, _, _, rfl⟩⟩
    · have hc := hcell 0 (by omega)
      have hspot : spot = none := by simpa [Addr.add] using World.cell?_spot hc
      subst hspot
      refine ⟨(zs.take len).map fun n => UInt8.ofNat n.toNat, by simp; omega, .inr ⟨b, off, cap, by congr 1; simp; omega, fun i hi => ?_⟩⟩
      have hi' : i < len := by simp at hi; omega
      have hci := hcell i (by omega)
      have hadd : (⟨b, off, none⟩ : Addr).add i = ⟨b, off + i, none⟩ := by unfold Addr.add; split <;> simp_all
      rw [hadd] at hci
      rw [hci]
      have hzl : i < zs.length := by omega
      have e : zs.getD i 0 = zs[i] := by simp [List.getD, List.getElem?_eq_getElem hzl]
      have hw := hwz zs[i] (List.getElem_mem _)
      have hb : 0 ≤ zs[i] ∧ zs[i] ≤ 255 := by simpa [Lit.wf, IntKind.min, IntKind.max, IntKind.signed, IntKind.bits] using hw
      rw [e, List.getElem_map, List.getElem_take, UInt8.toNat_ofNat']
      congr 2
      omega

end Go.Proofs.Ytgbjecgkbhknmaa
