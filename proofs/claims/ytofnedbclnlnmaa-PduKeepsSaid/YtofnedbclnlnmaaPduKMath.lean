/-
  Bits that are turned, from the low end, maybe over the text's end: what they do to the sums. Plain arithmetic; no program here.
-/
import Derived.Test.YtofnedbclnlnmaaCrcTurn
namespace Go.Proofs.Ytofnedbclnlnmaa.Crc
set_option linter.unusedVariables false
set_option linter.unusedSimpArgs false

def nn (D : List UInt8) (first : Nat) : Nat := max (8 * D.length - first) 32
def dl (D : List UInt8) (first : Nat) : Nat := nn D first - (8 * D.length - first)

structure InvK (D : List UInt8) (first i : Nat) (d : List UInt8) (t : Bool) : Prop where
  len : d.length = D.length
  ex : ∃ W : BitVec 32, (W = 0#32 ↔ t = false) ∧ (∀ m, m + (i + dl D first) ≤ 31 → W.getLsbD m = false) ∧ ∀ pre : List UInt8, sum (pre ++ d) = sum (pre ++ D) ^^^ turns (nn D first) W

theorem InvK.start (D : List UInt8) (first : Nat) : InvK D first 0 D false :=
  ⟨rfl, 0#32, by simp, fun m _ => by simp, fun pre => by rw [turns_zero, BitVec.xor_zero]⟩

theorem InvK.keep {D : List UInt8} {first i : Nat} {d : List UInt8} {t : Bool} (h : InvK D first i d t) : InvK D first (i + 1) d t := by
  obtain ⟨W, h1, h2, h3⟩ := h.ex
  exact ⟨h.len, W, h1, fun m hm => h2 m (by omega), h3⟩

theorem InvK.fin {D : List UInt8} {first i : Nat} {d : List UInt8} {t : Bool} (h : InvK D first i d t) (pre : List UInt8) : sum (pre ++ d) = sum (pre ++ D) ↔ t = false := by
  obtain ⟨W, h1, h2, h3⟩ := h.ex
  rw [h3 pre, ← h1]
  constructor
  · intro h
    have hz : turns (nn D first) W = 0#32 := by
      have h2 := congrArg (sum (pre ++ D) ^^^ ·) h
      simp only [← BitVec.xor_assoc, BitVec.xor_self, BitVec.zero_xor] at h2
      exact h2
    rw [← turns_zero (nn D first)] at hz
    exact turns_inj _ hz
  · rintro rfl
    rw [turns_zero, BitVec.xor_zero]

theorem one_bit (m : Nat) (hm : m ≤ 31) (j : Nat) : (BitVec.ofNat 32 1 <<< m).getLsbD j = decide (j = m) := by
  rw [BitVec.getLsbD_shiftLeft]
  by_cases h : j = m
  · subst h
    have : j < 32 := by omega
    simp [this]
  · by_cases h2 : j < m
    · simp [h2, h]
    · have h3 : j - m ≠ 0 := by omega
      have h4 : (BitVec.ofNat 32 1).getLsbD (j - m) = false := by
        show (1#32).getLsbD (j - m) = false
        rw [BitVec.getLsbD_one]
        simp [h3]
      simp [h4, h]

theorem InvK.flip {D : List UInt8} {first i : Nat} {d : List UInt8} {t : Bool} (h : InvK D first i d t) (hi : i < 32) (hr : first + i < 8 * D.length) {x : UInt8}
    (hx : x.toNat = (d.getD ((first + i) / 8) 0).toNat ^^^ 2 ^ (7 - (first + i) % 8)) : InvK D first (i + 1) (d.set ((first + i) / 8) x) true := by
  obtain ⟨W, h1, h2, h3⟩ := h.ex
  have hlen := h.len
  have hd : dl D first = nn D first - (8 * D.length - first) := rfl
  have hn : nn D first = max (8 * D.length - first) 32 := rfl
  have hj : i + dl D first ≤ 31 := by omega
  refine ⟨by rw [List.length_set, hlen], W ^^^ (BitVec.ofNat 32 1 <<< (31 - (i + dl D first))), ?_, fun m hm => ?_, fun pre => ?_⟩
  · constructor
    · intro hz
      exfalso
      have := congrArg (fun v : BitVec 32 => v.getLsbD (31 - (i + dl D first))) hz
      simp only [BitVec.getLsbD_xor] at this
      rw [h2 _ (by omega), one_bit _ (by omega)] at this
      simp at this
    · intro hc; cases hc
  · rw [BitVec.getLsbD_xor, h2 m (by omega), one_bit _ (by omega)]
    simp; omega
  · have hlt : (first + i) / 8 < d.length := by omega
    have e1 : (8 * pre.length + first + i) / 8 = pre.length + (first + i) / 8 := by omega
    have e2 : (8 * pre.length + first + i) % 8 = (first + i) % 8 := by omega
    have e3 : (pre ++ d).set ((8 * pre.length + first + i) / 8) x = pre ++ d.set ((first + i) / 8) x := by
      rw [e1, List.set_append_right _ _ (by omega), Nat.add_sub_cancel_left]
    have hk : (8 * pre.length + first + i) / 8 < (pre ++ d).length := by rw [e1, List.length_append]; omega
    have := sum_flip (pre ++ d) (8 * pre.length + first + i) hk 1 (by omega) x (by
      rw [e2, Nat.one_mul, hx]
      congr 2
      have e4 : (pre ++ d)[(8 * pre.length + first + i) / 8]'hk = (pre ++ d)[pre.length + (first + i) / 8]'(by rw [List.length_append]; omega) := by
        congr 1
      rw [e4, List.getElem_append_right (by omega), List.getD_eq_getElem?_getD, List.getElem?_eq_getElem hlt]
      simp)
    rw [e3] at this
    rw [this, h3 pre, turns_xor, BitVec.xor_assoc]
    congr 2
    rw [List.length_append, show 8 * (pre.length + d.length) - (8 * pre.length + first + i) = 8 * D.length - first - i by omega]
    rw [show nn D first = (i + dl D first) + (8 * D.length - first - i) by omega, turns_add, turns_bit (i + dl D first) (31 - (i + dl D first)) (by omega) 1 (by omega)]

end Go.Proofs.Ytofnedbclnlnmaa.Crc
