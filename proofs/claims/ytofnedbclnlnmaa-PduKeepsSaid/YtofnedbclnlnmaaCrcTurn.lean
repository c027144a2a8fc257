/-
  Bits that are turned within thirty-two next to one another: what they do to the sum. Plain arithmetic; no program here.
-/
import Derived.Test.YtofnedbclnlnmaaCrcMath
namespace Go.Proofs.Ytofnedbclnlnmaa.Crc
set_option linter.unusedVariables false

theorem add_xor (m q b : Nat) (hb : b < 2 ^ m) : 2 ^ m * q ^^^ b = 2 ^ m * q + b := by
  rw [Nat.two_pow_add_eq_or_of_lt hb q]
  apply Nat.eq_of_testBit_eq
  intro i
  rw [Nat.testBit_xor, Nat.testBit_or, Nat.testBit_two_pow_mul]
  by_cases hi : i < m
  · have : decide (i ≥ m) = false := by simp; omega
    simp [this]
  · have hz : b.testBit i = false := Nat.testBit_lt_two_pow (Nat.lt_of_lt_of_le hb (Nat.pow_le_pow_right (by decide) (by omega)))
    simp [hz]

/-- Turning a single bit on its way to the top only shifts it. -/
theorem turns_bit (s m : Nat) (hs : s + m = 31) (b : Nat) (hb : b ≤ 1) : turns s (BitVec.ofNat 32 b <<< m) = BitVec.ofNat 32 b <<< 31 := by
  have hp : (2 : Nat) ^ m * 2 ^ s = 2 ^ 31 := by rw [← Nat.pow_add]; congr 1; omega
  have hp2 : (2 : Nat) ^ m ≤ 2 ^ 31 := Nat.pow_le_pow_right (by decide) (by omega)
  have h32 : (2 : Nat) ^ (32 - s) = 2 ^ m * 2 := by rw [← Nat.pow_succ]; congr 1; omega
  have hn : (BitVec.ofNat 32 b <<< m).toNat = b * 2 ^ m := by
    rw [BitVec.toNat_shiftLeft, BitVec.toNat_ofNat, Nat.shiftLeft_eq, Nat.mod_eq_of_lt (show b < 2 ^ 32 by omega), Nat.mod_eq_of_lt]
    have : b * 2 ^ m ≤ 1 * 2 ^ m := Nat.mul_le_mul_right _ hb
    omega
  rw [turns_low s (by omega) _ (by
    rw [hn, h32]
    have : b * 2 ^ m ≤ 1 * 2 ^ m := Nat.mul_le_mul_right _ hb
    have h1 : 1 ≤ 2 ^ m := Nat.one_le_two_pow
    omega), ← BitVec.shiftLeft_add, Nat.add_comm, hs]

/-- One bit of a text is turned: bit s of byte j, counted from the top. -/
theorem sum_flip (l : List UInt8) (k : Nat) (hk : k / 8 < l.length) (b : Nat) (hb : b ≤ 1) (x : UInt8) (hx : x.toNat = l[k / 8].toNat ^^^ (b * 2 ^ (7 - k % 8))) :
    sum (l.set (k / 8) x) = sum l ^^^ turns (8 * l.length - k) (BitVec.ofNat 32 b <<< 31) := by
  have hp : 2 ^ (7 - k % 8) ≤ 2 ^ 7 := Nat.pow_le_pow_right (by decide) (by omega)
  have hd : b * 2 ^ (7 - k % 8) < 256 := by
    have : b * 2 ^ (7 - k % 8) ≤ 1 * 2 ^ (7 - k % 8) := Nat.mul_le_mul_right _ hb
    omega
  have e : BitVec.ofNat 32 (b * 2 ^ (7 - k % 8)) <<< 24 = BitVec.ofNat 32 b <<< (31 - k % 8) := by
    have e1 : BitVec.ofNat 32 (b * 2 ^ (7 - k % 8)) = BitVec.ofNat 32 b <<< (7 - k % 8) := by
      apply BitVec.eq_of_toNat_eq
      rw [BitVec.toNat_shiftLeft, BitVec.toNat_ofNat, BitVec.toNat_ofNat, Nat.shiftLeft_eq, Nat.mod_eq_of_lt (show b < 2 ^ 32 by omega)]
    rw [e1, ← BitVec.shiftLeft_add, show 7 - k % 8 + 24 = 31 - k % 8 by omega]
  rw [sum, fold_set l _ (k / 8) hk _ hd x hx, e, show 8 * (l.length - k / 8) = k % 8 + (8 * l.length - k) by omega, turns_add, turns_bit (k % 8) (31 - k % 8) (by omega) b hb]
  rfl

/-- The bits of t that are laid by now, i of them from the top. -/
def tops (t i : Nat) : BitVec 32 := BitVec.ofNat 32 (t / 2 ^ (32 - i) * 2 ^ (32 - i))

theorem tops_zero (t : Nat) (ht : t < 2 ^ 32) : tops t 0 = 0#32 := by
  rw [tops, Nat.sub_zero, Nat.div_eq_of_lt ht, Nat.zero_mul]

theorem tops_all (t : Nat) : tops t 32 = BitVec.ofNat 32 t := by simp [tops]

theorem tops_succ (t i : Nat) (ht : t < 2 ^ 32) (hi : i < 32) : tops t (i + 1) = tops t i ^^^ (BitVec.ofNat 32 (t / 2 ^ (31 - i) % 2) <<< (31 - i)) := by
  have hp : (2 : Nat) ^ (32 - i) = 2 ^ (31 - i) * 2 := by rw [← Nat.pow_succ]; congr 1; omega
  have hq : t / 2 ^ (32 - i) = t / 2 ^ (31 - i) / 2 := by rw [hp, Nat.div_div_eq_div_mul]
  have h31 : (2 : Nat) ^ (31 - i) ≤ 2 ^ 31 := Nat.pow_le_pow_right (by decide) (by omega)
  have hle : t / 2 ^ (31 - i) * 2 ^ (31 - i) ≤ t := Nat.div_mul_le_self _ _
  have h1 : 1 ≤ 2 ^ (31 - i) := Nat.one_le_two_pow
  apply BitVec.eq_of_toNat_eq
  rw [tops, tops, BitVec.toNat_xor, BitVec.toNat_shiftLeft, BitVec.toNat_ofNat, BitVec.toNat_ofNat, BitVec.toNat_ofNat, Nat.shiftLeft_eq, show 32 - (i + 1) = 31 - i by omega, hq, hp]
  generalize hy : t / 2 ^ (31 - i) = y at *
  generalize hz : (2 : Nat) ^ (31 - i) = z at *
  have hb : y % 2 * z < z * 2 := by
    have : y % 2 * z ≤ 1 * z := Nat.mul_le_mul_right _ (by omega)
    omega
  have hsum : y * z = z * 2 * (y / 2) + y % 2 * z := by
    have : y = 2 * (y / 2) + y % 2 := by omega
    calc y * z = (2 * (y / 2) + y % 2) * z := by rw [← this]
      _ = z * 2 * (y / 2) + y % 2 * z := by rw [Nat.add_mul]; congr 1; rw [Nat.mul_comm z 2, Nat.mul_assoc, Nat.mul_assoc, Nat.mul_comm z]
  have hx := add_xor (32 - i) (y / 2) (y % 2 * z) (by rw [hp]; exact hb)
  rw [hp] at hx
  have hm : y / 2 * (z * 2) = z * 2 * (y / 2) := Nat.mul_comm _ _
  rw [Nat.mod_eq_of_lt (show y * z < 2 ^ 32 by omega), Nat.mod_eq_of_lt (show y % 2 < 2 ^ 32 by omega), Nat.mod_eq_of_lt (show y % 2 * z < 2 ^ 32 by omega), hm, Nat.mod_eq_of_lt (show z * 2 * (y / 2) < 2 ^ 32 by omega), hx]
  exact hsum

/-- One round: the bit i of t, laid at place n + i. -/
theorem sum_round (l l0 : List UInt8) (n i t : Nat) (ht : t < 2 ^ 32) (hi : i < 32) (hl : l.length = l0.length) (hn : n + 32 ≤ 8 * l0.length)
    (h : sum l = sum l0 ^^^ turns (8 * l0.length - n) (tops t i)) (hk : (n + i) / 8 < l.length) (x : UInt8)
    (hx : x.toNat = l[(n + i) / 8].toNat ^^^ (t / 2 ^ (31 - i) % 2 * 2 ^ (7 - (n + i) % 8))) :
    sum (l.set ((n + i) / 8) x) = sum l0 ^^^ turns (8 * l0.length - n) (tops t (i + 1)) := by
  rw [sum_flip l (n + i) hk _ (by omega) x hx, h, tops_succ t i ht hi, turns_xor, BitVec.xor_assoc, hl]
  congr 2
  rw [show 8 * l0.length - n = i + (8 * l0.length - (n + i)) by omega, turns_add, turns_bit i (31 - i) (by omega) _ (by omega)]

theorem sum_turned (l l0 : List UInt8) (n t : Nat) (ht : t < 2 ^ 32) (h0 : t ≠ 0) (h : sum l = sum l0 ^^^ turns (8 * l0.length - n) (tops t 32)) : sum l ≠ sum l0 := by
  intro he
  rw [he, tops_all] at h
  have hz : turns (8 * l0.length - n) (BitVec.ofNat 32 t) = 0#32 := by
    have h2 := congrArg (sum l0 ^^^ ·) h
    simp only [← BitVec.xor_assoc, BitVec.xor_self, BitVec.zero_xor] at h2
    exact h2.symm
  rw [← turns_zero (8 * l0.length - n)] at hz
  have := congrArg BitVec.toNat (turns_inj _ hz)
  simp at this
  omega

end Go.Proofs.Ytofnedbclnlnmaa.Crc
