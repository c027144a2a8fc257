/-
  Texts for RowFillIs: of the reckoner, walks, contracts and plain laws that its row stands on.
-/
import Derived.Laws.BitsAllLaws
namespace Go.Proofs.Ytjacnjecggedhaa.Crc
set_option linter.unusedVariables false
def turn (r : BitVec 32) : BitVec 32 := (r <<< 1) ^^^ (if r.msb then 0x04c11db7#32 else 0#32)
def turns : Nat → BitVec 32 → BitVec 32
  | 0, r => r
  | n + 1, r => turns n (turn r)
def cell (i : Nat) : BitVec 32 := turns 8 (BitVec.ofNat 32 i <<< 24)
def step (r : BitVec 32) (b : Nat) : BitVec 32 := turns 8 (r ^^^ (BitVec.ofNat 32 b <<< 24))
def fold (r : BitVec 32) (l : List UInt8) : BitVec 32 := l.foldl (fun r b => step r b.toNat) r
def sum (l : List UInt8) : BitVec 32 := fold 0xffffffff#32 l
theorem xor_lc (a b c : BitVec 32) : a ^^^ (b ^^^ c) = b ^^^ (a ^^^ c) := by
  rw [← BitVec.xor_assoc, BitVec.xor_comm a b, BitVec.xor_assoc]
theorem xor4 (a b c d : BitVec 32) : (a ^^^ b) ^^^ (c ^^^ d) = (a ^^^ c) ^^^ (b ^^^ d) := by
  rw [BitVec.xor_assoc, BitVec.xor_assoc, xor_lc b c d]
theorem turn_xor (a b : BitVec 32) : turn (a ^^^ b) = turn a ^^^ turn b := by
  unfold turn
  rw [BitVec.msb_xor, BitVec.shiftLeft_xor_distrib]
  cases a.msb <;> cases b.msb
  · simp
  · simp [BitVec.xor_assoc]
  · simp only [Bool.true_bne, Bool.not_false, if_true, Bool.false_eq_true, if_false, BitVec.xor_zero]
    rw [BitVec.xor_assoc, BitVec.xor_assoc, BitVec.xor_comm (b <<< 1)]
  · simp only [bne_self_eq_false, Bool.false_eq_true, if_false, BitVec.xor_zero, if_true]
    rw [xor4, BitVec.xor_self, BitVec.xor_zero]
theorem turns_xor (n : Nat) (a b : BitVec 32) : turns n (a ^^^ b) = turns n a ^^^ turns n b := by
  induction n generalizing a b with
  | zero => rfl
  | succ n ih => simp only [turns, turn_xor, ih]
theorem turns_add (m n : Nat) (r : BitVec 32) : turns (m + n) r = turns n (turns m r) := by
  induction m generalizing r with
  | zero => simp [turns]
  | succ m ih => rw [Nat.succ_add]; simp only [turns, ih]
theorem turns_succ (n : Nat) (r : BitVec 32) : turns (n + 1) r = turn (turns n r) := by
  rw [turns_add]; rfl
theorem turns_low (n : Nat) (hn : n ≤ 32) (r : BitVec 32) (h : r.toNat < 2 ^ (32 - n)) : turns n r = r <<< n := by
  induction n generalizing r with
  | zero => simp [turns]
  | succ n ih =>
    have hp : 2 ^ (32 - (n + 1)) ≤ 2 ^ 31 := Nat.pow_le_pow_right (by decide) (by omega)
    have hm : r.msb = false := by
      rw [BitVec.msb_eq_false_iff_two_mul_lt]; omega
    have ht : turn r = r <<< 1 := by simp [turn, hm]
    have hs : (r <<< 1).toNat = r.toNat * 2 := by
      rw [BitVec.toNat_shiftLeft, Nat.shiftLeft_eq]
      have : (2 : Nat) ^ 32 = 2 ^ 31 * 2 := by decide
      omega
    have h2 : 2 ^ (32 - n) = 2 ^ (32 - (n + 1)) * 2 := by
      rw [← Nat.pow_succ]; congr 1; omega
    simp only [turns]
    rw [ht, ih (by omega) _ (by omega), ← BitVec.shiftLeft_add, Nat.add_comm]
theorem step_table (r : BitVec 32) (b : Nat) (hb : b < 256) :
    step r b = (r <<< 8) ^^^ cell ((r.toNat / 16777216) ^^^ b) := by
  have hr : r = (BitVec.ofNat 32 (r.toNat / 16777216) <<< 24) ^^^ (BitVec.ofNat 32 (r.toNat % 16777216)) := by
    apply BitVec.eq_of_toNat_eq
    have hlt := r.isLt
    have e1 : (BitVec.ofNat 32 (r.toNat / 16777216) <<< 24).toNat = r.toNat / 16777216 * 16777216 := by
      rw [BitVec.toNat_shiftLeft, BitVec.toNat_ofNat, Nat.shiftLeft_eq]; omega
    have e2 : (BitVec.ofNat 32 (r.toNat % 16777216)).toNat = r.toNat % 16777216 := by
      rw [BitVec.toNat_ofNat]; omega
    rw [BitVec.toNat_xor, e1, e2]
    have hx := Nat.two_pow_add_eq_or_of_lt (i := 24) (b := r.toNat % 16777216) (Nat.mod_lt _ (by decide)) (r.toNat / 16777216)
    have hd : 2 ^ 24 * (r.toNat / 16777216) ^^^ r.toNat % 16777216 = 2 ^ 24 * (r.toNat / 16777216) + r.toNat % 16777216 := by
      rw [hx]
      apply Nat.eq_of_testBit_eq
      intro i
      rw [Nat.testBit_xor, Nat.testBit_or, Nat.testBit_two_pow_mul]
      by_cases hi : i < 24
      · have : decide (i ≥ 24) = false := by simp; omega
        simp [this]
      · have hz : (r.toNat % 16777216).testBit i = false := Nat.testBit_lt_two_pow (Nat.lt_of_lt_of_le (Nat.mod_lt _ (by decide)) (show 2 ^ 24 ≤ 2 ^ i from Nat.pow_le_pow_right (by decide) (by omega)))
        simp [hz]
    have e3 : r.toNat / 16777216 * 16777216 = 2 ^ 24 * (r.toNat / 16777216) := by rw [Nat.mul_comm]
    rw [e3, hd]
    omega
  have hk : r ^^^ (BitVec.ofNat 32 b <<< 24) = (BitVec.ofNat 32 ((r.toNat / 16777216) ^^^ b) <<< 24) ^^^ BitVec.ofNat 32 (r.toNat % 16777216) := by
    conv => lhs; rw [hr]
    rw [BitVec.xor_assoc, BitVec.xor_comm (BitVec.ofNat 32 (r.toNat % 16777216)), ← BitVec.xor_assoc, ← BitVec.shiftLeft_xor_distrib]
    congr 2
    apply BitVec.eq_of_toNat_eq
    have hlt := r.isLt
    have hx : r.toNat / 16777216 ^^^ b < 2 ^ 8 := Nat.xor_lt_two_pow (by omega) (by omega)
    rw [BitVec.toNat_xor, BitVec.toNat_ofNat, BitVec.toNat_ofNat, BitVec.toNat_ofNat, Nat.mod_eq_of_lt (by omega), Nat.mod_eq_of_lt (by omega), Nat.mod_eq_of_lt (by omega)]
  unfold step
  rw [hk, turns_xor, turns_low 8 (by decide) (BitVec.ofNat 32 (r.toNat % 16777216)) (by rw [BitVec.toNat_ofNat]; omega)]
  rw [BitVec.xor_comm]
  congr 1
  apply BitVec.eq_of_toNat_eq
  have hlt := r.isLt
  rw [BitVec.toNat_shiftLeft, BitVec.toNat_shiftLeft, BitVec.toNat_ofNat, Nat.shiftLeft_eq, Nat.shiftLeft_eq]
  omega
theorem fold_snoc (r : BitVec 32) (l : List UInt8) (b : UInt8) : fold r (l ++ [b]) = step (fold r l) b.toNat := by
  simp [fold, List.foldl_append]
def part (r : BitVec 32) (c n : Nat) : BitVec 32 := turns n (r ^^^ (BitVec.ofNat 32 c <<< 24)) ^^^ (BitVec.ofNat 32 c <<< (24 + n))
theorem part_zero (r : BitVec 32) (c : Nat) : part r c 0 = r := by
  simp only [part, turns, Nat.add_zero]
  rw [BitVec.xor_assoc, BitVec.xor_self, BitVec.xor_zero]
theorem part_eight (r : BitVec 32) (c : Nat) : part r c 8 = step r c := by
  simp only [part, step]
  have h : BitVec.ofNat 32 c <<< (24 + 8) = 0#32 := by
    apply BitVec.eq_of_toNat_eq
    rw [BitVec.toNat_shiftLeft, Nat.shiftLeft_eq]
    simp
  rw [h, BitVec.xor_zero]
theorem part_succ (r : BitVec 32) (c n : Nat) : part r c (n + 1) = ((part r c n) <<< 1) ^^^ (if (part r c n).msb = (BitVec.ofNat 32 c <<< (24 + n)).msb then 0#32 else 0x04c11db7#32) := by
  have e : turns n (r ^^^ (BitVec.ofNat 32 c <<< 24)) = part r c n ^^^ (BitVec.ofNat 32 c <<< (24 + n)) := by
    rw [part, BitVec.xor_assoc, BitVec.xor_self, BitVec.xor_zero]
  have e2 : BitVec.ofNat 32 c <<< (24 + (n + 1)) = (BitVec.ofNat 32 c <<< (24 + n)) <<< 1 := by
    rw [← Nat.add_assoc, BitVec.shiftLeft_add]
  conv => lhs; rw [part]
  rw [turns_succ, e, e2]
  generalize part r c n = x
  generalize BitVec.ofNat 32 c <<< (24 + n) = d
  unfold turn
  rw [BitVec.msb_xor, BitVec.shiftLeft_xor_distrib]
  cases x.msb <;> cases d.msb
  · simp [BitVec.xor_assoc]
  · simp only [Bool.false_bne, if_true, Bool.false_eq_true, if_false]
    rw [BitVec.xor_assoc, BitVec.xor_assoc, BitVec.xor_comm (0x04c11db7#32) (d <<< 1), ← BitVec.xor_assoc (d <<< 1), BitVec.xor_self, BitVec.zero_xor]
  · simp only [Bool.true_bne, Bool.not_false, if_true, Bool.true_eq_false, if_false]
    rw [BitVec.xor_assoc, BitVec.xor_assoc, BitVec.xor_comm (0x04c11db7#32) (d <<< 1), ← BitVec.xor_assoc (d <<< 1), BitVec.xor_self, BitVec.zero_xor]
  · simp [BitVec.xor_assoc]
theorem byte_msb (c n : Nat) (hc : c < 256) (hn : n < 8) : (BitVec.ofNat 32 c <<< (24 + n)).msb = decide (c / 2 ^ (7 - n) % 2 = 1) := by
  have hp : 2 ^ (24 + n) * 2 ^ (7 - n) = 2 ^ 31 := by rw [← Nat.pow_add]; congr 1; omega
  rw [BitVec.msb_eq_decide, BitVec.toNat_shiftLeft, BitVec.toNat_ofNat, Nat.shiftLeft_eq, Nat.mod_eq_of_lt (show c < 2 ^ 32 by omega)]
  have h8 : n = 0 ∨ n = 1 ∨ n = 2 ∨ n = 3 ∨ n = 4 ∨ n = 5 ∨ n = 6 ∨ n = 7 := by omega
  rcases h8 with rfl | rfl | rfl | rfl | rfl | rfl | rfl | rfl <;> simp only [Nat.add_zero, Nat.reduceAdd, Nat.reduceSub, Nat.reducePow] <;> rw [decide_eq_decide] <;> omega
def bytes (r : BitVec 32) : List UInt8 := [UInt8.ofNat (r.toNat / 16777216), UInt8.ofNat (r.toNat / 65536 % 256), UInt8.ofNat (r.toNat / 256 % 256), UInt8.ofNat (r.toNat % 256)]
def mixed (a b c : ByteArray) (n : Nat) : List UInt8 := List.zipWith (· ^^^ ·) (List.zipWith (· ^^^ ·) (a.data.toList.take n) (b.data.toList.take n)) (c.data.toList.take n)
end Go.Proofs.Ytjacnjecggedhaa.Crc
