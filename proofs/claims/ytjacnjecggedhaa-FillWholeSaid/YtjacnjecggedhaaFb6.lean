/-
  Texts for RowFillFits: of the reckoner, walks, contracts and plain laws that its row stands on.
-/
import Derived.Laws.BitsAllLaws
namespace Go.Proofs.Ytjacnjecggedhaa.Crc
set_option linter.unusedVariables false
def turn (r : BitVec 32) : BitVec 32 := (r <<< 1) ^^^ (if r.msb then 0x04c11db7#32 else 0#32)
def turns : Nat → BitVec 32 → BitVec 32
  | 0, r => r
  | n + 1, r => turns n (turn r)
def cell (i : Nat) : BitVec 32 := turns 8 (BitVec.ofNat 32 i <<< 24)
def step (r : BitVec 32) (b : Nat) : BitVec 32 := turns 8 (r ^^^ (BitVec.ofNat 32 b <<< 24))
def fold (r : BitVec 32) (l : List UInt8) : BitVec 32 := l.foldl (fun r b => step r b.toNat) r
def sum (l : List UInt8) : BitVec 32 := fold 0xffffffff#32 l
theorem xor_lc (a b c : BitVec 32) : a ^^^ (b ^^^ c) = b ^^^ (a ^^^ c) := by
  rw [← BitVec.xor_assoc, BitVec.xor_comm a b, BitVec.xor_assoc]
theorem xor4 (a b c d : BitVec 32) : (a ^^^ b) ^^^ (c ^^^ d) = (a ^^^ c) ^^^ (b ^^^ d) := by
  rw [BitVec.xor_assoc, BitVec.xor_assoc, xor_lc b c d]
theorem turn_xor (a b : BitVec 32) : turn (a ^^^ b) = turn a ^^^ turn b := by
  unfold turn
  rw [BitVec.msb_xor, BitVec.shiftLeft_xor_distrib]
  cases a.msb <;> cases b.msb
  · simp
  · simp [BitVec.xor_assoc]
  · simp only [Bool.true_bne, Bool.not_false, if_true, Bool.false_eq_true, if_false, BitVec.xor_zero]
    rw [BitVec.xor_assoc, BitVec.xor_assoc, BitVec.xor_comm (b <<< 1)]
  · simp only [bne_self_eq_false, Bool.false_eq_true, if_false, BitVec.xor_zero, if_true]
    rw [xor4, BitVec.xor_self, BitVec.xor_zero]
theorem turns_xor (n : Nat) (a b : BitVec 32) : turns n (a ^^^ b) = turns n a ^^^ turns n b := by
  induction n generalizing a b with
  | zero => rfl
  | succ n ih => simp only [turns, turn_xor, ih]
theorem turns_zero (n : Nat) : turns n 0#32 = 0#32 := by
  induction n with
  | zero => rfl
  | succ n ih => simpa [turns, turn] using ih
theorem turns_add (m n : Nat) (r : BitVec 32) : turns (m + n) r = turns n (turns m r) := by
  induction m generalizing r with
  | zero => simp [turns]
  | succ m ih => rw [Nat.succ_add]; simp only [turns, ih]
theorem turns_succ (n : Nat) (r : BitVec 32) : turns (n + 1) r = turn (turns n r) := by
  rw [turns_add]; rfl
theorem turns_low (n : Nat) (hn : n ≤ 32) (r : BitVec 32) (h : r.toNat < 2 ^ (32 - n)) : turns n r = r <<< n := by
  induction n generalizing r with
  | zero => simp [turns]
  | succ n ih =>
    have hp : 2 ^ (32 - (n + 1)) ≤ 2 ^ 31 := Nat.pow_le_pow_right (by decide) (by omega)
    have hm : r.msb = false := by
      rw [BitVec.msb_eq_false_iff_two_mul_lt]; omega
    have ht : turn r = r <<< 1 := by simp [turn, hm]
    have hs : (r <<< 1).toNat = r.toNat * 2 := by
      rw [BitVec.toNat_shiftLeft, Nat.shiftLeft_eq]
      have : (2 : Nat) ^ 32 = 2 ^ 31 * 2 := by decide
      omega
    have h2 : 2 ^ (32 - n) = 2 ^ (32 - (n + 1)) * 2 := by
      rw [← Nat.pow_succ]; congr 1; omega
    simp only [turns]
    rw [ht, ih (by omega) _ (by omega), ← BitVec.shiftLeft_add, Nat.add_comm]
theorem step_table (r : BitVec 32) (b : Nat) (hb : b < 256) :
    step r b = (r <<< 8) ^^^ cell ((r.toNat / 16777216) ^^^ b) := by
  have hr : r = (BitVec.ofNat 32 (r.toNat / 16777216) <<< 24) ^^^ (BitVec.ofNat 32 (r.toNat % 16777216)) := by
    apply BitVec.eq_of_toNat_eq
    have hlt := r.isLt
    have e1 : (BitVec.ofNat 32 (r.toNat / 16777216) <<< 24).toNat = r.toNat / 16777216 * 16777216 := by
      rw [BitVec.toNat_shiftLeft, BitVec.toNat_ofNat, Nat.shiftLeft_eq]; omega
    have e2 : (BitVec.ofNat 32 (r.toNat % 16777216)).toNat = r.toNat % 16777216 := by
      rw [BitVec.toNat_ofNat]; omega
    rw [BitVec.toNat_xor, e1, e2]
    have hx := Nat.two_pow_add_eq_or_of_lt (i := 24) (b := r.toNat % 16777216) (Nat.mod_lt _ (by decide)) (r.toNat / 16777216)
    have hd : 2 ^ 24 * (r.toNat / 16777216) ^^^ r.toNat % 16777216 = 2 ^ 24 * (r.toNat / 16777216) + r.toNat % 16777216 := by
      rw [hx]
      apply Nat.eq_of_testBit_eq
      intro i
      rw [Nat.testBit_xor, Nat.testBit_or, Nat.testBit_two_pow_mul]
      by_cases hi : i < 24
      · have : decide (i ≥ 24) = false := by simp; omega
        simp [this]
      · have hz : (r.toNat % 16777216).testBit i = false := Nat.testBit_lt_two_pow (Nat.lt_of_lt_of_le (Nat.mod_lt _ (by decide)) (show 2 ^ 24 ≤ 2 ^ i from Nat.pow_le_pow_right (by decide) (by omega)))
        simp [hz]
    have e3 : r.toNat / 16777216 * 16777216 = 2 ^ 24 * (r.toNat / 16777216) := by rw [Nat.mul_comm]
    rw [e3, hd]
    omega
  have hk : r ^^^ (BitVec.ofNat 32 b <<< 24) = (BitVec.ofNat 32 ((r.toNat / 16777216) ^^^ b) <<< 24) ^^^ BitVec.ofNat 32 (r.toNat % 16777216) := by
    conv => lhs; rw [hr]
    rw [BitVec.xor_assoc, BitVec.xor_comm (BitVec.ofNat 32 (r.toNat % 16777216)), ← BitVec.xor_assoc, ← BitVec.shiftLeft_xor_distrib]
    congr 2
    apply BitVec.eq_of_toNat_eq
    have hlt := r.isLt
    have hx : r.toNat / 16777216 ^^^ b < 2 ^ 8 := Nat.xor_lt_two_pow (by omega) (by omega)
    rw [BitVec.toNat_xor, BitVec.toNat_ofNat, BitVec.toNat_ofNat, BitVec.toNat_ofNat, Nat.mod_eq_of_lt (by omega), Nat.mod_eq_of_lt (by omega), Nat.mod_eq_of_lt (by omega)]
  unfold step
  rw [hk, turns_xor, turns_low 8 (by decide) (BitVec.ofNat 32 (r.toNat % 16777216)) (by rw [BitVec.toNat_ofNat]; omega)]
  rw [BitVec.xor_comm]
  congr 1
  apply BitVec.eq_of_toNat_eq
  have hlt := r.isLt
  rw [BitVec.toNat_shiftLeft, BitVec.toNat_shiftLeft, BitVec.toNat_ofNat, Nat.shiftLeft_eq, Nat.shiftLeft_eq]
  omega
theorem turn_inj {a b : BitVec 32} (h : turn a = turn b) : a = b := by
  have hx : turn (a ^^^ b) = 0#32 := by rw [turn_xor, h, BitVec.xor_self]
  have key : ∀ x : BitVec 32, turn x = 0#32 → x = 0#32 := by
    intro x hx
    have h0 : (turn x).getLsbD 0 = false := by rw [hx]; simp
    have hm : x.msb = false := by
      cases hm : x.msb with
      | false => rfl
      | true => simp [turn, hm] at h0
    have hs : x <<< 1 = 0#32 := by simpa [turn, hm] using hx
    apply BitVec.eq_of_toNat_eq
    have h2 : 2 * x.toNat < 2 ^ 32 := by rwa [BitVec.msb_eq_false_iff_two_mul_lt] at hm
    have h3 := congrArg BitVec.toNat hs
    rw [BitVec.toNat_shiftLeft, Nat.shiftLeft_eq] at h3
    simp at h3 ⊢
    omega
  have := key _ hx
  have e : a = a ^^^ b ^^^ b := by rw [BitVec.xor_assoc, BitVec.xor_self, BitVec.xor_zero]
  rw [e, this, BitVec.zero_xor]
theorem turns_inj (n : Nat) {a b : BitVec 32} (h : turns n a = turns n b) : a = b := by
  induction n generalizing a b with
  | zero => exact h
  | succ n ih => exact turn_inj (ih h)
theorem step_xor (r s : BitVec 32) (a b : Nat) (ha : a < 256) (hb : b < 256) : step (r ^^^ s) (a ^^^ b) = step r a ^^^ step s b := by
  have : BitVec.ofNat 32 (a ^^^ b) = BitVec.ofNat 32 a ^^^ BitVec.ofNat 32 b := by
    apply BitVec.eq_of_toNat_eq
    have hx : a ^^^ b < 2 ^ 8 := Nat.xor_lt_two_pow (by omega) (by omega)
    rw [BitVec.toNat_xor, BitVec.toNat_ofNat, BitVec.toNat_ofNat, BitVec.toNat_ofNat, Nat.mod_eq_of_lt (by omega), Nat.mod_eq_of_lt (by omega), Nat.mod_eq_of_lt (by omega)]
  unfold step
  rw [← turns_xor, this, BitVec.shiftLeft_xor_distrib, xor4]
theorem fold_append (r : BitVec 32) (a b : List UInt8) : fold r (a ++ b) = fold (fold r a) b := by
  simp [fold, List.foldl_append]
theorem fold_snoc (r : BitVec 32) (l : List UInt8) (b : UInt8) : fold r (l ++ [b]) = step (fold r l) b.toNat := by
  simp [fold, List.foldl_append]
def part (r : BitVec 32) (c n : Nat) : BitVec 32 := turns n (r ^^^ (BitVec.ofNat 32 c <<< 24)) ^^^ (BitVec.ofNat 32 c <<< (24 + n))
theorem part_zero (r : BitVec 32) (c : Nat) : part r c 0 = r := by
  simp only [part, turns, Nat.add_zero]
  rw [BitVec.xor_assoc, BitVec.xor_self, BitVec.xor_zero]
theorem part_eight (r : BitVec 32) (c : Nat) : part r c 8 = step r c := by
  simp only [part, step]
  have h : BitVec.ofNat 32 c <<< (24 + 8) = 0#32 := by
    apply BitVec.eq_of_toNat_eq
    rw [BitVec.toNat_shiftLeft, Nat.shiftLeft_eq]
    simp
  rw [h, BitVec.xor_zero]
theorem part_succ (r : BitVec 32) (c n : Nat) : part r c (n + 1) = ((part r c n) <<< 1) ^^^ (if (part r c n).msb = (BitVec.ofNat 32 c <<< (24 + n)).msb then 0#32 else 0x04c11db7#32) := by
  have e : turns n (r ^^^ (BitVec.ofNat 32 c <<< 24)) = part r c n ^^^ (BitVec.ofNat 32 c <<< (24 + n)) := by
    rw [part, BitVec.xor_assoc, BitVec.xor_self, BitVec.xor_zero]
  have e2 : BitVec.ofNat 32 c <<< (24 + (n + 1)) = (BitVec.ofNat 32 c <<< (24 + n)) <<< 1 := by
    rw [← Nat.add_assoc, BitVec.shiftLeft_add]
  conv => lhs; rw [part]
  rw [turns_succ, e, e2]
  generalize part r c n = x
  generalize BitVec.ofNat 32 c <<< (24 + n) = d
  unfold turn
  rw [BitVec.msb_xor, BitVec.shiftLeft_xor_distrib]
  cases x.msb <;> cases d.msb
  · simp [BitVec.xor_assoc]
  · simp only [Bool.false_bne, if_true, Bool.false_eq_true, if_false]
    rw [BitVec.xor_assoc, BitVec.xor_assoc, BitVec.xor_comm (0x04c11db7#32) (d <<< 1), ← BitVec.xor_assoc (d <<< 1), BitVec.xor_self, BitVec.zero_xor]
  · simp only [Bool.true_bne, Bool.not_false, if_true, Bool.true_eq_false, if_false]
    rw [BitVec.xor_assoc, BitVec.xor_assoc, BitVec.xor_comm (0x04c11db7#32) (d <<< 1), ← BitVec.xor_assoc (d <<< 1), BitVec.xor_self, BitVec.zero_xor]
  · simp [BitVec.xor_assoc]
theorem byte_msb (c n : Nat) (hc : c < 256) (hn : n < 8) : (BitVec.ofNat 32 c <<< (24 + n)).msb = decide (c / 2 ^ (7 - n) % 2 = 1) := by
  have hp : 2 ^ (24 + n) * 2 ^ (7 - n) = 2 ^ 31 := by rw [← Nat.pow_add]; congr 1; omega
  rw [BitVec.msb_eq_decide, BitVec.toNat_shiftLeft, BitVec.toNat_ofNat, Nat.shiftLeft_eq, Nat.mod_eq_of_lt (show c < 2 ^ 32 by omega)]
  have h8 : n = 0 ∨ n = 1 ∨ n = 2 ∨ n = 3 ∨ n = 4 ∨ n = 5 ∨ n = 6 ∨ n = 7 := by omega
  rcases h8 with rfl | rfl | rfl | rfl | rfl | rfl | rfl | rfl <;> simp only [Nat.add_zero, Nat.reduceAdd, Nat.reduceSub, Nat.reducePow] <;> rw [decide_eq_decide] <;> omega
def bytes (r : BitVec 32) : List UInt8 := [UInt8.ofNat (r.toNat / 16777216), UInt8.ofNat (r.toNat / 65536 % 256), UInt8.ofNat (r.toNat / 256 % 256), UInt8.ofNat (r.toNat % 256)]
theorem cell_zero : cell 0 = 0#32 := by decide +kernel
theorem step_top (r : BitVec 32) (b : Nat) (hb : b = r.toNat / 16777216) : step r b = r <<< 8 := by
  have hr := r.isLt
  rw [step_table r b (by omega), hb, Nat.xor_self, cell_zero, BitVec.xor_zero]
theorem shl8_toNat (r : BitVec 32) : (r <<< 8).toNat = r.toNat * 256 % 4294967296 := by
  rw [BitVec.toNat_shiftLeft, Nat.shiftLeft_eq]
theorem fold_bytes (r : BitVec 32) : fold r (bytes r) = 0#32 := by
  have hr := r.isLt
  have u : ∀ n, n < 256 → (UInt8.ofNat n).toNat = n := fun n hn => by rw [UInt8.toNat_ofNat']; omega
  simp only [fold, bytes, List.foldl_cons, List.foldl_nil]
  rw [u _ (by omega), u _ (by omega), u _ (by omega), u _ (by omega)]
  rw [step_top r _ rfl, step_top (r <<< 8) _ (by rw [shl8_toNat]; omega), step_top (r <<< 8 <<< 8) _ (by rw [shl8_toNat, shl8_toNat]; omega), step_top (r <<< 8 <<< 8 <<< 8) _ (by rw [shl8_toNat, shl8_toNat, shl8_toNat]; omega)]
  apply BitVec.eq_of_toNat_eq
  rw [shl8_toNat, shl8_toNat, shl8_toNat, shl8_toNat]
  simp
  omega
theorem sum_sealed (l : List UInt8) : sum (l ++ bytes (sum l)) = 0#32 := by
  rw [sum, fold_append]; exact fold_bytes _
theorem fold_xor : ∀ (a b : List UInt8) (r s : BitVec 32), a.length = b.length → fold (r ^^^ s) (List.zipWith (· ^^^ ·) a b) = fold r a ^^^ fold s b
  | [], [], _, _, _ => rfl
  | x :: a, y :: b, r, s, h => by
    have e : (x ^^^ y).toNat = x.toNat ^^^ y.toNat := by simp
    have := fold_xor a b (step r x.toNat) (step s y.toNat) (by simpa using h)
    simp only [fold, List.zipWith_cons_cons, List.foldl_cons] at this ⊢
    rw [e, step_xor _ _ _ _ x.toNat_lt y.toNat_lt, this]
  | [], _ :: _, _, _, h => by simp at h
  | _ :: _, [], _, _, h => by simp at h
theorem sum_three (a b c : List UInt8) (h1 : a.length = b.length) (h2 : b.length = c.length) :
    sum (List.zipWith (· ^^^ ·) (List.zipWith (· ^^^ ·) a b) c) = sum a ^^^ sum b ^^^ sum c := by
  have e : (0xffffffff#32 : BitVec 32) = 0xffffffff#32 ^^^ 0xffffffff#32 ^^^ 0xffffffff#32 := by decide
  unfold sum
  conv => lhs; rw [e]
  rw [fold_xor _ _ _ _ (by simp; omega), fold_xor _ _ _ _ h1]
def mixed (a b c : ByteArray) (n : Nat) : List UInt8 := List.zipWith (· ^^^ ·) (List.zipWith (· ^^^ ·) (a.data.toList.take n) (b.data.toList.take n)) (c.data.toList.take n)
theorem mixed_length (a b c : ByteArray) (n : Nat) (ha : n ≤ a.size) (hb : n ≤ b.size) (hc : n ≤ c.size) : (mixed a b c n).length = n := by
  have h1 : n ≤ a.data.size := ha
  have h2 : n ≤ b.data.size := hb
  have h3 : n ≤ c.data.size := hc
  simp [mixed]; omega
theorem mixed_get (a b c : ByteArray) (n k : Nat) (ha : n ≤ a.size) (hb : n ≤ b.size) (hc : n ≤ c.size) (hk : k < n) : (mixed a b c n)[k]? = some ((a[k] ^^^ b[k]) ^^^ c[k]) := by
  have h1 : n ≤ a.data.size := ha
  have h2 : n ≤ b.data.size := hb
  have h3 : n ≤ c.data.size := hc
  simp [mixed, List.getElem?_zipWith, hk]
  rw [Array.getElem?_eq_getElem (by omega), Array.getElem?_eq_getElem (by omega), Array.getElem?_eq_getElem (by omega)]
  rfl
theorem sum_mixed (a b c : ByteArray) (n : Nat) (ha : n ≤ a.size) (hb : n ≤ b.size) (hc : n ≤ c.size) :
    sum (mixed a b c n) = sum (a.data.toList.take n) ^^^ sum (b.data.toList.take n) ^^^ sum (c.data.toList.take n) := by
  have h1 : n ≤ a.data.size := ha
  have h2 : n ≤ b.data.size := hb
  have h3 : n ≤ c.data.size := hc
  exact sum_three _ _ _ (by simp; omega) (by simp; omega)
theorem set_take {l m : List UInt8} {n k : Nat} (hm : m.length = n) (hk : k < n) (hl : l = m.take k ++ List.replicate (n - k) 0) (x : UInt8) (hx : m[k]? = some x) :
    l.set k x = m.take (k + 1) ++ List.replicate (n - (k + 1)) 0 := by
  subst hl
  have hr : List.replicate (n - k) (0 : UInt8) = 0 :: List.replicate (n - (k + 1)) 0 := by
    rw [← List.replicate_succ]; congr 1; omega
  have hkm : k < m.length := by omega
  rw [List.take_succ_eq_append_getElem hkm, hr, List.set_append_right _ _ (by simp; omega)]
  have e : k - (m.take k).length = 0 := by simp; omega
  rw [e, List.set_cons_zero, List.append_assoc]
  rw [List.getElem?_eq_getElem hkm, Option.some.injEq] at hx
  rw [hx]; rfl
theorem step_from_zero (d : Nat) : step 0#32 d = turns 8 (BitVec.ofNat 32 d <<< 24) := by
  rw [step, BitVec.zero_xor]
theorem step_with_zero (s : BitVec 32) : step s 0 = turns 8 s := by
  have : (BitVec.ofNat 32 0 <<< 24) = 0#32 := by decide
  rw [step, this, BitVec.xor_zero]
theorem fold_zero_turns : ∀ (l : List UInt8) (r s : BitVec 32), fold (r ^^^ s) l = fold r l ^^^ turns (8 * l.length) s
  | [], _, _ => rfl
  | x :: l, r, s => by
    have e : step (r ^^^ s) x.toNat = step r x.toNat ^^^ turns 8 s := by
      have := step_xor r s x.toNat 0 x.toNat_lt (by decide)
      rw [Nat.xor_zero] at this
      rw [this, step_with_zero]
    have := fold_zero_turns l (step r x.toNat) (turns 8 s)
    simp only [fold, List.foldl_cons] at this ⊢
    rw [e, this, ← turns_add, List.length_cons, show 8 + 8 * l.length = 8 * (l.length + 1) by omega]
theorem fold_set (l : List UInt8) (r : BitVec 32) (j : Nat) (hj : j < l.length) (d : Nat) (hd : d < 256) (x : UInt8) (hx : x.toNat = l[j].toNat ^^^ d) :
    fold r (l.set j x) = fold r l ^^^ turns (8 * (l.length - j)) (BitVec.ofNat 32 d <<< 24) := by
  induction l generalizing r j with
  | nil => simp at hj
  | cons y l ih =>
    cases j with
    | zero =>
      have hx' : x.toNat = y.toNat ^^^ d := by simpa using hx
      have e : step r x.toNat = step r y.toNat ^^^ turns 8 (BitVec.ofNat 32 d <<< 24) := by
        have := step_xor r 0#32 y.toNat d y.toNat_lt hd
        rw [BitVec.xor_zero] at this
        rw [hx', this, step_from_zero]
      simp only [fold, List.set_cons_zero, List.foldl_cons]
      have h2 := fold_zero_turns l (step r y.toNat) (turns 8 (BitVec.ofNat 32 d <<< 24))
      simp only [fold] at h2
      rw [e, h2, ← turns_add, List.length_cons, Nat.sub_zero, show 8 + 8 * l.length = 8 * (l.length + 1) by omega]
    | succ j =>
      have := ih (step r y.toNat) j (by simpa using hj) (by simpa using hx)
      simp only [fold, List.set_cons_succ, List.foldl_cons] at this ⊢
      rw [this, List.length_cons, show l.length + 1 - (j + 1) = l.length - j by omega]
end Go.Proofs.Ytjacnjecggedhaa.Crc
