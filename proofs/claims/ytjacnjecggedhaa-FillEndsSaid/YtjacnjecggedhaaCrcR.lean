/-
  The walk of the reference's sum, bit by bit.
-/
import Derived.Test.YtjacnjecggedhaaAux
import Derived.Test.YtjacnjecggedhaaCrcMath
import Derived.Test.YtjacnjecggedhaaProg
namespace Go.Proofs.Ytjacnjecggedhaa
set_option linter.unusedVariables false
open Go.RowKit

theorem crc_bit (x : BitVec 32) (c n : Nat) (hc : c < 256) (hn : n < 8) :
    ((((x.toNat : Int) / (2147483648 : Int)) != (bits .and .u8 ((c : Int) / (2 : Int) ^ (7 - n)) 1) % (4294967296 : Int)) = true) ↔ ¬ x.msb = (BitVec.ofNat 32 c <<< (24 + n)).msb := by
  have hx := x.isLt
  have e1 : ((c : Int) / (2 : Int) ^ (7 - n)) = ((c / 2 ^ (7 - n) : Nat) : Int) := by simp
  have hlt : c / 2 ^ (7 - n) < 256 := Nat.lt_of_le_of_lt (Nat.div_le_self _ _) hc
  rw [e1, show (1 : Int) = ((1 : Nat) : Int) from rfl, u8_and_nat _ _ hlt (by decide), Nat.and_one_is_mod, Crc.byte_msb c n hc hn, BitVec.msb_eq_decide]
  generalize c / 2 ^ (7 - n) = q
  rw [bne_iff_ne]
  by_cases h1 : 2 ^ (32 - 1) ≤ x.toNat <;> by_cases h2 : q % 2 = 1 <;> simp only [h1, h2, decide_true, decide_false] <;> simp at h1 h2 ⊢ <;> omega

theorem part_yes (r : BitVec 32) (c n : Nat) (hc : c < 256) (hn : n < 8)
    (h : ((((Crc.part r c n).toNat : Int) / (2147483648 : Int)) != (bits .and .u8 ((c : Int) / (2 : Int) ^ (7 - n)) 1) % (4294967296 : Int)) = true) :
    bits .xor .u32 (((Crc.part r c n).toNat : Int) * (2 : Int) % (4294967296 : Int)) 79764919 = ((Crc.part r c (n + 1)).toNat : Int) := by
  rw [crc_bit _ _ _ hc hn] at h
  have e : (((Crc.part r c n).toNat : Int) * (2 : Int) % (4294967296 : Int)) = (((Crc.part r c n) <<< 1).toNat : Int) := by
    rw [BitVec.toNat_shiftLeft, Nat.shiftLeft_eq]; omega
  rw [e, show (79764919 : Int) = ((79764919 : Nat) : Int) from rfl, u32_xor_nat _ _ (BitVec.isLt _) (by decide), Crc.part_succ, if_neg h, BitVec.toNat_xor]
  rfl

theorem part_no (r : BitVec 32) (c n : Nat) (hc : c < 256) (hn : n < 8)
    (h : ((((Crc.part r c n).toNat : Int) / (2147483648 : Int)) != (bits .and .u8 ((c : Int) / (2 : Int) ^ (7 - n)) 1) % (4294967296 : Int)) = false) :
    (((Crc.part r c n).toNat : Int) * (2 : Int) % (4294967296 : Int)) = ((Crc.part r c (n + 1)).toNat : Int) := by
  have h' : (Crc.part r c n).msb = (BitVec.ofNat 32 c <<< (24 + n)).msb := by
    have hb := crc_bit (Crc.part r c n) c n hc hn
    rw [h] at hb
    exact Classical.byContradiction fun hne => Bool.false_ne_true (hb.2 hne)
  have e : (((Crc.part r c n).toNat : Int) * (2 : Int) % (4294967296 : Int)) = (((Crc.part r c n) <<< 1).toNat : Int) := by
    rw [BitVec.toNat_shiftLeft, Nat.shiftLeft_eq]; omega
  rw [e, Crc.part_succ, if_pos h', BitVec.xor_zero]

theorem val_u32 {a b : Int} (h : a = b) : Value.int .u32 a = .int .u32 b := by rw [h]

set_option maxRecDepth 100000 in
set_option maxHeartbeats 400000 in
theorem rsum_any (s : ByteArray) (w : World) (hs : s.size ≤ maxLen) :
    Calls Try.prog 54 #[.string s] w fun e w' => e = .returned (.int .u32 ((Crc.sum s.data.toList).toNat : Int)) ∧ w = w' := by
  unfold maxLen at hs
  go_enter Try.func54, Try.ntmps54
  go_wp2
  go_loop [3, 4] (fun r i => ∃ k : Nat, k ≤ s.size ∧ i = .int .i64 k ∧ r = .int .u32 ((Crc.fold 0xffffffff#32 (s.data.toList.take k)).toNat : Int)) (fun _ i => s.size - (intOf i).toNat)
  case atStart => exact ⟨0, by omega, rfl, rfl⟩
  case round =>
    obtain ⟨k, hk, rfl, rfl⟩ := hrel
    by_cases hlt : k < s.size
    · have hd : decide ((k : Int) < (s.size : Int)) = true := by simp; omega
      go_wp2
      go_loop [3, 5] (fun r b => ∃ n : Nat, n ≤ 8 ∧ b = .int .i64 (7 - (n : Int)) ∧ r = .int .u32 ((Crc.part (Crc.fold 0xffffffff#32 (s.data.toList.take k)) s[k].toNat n).toNat : Int)) (fun _ b => (1 + intOf b).toNat)
      case atStart => exact ⟨0, by omega, rfl, by rw [Crc.part_zero]⟩
      case round =>
        obtain ⟨n, hn, rfl, rfl⟩ := hrel
        by_cases hn8 : n < 8
        · generalize Crc.fold 0xffffffff#32 (s.data.toList.take k) = r
          have hx := (Crc.part r s[k].toNat n).isLt
          go_wp2
          · refine ⟨⟨n + 1, by omega, by congr 1; omega, val_u32 (part_yes _ _ _ s[k].toNat_lt hn8 (by assumption))⟩, by simp [intOf]; omega⟩
          · refine ⟨⟨n + 1, by omega, by congr 1; omega, val_u32 (part_no _ _ _ s[k].toNat_lt hn8 (by assumption))⟩, by simp [intOf]; omega⟩
        · obtain rfl : n = 8 := by omega
          go_wp2
          refine ⟨⟨k + 1, by omega, by go_num, ?_⟩, by simp [intOf]; omega⟩
          rw [Crc.part_eight, ← Crc.fold_snoc, List.take_succ_eq_append_getElem (by simpa using hlt)]
          rfl
    · obtain rfl : k = s.size := by omega
      go_wp2
      go_ret
      exact ⟨by rw [List.take_of_length_le (by simp)]; rfl, rfl⟩

end Go.Proofs.Ytjacnjecggedhaa
