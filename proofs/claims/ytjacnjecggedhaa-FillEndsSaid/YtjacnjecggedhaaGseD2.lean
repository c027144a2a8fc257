/-
  Pieces out of bytes: taking bytes, the contracts.
-/
import Derived.Test.YtjacnjecggedhaaGseD1
namespace Go.Proofs.Ytjacnjecggedhaa
set_option linter.unusedVariables false
set_option linter.unusedSimpArgs false
open Go.RowKit Ev

theorem by8_bd (b : List UInt8) (i : Nat) : 0 ≤ by8 b i ∧ by8 b i < 256 := by
  unfold by8
  have := (b.getD i 0).toNat_lt
  omega
theorem w16_bd (b : List UInt8) (i : Nat) : 0 ≤ w16 b i ∧ w16 b i < 65536 := by
  have h1 := by8_bd b i
  have h2 := by8_bd b (i + 1)
  unfold w16
  omega
theorem by8_drop (b : List UInt8) (i j : Nat) : by8 (b.drop j) i = by8 b (j + i) := by
  unfold by8
  simp [List.getD_eq_getElem?_getD, List.getElem?_drop]
theorem by8_take (b : List UInt8) (i n : Nat) (h : i < n) : by8 (b.take n) i = by8 b i := by
  unfold by8
  simp [List.getD_eq_getElem?_getD, List.getElem?_take, h]
theorem w16_drop (b : List UInt8) (i j : Nat) : w16 (b.drop j) i = w16 b (j + i) := by
  unfold w16
  simp only [by8_drop, Nat.add_assoc]

theorem wrap_i64 (z : Nat) (h : z < 4294967296) : IntKind.i64.wrap (z : Int) = z := by
  have e : (z : Int) % (2 ^ IntKind.i64.bits : Int) = z := by
    rw [show (2 ^ IntKind.i64.bits : Int) = 18446744073709551616 from rfl]; omega
  unfold IntKind.wrap
  simp only [e]
  rw [if_neg]
  rw [show (2 ^ (IntKind.i64.bits - 1) : Int) = 9223372036854775808 from rfl]
  simp only [Bool.and_eq_true, decide_eq_true_eq, not_and]
  intro _
  omega

theorem nat_or (x y : Nat) (hx : x < 4294967296) (hy : y < 4294967296) : bitsA .or .i64 (x : Int) (y : Int) = ((x ||| y : Nat) : Int) := by
  unfold bitsA
  have e1 : (BitVec.ofInt IntKind.i64.bits (x : Int) ||| BitVec.ofInt IntKind.i64.bits (y : Int)).toNat = x ||| y := by
    rw [BitVec.toNat_or, BitVec.toNat_ofInt, BitVec.toNat_ofInt]
    congr 1 <;> · simp only [IntKind.bits]; omega
  have e2 : x ||| y < 2 ^ 32 := Nat.or_lt_two_pow (by omega) (by omega)
  show IntKind.i64.wrap _ = _
  rw [e1]
  exact wrap_i64 _ e2
theorem nat_and (x y : Nat) (hx : x < 4294967296) (hy : y < 4294967296) : bitsA .and .i64 (x : Int) (y : Int) = ((x &&& y : Nat) : Int) := by
  unfold bitsA
  have e1 : (BitVec.ofInt IntKind.i64.bits (x : Int) &&& BitVec.ofInt IntKind.i64.bits (y : Int)).toNat = x &&& y := by
    rw [BitVec.toNat_and, BitVec.toNat_ofInt, BitVec.toNat_ofInt]
    congr 1 <;> · simp only [IntKind.bits]; omega
  have e2 : x &&& y < 2 ^ 32 := Nat.and_lt_two_pow _ (by omega)
  show IntKind.i64.wrap _ = _
  rw [e1]
  exact wrap_i64 _ e2

theorem or_word {h l : Int} (h1 : 0 ≤ h) (h2 : h < 256) (h3 : 0 ≤ l) (h4 : l < 256) : bitsA .or .i64 (h * 256) l = h * 256 + l := by
  obtain ⟨a, rfl⟩ := Int.eq_ofNat_of_zero_le h1
  obtain ⟨b, rfl⟩ := Int.eq_ofNat_of_zero_le h3
  have e : ((a : Int) * 256) = ((a * 256 : Nat) : Int) := by omega
  have hb : b < 2 ^ 8 := by omega
  have := Nat.shiftLeft_add_eq_or_of_lt hb a
  rw [Nat.shiftLeft_eq] at this
  have e2 : a * 256 ||| b = a * 256 + b := this.symm
  rw [e, nat_or _ _ (by omega) (by omega), e2]
  omega
theorem and_4095 {x : Int} (h1 : 0 ≤ x) (h2 : x < 65536) : bitsA .and .i64 x 4095 = x % 4096 := by
  obtain ⟨a, rfl⟩ := Int.eq_ofNat_of_zero_le h1
  rw [show (4095 : Int) = ((4095 : Nat) : Int) from rfl, nat_and _ _ (by omega) (by omega)]
  have := Nat.and_two_pow_sub_one_eq_mod a 12
  simp only [show (2 : Nat) ^ 12 = 4096 from rfl, show 4096 - 1 = 4095 from rfl] at this
  rw [this]
  omega
theorem and_3 {x : Int} (h1 : 0 ≤ x) (h2 : x < 65536) : bitsA .and .i64 x 3 = x % 4 := by
  obtain ⟨a, rfl⟩ := Int.eq_ofNat_of_zero_le h1
  rw [show (3 : Int) = ((3 : Nat) : Int) from rfl, nat_and _ _ (by omega) (by omega)]
  have := Nat.and_two_pow_sub_one_eq_mod a 2
  simp only [show (2 : Nat) ^ 2 = 4 from rfl, show 4 - 1 = 3 from rfl] at this
  rw [this]
  omega

theorem take_sound : GcSound Try.prog 41 (gcCell 112 gTake) := by
  refine gc_cell TGok.ctx (n := 100) Try.call41 (fun l r k h => ?_)
  unfold gTake at h
  split at h
  · rename_i s n
    rw [w_take]
    simp only [branch_iff, obl_iff, decide_eq_true_eq, decide_eq_false_iff_not] at h ⊢
    refine ⟨fun hc => ⟨_, rfl, rfl, rfl, h.1 hc⟩, fun hc => ?_⟩
    obtain ⟨h1, h2⟩ := h.2 hc
    exact ⟨by omega, by omega, _, rfl, rfl, rfl, h2⟩
  · exact (not_stuck h).elim

theorem TR1ok : TabsOk TR1 Try.prog := TGok.addGc take_sound

theorem byte_sound : GcSound Try.prog 56 (gcCell 112 gByte) := by
  refine gc_cell TR1ok.ctx (n := 100) Try.call56 (fun l r k h => ?_)
  unfold gByte at h
  split at h
  · rename_i s
    rw [w_byte]
    have e : ((((s.take 1).getD 0 0).toNat : Nat) : Int) = by8 s 0 := by8_take s 0 1 (by omega)
    have hb := by8_bd s 0
    simp only [branch_iff, obl_iff, decide_eq_true_eq, decide_eq_false_iff_not, e, inI64_iff] at h ⊢
    refine ⟨fun hc => ⟨_, rfl, rfl, rfl, h.1 hc⟩, fun hc => ⟨?_, ?_, _, rfl, rfl, rfl, h.2 hc⟩⟩
    · simp; omega
    · omega
  · exact (not_stuck h).elim

theorem TR2ok : TabsOk TR2 Try.prog := TR1ok.addGc byte_sound

theorem word_sound : GcSound Try.prog 40 (gcCell 112 gWord) := by
  refine gc_cell TR2ok.ctx (n := 100) Try.call40 (fun l r k h => ?_)
  unfold gWord at h
  split at h
  · rename_i s
    rw [w_word]
    have hb := by8_bd s 0
    have hb1 := by8_bd (s.drop 1) 0
    have e : bitsA .or .i64 (by8 s 0 * 256) (by8 (s.drop 1) 0) = w16 s 0 := by
      rw [or_word hb.1 hb.2 hb1.1 hb1.2, by8_drop]; rfl
    have e2 : (s.drop 1).drop 1 = s.drop 2 := by rw [List.drop_drop]
    simp only [branch_iff, obl_iff, decide_eq_true_eq, decide_eq_false_iff_not, e, e2, inI64_iff, Bool.true_and, List.length_drop] at h ⊢
    refine ⟨fun hc => ⟨_, rfl, rfl, rfl, ?_⟩, fun hc => ⟨by omega, fun hc' => ⟨_, rfl, rfl, rfl, h.1 (by omega)⟩, fun hc' => ⟨_, rfl, rfl, rfl, h.2 (by omega)⟩⟩⟩
    have hs : s = [] := by cases s with
      | nil => rfl
      | cons c s => simp at hc; omega
    have := h.1 (by omega)
    subst hs
    exact this
  · exact (not_stuck h).elim

theorem TR3ok : TabsOk TR3 Try.prog := TR2ok.addGc word_sound

end Go.Proofs.Ytjacnjecggedhaa
