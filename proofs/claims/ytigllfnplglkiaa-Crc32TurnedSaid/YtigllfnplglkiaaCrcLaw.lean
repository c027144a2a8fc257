/-
  The walks of the five laws over crc32.
-/
import Derived.Test.YtigllfnplglkiaaCrcB
import Derived.Test.YtigllfnplglkiaaCrcR
namespace Go.Proofs.Ytigllfnplglkiaa
set_option linter.unusedVariables false
open Go.RowKit

theorem known_nine : Crc.sum [49, 50, 51, 52, 53, 54, 55, 56, 57] = 0x0376e6e7#32 := by decide +kernel

set_option maxRecDepth 100000 in
set_option maxHeartbeats 400000 in
theorem works_any (w : World) :
    Calls Try.prog 10 #[] w fun e w' => e = .returned (.bool true) ∧ Below w.heap.size w w' := by
  go_enter Try.func10, Try.ntmps10
  go_wp2_with fail
  refine (sum_any _ _ (by decide)).mono ?_
  rintro e w1 ⟨rfl, hb⟩
  rw [known_nine]
  go_wp2
  go_ret
  exact ⟨rfl, hb⟩

set_option maxRecDepth 100000 in
set_option maxHeartbeats 400000 in
theorem sums_walk (s : ByteArray) (w : World) (hs : s.size ≤ maxLen) :
    Calls Try.prog 3 #[.string s] w fun e w' => e = .returned (.bool true) ∧ Below w.heap.size w w' := by
  unfold maxLen at hs
  go_enter Try.func3, Try.ntmps3
  go_wp2_with fail
  all_goals
    refine (sum_any _ _ (by unfold maxLen; first | exact hs | (rw [ByteArray.size_extract]; omega))).mono ?_
    rintro e w1 ⟨rfl, hb1⟩
    go_wp2_with fail
    refine (rsum_any _ _ (by unfold maxLen; first | exact hs | (rw [ByteArray.size_extract]; omega))).mono ?_
    rintro e w2 ⟨rfl, rfl⟩
    go_wp2_with fail
    refine (works_any _).mono ?_
    rintro e w2 ⟨rfl, hb2⟩
    go_wp2
    go_ret
    exact ⟨rfl, hb1.trans (hb2.mono hb1.size)⟩

theorem sealed_bytes (s : ByteArray) (r : BitVec 32) (a b c d : Int) (ha : a = (r.toNat : Int) / 16777216) (hb : b = (r.toNat : Int) / 65536 % 256) (hc : c = (r.toNat : Int) / 256 % 256) (hd : d = (r.toNat : Int) % 256) :
    (s ++ strOfNums [a, b, c, d]).data.toList = s.data.toList ++ Crc.bytes r := by
  subst ha hb hc hd
  rw [ByteArray.data_append, Array.toList_append, strOfNums_data]
  rfl

/-- What a text with its sum behind it is. -/
def SealedAs (s : ByteArray) (w : World) (e : Ending) (w' : World) : Prop :=
  ∃ t : ByteArray, e = .returned (.string t) ∧ t.data.toList = s.data.toList ++ Crc.bytes (Crc.sum s.data.toList) ∧ t.size = s.size + 4 ∧ Below w.heap.size w w'

set_option maxRecDepth 100000 in
set_option maxHeartbeats 400000 in
theorem sealed_any (s : ByteArray) (w : World) (hs : s.size ≤ 3000) :
    Calls Try.prog 11 #[.string s] w fun e w' => SealedAs s w e w' := by
  have hcv := fun (w : World) (a b c d : Int) => conv_new (P := Try.prog) 28 9 5 Try.underlying28 Try.underlying5 Try.underlying9 [a, b, c, d] w
  have hsz4 := fun (a b c d : Int) => strOfNums_size [a, b, c, d]
  simp only [List.length_cons, List.length_nil, Nat.reduceAdd, List.map_cons, List.map_nil] at hcv hsz4
  go_enter Try.func11, Try.ntmps11
  go_wp2_with fail
  refine (sum_any _ _ (by unfold maxLen; omega)).mono ?_
  rintro e w1 ⟨rfl, hb1⟩
  go_wp2
  go_ret
  have hd := sealed_bytes s (Crc.sum s.data.toList) _ _ _ _ rfl rfl rfl rfl
  exact ⟨_, rfl, hd, by rw [ByteArray.size_append, strOfNums_size]; rfl, hb1.alloc hb1.size _⟩

set_option maxRecDepth 100000 in
set_option maxHeartbeats 400000 in
theorem zero_walk (s : ByteArray) (w : World) (hs : s.size ≤ maxLen) :
    Calls Try.prog 4 #[.string s] w fun e w' => e = .returned (.bool true) ∧ Below w.heap.size w w' := by
  unfold maxLen at hs
  go_enter Try.func4, Try.ntmps4
  go_wp2_with fail
  all_goals
    refine (sealed_any _ _ (by first | omega | (rw [ByteArray.size_extract]; omega))).mono ?_
    rintro e w1 ⟨t, rfl, ht, htz, hb1⟩
    have ht0 : t.size ≤ maxLen := by unfold maxLen; rw [htz]; first | omega | (rw [ByteArray.size_extract]; omega)
    have hz : Crc.sum t.data.toList = 0#32 := by rw [ht]; exact Crc.sum_sealed _
    clear ht htz
    have HZ := Lib.hid hz
    clear hz
    go_wp2_with fail
    refine (sum_any _ _ ht0).mono ?_
    rintro e w2 ⟨rfl, hb2⟩
    rw [HZ.out]
    go_wp2_with fail
    refine (works_any _).mono ?_
    rintro e w3 ⟨rfl, hb3⟩
    go_wp2
    go_ret
    exact ⟨rfl, (hb1.trans (hb2.mono hb1.size)).trans (hb3.mono (Nat.le_trans hb1.size hb2.size))⟩

theorem known_none : Crc.sum (ByteArray.mk #[]).data.toList = 0xffffffff#32 := by decide +kernel
theorem known_0 : Crc.sum (ByteArray.mk #[0]).data.toList = 0x4e08bfb4#32 := by decide +kernel
theorem known_sealed : Crc.sum (ByteArray.mk #[49, 50, 51, 52, 53, 54, 55, 56, 57, 3, 118, 230, 231]).data.toList = 0#32 := by decide +kernel
theorem known_255 : Crc.sum (ByteArray.mk #[255]).data.toList = 0xffffff00#32 := by decide +kernel
theorem known_254 : Crc.sum (ByteArray.mk #[254]).data.toList = 0xfb3ee2b7#32 := by decide +kernel

set_option maxRecDepth 100000 in
set_option maxHeartbeats 400000 in
theorem known_walk (w : World) :
    Calls Try.prog 7 #[] w fun e w' => e = .returned (.bool true) ∧ Below w.heap.size w w' := by
  go_enter Try.func7, Try.ntmps7
  go_wp2_with fail
  refine (sum_any _ _ (by decide)).mono ?_
  rintro e w1 ⟨rfl, hb1⟩
  rw [known_none]
  go_wp2_with fail
  refine (sum_any _ _ (by decide)).mono ?_
  rintro e w2 ⟨rfl, hb2⟩
  rw [known_nine]
  go_wp2_with fail
  refine (sum_any _ _ (by decide)).mono ?_
  rintro e w3 ⟨rfl, hb3⟩
  rw [known_0]
  go_wp2_with fail
  refine (sum_any _ _ (by decide)).mono ?_
  rintro e w4 ⟨rfl, hb4⟩
  rw [known_sealed]
  go_wp2_with fail
  refine (sum_any _ _ (by decide)).mono ?_
  rintro e w5 ⟨rfl, hb5⟩
  rw [known_255]
  go_wp2_with fail
  refine (sum_any _ _ (by decide)).mono ?_
  rintro e w6 ⟨rfl, hb6⟩
  rw [known_254]
  go_wp2_with fail
  refine (works_any _).mono ?_
  rintro e w7 ⟨rfl, hb7⟩
  go_wp2
  go_ret
  have s1 := hb1.size
  have s2 := hb2.size
  have s3 := hb3.size
  have s4 := hb4.size
  have s5 := hb5.size
  have s6 := hb6.size
  exact ⟨rfl, (((((hb1.trans (hb2.mono (by omega))).trans (hb3.mono (by omega))).trans (hb4.mono (by omega))).trans (hb5.mono (by omega))).trans (hb6.mono (by omega))).trans (hb7.mono (by omega))⟩

end Go.Proofs.Ytigllfnplglkiaa
