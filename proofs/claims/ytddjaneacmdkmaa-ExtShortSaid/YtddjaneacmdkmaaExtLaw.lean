/-
  What is put ahead is passed over. Plain values; no program here.
-/
import Derived.Test.YtddjaneacmdkmaaExtP
namespace Go.Proofs.Ytddjaneacmdkmaa
set_option linter.unusedVariables false
open Go.RowKit

theorem ba_ext {a b : ByteArray} (h : a.data.toList = b.data.toList) : a = b := by
  cases a; cases b; simp only [ByteArray.mk.injEq]; exact Array.toList_inj.1 h

theorem put1_list (s : Int × ByteArray) (h : ByteArray) : (put1 s h).2.data.toList = h.data.toList.drop 1 ++ (strOfNums [IntKind.u8.wrap (s.1 / 256), IntKind.u8.wrap s.1]).data.toList ++ s.2.data.toList := by
  have e : h.size = h.data.toList.length := rfl
  unfold put1
  simp only [ByteArray.data_append, Array.toList_append, ByteArray.data_extract, Array.toList_extract, List.extract_eq_take_drop, e]
  rw [List.take_of_length_le (by simp only [List.length_drop]; omega)]

theorem mid_list (A D : List UInt8) (p q : UInt8) : (A ++ [p, q] ++ D).getD A.length 0 = p ∧ (A ++ [p, q] ++ D).getD (A.length + 1) 0 = q ∧ (A ++ [p, q] ++ D).drop (A.length + 2) = D := by
  refine ⟨?_, ?_, ?_⟩
  · simp [List.getD]
  · simp [List.getD]
  · rw [List.append_assoc, List.drop_append, List.drop_eq_nil_of_le (by omega), show A.length + 2 - A.length = 2 by omega]; rfl

theorem two_list (u : Int) (h0 : 0 ≤ u) (h1 : u ≤ 65535) : (strOfNums [IntKind.u8.wrap (u / 256), IntKind.u8.wrap u]).data.toList = [UInt8.ofNat (u / 256).toNat, UInt8.ofNat (u % 256).toNat] := by
  rw [IntKind.wrap_u8, IntKind.wrap_u8]
  have e : u / 256 % 256 = u / 256 := by omega
  rw [e]
  rfl

theorem skip_put1 (s : Int × ByteArray) (h : ByteArray) (hb : badHead h = false) (h0 : 0 ≤ s.1) (h1 : s.1 ≤ 65535) : extSkip (put1 s h).1 (put1 s h).2 = extSkip s.1 s.2 := by
  have hh : ¬ h.size % 2 = 0 ∧ ¬ 9 < h.size := by simpa [badHead, not_or] using hb
  have hp := put1_bounds s h hb
  have hl := put1_list s h
  rw [two_list s.1 h0 h1] at hl
  obtain ⟨n, hn⟩ : ∃ n : Nat, h.size + 1 = 2 * n := ⟨(h.size + 1) / 2, by omega⟩
  have hb0 := UInt8.toNat_lt (h.data.getD 0 0)
  have ht : ((put1 s h).1 / 256).toNat = n := by unfold put1; simp only; omega
  have hlt : ¬ 1536 ≤ (put1 s h).1 := by unfold put1; simp only; omega
  generalize put1 s h = q at *
  obtain ⟨t', d'⟩ := q
  simp only at *
  have hs : d'.size = h.size + 1 + s.2.size := hp.2.2
  have hd : (h.data.toList.drop 1).length = 2 * n - 2 := by
    have e : h.size = h.data.toList.length := rfl
    simp only [List.length_drop]; omega
  rw [extSkip_next t' d' hlt (by omega) (by omega), ht]
  have g : ∀ i, d'.data.getD i 0 = d'.data.toList.getD i 0 := fun i => by simp [Array.getD_eq_getD_getElem?, List.getD]
  obtain ⟨m1, m2, m3⟩ := mid_list (h.data.toList.drop 1) s.2.data.toList (UInt8.ofNat (s.1 / 256).toNat) (UInt8.ofNat (s.1 % 256).toNat)
  rw [← hl, hd] at m1 m2 m3
  have e1 : d'.data.getD (2 * n - 2) 0 = UInt8.ofNat (s.1 / 256).toNat := by rw [g]; exact m1
  have e2 : d'.data.getD (2 * n - 1) 0 = UInt8.ofNat (s.1 % 256).toNat := by rw [g, show 2 * n - 1 = 2 * n - 2 + 1 by omega]; exact m2
  have e3 : d'.extract (2 * n) d'.size = s.2 := by
    apply ba_ext
    have e : d'.size = d'.data.toList.length := rfl
    rw [ByteArray.data_extract, Array.toList_extract, List.extract_eq_take_drop, List.take_of_length_le (by simp only [List.length_drop]; omega), ← m3]
    congr 1
    omega
  rw [e1, e2, e3, UInt8.toNat_ofNat', UInt8.toNat_ofNat']
  congr 1
  omega

end Go.Proofs.Ytddjaneacmdkmaa
