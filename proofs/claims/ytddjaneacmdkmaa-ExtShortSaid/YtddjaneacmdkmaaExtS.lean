/-
  What is put ahead, cut off within the heads, is told. Plain values; no program here.
-/
import Derived.Test.YtddjaneacmdkmaaExtW
namespace Go.Proofs.Ytddjaneacmdkmaa
set_option linter.unusedVariables false
open Go.RowKit

theorem put1_cut (s : Int × ByteArray) (h : ByteArray) (hb : badHead h = false) (h0 : 0 ≤ s.1) (h1 : s.1 ≤ 65535) (k : Nat) (hk : h.size + 1 ≤ k) :
    (put1 s h).2.extract 0 k = (put1 (s.1, s.2.extract 0 (k - (h.size + 1))) h).2 := by
  have hh : ¬ h.size % 2 = 0 ∧ ¬ 9 < h.size := by simpa [badHead, not_or] using hb
  apply ba_ext
  have e : h.size = h.data.toList.length := rfl
  rw [ByteArray.data_extract, Array.toList_extract, List.extract_eq_take_drop, put1_list, put1_list, two_list s.1 h0 h1]
  simp only [ByteArray.data_extract, Array.toList_extract, List.extract_eq_take_drop, List.drop_zero, Nat.sub_zero]
  rw [List.take_append, List.take_of_length_le (by simp; omega)]
  congr 1
  congr 1
  simp
  omega

theorem put1_short (s : Int × ByteArray) (h : ByteArray) (hb : badHead h = false) (k : Nat) (hk : k < h.size + 1) : extSkip (put1 s h).1 ((put1 s h).2.extract 0 k) = (0, ByteArray.empty, 4) := by
  have hh : ¬ h.size % 2 = 0 ∧ ¬ 9 < h.size := by simpa [badHead, not_or] using hb
  have hb0 := UInt8.toNat_lt (h.data.getD 0 0)
  obtain ⟨n, hn⟩ : ∃ n : Nat, h.size + 1 = 2 * n := ⟨(h.size + 1) / 2, by omega⟩
  have ht : ((put1 s h).1 / 256).toNat = n := by unfold put1; simp only; omega
  have hlt : ¬ 1536 ≤ (put1 s h).1 := by unfold put1; simp only; omega
  refine extSkip_form _ _ hlt (by omega) ?_
  rw [ByteArray.size_extract, ht]
  omega

def heads (l : List ByteArray) : Nat := (l.map fun h => h.size + 1).sum

theorem short_putAll (t : Int) (h0 : 0 ≤ t) (h1 : t ≤ 65535) : ∀ (l : List ByteArray) (k : Nat), (∀ h ∈ l, badHead h = false) → k < heads l → extSkip (putAll (t, ByteArray.empty) l).1 ((putAll (t, ByteArray.empty) l).2.extract 0 k) = (0, ByteArray.empty, 4)
  | [], k, _, hk => by simp [heads] at hk
  | h :: r, k, hl, hk => by
    have hb := putAll_bounds (t, ByteArray.empty) r (fun x hx => hl x (by simp [hx])) h0 h1
    show extSkip (put1 (putAll (t, ByteArray.empty) r) h).1 ((put1 (putAll (t, ByteArray.empty) r) h).2.extract 0 k) = _
    by_cases hk1 : k < h.size + 1
    · exact put1_short _ h (hl h (by simp)) k hk1
    · rw [put1_cut _ h (hl h (by simp)) hb.1 hb.2 k (by omega)]
      have e : (put1 (putAll (t, ByteArray.empty) r) h).1 = (put1 ((putAll (t, ByteArray.empty) r).1, (putAll (t, ByteArray.empty) r).2.extract 0 (k - (h.size + 1))) h).1 := rfl
      rw [e, skip_put1 ((putAll (t, ByteArray.empty) r).1, (putAll (t, ByteArray.empty) r).2.extract 0 (k - (h.size + 1))) h (hl h (by simp)) hb.1 hb.2]
      exact short_putAll t h0 h1 r _ (fun x hx => hl x (by simp [hx])) (by simp [heads] at hk ⊢; omega)

theorem putAll_size (t : Int) (d : ByteArray) : ∀ (l : List ByteArray), (∀ h ∈ l, badHead h = false) → (putAll (t, d) l).2.size = heads l + d.size
  | [], _ => by simp [heads, putAll]
  | h :: r, hl => by
    have ih := putAll_size t d r (fun x hx => hl x (by simp [hx]))
    have := (put1_bounds (putAll (t, d) r) h (hl h (by simp))).2.2
    show (put1 (putAll (t, d) r) h).2.size = _
    rw [this, ih]
    simp [heads]; omega

theorem putAll_low (t : Int) (d : ByteArray) (h : ByteArray) (r : List ByteArray) (hb : badHead h = false) : (putAll (t, d) (h :: r)).1 < 1536 := by
  have hh : ¬ h.size % 2 = 0 ∧ ¬ 9 < h.size := by simpa [badHead, not_or] using hb
  have hb0 := UInt8.toNat_lt (h.data.getD 0 0)
  show (put1 (putAll (t, d) r) h).1 < 1536
  unfold put1
  simp only
  omega

end Go.Proofs.Ytddjaneacmdkmaa
