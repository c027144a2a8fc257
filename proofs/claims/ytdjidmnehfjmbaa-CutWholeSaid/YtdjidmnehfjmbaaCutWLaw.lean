/-
  What cut.Next gives, by its outcomes, and how long the pieces are.
-/
import Derived.Test.YtdjidmnehfjmbaaCutG
namespace Go.Proofs.Ytdjidmnehfjmbaa
set_option linter.unusedVariables false
set_option linter.unusedSimpArgs false
open Go.RowKit Ev

theorem g_of {st en : Bool} {id total typ k : Int} {lb data sum : List UInt8} (hm : gMay st en id total typ k lb sum = true) {n : Nat} (hn : (gBody st en id total typ lb data sum).length = n) (h : n ≤ 4095) :
    gErr st en id total typ k lb data sum = 0 ∧ (gEnc st en id total typ k lb data sum).length = 2 + n := by
  have he : gErr st en id total typ k lb data sum = 0 := by
    unfold gErr
    rw [if_neg (by rw [hm]; simp), if_neg (by rw [hn]; omega)]
  refine ⟨he, ?_⟩
  unfold gEnc
  rw [if_pos he, List.length_append, two_length, hn]

theorem g_whole {typ k : Int} {lb data : List UInt8} (hl : lOk k lb = true) (h0 : 0 ≤ typ) (h1 : typ < 65536) (h : lb.length + data.length ≤ 4093) :
    gErr true true 0 0 typ k lb data [] = 0 ∧ (gEnc true true 0 0 typ k lb data []).length = 2 + (2 + lb.length + data.length) := by
  refine g_of (by unfold gMay; simp [hl, h0, h1]) (by simp [gBody, two]; omega) (by omega)

theorem g_start {id total typ k : Int} {lb data : List UInt8} (hl : lOk k lb = true) (hi0 : 0 ≤ id) (hi1 : id < 256) (ht0 : 0 ≤ total) (ht1 : total < 65536) (h0 : 0 ≤ typ) (h1 : typ < 65536) (h : lb.length + data.length ≤ 4090) :
    gErr true false id total typ k lb data [] = 0 ∧ (gEnc true false id total typ k lb data []).length = 2 + (5 + lb.length + data.length) := by
  refine g_of (by unfold gMay; simp [hl, h0, h1, hi0, hi1, ht0, ht1]) (by simp [gBody, two]; omega) (by omega)

theorem g_last {id : Int} {data sum : List UInt8} (hi0 : 0 ≤ id) (hi1 : id < 256) (hs : sum.length = 4) (h : data.length ≤ 4090) :
    gErr false true id 0 0 0 [] data sum = 0 ∧ (gEnc false true id 0 0 0 [] data sum).length = 2 + (5 + data.length) := by
  refine g_of (by unfold gMay; simp [hi0, hi1, hs]) (by simp [gBody, two]; omega) (by omega)

theorem g_mid {id : Int} {data : List UInt8} (hi0 : 0 ≤ id) (hi1 : id < 256) (h : data.length ≤ 4094) :
    gErr false false id 0 0 0 [] data [] = 0 ∧ (gEnc false false id 0 0 0 [] data []).length = 2 + (1 + data.length) := by
  refine g_of (by unfold gMay; simp [hi0, hi1]) (by simp [gBody, two]; omega) (by omega)

section
variable {typ k at_ id lk space n : Int} {b data lb x s : List UInt8} {whole : Bool}

theorem next_not2 (hn : nOk typ k b data at_ id lk lb = true) : ¬ nextR typ k b data at_ id lk lb space whole = ⟨false, false, 0, 0, 0, 0, [], [], [], k, b, at_, 2⟩ := by
  intro h
  unfold nextR at h
  rw [if_neg (by rw [hn]; simp)] at h
  repeat' split at h
  all_goals simp at h

theorem next_12 (hn : nOk typ k b data at_ id lk lb = true) (hw : whole = false) (h1 : 0 < (data.length : Int)) (h2 : at_ < (data.length : Int)) (h : nextR typ k b data at_ id lk lb space whole = ⟨false, false, 0, 0, 0, 0, [], [], [], k, b, at_, 12⟩) : space < 20 := by
  have hz := lSize_le lk
  subst hw
  unfold nextR at h
  rw [if_neg (by rw [hn]; simp)] at h
  split at h
  · split at h
    · simp at h
    split at h
    · rename_i g1 g2 g3
      simp at g3
      omega
    · simp at h
  · split at h
    · simp at h
    split at h
    · omega
    · simp at h

theorem next_whole (hn : nOk typ k b data at_ id lk lb = true) (h : nextR typ k b data at_ id lk lb space whole = ⟨true, true, 0, 0, typ, lk, lb, data, [], k, b, (data.length : Int), 0⟩) : at_ = 0 ∧ 4 + lSize lk + (data.length : Int) ≤ max 0 (min space 4097) := by
  unfold nextR at h
  rw [if_neg (by rw [hn]; simp)] at h
  split at h
  · split at h
    · exact ⟨by assumption, by assumption⟩
    split at h <;> simp at h
  · repeat' split at h
    all_goals simp at h

theorem next_start (hn : nOk typ k b data at_ id lk lb = true) (h : nextR typ k b data at_ id lk lb space whole = ⟨true, false, id, pTotal lk lb (data.length : Int), typ, lk, lb, x, [], lk, lb, n, 0⟩) :
    at_ = 0 ∧ n = min (max 0 (min space 4097) - 7 - lSize lk) ((data.length : Int) - 1) ∧ 1 ≤ n ∧ x = data.take n.toNat ∧ ¬ 4 + lSize lk + (data.length : Int) ≤ max 0 (min space 4097) := by
  unfold nextR at h
  rw [if_neg (by rw [hn]; simp)] at h
  split at h
  · split at h
    · simp at h
    split at h
    · simp at h
    · rename_i g1 g2 g3
      rw [not_or] at g3
      simp only [NextR.mk.injEq, true_and, and_true] at h
      obtain ⟨h1, h2⟩ := h
      refine ⟨g1, h2.symm, by omega, ?_, g2⟩
      rw [← h2]; exact h1.symm
  · repeat' split at h
    all_goals simp at h

theorem next_last (hn : nOk typ k b data at_ id lk lb = true) (h : nextR typ k b data at_ id lk lb space whole = ⟨false, true, id, 0, 0, 0, [], x, s, k, b, (data.length : Int), 0⟩) :
    at_ ≠ 0 ∧ 7 + ((data.length : Int) - at_) ≤ max 0 (min space 4097) ∧ x = data.drop at_.toNat ∧ s = pSum typ k b data := by
  unfold nextR at h
  rw [if_neg (by rw [hn]; simp)] at h
  split at h
  · repeat' split at h
    all_goals simp at h
  · split at h
    · simp only [NextR.mk.injEq, true_and, and_true] at h
      exact ⟨by assumption, by assumption, h.1.symm, h.2.symm⟩
    · split at h <;> simp at h

theorem next_mid (hn : nOk typ k b data at_ id lk lb = true) (h : nextR typ k b data at_ id lk lb space whole = ⟨false, false, id, 0, 0, 0, [], x, [], k, b, n, 0⟩) :
    at_ ≠ 0 ∧ n = at_ + min (max 0 (min space 4097) - 3) ((data.length : Int) - at_ - 1) ∧ at_ < n ∧ x = (data.take n.toNat).drop at_.toNat ∧ ¬ 7 + ((data.length : Int) - at_) ≤ max 0 (min space 4097) := by
  unfold nextR at h
  rw [if_neg (by rw [hn]; simp)] at h
  split at h
  · repeat' split at h
    all_goals simp at h
  · split at h
    · simp at h
    · split at h
      · simp at h
      · rename_i g1 g2 g3
        simp only [NextR.mk.injEq, true_and, and_true] at h
        obtain ⟨h1, h2⟩ := h
        refine ⟨g1, h2.symm, by omega, ?_, g2⟩
        rw [← h2]; exact h1.symm
end

end Go.Proofs.Ytdjidmnehfjmbaa
