/-
  The walk of the ext laws' 'works'.
-/
import Derived.Test.YtddjaneacmdkmaaExtLaw
import Derived.Test.YtddjaneacmdkmaaExtA
namespace Go.Proofs.Ytddjaneacmdkmaa
set_option linter.unusedVariables false
open Go.RowKit

theorem w_put : extPut 2048 ⟨#[97, 98]⟩ [⟨#[7, 85, 102]⟩, ⟨#[1]⟩] = (519, ⟨#[85, 102, 1, 1, 8, 0, 97, 98]⟩, 0) := by kernel_rfl

theorem putAll_bounds (s : Int × ByteArray) (l : List ByteArray) (hl : ∀ h ∈ l, badHead h = false) (h0 : 0 ≤ s.1) (h1 : s.1 ≤ 65535) : 0 ≤ (putAll s l).1 ∧ (putAll s l).1 ≤ 65535 := by
  cases l with
  | nil => exact ⟨h0, h1⟩
  | cons h r => have := put1_bounds (putAll s r) h (hl h (by simp)); exact ⟨this.1, this.2.1⟩

theorem skip_putAll (s : Int × ByteArray) (l : List ByteArray) (hl : ∀ h ∈ l, badHead h = false) (h0 : 0 ≤ s.1) (h1 : s.1 ≤ 65535) : extSkip (putAll s l).1 (putAll s l).2 = extSkip s.1 s.2 := by
  induction l with
  | nil => rfl
  | cons h r ih =>
    have hb := putAll_bounds s r (fun x hx => hl x (by simp [hx])) h0 h1
    show extSkip (put1 (putAll s r) h).1 (put1 (putAll s r) h).2 = _
    rw [skip_put1 (putAll s r) h (hl h (by simp)) hb.1 hb.2]
    exact ih (fun x hx => hl x (by simp [hx]))

theorem w_skip : extSkipAll 519 ⟨#[85, 102, 1, 1, 8, 0, 97, 98]⟩ = (2048, ⟨#[97, 98]⟩, 0) := by
  have h := skip_putAll (2048, ⟨#[97, 98]⟩) [⟨#[7, 85, 102]⟩, ⟨#[1]⟩] (by intro h hh; simp at hh; rcases hh with rfl | rfl <;> rfl) (by decide) (by decide)
  have e : putAll (2048, ⟨#[97, 98]⟩) [⟨#[7, 85, 102]⟩, ⟨#[1]⟩] = (519, ⟨#[85, 102, 1, 1, 8, 0, 97, 98]⟩) := by kernel_rfl
  rw [e] at h
  unfold extSkipAll
  rw [if_neg (by decide)]
  exact h.trans (extSkip_high 2048 _ (by decide))

set_option maxHeartbeats 1000000 in
theorem works_any (w : World) : Calls Try.prog 10 #[] w fun e w' => e = .returned (.bool true) ∧ Below w.heap.size w w' := by
  go_enter Try.func10, Try.ntmps10
  go_wp2_with fail
  have hc : StrCells (w.alloc (.cells #[.string ⟨#[7, 85, 102]⟩, .string ⟨#[1]⟩] 9)).heap.size (w.alloc (.cells #[.string ⟨#[7, 85, 102]⟩, .string ⟨#[1]⟩] 9)) (some ⟨w.heap.size, 0, none⟩) [⟨#[7, 85, 102]⟩, ⟨#[1]⟩] := by
    intro i hi
    refine ⟨w.heap.size, 0, rfl, by simp, ?_⟩
    match i, hi with
    | 0, _ => simp
    | 1, _ => simp
  have hp := put_any 2048 ⟨#[97, 98]⟩ (some ⟨w.heap.size, 0, none⟩) 2 [⟨#[7, 85, 102]⟩, ⟨#[1]⟩] _ (by decide) (by decide) (by intro h hh; simp at hh; rcases hh with rfl | rfl <;> decide) hc
  rw [w_put] at hp
  refine hp.mono ?_
  rintro e w1 ⟨rfl, hb1⟩
  have hB1 : Below w.heap.size w w1 := ((Below.refl _ _).alloc (Nat.le_refl _) _).trans (hb1.mono (by simp))
  go_wp2_with fail
  have hk := skip_any 519 ⟨#[85, 102, 1, 1, 8, 0, 97, 98]⟩ w1 (by decide)
  rw [w_skip] at hk
  refine hk.mono ?_
  rintro e w2 ⟨rfl, hb2⟩
  go_wp2
  go_ret
  exact ⟨rfl, hB1.trans (hb2.mono hB1.size)⟩

end Go.Proofs.Ytddjaneacmdkmaa
