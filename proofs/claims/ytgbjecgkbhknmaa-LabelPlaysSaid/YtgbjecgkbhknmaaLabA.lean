/-
  The walks of the label's plain functions: sizes, Size, Check, Same; the reference's Size and May.
-/
import Derived.Test.YtgbjecgkbhknmaaAux
import Derived.Test.YtgbjecgkbhknmaaLabMath
import Derived.Test.YtgbjecgkbhknmaaProg
namespace Go.Proofs.Ytgbjecgkbhknmaa
set_option linter.unusedVariables false
open Go.RowKit

theorem toList_inj {a b : ByteArray} : a.toList = b.toList ↔ a = b := by
  rw [ByteArray.toList_eq, ByteArray.toList_eq, Array.toList_inj]
  constructor
  · intro h; cases a; cases b; simp_all
  · intro h; rw [h]

theorem label_eql (k : Int) (b : ByteArray) (k' : Int) (b' : ByteArray) (w : World) :
    (binOp .eql 24 (.agg #[.int .i64 k, .string b]) (.agg #[.int .i64 k', .string b'])).run Try.prog w = .ok (.bool (labEq k b k' b')) w := by
  simp [go_sem, labEq, toList_inj]
  by_cases h1 : k = k' <;> by_cases h2 : b = b' <;> simp [h1, h2]

theorem label_neq (k : Int) (b : ByteArray) (k' : Int) (b' : ByteArray) (w : World) :
    (binOp .neq 24 (.agg #[.int .i64 k, .string b]) (.agg #[.int .i64 k', .string b'])).run Try.prog w = .ok (.bool (!labEq k b k' b')) w := by
  simp [go_sem, labEq, toList_inj]
  by_cases h1 : k = k' <;> by_cases h2 : b = b' <;> simp [h1, h2]

theorem ret_int {k : IntKind} {a b : Int} (h : a = b) : Ending.returned (.int k a) = .returned (.int k b) := by rw [h]
theorem ret_bool {a b : Bool} (h : a = b) : Ending.returned (.bool a) = .returned (.bool b) := by rw [h]

set_option maxHeartbeats 400000 in
theorem sizes_any (w : World) : Calls Try.prog 21 #[] w fun e w' => e = .returned (.agg #[.int .i64 6, .int .i64 3, .int .i64 0, .int .i64 0]) ∧ Below w.heap.size w w' := by
  go_enter Try.func21, Try.ntmps21
  go_wp2
  exact bodyPost_ret (v := .agg #[.int .i64 6, .int .i64 3, .int .i64 0, .int .i64 0]) (by simp [results, Try.results21, go_sem]) rfl ⟨rfl, (Below.refl _ _).alloc (Nat.le_refl _) _⟩

set_option maxHeartbeats 400000 in
theorem rsize_any (k : Int) (w : World) : Calls Try.prog 15 #[.int .i64 k] w fun e w' => e = .returned (.int .i64 (labSize k)) ∧ w = w' := by
  go_enter Try.func15, Try.ntmps15
  go_wp2
  all_goals
    go_ret
    refine ⟨ret_int ?_, rfl⟩
    unfold labSize
    simp_all

theorem labSize_out (k : Int) (h : ¬ (0 ≤ k ∧ k < 4)) : labSize k = 0 := by
  unfold labSize; rw [if_neg (by omega), if_neg (by omega)]

set_option maxHeartbeats 400000 in
theorem size_any (k : Int) (w : World) : Calls Try.prog 11 #[.int .i64 k] w fun e w' => e = .returned (.int .i64 (labSize k)) ∧ Below w.heap.size w w' := by
  by_cases h : 0 ≤ k ∧ k < 4
  · have h4 : k = 0 ∨ k = 1 ∨ k = 2 ∨ k = 3 := by omega
    clear h
    rcases h4 with rfl | rfl | rfl | rfl
    all_goals
      go_enter Try.func11, Try.ntmps11
      go_wp2_with fail
      refine (sizes_any _).mono ?_
      rintro e w1 ⟨rfl, hb⟩
      go_wp2
      go_ret
      exact ⟨rfl, hb.alloc hb.size _⟩
  · have hl := Lib.hid (labSize_out k h)
    go_enter Try.func11, Try.ntmps11
    go_wp2_with fail
    refine (sizes_any _).mono ?_
    rintro e w1 ⟨rfl, hb⟩
    go_wp2
    all_goals first | omega | (go_ret; exact ⟨ret_int hl.out.symm, hb.alloc hb.size _⟩)

theorem check_facts (w : World) (k : Int) (b : ByteArray) : ∀ w', Since (w.alloc (.cells #[.int .i64 k, .string b] 24)) w' → w'.cell? ⟨w.heap.size, 0, none⟩ = some (.int .i64 k) ∧ w'.cell? ⟨w.heap.size, 1, none⟩ = some (.string b) := fun w' hw' =>
  ⟨(Below.cell hw' (p := ⟨w.heap.size, 0, none⟩) (by simp)).trans (by simp), (Below.cell hw' (p := ⟨w.heap.size, 1, none⟩) (by simp)).trans (by simp)⟩

set_option maxHeartbeats 400000 in
theorem check_low (k : Int) (b : ByteArray) (w : World) (hb : b.size ≤ maxLen) (h : k < 0) :
    Calls Try.prog 9 #[.agg #[.int .i64 k, .string b]] w fun e w' => e = .returned (.int .i64 2) ∧ Below w.heap.size w w' := by
  go_enter Try.func9, Try.ntmps9
  go_wp2
  have HF := Lib.hid (check_facts w k b)
  have hB : Below w.heap.size w (w.alloc (.cells #[.int .i64 k, .string b] 24)) := (Below.refl _ _).alloc (Nat.le_refl _) _
  generalize hW : w.alloc (.cells #[.int .i64 k, .string b] 24) = W at HF hB ⊢
  clear hW
  have hk0 : decide (k < 0) = true := by simp; omega
  refine wp_region_class (Since W) (by kernel_rfl) (by kernel_rfl) (Below.drew (Below.refl _ _)) ?_
  repeat (first | go_big_quiet_step ((first | (intro _; rfl) | (intro hs; exact Since.call hs (sizes_any _)) | (intro hs; exact Since.call hs (size_any _ _)))) | (refine BigFrame.wpQuiet_want rfl (fun K hK => ?_); refine quiet_ex ?_; apply Exists.intro; refine ⟨fun w' hw' => ?_, hK _ ?_⟩; (focus (obtain ⟨f0, f1⟩ := HF.out w' hw'; go_simp; rfl)); clear hK K; simp only [Act.put, List.setIfInBounds_toArray, List.set_cons_succ, List.set_cons_zero]) | quiet_step ((first | (intro _; rfl) | (intro hs; exact Since.call hs (sizes_any _)) | (intro hs; exact Since.call hs (size_any _ _)))))
  refine wpQuiet_nil ?_
  intro wq hwq
  go_wp2
  go_ret
  exact ⟨rfl, hB.trans (Below.mono hwq hB.size)⟩

set_option maxHeartbeats 400000 in
theorem check_high (k : Int) (b : ByteArray) (w : World) (hb : b.size ≤ maxLen) (h : 4 ≤ k) :
    Calls Try.prog 9 #[.agg #[.int .i64 k, .string b]] w fun e w' => e = .returned (.int .i64 2) ∧ Below w.heap.size w w' := by
  go_enter Try.func9, Try.ntmps9
  go_wp2
  have HF := Lib.hid (check_facts w k b)
  have hB : Below w.heap.size w (w.alloc (.cells #[.int .i64 k, .string b] 24)) := (Below.refl _ _).alloc (Nat.le_refl _) _
  generalize hW : w.alloc (.cells #[.int .i64 k, .string b] 24) = W at HF hB ⊢
  clear hW
  have hk0 : decide (k < 0) = false := by simp; omega
  have hk4 : decide (4 ≤ k) = true := by simp; omega
  refine wp_region_class (Since W) (by kernel_rfl) (by kernel_rfl) (Below.drew (Below.refl _ _)) ?_
  repeat (first | go_big_quiet_step ((first | (intro _; rfl) | (intro hs; exact Since.call hs (sizes_any _)) | (intro hs; exact Since.call hs (size_any _ _)))) | (refine BigFrame.wpQuiet_want rfl (fun K hK => ?_); refine quiet_ex ?_; apply Exists.intro; refine ⟨fun w' hw' => ?_, hK _ ?_⟩; (focus (obtain ⟨f0, f1⟩ := HF.out w' hw'; go_simp; rfl)); clear hK K; simp only [Act.put, List.setIfInBounds_toArray, List.set_cons_succ, List.set_cons_zero]) | quiet_step ((first | (intro _; rfl) | (intro hs; exact Since.call hs (sizes_any _)) | (intro hs; exact Since.call hs (size_any _ _)))))
  refine wpQuiet_nil ?_
  intro wq hwq
  go_wp2
  go_ret
  exact ⟨rfl, hB.trans (Below.mono hwq hB.size)⟩

set_option maxHeartbeats 400000 in
theorem check_size (k : Int) (b : ByteArray) (w : World) (hb : b.size ≤ maxLen) (h0 : 0 ≤ k) (h3 : k < 4) (h : ¬ (b.size : Int) = labSize k) :
    Calls Try.prog 9 #[.agg #[.int .i64 k, .string b]] w fun e w' => e = .returned (.int .i64 2) ∧ Below w.heap.size w w' := by
  go_enter Try.func9, Try.ntmps9
  go_wp2
  have HF := Lib.hid (check_facts w k b)
  have hB : Below w.heap.size w (w.alloc (.cells #[.int .i64 k, .string b] 24)) := (Below.refl _ _).alloc (Nat.le_refl _) _
  generalize hW : w.alloc (.cells #[.int .i64 k, .string b] 24) = W at HF hB ⊢
  clear hW
  have hk0 : decide (k < 0) = false := by simp; omega
  have hk4 : decide (4 ≤ k) = false := by simp; omega
  have hne : ((b.size : Int) != labSize k) = true := by rw [bne_iff_ne]; exact h
  refine wp_region_class (Since W) (by kernel_rfl) (by kernel_rfl) (Below.drew (Below.refl _ _)) ?_
  repeat (first | go_big_quiet_step ((first | (intro _; rfl) | (intro hs; exact Since.call hs (sizes_any _)) | (intro hs; exact Since.call hs (size_any _ _)))) | (refine BigFrame.wpQuiet_want rfl (fun K hK => ?_); refine quiet_ex ?_; apply Exists.intro; refine ⟨fun w' hw' => ?_, hK _ ?_⟩; (focus (obtain ⟨f0, f1⟩ := HF.out w' hw'; go_simp; rfl)); clear hK K; simp only [Act.put, List.setIfInBounds_toArray, List.set_cons_succ, List.set_cons_zero]) | quiet_step ((first | (intro _; rfl) | (intro hs; exact Since.call hs (sizes_any _)) | (intro hs; exact Since.call hs (size_any _ _)))))
  refine wpQuiet_nil ?_
  intro wq hwq
  go_wp2
  go_ret
  exact ⟨rfl, hB.trans (Below.mono hwq hB.size)⟩

set_option maxHeartbeats 400000 in
theorem check_ok (k : Int) (b : ByteArray) (w : World) (hb : b.size ≤ maxLen) (h0 : 0 ≤ k) (h3 : k < 4) (h : (b.size : Int) = labSize k) :
    Calls Try.prog 9 #[.agg #[.int .i64 k, .string b]] w fun e w' => e = .returned (.int .i64 0) ∧ Below w.heap.size w w' := by
  go_enter Try.func9, Try.ntmps9
  go_wp2
  have HF := Lib.hid (check_facts w k b)
  have hB : Below w.heap.size w (w.alloc (.cells #[.int .i64 k, .string b] 24)) := (Below.refl _ _).alloc (Nat.le_refl _) _
  generalize hW : w.alloc (.cells #[.int .i64 k, .string b] 24) = W at HF hB ⊢
  clear hW
  have hk0 : decide (k < 0) = false := by simp; omega
  have hk4 : decide (4 ≤ k) = false := by simp; omega
  have hne : ((b.size : Int) != labSize k) = false := by rw [bne_eq_false_iff_eq]; exact h
  clear h
  refine wp_region_class (Since W) (by kernel_rfl) (by kernel_rfl) (Below.drew (Below.refl _ _)) ?_
  repeat (first | go_big_quiet_step ((first | (intro _; rfl) | (intro hs; exact Since.call hs (sizes_any _)) | (intro hs; exact Since.call hs (size_any _ _)))) | (refine BigFrame.wpQuiet_want rfl (fun K hK => ?_); refine quiet_ex ?_; apply Exists.intro; refine ⟨fun w' hw' => ?_, hK _ ?_⟩; (focus (obtain ⟨f0, f1⟩ := HF.out w' hw'; go_simp; rfl)); clear hK K; simp only [Act.put, List.setIfInBounds_toArray, List.set_cons_succ, List.set_cons_zero]) | quiet_step ((first | (intro _; rfl) | (intro hs; exact Since.call hs (sizes_any _)) | (intro hs; exact Since.call hs (size_any _ _)))))
  refine wpQuiet_nil ?_
  intro wq hwq
  go_wp2
  go_ret
  exact ⟨rfl, hB.trans (Below.mono hwq hB.size)⟩


theorem check_any (k : Int) (b : ByteArray) (w : World) (hb : b.size ≤ maxLen) :
    Calls Try.prog 9 #[.agg #[.int .i64 k, .string b]] w fun e w' => e = .returned (.int .i64 (if labOk k b = true then 0 else 2)) ∧ Below w.heap.size w w' := by
  by_cases h0 : k < 0
  · rw [if_neg (by rw [labOk_iff]; omega)]; exact check_low k b w hb h0
  · by_cases h4 : 4 ≤ k
    · rw [if_neg (by rw [labOk_iff]; omega)]; exact check_high k b w hb h4
    · by_cases h : (b.size : Int) = labSize k
      · rw [if_pos (by rw [labOk_iff]; omega)]; exact check_ok k b w hb (by omega) (by omega) h
      · rw [if_neg (by rw [labOk_iff]; omega)]; exact check_size k b w hb (by omega) (by omega) h

end Go.Proofs.Ytgbjecgkbhknmaa
