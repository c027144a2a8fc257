/-
  The walks of the reference's May, of Same.
-/
import Derived.Test.YtgbjecgkbhknmaaLabA
namespace Go.Proofs.Ytgbjecgkbhknmaa
set_option linter.unusedVariables false
open Go.RowKit

theorem rsize_below (k : Int) (w : World) : Calls Try.prog 15 #[.int .i64 k] w fun e w' => e = .returned (.int .i64 (labSize k)) ∧ Below w.heap.size w w' :=
  (rsize_any k w).mono fun e w' ⟨h1, h2⟩ => ⟨h1, by subst h2; exact Below.refl _ _⟩

set_option maxHeartbeats 400000 in
theorem may_low (k : Int) (b : ByteArray) (w : World) (hb : b.size ≤ maxLen) (h : k < 0) :
    Calls Try.prog 14 #[.agg #[.int .i64 k, .string b]] w fun e w' => e = .returned (.bool false) ∧ Below w.heap.size w w' := by
  go_enter Try.func14, Try.ntmps14
  go_wp2
  have HF := Lib.hid (check_facts w k b)
  have hB : Below w.heap.size w (w.alloc (.cells #[.int .i64 k, .string b] 24)) := (Below.refl _ _).alloc (Nat.le_refl _) _
  generalize hW : w.alloc (.cells #[.int .i64 k, .string b] 24) = W at HF hB ⊢
  clear hW
  have hk0 : decide (0 ≤ k) = false := by simp; omega
  refine wp_region_class (Since W) (by kernel_rfl) (by kernel_rfl) (Below.drew (Below.refl _ _)) ?_
  repeat (first | go_big_quiet_step ((first | (intro hs; exact Since.call hs (rsize_below _ _)) | (intro _; rfl))) | (refine BigFrame.wpQuiet_want rfl (fun K hK => ?_); refine quiet_ex ?_; apply Exists.intro; refine ⟨fun w' hw' => ?_, hK _ ?_⟩; (focus (obtain ⟨f0, f1⟩ := HF.out w' hw'; go_simp; rfl)); clear hK K; simp only [Act.put, List.setIfInBounds_toArray, List.set_cons_succ, List.set_cons_zero]) | quiet_step ((first | (intro hs; exact Since.call hs (rsize_below _ _)) | (intro _; rfl))))
  refine wpQuiet_nil ?_
  intro wq hwq
  go_wp2
  go_ret
  exact ⟨rfl, hB.trans (Below.mono hwq hB.size)⟩

set_option maxHeartbeats 400000 in
theorem may_high (k : Int) (b : ByteArray) (w : World) (hb : b.size ≤ maxLen) (h : 3 < k) :
    Calls Try.prog 14 #[.agg #[.int .i64 k, .string b]] w fun e w' => e = .returned (.bool false) ∧ Below w.heap.size w w' := by
  go_enter Try.func14, Try.ntmps14
  go_wp2
  have HF := Lib.hid (check_facts w k b)
  have hB : Below w.heap.size w (w.alloc (.cells #[.int .i64 k, .string b] 24)) := (Below.refl _ _).alloc (Nat.le_refl _) _
  generalize hW : w.alloc (.cells #[.int .i64 k, .string b] 24) = W at HF hB ⊢
  clear hW
  have hk0 : decide (0 ≤ k) = true := by simp; omega
  have hk3 : decide (k ≤ 3) = false := by simp; omega
  refine wp_region_class (Since W) (by kernel_rfl) (by kernel_rfl) (Below.drew (Below.refl _ _)) ?_
  repeat (first | go_big_quiet_step ((first | (intro hs; exact Since.call hs (rsize_below _ _)) | (intro _; rfl))) | (refine BigFrame.wpQuiet_want rfl (fun K hK => ?_); refine quiet_ex ?_; apply Exists.intro; refine ⟨fun w' hw' => ?_, hK _ ?_⟩; (focus (obtain ⟨f0, f1⟩ := HF.out w' hw'; go_simp; rfl)); clear hK K; simp only [Act.put, List.setIfInBounds_toArray, List.set_cons_succ, List.set_cons_zero]) | quiet_step ((first | (intro hs; exact Since.call hs (rsize_below _ _)) | (intro _; rfl))))
  refine wpQuiet_nil ?_
  intro wq hwq
  go_wp2
  go_ret
  exact ⟨rfl, hB.trans (Below.mono hwq hB.size)⟩

set_option maxHeartbeats 400000 in
theorem may_size (k : Int) (b : ByteArray) (w : World) (hb : b.size ≤ maxLen) (h0 : 0 ≤ k) (h3 : k ≤ 3) (h : ¬ (b.size : Int) = labSize k) :
    Calls Try.prog 14 #[.agg #[.int .i64 k, .string b]] w fun e w' => e = .returned (.bool false) ∧ Below w.heap.size w w' := by
  go_enter Try.func14, Try.ntmps14
  go_wp2
  have HF := Lib.hid (check_facts w k b)
  have hB : Below w.heap.size w (w.alloc (.cells #[.int .i64 k, .string b] 24)) := (Below.refl _ _).alloc (Nat.le_refl _) _
  generalize hW : w.alloc (.cells #[.int .i64 k, .string b] 24) = W at HF hB ⊢
  clear hW
  have hk0 : decide (0 ≤ k) = true := by simp; omega
  have hk3 : decide (k ≤ 3) = true := by simp; omega
  have hne : ((b.size : Int) == labSize k) = false := by rw [beq_eq_false_iff_ne]; exact h
  refine wp_region_class (Since W) (by kernel_rfl) (by kernel_rfl) (Below.drew (Below.refl _ _)) ?_
  repeat (first | go_big_quiet_step ((first | (intro hs; exact Since.call hs (rsize_below _ _)) | (intro _; rfl))) | (refine BigFrame.wpQuiet_want rfl (fun K hK => ?_); refine quiet_ex ?_; apply Exists.intro; refine ⟨fun w' hw' => ?_, hK _ ?_⟩; (focus (obtain ⟨f0, f1⟩ := HF.out w' hw'; go_simp; rfl)); clear hK K; simp only [Act.put, List.setIfInBounds_toArray, List.set_cons_succ, List.set_cons_zero]) | quiet_step ((first | (intro hs; exact Since.call hs (rsize_below _ _)) | (intro _; rfl))))
  refine wpQuiet_nil ?_
  intro wq hwq
  go_wp2
  go_ret
  exact ⟨rfl, hB.trans (Below.mono hwq hB.size)⟩

set_option maxHeartbeats 400000 in
theorem may_ok (k : Int) (b : ByteArray) (w : World) (hb : b.size ≤ maxLen) (h0 : 0 ≤ k) (h3 : k ≤ 3) (h : (b.size : Int) = labSize k) :
    Calls Try.prog 14 #[.agg #[.int .i64 k, .string b]] w fun e w' => e = .returned (.bool true) ∧ Below w.heap.size w w' := by
  go_enter Try.func14, Try.ntmps14
  go_wp2
  have HF := Lib.hid (check_facts w k b)
  have hB : Below w.heap.size w (w.alloc (.cells #[.int .i64 k, .string b] 24)) := (Below.refl _ _).alloc (Nat.le_refl _) _
  generalize hW : w.alloc (.cells #[.int .i64 k, .string b] 24) = W at HF hB ⊢
  clear hW
  have hk0 : decide (0 ≤ k) = true := by simp; omega
  have hk3 : decide (k ≤ 3) = true := by simp; omega
  have hne : ((b.size : Int) == labSize k) = true := by rw [beq_iff_eq]; exact h
  clear h
  refine wp_region_class (Since W) (by kernel_rfl) (by kernel_rfl) (Below.drew (Below.refl _ _)) ?_
  repeat (first | go_big_quiet_step ((first | (intro hs; exact Since.call hs (rsize_below _ _)) | (intro _; rfl))) | (refine BigFrame.wpQuiet_want rfl (fun K hK => ?_); refine quiet_ex ?_; apply Exists.intro; refine ⟨fun w' hw' => ?_, hK _ ?_⟩; (focus (obtain ⟨f0, f1⟩ := HF.out w' hw'; go_simp; rfl)); clear hK K; simp only [Act.put, List.setIfInBounds_toArray, List.set_cons_succ, List.set_cons_zero]) | quiet_step ((first | (intro hs; exact Since.call hs (rsize_below _ _)) | (intro _; rfl))))
  refine wpQuiet_nil ?_
  intro wq hwq
  go_wp2
  go_ret
  exact ⟨rfl, hB.trans (Below.mono hwq hB.size)⟩


theorem may_any (k : Int) (b : ByteArray) (w : World) (hb : b.size ≤ maxLen) :
    Calls Try.prog 14 #[.agg #[.int .i64 k, .string b]] w fun e w' => e = .returned (.bool (labOk k b)) ∧ Below w.heap.size w w' := by
  by_cases h0 : k < 0
  · rw [(labOk_no k b).2 (by omega)]; exact may_low k b w hb h0
  · by_cases h4 : 3 < k
    · rw [(labOk_no k b).2 (by omega)]; exact may_high k b w hb h4
    · by_cases h : (b.size : Int) = labSize k
      · rw [(labOk_iff k b).2 (by omega)]; exact may_ok k b w hb (by omega) (by omega) h
      · rw [(labOk_no k b).2 (by omega)]; exact may_size k b w hb (by omega) (by omega) h

theorem may_lit (k : Int) (b : ByteArray) (w : World) (o : Bool) (hb : b.size ≤ maxLen) (h : labOk k b = o) :
    Calls Try.prog 14 #[.agg #[.int .i64 k, .string b]] w fun e w' => e = .returned (.bool o) ∧ Below w.heap.size w w' := by
  have := may_any k b w hb; rwa [h] at this

theorem check_lit (k : Int) (b : ByteArray) (w : World) (o : Bool) (hb : b.size ≤ maxLen) (h : labOk k b = o) :
    Calls Try.prog 9 #[.agg #[.int .i64 k, .string b]] w fun e w' => e = .returned (.int .i64 (if o = true then 0 else 2)) ∧ Below w.heap.size w w' := by
  have := check_any k b w hb; rwa [h] at this

set_option maxHeartbeats 400000 in
theorem same_any (k : Int) (b : ByteArray) (k' : Int) (b' : ByteArray) (w : World) (hb : b.size ≤ maxLen) :
    Calls Try.prog 16 #[.agg #[.int .i64 k, .string b], .agg #[.int .i64 k', .string b']] w fun e w' => e = .returned (.bool (labEq k b k' b' && labOk k b)) ∧ Below w.heap.size w w' := by
  have heq := label_eql
  cases hE : labEq k b k' b' with
  | false =>
    go_enter Try.func16, Try.ntmps16
    go_wp2
    go_ret
    exact ⟨rfl, ((Below.refl _ _).alloc (Nat.le_refl _) _).alloc (by simp) _⟩
  | true =>
    go_enter Try.func16, Try.ntmps16
    go_wp2_with fail
    refine (check_any _ _ _ hb).mono ?_
    rintro e w1 ⟨rfl, hb1⟩
    have hB : Below w.heap.size w w1 := (((Below.refl _ _).alloc (Nat.le_refl _) _).alloc (by simp) _).trans (hb1.mono (by simp; omega))
    clear hb1
    cases hO : labOk k b with
    | true =>
      go_wp2
      go_ret
      exact ⟨ret_bool (by rw [hO]; rfl), hB⟩
    | false =>
      go_wp2
      go_ret
      exact ⟨ret_bool (by rw [hO]; rfl), hB⟩

end Go.Proofs.Ytgbjecgkbhknmaa
