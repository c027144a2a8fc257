/-
  The walk of the label laws' 'of': a label, by a number.
-/
import Derived.Test.YtgbjecgkbhknmaaLabW
namespace Go.Proofs.Ytgbjecgkbhknmaa
set_option linter.unusedVariables false
open Go.RowKit

/-- A label, by a number: one of four of six bytes, of four of three, or all. -/
def ofLab (n : Nat) : Lab :=
  if n % 9 = 8 then ⟨2, ⟨#[]⟩⟩
  else if 4 ≤ n % 9 then ⟨1, strOfNums [116, 104, 48 + (n : Int) % 9]⟩
  else ⟨0, strOfNums [115, 105, 120, 46, 46, 48 + (n : Int) % 9]⟩

set_option maxHeartbeats 400000 in
theorem of_all (n : Nat) (w : World) (hn : n < 256) (h : n % 9 = 8) :
    Calls Try.prog 8 #[.int .u8 (n : Int)] w fun e w' => e = .returned (.agg #[.int .i64 2, .string ⟨#[]⟩]) ∧ Below w.heap.size w w' := by
  have h1 : (((n : Int) % 9) == 8) = true := by rw [beq_iff_eq]; omega
  go_enter Try.func8, Try.ntmps8
  go_wp2
  exact bodyPost_ret (v := .agg #[.int .i64 2, .string ⟨#[]⟩]) (by simp [results, Try.results8, go_sem]) rfl
    ⟨rfl, (Below.refl _ _).alloc (Nat.le_refl _) _⟩

set_option maxHeartbeats 400000 in
theorem of_three (n : Nat) (w : World) (hn : n < 256) (h : ¬ n % 9 = 8) (h4 : 4 ≤ n % 9) :
    Calls Try.prog 8 #[.int .u8 (n : Int)] w fun e w' => e = .returned (.agg #[.int .i64 1, .string (strOfNums [116, 104, 48 + (n : Int) % 9])]) ∧ Below w.heap.size w w' := by
  have h1 : (((n : Int) % 9) == 8) = false := by rw [beq_eq_false_iff_ne]; omega
  have h2 : decide ((4 : Int) ≤ (n : Int) % 9) = true := by simp; omega
  have hcv := fun (w : World) (x : Obj) (a b c : Int) => conv_new (P := Try.prog) 22 9 5 Try.underlying22 Try.underlying5 Try.underlying9 [a, b, c] (w.alloc x)
  simp only [World.size_alloc, List.length_cons, List.length_nil, Nat.reduceAdd, List.map_cons, List.map_nil] at hcv
  go_enter Try.func8, Try.ntmps8
  go_wp2
  exact bodyPost_ret (v := .agg #[.int .i64 1, .string (strOfNums [116, 104, 48 + (n : Int) % 9])]) (by simp [results, Try.results8, go_sem]) rfl
    ⟨rfl, ((Below.refl _ _).alloc (Nat.le_refl _) _).alloc (by simp) _⟩

set_option maxHeartbeats 400000 in
theorem of_six (n : Nat) (w : World) (hn : n < 256) (h : ¬ n % 9 = 8) (h4 : ¬ 4 ≤ n % 9) :
    Calls Try.prog 8 #[.int .u8 (n : Int)] w fun e w' => e = .returned (.agg #[.int .i64 0, .string (strOfNums [115, 105, 120, 46, 46, 48 + (n : Int) % 9])]) ∧ Below w.heap.size w w' := by
  have h1 : (((n : Int) % 9) == 8) = false := by rw [beq_eq_false_iff_ne]; omega
  have h2 : decide ((4 : Int) ≤ (n : Int) % 9) = false := by simp; omega
  have hcv := fun (w : World) (x : Obj) (a b c d e f : Int) => conv_new (P := Try.prog) 22 9 5 Try.underlying22 Try.underlying5 Try.underlying9 [a, b, c, d, e, f] (w.alloc x)
  simp only [World.size_alloc, List.length_cons, List.length_nil, Nat.reduceAdd, List.map_cons, List.map_nil] at hcv
  go_enter Try.func8, Try.ntmps8
  go_wp2
  exact bodyPost_ret (v := .agg #[.int .i64 0, .string (strOfNums [115, 105, 120, 46, 46, 48 + (n : Int) % 9])]) (by simp [results, Try.results8, go_sem]) rfl
    ⟨rfl, ((Below.refl _ _).alloc (Nat.le_refl _) _).alloc (by simp) _⟩

theorem of_any (n : Nat) (w : World) (hn : n < 256) :
    Calls Try.prog 8 #[.int .u8 (n : Int)] w fun e w' => e = .returned (.agg #[.int .i64 (ofLab n).k, .string (ofLab n).b]) ∧ Below w.heap.size w w' := by
  unfold ofLab
  by_cases h : n % 9 = 8
  · rw [if_pos h]; exact of_all n w hn h
  · rw [if_neg h]
    by_cases h4 : 4 ≤ n % 9
    · rw [if_pos h4]; exact of_three n w hn h h4
    · rw [if_neg h4]; exact of_six n w hn h h4

theorem ofLab_ok (n : Nat) : labOk (ofLab n).k (ofLab n).b = true := by
  unfold ofLab
  by_cases h : n % 9 = 8
  · rw [if_pos h]; rfl
  · rw [if_neg h]
    by_cases h4 : 4 ≤ n % 9
    · rw [if_pos h4, labOk_iff, strOfNums_size]; exact ⟨by simp, by simp, rfl⟩
    · rw [if_neg h4, labOk_iff, strOfNums_size]; exact ⟨by simp, by simp, rfl⟩

theorem ofLab_size (n : Nat) : (ofLab n).b.size ≤ 6 := by
  have h := (labOk_iff _ _).1 (ofLab_ok n)
  have := labSize_bd (ofLab n).k
  omega

theorem ofLab_not_same (n : Nat) : ¬ (ofLab n).k = 3 := by
  unfold ofLab
  by_cases h : n % 9 = 8
  · rw [if_pos h]; decide
  · rw [if_neg h]
    by_cases h4 : 4 ≤ n % 9
    · rw [if_pos h4]; simp
    · rw [if_neg h4]; simp

end Go.Proofs.Ytgbjecgkbhknmaa
