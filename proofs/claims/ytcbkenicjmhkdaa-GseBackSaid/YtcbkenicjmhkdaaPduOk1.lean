/-
  The packets' small functions: the contracts.
-/
import Derived.Test.YtcbkenicjmhkdaaPduW1
namespace Go.Proofs.Ytcbkenicjmhkdaa
set_option linter.unusedVariables false
set_option linter.unusedSimpArgs false
open Go.RowKit Ev

theorem inI64_iff {n : Int} : inI64 n = true ↔ -9223372036854775808 ≤ n ∧ n ≤ 9223372036854775807 := by simp [inI64]

theorem lSize_le (k : Int) : 0 ≤ lSize k ∧ lSize k ≤ 6 := by
  unfold lSize
  split
  · omega
  · split <;> omega

def pTotal (k : Int) (b : List UInt8) (n : Int) : Int := if lOk k b = false ∨ n < 0 ∨ 65535 < n then 0 else 2 + lSize k + n

def fcTotal : FC := fun args _ => match args with
  | [.agg [.int .i64 k, .str b], .int .i64 n] => some (true, .int .i64 (pTotal k b n))
  | _ => none

def fcAbc : FC := fun args _ => match args with
  | [] => some (true, .agg [.int .i64 1, .str [97, 98, 99]])
  | _ => none

/-- The text that a law is given: bytes, and noughts. -/
theorem textOf_ex : ∃ f : List UInt8 → Int → List UInt8, ∀ s n, f s n = s.take 70000 ++ List.replicate (n % 70000).toNat 0 := ⟨_, fun _ _ => rfl⟩
noncomputable def textOf : List UInt8 → Int → List UInt8 := Classical.choose textOf_ex
theorem textOf_eq (s : List UInt8) (n : Int) : textOf s n = s.take 70000 ++ List.replicate (n % 70000).toNat 0 := Classical.choose_spec textOf_ex s n

noncomputable def fcText : FC := fun args _ => match args with
  | [.agg [.str s, .int .u32 n]] => some (decide (0 ≤ n), .str (textOf s n))
  | _ => none

theorem take_min {α : Type} (s : List α) (c : Nat) (m : Int) (h : m = min (s.length : Int) (c : Int)) : s.take m.toNat = s.take c := by
  subst h
  rcases Nat.lt_or_ge s.length c with h | h
  · rw [List.take_of_length_le (by omega), List.take_of_length_le (by omega)]
  · congr 1; omega

/-- The label that a law is given. -/
def labK (kind : Int) : Int := kind % 3
def labB (kind : Int) (b : List UInt8) : List UInt8 := if kind % 3 = 0 then b else if kind % 3 = 1 then b.take 3 else []

def fcLabel : FC := fun args _ => match args with
  | [.int .u8 kind, .agg [.int .u8 b0, .int .u8 b1, .int .u8 b2, .int .u8 b3, .int .u8 b4, .int .u8 b5]] => some (decide (0 ≤ kind), .agg [.int .i64 (labK kind), .str (labB kind ([b0, b1, b2, b3, b4, b5].map fun n => UInt8.ofNat n.toNat))])
  | _ => none

noncomputable def TP1 : Tabs := TP0
theorem TP1ok : TabsOk TP1 Try.prog := TP0ok

end Go.Proofs.Ytcbkenicjmhkdaa
