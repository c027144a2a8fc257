/-
  The packets' sums: the contracts.
-/
import Derived.Test.YtcbkenicjmhkdaaPduW2
namespace Go.Proofs.Ytcbkenicjmhkdaa
set_option linter.unusedVariables false
set_option linter.unusedSimpArgs false
open Go.RowKit Ev

def pErr (typ k : Int) (b : List UInt8) (n : Int) : Int := if typ < 0 ∨ 65535 < typ ∨ lOk k b = false then 2 else if 65535 < 2 + lSize k + n then 3 else 0

def pText (typ k : Int) (b data : List UInt8) : List UInt8 := two (2 + lSize k + (data.length : Int)) ++ two typ ++ b ++ data

def pSum (typ k : Int) (b data : List UInt8) : List UInt8 := if pErr typ k b (data.length : Int) = 0 then four (crcN (pText typ k b data)) else []

def fcSum : FC := fun args _ => match args with
  | [.int .i64 typ, .agg [.int .i64 k, .str b], .str data] => some (decide (data.length ≤ 9223372036854775000), .tup [.str (pSum typ k b data), .int .i64 (pErr typ k b (data.length : Int))])
  | _ => none

theorem two_length (n : Int) : (two n).length = 2 := rfl
theorem four_length (n : Int) : (four n).length = 4 := rfl

theorem crcN_bd (l : List UInt8) : 0 ≤ crcN l ∧ crcN l < 4294967296 := by
  unfold crcN
  have := (Crc.sum l).isLt
  omega

theorem pErr_2 {typ k n : Int} {b : List UInt8} (h : typ < 0 ∨ 65535 < typ ∨ lOk k b = false) : pErr typ k b n = 2 := by unfold pErr; rw [if_pos h]
theorem pErr_3 {typ k n : Int} {b : List UInt8} (h : ¬ (typ < 0 ∨ 65535 < typ ∨ lOk k b = false)) (h3 : 65535 < 2 + lSize k + n) : pErr typ k b n = 3 := by unfold pErr; rw [if_neg h, if_pos h3]
theorem pErr_0 {typ k n : Int} {b : List UInt8} (h : ¬ (typ < 0 ∨ 65535 < typ ∨ lOk k b = false)) (h3 : ¬ 65535 < 2 + lSize k + n) : pErr typ k b n = 0 := by unfold pErr; rw [if_neg h, if_neg h3]
theorem pErr_iff {typ k n : Int} {b : List UInt8} : pErr typ k b n = 0 ↔ 0 ≤ typ ∧ typ ≤ 65535 ∧ lOk k b = true ∧ 2 + lSize k + n ≤ 65535 := by
  unfold pErr
  split
  · rename_i h; cases hl : lOk k b <;> simp_all <;> omega
  · rename_i h
    split
    · simp; intros; omega
    · cases hl : lOk k b <;> simp_all <;> omega

theorem lOk_length {k : Int} {b : List UInt8} (h : lOk k b = true) : 0 ≤ k ∧ k < 4 ∧ (b.length : Int) = lSize k := by simpa [lOk] using h

theorem two_two (c : Int) (h0 : 0 ≤ c) (h1 : c < 4294967296) : two (c / 65536 % 4294967296) ++ two (c % 65536) = four c := by
  unfold two four
  have e1 : c / 65536 % 4294967296 / 256 % 256 = c / 16777216 % 256 := by omega
  have e2 : c / 65536 % 4294967296 % 256 = c / 65536 % 256 := by omega
  have e3 : c % 65536 / 256 % 256 = c / 256 % 256 := by omega
  have e4 : c % 65536 % 256 = c % 256 := by omega
  rw [e1, e2, e3, e4]; rfl

noncomputable def TP2 : Tabs := TP1
theorem TP2ok : TabsOk TP2 Try.prog := TP1ok

end Go.Proofs.Ytcbkenicjmhkdaa
