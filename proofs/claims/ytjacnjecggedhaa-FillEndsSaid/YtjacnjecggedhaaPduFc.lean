/-
  The packets' functions: what they come to.
-/
import Derived.Test.YtjacnjecggedhaaLabOk
import Derived.Test.YtjacnjecggedhaaCrcMath
import Derived.Test.YtjacnjecggedhaaCrcB
import Derived.Test.YtjacnjecggedhaaCrcR
namespace Go.Proofs.Ytjacnjecggedhaa
set_option linter.unusedVariables false
set_option linter.unusedSimpArgs false
open Go.RowKit Ev

/-- A text's sum. -/
def crcN (l : List UInt8) : Int := ((Crc.sum l).toNat : Int)

/-- A number in two bytes. -/
def two (n : Int) : List UInt8 := [UInt8.ofNat (n / 256 % 256).toNat, UInt8.ofNat (n % 256).toNat]

/-- A number in four bytes. -/
def four (n : Int) : List UInt8 := [UInt8.ofNat (n / 16777216 % 256).toNat, UInt8.ofNat (n / 65536 % 256).toNat, UInt8.ofNat (n / 256 % 256).toNat, UInt8.ofNat (n % 256).toNat]

def fcCrc : FC := fun args _ => match args with
  | [.str l] => some (decide (l.length ≤ 9223372036854775807), .int .u32 (crcN l))
  | _ => none

def fcTwo : FC := fun args _ => match args with
  | [.int .i64 n] => some (true, .str (two n))
  | _ => none

def fcRTwo : FC := fun args _ => match args with
  | [.int .i64 n] => some (decide (0 ≤ n ∧ n ≤ 9223372036854775807), .str (two n))
  | _ => none

def fcFour : FC := fun args _ => match args with
  | [.int .u32 n] => some (true, .str (four n))
  | _ => none

def fcJoined : FC := fun args H => match args with
  | [.sl b 0 1 0 4 (some 4)] => match H.get b with
    | some (.cells _ [.str s1, .str s2, .str s3, .str s4]) => some (decide (s1.length + s2.length + s3.length + s4.length ≤ 9223372036854775807), .str (s1 ++ s2 ++ s3 ++ s4))
    | _ => none
  | _ => none

theorem crc_sound : FcSound Try.prog 90 fcCrc := by
  refine fc_of_calls Try.call90 (fun args H v h => ?_)
  unfold fcCrc at h
  split at h <;> simp only [Option.some.injEq, Prod.mk.injEq, decide_eq_true_eq, reduceCtorEq] at h
  obtain ⟨hl, rfl⟩ := h
  rename_i l
  refine ⟨rfl, rfl, fun ρ w => ?_⟩
  have := sum_any ⟨l.toArray⟩ w (by rw [str_size]; unfold maxLen; omega)
  simpa [trL, tr, crcN] using this

theorem rcrc_sound : FcSound Try.prog 54 fcCrc := by
  refine fc_of_calls Try.call54 (fun args H v h => ?_)
  unfold fcCrc at h
  split at h <;> simp only [Option.some.injEq, Prod.mk.injEq, decide_eq_true_eq, reduceCtorEq] at h
  obtain ⟨hl, rfl⟩ := h
  rename_i l
  refine ⟨rfl, rfl, fun ρ w => ?_⟩
  have := rsum_any ⟨l.toArray⟩ w (by rw [str_size]; unfold maxLen; omega)
  refine Calls.mono (by simpa [trL, tr, crcN] using this) ?_
  rintro e w' ⟨rfl, rfl⟩
  exact ⟨rfl, Below.refl _ _⟩

noncomputable def TP0 : Tabs := ((TL.addFc 90 fcCrc).addFc 54 fcCrc)
theorem TP0ok : TabsOk TP0 Try.prog := ((TLok.addFc crc_sound).addFc rcrc_sound)

end Go.Proofs.Ytjacnjecggedhaa
