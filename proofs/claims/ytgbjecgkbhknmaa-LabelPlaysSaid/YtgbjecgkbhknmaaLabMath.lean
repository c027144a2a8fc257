/-
  Labels as plain values: a kind and bytes; how many bytes a kind has; whether a label may be.
-/
import Derived.Laws.BitsAllLaws
namespace Go.Proofs.Ytgbjecgkbhknmaa
set_option linter.unusedVariables false

/-- How many bytes a kind has. -/
def labSize (k : Int) : Int := if k = 0 then 6 else if k = 1 then 3 else 0

/-- May a label be? -/
def labOk (k : Int) (b : ByteArray) : Bool := decide (0 ≤ k ∧ k ≤ 3 ∧ (b.size : Int) = labSize k)

/-- Are two labels alike? -/
def labEq (k : Int) (b : ByteArray) (k' : Int) (b' : ByteArray) : Bool := decide (k = k' ∧ b = b')

theorem labEq_self (k : Int) (b : ByteArray) : labEq k b k b = true := by simp [labEq]

theorem labEq_iff (k : Int) (b : ByteArray) (k' : Int) (b' : ByteArray) : labEq k b k' b' = true ↔ k = k' ∧ b = b' := by simp [labEq]

/-- A label. -/
structure Lab where
  k : Int
  b : ByteArray

/-- What a memory holds when it has been told of a label. -/
def memKeep (m l : Lab) : Lab := if 0 < labSize l.k ∧ labOk l.k l.b = true then l else m

/-- Is it the label that was last? -/
def memHit (m l : Lab) : Bool := decide (m.b.size ≠ 0) && labEq m.k m.b l.k l.b

/-- How a label is laid, and what the memory is then. -/
def memNext (m l : Lab) : Lab × Lab := if memHit m l = true then (⟨3, ByteArray.empty⟩, m) else (l, memKeep m l)

/-- What a label that was laid means, the error, and what the memory is then. -/
def memRead (m l : Lab) : (Lab × Int) × Lab :=
  if labOk l.k l.b = true then
    if l.k = 3 then (if m.b.size = 0 then ((⟨0, ByteArray.empty⟩, 17), m) else ((m, 0), m)) else ((l, 0), memKeep m l)
  else ((⟨0, ByteArray.empty⟩, 2), m)

theorem labSize_bd (k : Int) : 0 ≤ labSize k ∧ labSize k ≤ 6 := by unfold labSize; split <;> (try split) <;> omega

theorem labOk_iff (k : Int) (b : ByteArray) : labOk k b = true ↔ 0 ≤ k ∧ k ≤ 3 ∧ (b.size : Int) = labSize k := by simp [labOk]

theorem labOk_no (k : Int) (b : ByteArray) : labOk k b = false ↔ ¬ (0 ≤ k ∧ k ≤ 3 ∧ (b.size : Int) = labSize k) := by simp [labOk]

end Go.Proofs.Ytgbjecgkbhknmaa
