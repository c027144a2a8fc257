/-
  Extension headers as plain values: what stands ahead of a type is passed over; what is put ahead.
-/
import Derived.Laws.BitsAllLaws
namespace Go.Proofs.Ytddjaneacmdkmaa
set_option linter.unusedVariables false

/-- Pass over what stands ahead of a type: the type, the data, the error. -/
def extSkip (t : Int) (d : ByteArray) : Int × ByteArray × Int :=
  if 1536 ≤ t then (t, d, 0)
  else if h0 : (t / 256).toNat = 0 then (0, ByteArray.empty, 5)
  else if h : d.size < 2 * (t / 256).toNat then (0, ByteArray.empty, 4)
  else extSkip (256 * (d.data.getD (2 * (t / 256).toNat - 2) 0).toNat + (d.data.getD (2 * (t / 256).toNat - 1) 0).toNat) (d.extract (2 * (t / 256).toNat) d.size)
termination_by d.size
decreasing_by rw [ByteArray.size_extract]; omega

theorem extSkip_high (t : Int) (d : ByteArray) (h : 1536 ≤ t) : extSkip t d = (t, d, 0) := by rw [extSkip, if_pos h]

theorem extSkip_none (t : Int) (d : ByteArray) (h : ¬ 1536 ≤ t) (h0 : (t / 256).toNat = 0) : extSkip t d = (0, ByteArray.empty, 5) := by rw [extSkip, if_neg h, dif_pos h0]

theorem extSkip_form (t : Int) (d : ByteArray) (h : ¬ 1536 ≤ t) (h0 : ¬ (t / 256).toNat = 0) (h1 : d.size < 2 * (t / 256).toNat) : extSkip t d = (0, ByteArray.empty, 4) := by
  rw [extSkip, if_neg h, dif_neg h0, dif_pos h1]

theorem extSkip_next (t : Int) (d : ByteArray) (h : ¬ 1536 ≤ t) (h0 : ¬ (t / 256).toNat = 0) (h1 : ¬ d.size < 2 * (t / 256).toNat) :
    extSkip t d = extSkip (256 * (d.data.getD (2 * (t / 256).toNat - 2) 0).toNat + (d.data.getD (2 * (t / 256).toNat - 1) 0).toNat) (d.extract (2 * (t / 256).toNat) d.size) := by
  rw [extSkip, if_neg h, dif_neg h0, dif_neg h1]

/-- Of whatever number. -/
def extSkipAll (t : Int) (d : ByteArray) : Int × ByteArray × Int := if t < 0 ∨ 65535 < t then (0, ⟨#[]⟩, 2) else extSkip t d

end Go.Proofs.Ytddjaneacmdkmaa
