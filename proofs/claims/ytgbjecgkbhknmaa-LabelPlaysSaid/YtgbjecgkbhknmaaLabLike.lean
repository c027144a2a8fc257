/-
  The program's memory of a label and the reference's say the same. Plain values; no program here.
-/
import Derived.Test.YtgbjecgkbhknmaaLabMath
namespace Go.Proofs.Ytgbjecgkbhknmaa
set_option linter.unusedVariables false

/-- The reference's memory: a label, if there is one. -/
structure RLab where
  l : Lab
  is : Bool

def refKeep (m : RLab) (l : Lab) : RLab := if labOk l.k l.b = true ∧ 0 < l.b.size then ⟨l, true⟩ else m

def refHit (m : RLab) (l : Lab) : Bool := m.is && labEq l.k l.b m.l.k m.l.b

def refNext (m : RLab) (l : Lab) : Lab × RLab := if refHit m l = true then (⟨3, ByteArray.empty⟩, m) else (l, refKeep m l)

def refRead (m : RLab) (l : Lab) : (Lab × Int) × RLab :=
  if labOk l.k l.b = true then
    if l.k = 3 then (if m.is = true then ((m.l, 0), m) else ((⟨0, ByteArray.empty⟩, 17), m)) else ((l, 0), refKeep m l)
  else ((⟨0, ByteArray.empty⟩, 2), m)

/-- The two memories say the same. -/
def Like (m : Lab) (r : RLab) : Prop := (r.is = true → r.l = m ∧ ¬ m.b.size = 0) ∧ (r.is = false → m.b.size = 0)

theorem labEq_comm (k : Int) (b : ByteArray) (k' : Int) (b' : ByteArray) : labEq k b k' b' = labEq k' b' k b := by
  unfold labEq; rw [decide_eq_decide]; exact ⟨fun h => ⟨h.1.symm, h.2.symm⟩, fun h => ⟨h.1.symm, h.2.symm⟩⟩

theorem Like.hit {m : Lab} {r : RLab} (h : Like m r) (l : Lab) : memHit m l = refHit r l := by
  unfold memHit refHit
  cases hi : r.is with
  | true =>
    obtain ⟨h1, h2⟩ := h.1 hi
    rw [h1, decide_eq_true h2, labEq_comm]
  | false =>
    rw [h.2 hi]; simp

theorem Like.keep {m : Lab} {r : RLab} (h : Like m r) (l : Lab) : Like (memKeep m l) (refKeep r l) := by
  unfold memKeep refKeep
  by_cases ho : labOk l.k l.b = true
  · have hs := (labOk_iff l.k l.b).1 ho
    by_cases hz : 0 < labSize l.k
    · rw [if_pos ⟨hz, ho⟩, if_pos ⟨ho, by omega⟩]
      exact ⟨fun _ => ⟨rfl, by omega⟩, fun h => by cases h⟩
    · rw [if_neg (fun h => hz h.1), if_neg (fun h => by have := h.2; omega)]; exact h
  · rw [if_neg (fun h => ho h.2), if_neg (fun h => ho h.1)]; exact h

theorem Like.next {m : Lab} {r : RLab} (h : Like m r) (l : Lab) : (memNext m l).1 = (refNext r l).1 ∧ Like (memNext m l).2 (refNext r l).2 := by
  unfold memNext refNext
  rw [h.hit l]
  split
  · exact ⟨rfl, h⟩
  · exact ⟨rfl, h.keep l⟩

theorem Like.read {m : Lab} {r : RLab} (h : Like m r) (l : Lab) : (memRead m l).1 = (refRead r l).1 ∧ Like (memRead m l).2 (refRead r l).2 := by
  unfold memRead refRead
  split
  · split
    · cases hi : r.is with
      | true =>
        obtain ⟨h1, h2⟩ := h.1 hi
        rw [if_neg h2, if_pos rfl, h1]; exact ⟨rfl, h⟩
      | false =>
        rw [if_pos (h.2 hi), if_neg (by simp)]; exact ⟨rfl, h⟩
    · exact ⟨rfl, h.keep l⟩
  · exact ⟨rfl, h⟩

theorem Like.none : Like ⟨0, ByteArray.empty⟩ ⟨⟨0, ByteArray.empty⟩, false⟩ := ⟨(fun h => by cases h), fun _ => rfl⟩

end Go.Proofs.Ytgbjecgkbhknmaa
