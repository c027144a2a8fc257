/-
  PduKeeps: it is true.
-/
import Derived.Test.YtofnedbclnlnmaaPduKL
import Derived.Test.YtofnedbclnlnmaaPduLaw
import Derived.Test.YtofnedbclnlnmaaPduTy
namespace Go.Proofs.Ytofnedbclnlnmaa
set_option linter.unusedVariables false
set_option linter.unusedSimpArgs false
open Go.RowKit Ev

theorem right_turned {typ k : Int} {B D d' : List UInt8} {t' : Bool} (h0 : pErr typ k B (D.length : Int) = 0) (hl : d'.length = D.length) (ht : ∀ pre : List UInt8, Crc.sum (pre ++ d') = Crc.sum (pre ++ D) ↔ t' = false) :
    (decide (pRight (pTotal k B (D.length : Int)) typ k B (List.take D.length (List.drop 0 d')) (pSum typ k B D) = 0) == !t') = true := by
  have e : List.take D.length (List.drop 0 d') = d' := by rw [List.drop_zero, List.take_of_length_le (by omega)]
  rw [e]
  have h0' : pErr typ k B (d'.length : Int) = 0 := by rw [hl]; exact h0
  have key : pSum typ k B D = pSum typ k B d' ↔ t' = false := by
    unfold pSum
    rw [if_pos h0, if_pos h0', ← ht (two (2 + lSize k + (D.length : Int)) ++ two typ ++ B)]
    have a := crcN_bd (pText typ k B D)
    have b := crcN_bd (pText typ k B d')
    have e1 : pText typ k B d' = two (2 + lSize k + (D.length : Int)) ++ two typ ++ B ++ d' := by unfold pText; rw [hl]
    have e2 : pText typ k B D = two (2 + lSize k + (D.length : Int)) ++ two typ ++ B ++ D := rfl
    constructor
    · intro h
      have h1 := four_inj a.1 a.2 b.1 b.2 h
      rw [e1, e2] at h1
      unfold crcN at h1
      exact BitVec.eq_of_toNat_eq (by omega)
    · intro h
      rw [e1, e2]
      unfold crcN
      rw [h]
  unfold pRight
  rw [hl, if_neg (fun h => h h0), if_neg (fun h => h rfl)]
  cases t' with
  | false => rw [if_neg (fun h => h (key.2 rfl))]; rfl
  | true => rw [if_pos (fun h => by have := key.1 h; cases this)]; rfl

theorem keeps_true (typ kind l0 l1 l2 l3 l4 l5 other at_ bits : Int) (data : List UInt8) (h1 : 0 ≤ typ ∧ typ ≤ 65535) (h2 : 0 ≤ kind) (h3 : 0 ≤ other ∧ other ≤ 65535) (h4 : 0 ≤ at_ ∧ at_ ≤ 65535) :
    LawT ((TP4.addLc 6 0 (lcK (List.take (min (data.length : Int) 5000).toNat data))).ctx Try.prog) 6 [.agg [.int .u16 typ, .int .u8 kind, .int .u8 l0, .int .u8 l1, .int .u8 l2, .int .u8 l3, .int .u8 l4, .int .u8 l5, .str data], .int .u16 other, .agg [.int .u16 at_, .int .u32 bits]] := by
  refine ⟨?_⟩
  rw [w_keeps typ kind l0 l1 l2 l3 l4 l5 other at_ bits data (fun o => o = .ret (.bool true))]
  have hl := lab_ok kind (List.map (fun n => UInt8.ofNat n.toNat) [l0, l1, l2, l3, l4, l5]) rfl
  generalize (labB kind (List.map (fun n => UInt8.ofNat n.toNat) [l0, l1, l2, l3, l4, l5])) = B at *
  generalize labK kind = k at *
  have e : (List.take (min (data.length : Int) 5000).toNat data).length ≤ 5000 := by rw [List.length_take]; omega
  generalize List.take (min (data.length : Int) 5000).toNat data = D at *
  have hz := lSize_le k
  have h0 : pErr typ k B (D.length : Int) = 0 := pErr_iff.2 ⟨h1.1, h1.2, hl, by omega⟩
  have hL : ((pSum typ k B D).length : Int) = 4 := by rw [pSum_length h0]; rfl
  have hR : pRight (pTotal k B (D.length : Int)) typ k B D (pSum typ k B D) = 0 := by
    unfold pRight
    rw [if_neg (fun h => h h0), if_neg (fun h => h rfl), if_neg (fun h => h rfl)]
  have hO : ¬ other = pTotal k B (D.length : Int) → pRight other typ k B D (pSum typ k B D) = 4 := by
    intro h
    unfold pRight
    rw [if_neg (fun h => h h0), if_pos h]
  have hp : ¬ (D.length : Int) = 0 → preK D ⟨pSum typ k B D, pTotal k B (D.length : Int), D.length, at_ % (8 * (D.length : Int)), false, 0, D, k, B, at_, bits, typ, kind, l0, l1, l2, l3, l4, l5, data⟩ = true := by
    intro h
    have m1 := Int.emod_nonneg at_ (b := 8 * (D.length : Int)) (by omega)
    have m2 := Int.emod_lt_of_pos at_ (b := 8 * (D.length : Int)) (by omega)
    unfold preK
    simp only [Bool.and_eq_true, decide_eq_true_eq]
    exact ⟨trivial, e, m1, m2, trivial, trivial, rfl⟩
  have fin : ∀ (d' : List UInt8) (t' : Bool) (i' : Int), d'.length = D.length → (∀ pre : List UInt8, Crc.sum (pre ++ d') = Crc.sum (pre ++ D) ↔ t' = false) →
      obl (inI64 typ) (obl (decide (0 + D.length ≤ d'.length)) (obl (decide ((List.take D.length (List.drop 0 d')).length ≤ 9223372036854775000)) (Out.ret (.bool (decide (pRight (pTotal k B (D.length : Int)) typ k B (List.take D.length (List.drop 0 d')) (pSum typ k B D) = 0) == !t')) = Out.ret (.bool true)))) := by
    intro d' t' i' hd ht
    rw [right_turned h0 hd ht]
    simp only [obl_iff, decide_eq_true_eq, inI64_iff, List.drop_zero, List.length_take]
    exact ⟨by omega, by omega, by omega, trivial⟩
  simp only [branch_iff, obl_iff, decide_eq_true_eq, decide_eq_false_iff_not, inI64_iff, h0, hL, hR, decide_true, Bool.not_true, reduceCtorEq, false_implies, true_implies, true_and, Bool.not_eq_true', Bool.not_eq_false'] at fin ⊢
  refine ⟨by omega, h2, by omega, by omega, by omega, by omega, by omega, fun g => ⟨by omega, by omega, by omega, fun g2 => absurd (hO g) g2, fun _ => ⟨fun _ => trivial, fun g3 => ?_⟩⟩, fun g => ⟨fun _ => trivial, fun g3 => ?_⟩⟩
  · exact ⟨by omega, by omega, by omega, by omega, rfl, hp g3, fin⟩
  · exact ⟨by omega, by omega, by omega, by omega, rfl, hp g3, fin⟩

end Go.Proofs.Ytofnedbclnlnmaa
