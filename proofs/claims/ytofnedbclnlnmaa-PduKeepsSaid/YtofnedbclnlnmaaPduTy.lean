/-
  Sums of texts that differ within two bytes; PduTypes is true.
-/
import Derived.Test.YtofnedbclnlnmaaPduW6
import Derived.Test.YtofnedbclnlnmaaPduLaw
namespace Go.Proofs.Ytofnedbclnlnmaa
set_option linter.unusedVariables false
set_option linter.unusedSimpArgs false
open Go.RowKit Ev

theorem step_left {r s : BitVec 32} {b : Nat} : Crc.step r b = Crc.step s b ↔ r = s := by
  constructor
  · intro h
    have := Crc.turns_inj 8 h
    exact (BitVec.xor_left_inj _).1 this
  · rintro rfl; rfl

theorem top_inj {x y : UInt8} (h : BitVec.ofNat 32 x.toNat <<< 24 = BitVec.ofNat 32 y.toNat <<< 24) : x = y := by
  have h1 := congrArg BitVec.toNat h
  have hx := x.toNat_lt
  have hy := y.toNat_lt
  simp [BitVec.toNat_shiftLeft, Nat.shiftLeft_eq] at h1
  apply UInt8.toNat_inj.1
  omega

theorem step_byte {s : BitVec 32} {x y : UInt8} : Crc.step s x.toNat = Crc.step s y.toNat ↔ x = y := by
  constructor
  · intro h
    have := Crc.turns_inj 8 h
    exact top_inj ((BitVec.xor_right_inj _).1 this)
  · rintro rfl; rfl

theorem step_byte' {s : BitVec 32} {a b : Nat} : Crc.step s (a % 256) = Crc.step s (b % 256) ↔ UInt8.ofNat a = UInt8.ofNat b := by
  rw [← step_byte (s := s), UInt8.toNat_ofNat', UInt8.toNat_ofNat']

theorem cell_low : ∀ d : Fin 256, (Crc.cell d.val).toNat % 16777216 = 0 → d.val = 0 := by decide +kernel

theorem low_xor (a b : BitVec 32) : (a ^^^ b).toNat % 16777216 = (a.toNat % 16777216) ^^^ (b.toNat % 16777216) := by
  rw [BitVec.toNat_xor]
  exact Nat.xor_mod_two_pow (n := 24)

theorem top_low (x : UInt8) : (BitVec.ofNat 32 x.toNat <<< 24).toNat % 16777216 = 0 := by
  simp [BitVec.toNat_shiftLeft, Nat.shiftLeft_eq]

theorem fold_two {s : BitVec 32} {x y x' y' : UInt8} : Crc.fold s [x, y] = Crc.fold s [x', y'] ↔ x = x' ∧ y = y' := by
  constructor
  · intro h
    have h1 : Crc.step (Crc.step s x.toNat) y.toNat = Crc.step (Crc.step s x'.toNat) y'.toNat := h
    have h2 := Crc.turns_inj 8 h1
    unfold Crc.step at h2
    rw [Crc.turns_xor, Crc.turns_xor, BitVec.xor_assoc, BitVec.xor_assoc] at h2
    have h3 := (BitVec.xor_right_inj _).1 h2
    have h4 := congrArg (fun r : BitVec 32 => r.toNat % 16777216) h3
    simp only [low_xor, top_low, Nat.xor_zero] at h4
    have hx := x.toNat_lt
    have hx' := x'.toNat_lt
    have hb : x.toNat ^^^ x'.toNat < 256 := Nat.xor_lt_two_pow (n := 8) hx hx'
    have h5 : (Crc.cell (x.toNat ^^^ x'.toNat)).toNat % 16777216 = 0 := by
      have e : Crc.cell (x.toNat ^^^ x'.toNat) = Crc.turns 8 (BitVec.ofNat 32 x.toNat <<< 24) ^^^ Crc.turns 8 (BitVec.ofNat 32 x'.toNat <<< 24) := by
        unfold Crc.cell
        rw [← Crc.turns_xor, ← BitVec.shiftLeft_xor_distrib]
        congr 2
        apply BitVec.eq_of_toNat_eq
        simp only [BitVec.toNat_ofNat, BitVec.toNat_xor]
        rw [Nat.mod_eq_of_lt (by omega), Nat.mod_eq_of_lt (by omega), Nat.mod_eq_of_lt (by omega)]
      rw [e, low_xor, h4, Nat.xor_self]
    have h6 := cell_low ⟨_, hb⟩ h5
    have hxx : x = x' := by
      apply UInt8.toNat_inj.1
      have h7 : x.toNat ^^^ x'.toNat = 0 := h6
      have := congrArg (· ^^^ x'.toNat) h7
      simpa [Nat.xor_assoc] using this
    subst hxx
    exact ⟨rfl, top_inj ((BitVec.xor_right_inj _).1 h3)⟩
  · rintro ⟨rfl, rfl⟩; rfl

theorem fold_left {r s : BitVec 32} : ∀ {l : List UInt8}, Crc.fold r l = Crc.fold s l ↔ r = s := by
  intro l
  induction l generalizing r s with
  | nil => exact Iff.rfl
  | cons b l ih =>
    show Crc.fold (Crc.step r b.toNat) l = Crc.fold (Crc.step s b.toNat) l ↔ _
    rw [ih, step_left]

theorem crcN_mid {A X Y B : List UInt8} : crcN (A ++ X ++ B) = crcN (A ++ Y ++ B) ↔ Crc.fold (Crc.fold 0xffffffff#32 A) X = Crc.fold (Crc.fold 0xffffffff#32 A) Y := by
  unfold crcN Crc.sum
  rw [Crc.fold_append, Crc.fold_append, Crc.fold_append, Crc.fold_append]
  constructor
  · intro h
    have h1 : (Crc.fold (Crc.fold (Crc.fold 0xffffffff#32 A) X) B).toNat = (Crc.fold (Crc.fold (Crc.fold 0xffffffff#32 A) Y) B).toNat := by omega
    exact fold_left.1 (BitVec.eq_of_toNat_eq h1)
  · intro h; rw [h]

theorem two_inj {a b : Int} (ha : 0 ≤ a) (ha' : a ≤ 65535) (hb : 0 ≤ b) (hb' : b ≤ 65535) : (UInt8.ofNat (a / 256 % 256).toNat = UInt8.ofNat (b / 256 % 256).toNat ∧ UInt8.ofNat (a % 256).toNat = UInt8.ofNat (b % 256).toNat) ↔ a = b := by
  constructor
  · rintro ⟨h1, h2⟩
    have h1 := congrArg UInt8.toNat h1
    have h2 := congrArg UInt8.toNat h2
    rw [UInt8.toNat_ofNat', UInt8.toNat_ofNat'] at h1 h2
    omega
  · rintro rfl; exact ⟨rfl, rfl⟩

theorem pSum_iff {t1 t2 k : Int} {b1 b2 data : List UInt8} (h1 : pErr t1 k b1 (data.length : Int) = 0) (h2 : pErr t2 k b2 (data.length : Int) = 0) : pSum t1 k b1 data = pSum t2 k b2 data ↔ crcN (pText t1 k b1 data) = crcN (pText t2 k b2 data) := by
  unfold pSum
  rw [if_pos h1, if_pos h2]
  have a := crcN_bd (pText t1 k b1 data)
  have b := crcN_bd (pText t2 k b2 data)
  exact ⟨fun h => four_inj a.1 a.2 b.1 b.2 h, fun h => by rw [h]⟩

theorem pSum_typ {t1 t2 k : Int} {b data : List UInt8} (h1 : pErr t1 k b (data.length : Int) = 0) (h2 : pErr t2 k b (data.length : Int) = 0) : pSum t1 k b data = pSum t2 k b data ↔ t2 = t1 := by
  rw [pSum_iff h1 h2]
  have a := pErr_iff.1 h1
  have c := pErr_iff.1 h2
  unfold pText
  rw [List.append_assoc _ b data, List.append_assoc _ b data, crcN_mid]
  unfold two
  rw [fold_two, two_inj a.1 a.2.1 c.1 c.2.1]
  exact eq_comm

theorem pSum_lab {t k : Int} {b1 b2 data : List UInt8} (h1 : pErr t k b1 (data.length : Int) = 0) (h2 : pErr t k b2 (data.length : Int) = 0) : pSum t k b1 data = pSum t k b2 data ↔ Crc.fold (Crc.fold 0xffffffff#32 (two (2 + lSize k + (data.length : Int)) ++ two t)) b1 = Crc.fold (Crc.fold 0xffffffff#32 (two (2 + lSize k + (data.length : Int)) ++ two t)) b2 := by
  rw [pSum_iff h1 h2]
  unfold pText
  rw [crcN_mid]

theorem labB_ok (kind : Int) (h : 0 ≤ kind) {b : List UInt8} (hb : b.length = 6) : lOk (labK kind) (labB kind b) = true := by
  unfold lOk labK labB lSize
  rw [decide_eq_true_eq]
  have : kind % 3 = 0 ∨ kind % 3 = 1 ∨ kind % 3 = 2 := by omega
  rcases this with h | h | h <;> rw [h] <;> simp [hb]

theorem types_true (typ kind l0 l1 l2 l3 l4 l5 typ2 at_ : Int) (data : List UInt8) (h1 : 0 ≤ typ ∧ typ ≤ 65535) (h2 : 0 ≤ kind) (h3 : 0 ≤ typ2 ∧ typ2 ≤ 65535) (h4 : 0 ≤ at_) :
    LawT (TP4.ctx Try.prog) 4 [.agg [.int .u16 typ, .int .u8 kind, .int .u8 l0, .int .u8 l1, .int .u8 l2, .int .u8 l3, .int .u8 l4, .int .u8 l5, .str data], .int .u16 typ2, .int .u8 at_] := by
  refine ⟨?_⟩
  rw [w_types typ kind l0 l1 l2 l3 l4 l5 typ2 at_ data (fun o => o = .ret (.bool true))]
  have hl : (List.take (min (data.length : Int) 2000).toNat data).length ≤ 2000 := by rw [List.length_take]; omega
  generalize List.take (min (data.length : Int) 2000).toNat data = d at hl ⊢
  have hk := lSize_le (labK kind)
  have ok : ∀ {t : Int} {b : List UInt8}, 0 ≤ t → t ≤ 65535 → b.length = 6 → pErr t (labK kind) (labB kind b) (d.length : Int) = 0 := fun ht ht' hb => pErr_iff.2 ⟨ht, ht', labB_ok kind h2 hb, by omega⟩
  have e1 : decide (pSum typ (labK kind) (labB kind (List.map (fun n => UInt8.ofNat n.toNat) [l0, l1, l2, l3, l4, l5])) d = pSum typ2 (labK kind) (labB kind (List.map (fun n => UInt8.ofNat n.toNat) [l0, l1, l2, l3, l4, l5])) d) = decide (typ2 = typ) :=
    decide_eq_decide.2 (pSum_typ (ok h1.1 h1.2 rfl) (ok h3.1 h3.2 rfl))
  rw [e1]
  have hm := Int.emod_nonneg at_ (b := 6) (by decide)
  have hm2 := Int.emod_lt_of_pos at_ (b := 6) (by decide)
  simp only [beq_self_eq_true, Bool.not_true, branch_iff, obl_iff, reduceCtorEq, false_implies, true_implies, true_and, decide_eq_true_eq, inI64_iff, List.length_cons, List.length_nil]
  refine ⟨by omega, h2, by omega, by omega, by omega, by omega, by omega, by omega, by omega, by omega, by omega, h2, by omega, by omega, ?_⟩
  congr 2
  have sl : ∀ (b : List UInt8), b.length = 6 → (pSum typ (labK kind) (labB kind b) d = pSum typ (labK kind) (labB kind (List.map (fun n => UInt8.ofNat n.toNat) [l0, l1, l2, l3, l4, l5])) d ↔ labB kind b = labB kind (List.map (fun n => UInt8.ofNat n.toNat) [l0, l1, l2, l3, l4, l5])) →
      (decide (pSum typ (labK kind) (labB kind b) d = pSum typ (labK kind) (labB kind (List.map (fun n => UInt8.ofNat n.toNat) [l0, l1, l2, l3, l4, l5])) d) == (decide True && (decide (labB kind b = labB kind (List.map (fun n => UInt8.ofNat n.toNat) [l0, l1, l2, l3, l4, l5])) && true))) = true := by
    intro b hb h
    by_cases hh : labB kind b = labB kind (List.map (fun n => UInt8.ofNat n.toNat) [l0, l1, l2, l3, l4, l5])
    · have hq := h.2 hh
      simp only [hh, hq, decide_true, Bool.and_true, beq_self_eq_true]
    · have hq := fun q => hh (h.1 q)
      rw [decide_eq_false hh, decide_eq_false hq]
      simp
  refine sl _ ?_ ?_
  · rfl
  rw [pSum_lab (ok h1.1 h1.2 rfl) (ok h1.1 h1.2 rfl)]
  generalize Crc.fold 0xffffffff#32 (two (2 + lSize (labK kind) + (d.length : Int)) ++ two typ) = s
  generalize ([l0, l1, l2, l3, l4, l5].getD (at_ % 6).toNat 0 + 1) % 256 = z
  have cases6 : (at_ % 6).toNat = 0 ∨ (at_ % 6).toNat = 1 ∨ (at_ % 6).toNat = 2 ∨ (at_ % 6).toNat = 3 ∨ (at_ % 6).toNat = 4 ∨ (at_ % 6).toNat = 5 := by omega
  have cases3 : kind % 3 = 0 ∨ kind % 3 = 1 ∨ kind % 3 = 2 := by omega
  unfold labB
  rcases cases6 with h | h | h | h | h | h <;> rcases cases3 with g | g | g <;> simp [h, g, Crc.fold, step_left, step_byte']

end Go.Proofs.Ytofnedbclnlnmaa
