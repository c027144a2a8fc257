/-
  The loop of PduKeeps: its law.
-/
import Derived.Test.YtofnedbclnlnmaaPduKR
import Derived.Test.YtofnedbclnlnmaaPduKSt
import Derived.Test.YtofnedbclnlnmaaPduKMath
namespace Go.Proofs.Ytofnedbclnlnmaa
set_option linter.unusedVariables false
set_option linter.unusedSimpArgs false
open Go.RowKit Ev

theorem xor8 (b : UInt8) (r : Nat) (hr : r < 8) : bitsA .xor .u8 (b.toNat : Int) ((128 : Int) / pow2 .u8 (r : Int)) = ((b.toNat ^^^ 2 ^ (7 - r) : Nat) : Int) ∧ b.toNat ^^^ 2 ^ (7 - r) < 256 := by
  have cs : r = 0 ∨ r = 1 ∨ r = 2 ∨ r = 3 ∨ r = 4 ∨ r = 5 ∨ r = 6 ∨ r = 7 := by omega
  have e : (128 : Int) / pow2 .u8 (r : Int) = ((2 ^ (7 - r) : Nat) : Int) := by
    rcases cs with h | h | h | h | h | h | h | h <;> subst h <;> rfl
  have hp : 2 ^ (7 - r) < 2 ^ 8 := by
    rcases cs with h | h | h | h | h | h | h | h <;> subst h <;> decide
  have hb := b.toNat_lt
  have e2 : b.toNat ^^^ 2 ^ (7 - r) < 2 ^ 8 := Nat.xor_lt_two_pow (by omega) hp
  rw [e]
  refine ⟨?_, e2⟩
  unfold bitsA
  generalize 2 ^ (7 - r) = y at *
  have e1 : (BitVec.ofInt IntKind.u8.bits (b.toNat : Int) ^^^ BitVec.ofInt IntKind.u8.bits (y : Int)).toNat = b.toNat ^^^ y := by
    rw [BitVec.toNat_xor, BitVec.toNat_ofInt, BitVec.toNat_ofInt]
    congr 1 <;> · simp only [IntKind.bits]; omega
  show IntKind.u8.wrap _ = _
  rw [e1]
  generalize b.toNat ^^^ y = z at *
  show (z : Int) % 256 = z
  omega

structure GoodK (D : List UInt8) (s : SK) : Prop where
  L : s.L = D.length
  most : D.length ≤ 5000
  f0 : 0 ≤ s.first
  f1 : s.first < 8 * (D.length : Int)
  i0 : 0 ≤ s.i
  i1 : s.i ≤ 32
  inv : Crc.InvK D s.first.toNat s.i.toNat s.d s.turned

def preK (D : List UInt8) (s : SK) : Bool := decide (s.L = D.length) && (decide (D.length ≤ 5000) && (decide (0 ≤ s.first) && (decide (s.first < 8 * (D.length : Int)) && (decide (s.i = 0) && (decide (s.d = D) && (!s.turned))))))

theorem preK_ok (D : List UInt8) (s : SK) (h : preK D s = true) : GoodK D s := by
  unfold preK at h
  simp only [Bool.and_eq_true, decide_eq_true_eq, Bool.not_eq_true'] at h
  obtain ⟨h1, h2, h3, h4, h5, h6, h7⟩ := h
  refine ⟨h1, h2, h3, h4, by omega, by omega, ?_⟩
  rw [h5, h6, h7]
  exact Crc.InvK.start D s.first.toNat

def TtK (D : List UInt8) : SK → (AExit → Env → AHeap → Prop) → Prop
  | ⟨s, n, L, first, turned, i, d, k, lb, at_, bits, typ, kind, l0, l1, l2, l3, l4, l5, data⟩, Q => ∀ (d' : List UInt8) (t' : Bool) (i' : Int), d'.length = D.length → (∀ pre : List UInt8, Crc.sum (pre ++ d') = Crc.sum (pre ++ D) ↔ t' = false) → contSt (stK ⟨s, n, L, first, t', i', d', k, lb, at_, bits, typ, kind, l0, l1, l2, l3, l4, l5, data⟩) Q

noncomputable def lcK (D : List UInt8) : LC := lcRow (rowsK D) 0 4 (findK D) (preK D) (TtK D)

theorem lcK_sound (D : List UInt8) : LcSound Try.prog TP4.fns 6 0 (lcK D) := by
  refine lcRow_sound TP4ok (fn := Try.f6) (n := 100) rfl (by kernel_rfl) (rowsK D) stK (fun s => by cases s; rfl) (findK_ok D) (GoodK D) (preK_ok D) (fun s => (32 - s.i).toNat) [3, 5, 8, 9, 11, 12, 13, 14, 15] [3, 2, 1, 0] 4 ?_
  rintro base ⟨s, n, L, first, turned, i, d, k, lb, at_, bits, typ, kind, l0, l1, l2, l3, l4, l5, data⟩ Q hb1 hg hb hT
  obtain ⟨hL, h5, f0, f1, i0, i1, inv⟩ := hg
  simp only at hL f0 f1 i0 i1 inv
  subst hL
  obtain ⟨F, rfl⟩ := Int.eq_ofNat_of_zero_le f0
  obtain ⟨I, rfl⟩ := Int.eq_ofNat_of_zero_le i0
  rw [Int.toNat_natCast, Int.toNat_natCast] at inv
  have hlen := inv.len
  show wpC _ _ _ _ _ _ _ _
  simp only [stK]
  rw [w_kround s n D.length F turned I d k lb at_ bits typ kind l0 l1 l2 l3 l4 l5 data base (Round base 0 stK (GoodK D) (fun s => (32 - s.i).toNat) (fun s' => TtK D s' Q) ⟨s, n, D.length, F, turned, I, d, k, lb, at_, bits, typ, kind, l0, l1, l2, l3, l4, l5, data⟩ Q)]
  have next : ∀ (d' : List UInt8) (t' : Bool), I < 32 → Crc.InvK D F (I + 1) d' t' → Round base 0 stK (GoodK D) (fun s => (32 - s.i).toNat) (fun s' => TtK D s' Q) ⟨s, n, D.length, F, turned, I, d, k, lb, at_, bits, typ, kind, l0, l1, l2, l3, l4, l5, data⟩ Q .normal
      (stK ⟨s, n, D.length, F, t', (I : Int) + 1, d', k, lb, at_, bits, typ, kind, l0, l1, l2, l3, l4, l5, data⟩).1 (stK ⟨s, n, D.length, F, t', (I : Int) + 1, d', k, lb, at_, bits, typ, kind, l0, l1, l2, l3, l4, l5, data⟩).2 := by
    intro d' t' hlt hinv
    refine ⟨⟨s, n, D.length, F, t', (I : Int) + 1, d', k, lb, at_, bits, typ, kind, l0, l1, l2, l3, l4, l5, data⟩, ⟨rfl, h5, f0, f1, by show 0 ≤ (I : Int) + 1; omega, by show (I : Int) + 1 ≤ 32; omega, ?_⟩, by show (32 - ((I : Int) + 1)).toNat < (32 - (I : Int)).toNat; omega, hT, .inl ⟨?_, ?_⟩⟩
    · show Crc.InvK D (F : Int).toNat ((I : Int) + 1).toNat d' t'
      rw [Int.toNat_natCast, show ((I : Int) + 1).toNat = I + 1 by omega]
      exact hinv
    · repeat' (first | exact subE_nil | refine subE_cons rfl rfl rfl ?_)
    · repeat' (first | exact subH_nil | refine subH_cons rfl rfl rfl rfl ?_)
  have out : Round base 0 stK (GoodK D) (fun s => (32 - s.i).toNat) (fun s' => TtK D s' Q) ⟨s, n, D.length, F, turned, I, d, k, lb, at_, bits, typ, kind, l0, l1, l2, l3, l4, l5, data⟩ Q (.exit 0)
      (stK ⟨s, n, D.length, F, turned, I, d, k, lb, at_, bits, typ, kind, l0, l1, l2, l3, l4, l5, data⟩).1 (stK ⟨s, n, D.length, F, turned, I, d, k, lb, at_, bits, typ, kind, l0, l1, l2, l3, l4, l5, data⟩).2 := by
    refine ⟨_, (stK ⟨s, n, D.length, F, turned, I, d, k, lb, at_, bits, typ, kind, l0, l1, l2, l3, l4, l5, data⟩).2, hb, ?_, ?_, trivial, contSt_iff.1 (hT d turned (I : Int) hlen (fun pre => inv.fin pre))⟩
    · repeat' (first | exact subE_nil | refine subE_cons rfl rfl rfl ?_)
    · repeat' (first | exact subH_nil | refine subH_cons rfl rfl rfl rfl ?_)
  simp only [branch_iff, obl_iff, decide_eq_true_eq, decide_eq_false_iff_not, inI64_iff]
  refine ⟨fun g1 => ⟨by omega, by omega, fun g2 => ⟨i0, fun g3 => ?_, fun g3 => ⟨by omega, next d turned (by omega) inv.keep⟩⟩, fun g2 => out⟩, fun g1 => out⟩
  have er : ((F : Int) + (I : Int)) % 8 = (((F + I) % 8 : Nat) : Int) := by omega
  have ej : 0 + (((F : Int) + (I : Int)) / 8).toNat = (F + I) / 8 := by omega
  obtain ⟨x1, x2⟩ := xor8 (d.getD ((F + I) / 8) 0) ((F + I) % 8) (by omega)
  have hx : (UInt8.ofNat ((d.getD ((F + I) / 8) 0).toNat ^^^ 2 ^ (7 - (F + I) % 8))).toNat = (d.getD ((F + I) / 8) 0).toNat ^^^ 2 ^ (7 - (F + I) % 8) := by
    rw [UInt8.toNat_ofNat']
    exact Nat.mod_eq_of_lt x2
  have hfl := inv.flip (by omega) (by omega) hx
  rw [ej, er, x1, Int.toNat_natCast]
  refine ⟨by omega, ?_, by omega, by omega, by omega, by omega, by omega, by omega, ?_, by omega, next _ true (by omega) hfl⟩
  · rw [Bool.and_eq_true, decide_eq_true_eq, inI64_iff]; omega
  · rw [Bool.and_eq_true, decide_eq_true_eq, decide_eq_true_eq]; omega

end Go.Proofs.Ytofnedbclnlnmaa
