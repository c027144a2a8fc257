/-
  Pieces and their bytes: the plain laws.
-/
import Derived.Test.YtjacnjecggedhaaEm4
import Derived.Test.YtjacnjecggedhaaGseDec
namespace Go.Proofs.Ytjacnjecggedhaa
set_option linter.unusedVariables false
set_option linter.unusedSimpArgs false
open Go.RowKit Ev

theorem byte_of (b : List UInt8) (i : Nat) (h : i < b.length) : UInt8.ofNat (by8 b i).toNat = b[i] := by
  unfold by8
  simp [List.getD_eq_getElem?_getD, List.getElem?_eq_getElem h]
theorem drop_take1 (b : List UInt8) (i : Nat) (h : i < b.length) : (b.drop i).take 1 = [b[i]] := by
  rw [List.drop_eq_getElem_cons h]; rfl
theorem drop_take2 (b : List UInt8) (i : Nat) (h : i + 1 < b.length) : (b.drop i).take 2 = [b[i], b[i + 1]] := by
  rw [List.drop_eq_getElem_cons (by omega), List.take_succ_cons, drop_take1 b (i + 1) h]
theorem two_of (b : List UInt8) (i : Nat) (h : i + 2 ≤ b.length) : two (w16 b i) = (b.drop i).take 2 := by
  have h0 := by8_bd b i
  have h1 := by8_bd b (i + 1)
  unfold two w16
  rw [show (by8 b i * 256 + by8 b (i + 1)) / 256 % 256 = by8 b i by omega, show (by8 b i * 256 + by8 b (i + 1)) % 256 = by8 b (i + 1) by omega,
    byte_of b i (by omega), byte_of b (i + 1) (by omega), drop_take2 b i (by omega)]
theorem one_of (b : List UInt8) (h : 1 ≤ b.length) : [UInt8.ofNat (by8 b 0 % 256).toNat] = b.take 1 := by
  have h0 := by8_bd b 0
  rw [show by8 b 0 % 256 = by8 b 0 by omega, byte_of b 0 (by omega)]
  exact (drop_take1 b 0 (by omega)).symm
theorem take_two (b : List UInt8) (i j : Nat) : b.take i ++ (b.drop i).take j = b.take (i + j) := List.take_add.symm

/-- A body's fields are a piece that may be; its body is that body. -/
theorem piece_of {st en : Bool} {k : Int} {b : List UInt8} (hk : 0 ≤ k ∧ k < 4) (hk3 : st = false → k = 3) (h : rOk st en k b = true) :
    gMay st en (rId st en b) (rTotal st en b) (rTyp st en b) (rK st k) (rLb st en k b) (rSum st en b) = true ∧ gBody st en (rId st en b) (rTotal st en b) (rTyp st en b) (rLb st en k b) (rData st en k b) (rSum st en b) = b := by
  have b0 := by8_bd b 0
  have b1 := w16_bd b 1
  have b3 := w16_bd b 3
  have bz := w16_bd b 0
  have hz := lSize_nn k
  obtain ⟨z, hz'⟩ : ∃ z : Nat, lSize k = (z : Int) := ⟨(lSize k).toNat, by omega⟩
  have hzn : (lSize k).toNat = z := by omega
  cases st <;> cases en
  · have hl : 1 ≤ b.length := by simpa [rOk, rC, rB, rA] using h
    constructor
    · simp [gMay, rId, rTotal, rTyp, rK, rLb, rSum]; omega
    · simp only [gBody, rId, rTotal, rTyp, rLb, rData, rSum, rC, rB, rA]
      simp only [Bool.and_false, Bool.false_eq_true, if_false, Bool.not_false, Bool.and_true, Bool.false_and, List.append_nil, Bool.not_true, Nat.add_zero]
      rw [one_of b hl]
      exact List.take_append_drop 1 b
  · have hl : 5 ≤ b.length := by simpa [rOk, rC, rB, rA] using h
    constructor
    · simp [gMay, rId, rTotal, rTyp, rK, rLb, rSum]; omega
    · simp only [gBody, rId, rTotal, rTyp, rLb, rData, rSum, rC, rB, rA]
      simp only [Bool.and_true, Bool.false_eq_true, if_false, Bool.not_true, Bool.and_false, Bool.false_and, List.append_nil, Bool.not_false, if_true]
      rw [one_of b (by omega), take_two, show 1 + (b.length - 5) = b.length - 4 by omega]
      exact List.take_append_drop _ b
  · have hl : 5 + z ≤ b.length := by simp [rOk, rC, rB, rA, hzn] at h; omega
    constructor
    · simp [gMay, rId, rTotal, rTyp, rK, rLb, rSum, lOk, rB, rA, hz', hzn]; omega
    · simp only [gBody, rId, rTotal, rTyp, rLb, rData, rSum, rC, rB, rA]
      simp only [Bool.and_false, Bool.false_eq_true, if_false, Bool.not_false, Bool.and_true, if_true, Bool.not_true, Bool.false_and, hzn]
      rw [one_of b (by omega), two_of b 1 (by omega), take_two, two_of b (1 + 2) (by omega), ← List.append_assoc, take_two, show 1 + 2 + 2 = 5 by omega, take_two, List.append_nil, show 1 + 2 + (2 + z) = 5 + z by omega]
      exact List.take_append_drop _ b
  · have hl : 2 + z ≤ b.length := by simpa [rOk, rC, rB, rA, hzn] using h
    constructor
    · simp [gMay, rId, rTotal, rTyp, rK, rLb, rSum, lOk, rB, rA, hz', hzn]; omega
    · simp only [gBody, rId, rTotal, rTyp, rLb, rData, rSum, rC, rB, rA]
      simp only [Bool.and_true, Bool.not_true, Bool.and_false, Bool.false_eq_true, if_false, if_true, Bool.false_and, List.nil_append, List.append_nil, Nat.zero_add, hzn, Nat.add_zero]
      rw [two_of b 0 (by omega), List.drop_zero, take_two]
      exact List.take_append_drop _ b

/-- What is taken of bytes, laid again. -/
theorem dec_again {s : List UInt8} (h : (dec s).e = 0) : gErr (dec s).p.st (dec s).p.en (dec s).p.id (dec s).p.total (dec s).p.typ (dec s).p.k (dec s).p.lb (dec s).p.data (dec s).p.sum = 0 ∧
    2 ≤ (dec s).n ∧ (dec s).n ≤ s.length ∧ (dec s).n ≤ 4097 ∧ gEnc (dec s).p.st (dec s).p.en (dec s).p.id (dec s).p.total (dec s).p.typ (dec s).p.k (dec s).p.lb (dec s).p.data (dec s).p.sum = s.take (dec s).n.toNat := by
  by_cases h5 : s = [] ∨ by8 s 0 < 16
  · rw [dec_bad5 h5] at h; cases h
  by_cases h4 : s.length < 2 ∨ s.length < 2 + dLen s ∨ (dSt s = false ∧ dKind s ≠ 3) ∨ rOk (dSt s) (dEn s) (dKind s) (dBody s) = false
  · rw [dec_bad4 h5 h4] at h; cases h
  rw [dec_good h5 h4]
  have hw := w16_bd s 0
  have c1 : ¬ s.length < 2 := fun h => h4 (.inl h)
  have c2 : ¬ s.length < 2 + dLen s := fun h => h4 (.inr (.inl h))
  have c3 : dSt s = false → dKind s = 3 := fun h => Classical.byContradiction fun hk => h4 (.inr (.inr (.inl ⟨h, hk⟩)))
  have c4 : rOk (dSt s) (dEn s) (dKind s) (dBody s) = true := by
    cases hr : rOk (dSt s) (dEn s) (dKind s) (dBody s) with
    | true => rfl
    | false => exact absurd (.inr (.inr (.inr hr))) h4
  have hdl : dLen s < 4096 := by have := len_eq s; omega
  have hbl : (dBody s).length = dLen s := by show ((s.drop 2).take (dLen s)).length = _; simp; omega
  obtain ⟨p1, p2⟩ := piece_of (st := dSt s) (en := dEn s) (k := dKind s) (b := dBody s) (by unfold dKind; omega) c3 c4
  have e1 : gErr (dSt s) (dEn s) (rId (dSt s) (dEn s) (dBody s)) (rTotal (dSt s) (dEn s) (dBody s)) (rTyp (dSt s) (dEn s) (dBody s)) (rK (dSt s) (dKind s)) (rLb (dSt s) (dEn s) (dKind s) (dBody s)) (rData (dSt s) (dEn s) (dKind s) (dBody s)) (rSum (dSt s) (dEn s) (dBody s)) = 0 := by
    unfold gErr
    rw [p1, p2, if_neg (by simp), if_neg (by omega)]
  refine ⟨e1, by simp only; omega, by simp only; omega, by simp only; omega, ?_⟩
  show gEnc (dSt s) (dEn s) (rId (dSt s) (dEn s) (dBody s)) (rTotal (dSt s) (dEn s) (dBody s)) (rTyp (dSt s) (dEn s) (dBody s)) (rK (dSt s) (dKind s)) (rLb (dSt s) (dEn s) (dKind s) (dBody s)) (rData (dSt s) (dEn s) (dKind s) (dBody s)) (rSum (dSt s) (dEn s) (dBody s)) = s.take ((2 : Int) + (dLen s : Int)).toNat
  unfold gEnc
  rw [if_pos e1, p2, hbl]
  have eh : gHead (dSt s) (dEn s) (rK (dSt s) (dKind s)) (dLen s) = w16 s 0 := by
    have h0 := by8_bd s 0
    have h1 := by8_bd s (0 + 1)
    have hl := len_eq s
    have hs1 : dSt s = decide (128 ≤ by8 s 0) := rfl
    have hs2 : dEn s = decide (64 ≤ by8 s 0 % 128) := rfl
    have hkd : dKind s = w16 s 0 / 4096 % 4 := rfl
    have hw16 : w16 s 0 = by8 s 0 * 256 + by8 s (0 + 1) := rfl
    unfold gHead rK
    cases hst : dSt s <;> cases hen : dEn s <;> rw [hst] at hs1 c3 <;> rw [hen] at hs2 <;> have hs1 := hs1.symm <;> have hs2 := hs2.symm <;> simp only [decide_eq_true_eq, decide_eq_false_iff_not] at hs1 hs2 <;> simp only [if_true, Bool.false_eq_true, if_false]
    · have := c3 rfl; omega
    · have := c3 rfl; omega
    · omega
    · omega
  rw [eh, two_of s 0 (by omega), List.drop_zero, show ((2 : Int) + (dLen s : Int)).toNat = 2 + dLen s by omega]
  exact take_two s 2 (dLen s)

theorem by8_take' {s : List UInt8} {k i : Nat} (h : i < k) : by8 (s.take k) i = by8 s i := by8_take s i k h

/-- A beginning of a piece's bytes is none. -/
theorem dec_short {s : List UInt8} (h : (dec s).e = 0) {k : Nat} (h1 : 1 ≤ k) (h2 : (k : Int) < (dec s).n) : dec (s.take k) = ⟨zeroP, 0, 4⟩ := by
  by_cases h5 : s = [] ∨ by8 s 0 < 16
  · rw [dec_bad5 h5] at h; cases h
  by_cases h4 : s.length < 2 ∨ s.length < 2 + dLen s ∨ (dSt s = false ∧ dKind s ≠ 3) ∨ rOk (dSt s) (dEn s) (dKind s) (dBody s) = false
  · rw [dec_bad4 h5 h4] at h; cases h
  rw [dec_good h5 h4] at h2
  simp only at h2
  have c2 : ¬ s.length < 2 + dLen s := fun h => h4 (.inr (.inl h))
  have hl : (s.take k).length = k := by simp; omega
  refine dec_bad4 ?_ ?_
  · rintro (hn | hn)
    · rw [hn] at hl; simp at hl; omega
    · rw [by8_take' (by omega)] at hn; exact h5 (.inr hn)
  · by_cases hk : k < 2
    · exact .inl (by omega)
    · refine .inr (.inl ?_)
      have e : dLen (s.take k) = dLen s := by
        unfold dLen w16
        rw [by8_take' (by omega), by8_take' (by omega)]
      rw [e]
      omega

/-- What goes into bytes is short. -/
theorem gErr_len {st en : Bool} {id total typ k : Int} {lb data sum : List UInt8} (h : gErr st en id total typ k lb data sum = 0) : gMay st en id total typ k lb sum = true ∧ (gBody st en id total typ lb data sum).length ≤ 4095 ∧ lb.length + data.length + sum.length ≤ 4095 := by
  unfold gErr at h
  have hm : gMay st en id total typ k lb sum = true := by
    cases hm : gMay st en id total typ k lb sum with
    | true => rfl
    | false => rw [hm] at h; simp at h
  rw [hm, if_neg (by simp)] at h
  have hl : ¬ 4095 < (gBody st en id total typ lb data sum).length := fun hc => by rw [if_pos hc] at h; cases h
  refine ⟨hm, by omega, ?_⟩
  have tw : ∀ n, (two n).length = 2 := fun _ => rfl
  unfold gMay at hm
  have hlb : st = false → lb = [] := by
    intro hs
    subst hs
    cases en <;> simp at hm <;> grind
  cases st <;> cases en <;> simp [gBody, tw] at hl <;> first | omega | (rw [hlb rfl]; simp; omega)

end Go.Proofs.Ytjacnjecggedhaa
