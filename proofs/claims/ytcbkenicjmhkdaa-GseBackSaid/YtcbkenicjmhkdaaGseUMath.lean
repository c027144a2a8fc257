/-
  Pieces come back from their bytes: the plain law.
-/
import Derived.Test.YtcbkenicjmhkdaaGseS2
namespace Go.Proofs.Ytcbkenicjmhkdaa
set_option linter.unusedVariables false
set_option linter.unusedSimpArgs false
open Go.RowKit Ev

def errP (p : PieceR) : Int := gErr p.st p.en p.id p.total p.typ p.k p.lb p.data p.sum
def encP (p : PieceR) : List UInt8 := gEnc p.st p.en p.id p.total p.typ p.k p.lb p.data p.sum

theorem u8_nat {n : Int} (h0 : 0 ≤ n) (h1 : n < 256) : ((UInt8.ofNat n.toNat).toNat : Int) = n := by
  rw [UInt8.toNat_ofNat']; omega
theorem by8_zero (x : UInt8) (r : List UInt8) : by8 (x :: r) 0 = (x.toNat : Int) := rfl
theorem by8_succ (x : UInt8) (r : List UInt8) (i : Nat) : by8 (x :: r) (i + 1) = by8 r i := rfl
theorem w16_zero (x y : UInt8) (r : List UInt8) : w16 (x :: y :: r) 0 = (x.toNat : Int) * 256 + (y.toNat : Int) := rfl
theorem w16_succ (x : UInt8) (r : List UInt8) (i : Nat) : w16 (x :: r) (i + 1) = w16 r i := rfl
theorem w16_two {n : Int} (h0 : 0 ≤ n) (h1 : n < 65536) (r : List UInt8) : w16 (UInt8.ofNat (n / 256 % 256).toNat :: UInt8.ofNat (n % 256).toNat :: r) 0 = n := by
  rw [w16_zero, u8_nat (by omega) (by omega), u8_nat (by omega) (by omega)]; omega

/-- A body's parts. -/
theorem parts_of {st en : Bool} {id total typ k : Int} {lb data sum : List UInt8} (hm : gMay st en id total typ k lb sum = true) (q : Int) (hq : st = true → q = k) :
    rOk st en q (gBody st en id total typ lb data sum) = true ∧ dPiece st en q (gBody st en id total typ lb data sum) = ⟨st, en, id, total, typ, k, lb, data, sum⟩ := by
  obtain ⟨z, hz⟩ : ∃ z : Nat, lSize k = (z : Int) := ⟨(lSize k).toNat, by have := lSize_nn k; omega⟩
  have hzn : (lSize k).toNat = z := by omega
  unfold gMay at hm
  simp only [Bool.and_eq_true, decide_eq_true_eq] at hm
  obtain ⟨⟨i0, i1, t0, t1, y0, y1⟩, hm⟩ := hm
  cases st <;> cases en
  · simp only [decide_eq_true_eq] at hm
    obtain ⟨rfl, rfl, rfl, rfl, rfl⟩ := hm
    have e : gBody false false id 0 0 [] data [] = UInt8.ofNat (id % 256).toNat :: data := by simp [gBody]
    rw [e]
    refine ⟨by simp [rOk, rC, rB, rA], ?_⟩
    unfold dPiece
    simp only [rId, rTotal, rTyp, rK, rLb, rData, rSum, rC, rB, rA, Bool.and_false, Bool.false_and, Bool.false_eq_true, if_false, Bool.not_false, Nat.add_zero, by8_zero]
    rw [u8_nat (by omega) (by omega), show id % 256 = id by omega]
    rfl
  · simp only [decide_eq_true_eq] at hm
    obtain ⟨rfl, rfl, rfl, rfl, hs⟩ := hm
    have e : gBody false true id 0 0 [] data sum = UInt8.ofNat (id % 256).toNat :: (data ++ sum) := by simp [gBody]
    rw [e]
    refine ⟨by simp [rOk, rC, rB, rA]; omega, ?_⟩
    unfold dPiece
    simp only [rId, rTotal, rTyp, rK, rLb, rData, rSum, rC, rB, rA, Bool.and_true, Bool.false_and, Bool.false_eq_true, if_false, if_true, Bool.not_false, Nat.add_zero, by8_zero, List.length_cons, List.length_append, hs, List.drop_succ_cons, List.drop_zero]
    rw [u8_nat (by omega) (by omega), show id % 256 = id by omega, show data.length + 4 + 1 - 5 = data.length by omega, show data.length + 4 + 1 - 4 = data.length + 1 by omega, List.drop_succ_cons, List.take_left, List.drop_left]
  · simp only [Bool.and_eq_true, decide_eq_true_eq, lOk] at hm
    obtain ⟨⟨k0, k1, hl⟩, rfl⟩ := hm
    have := hq rfl
    subst this
    have hlz : lb.length = z := by omega
    have e : gBody true false id total typ lb data [] = UInt8.ofNat (id % 256).toNat :: UInt8.ofNat (total / 256 % 256).toNat :: UInt8.ofNat (total % 256).toNat :: UInt8.ofNat (typ / 256 % 256).toNat :: UInt8.ofNat (typ % 256).toNat :: (lb ++ data) := by simp [gBody, two]
    rw [e]
    refine ⟨by simp [rOk, rC, rB, rA, hzn]; omega, ?_⟩
    unfold dPiece
    simp only [rId, rTotal, rTyp, rK, rLb, rData, rSum, rC, rB, rA, Bool.and_false, Bool.and_true, Bool.true_and, Bool.false_eq_true, if_false, if_true, Bool.not_false, Bool.not_true, by8_zero, hzn]
    rw [u8_nat (by omega) (by omega), show id % 256 = id by omega, w16_succ, w16_two t0 t1, show 1 + 2 = 2 + 1 by rfl, w16_succ, w16_succ, w16_succ, w16_two y0 y1, show 2 + 1 + 2 = 4 + 1 by rfl, show 2 + 1 + (2 + z) = z + 5 by omega]
    simp only [List.drop_succ_cons, List.drop_zero]
    rw [← hlz, List.take_left, List.drop_left]
  · simp only [Bool.and_eq_true, decide_eq_true_eq, lOk] at hm
    obtain ⟨⟨⟨rfl, rfl⟩, k0, k1, hl⟩, rfl⟩ := hm
    have := hq rfl
    subst this
    have hlz : lb.length = z := by omega
    have e : gBody true true 0 0 typ lb data [] = UInt8.ofNat (typ / 256 % 256).toNat :: UInt8.ofNat (typ % 256).toNat :: (lb ++ data) := by simp [gBody, two]
    rw [e]
    refine ⟨by simp [rOk, rC, rB, rA, hzn]; omega, ?_⟩
    unfold dPiece
    simp only [rId, rTotal, rTyp, rK, rLb, rData, rSum, rC, rB, rA, Bool.and_false, Bool.and_true, Bool.true_and, Bool.false_eq_true, if_false, if_true, Bool.not_false, Bool.not_true, hzn, Nat.zero_add, Nat.add_zero]
    rw [w16_two y0 y1, show 2 + z = z + 2 by omega]
    simp only [List.drop_succ_cons, List.drop_zero]
    rw [← hlz, List.take_left, List.drop_left]

theorem dec_enc {p : PieceR} (h : errP p = 0) (rest : List UInt8) : dec (encP p ++ rest) = ⟨p, (encP p).length, 0⟩ := by
  obtain ⟨st, en, id, total, typ, k, lb, data, sum⟩ := p
  unfold errP at h
  simp only at h
  obtain ⟨hm, hb, _⟩ := gErr_len h
  have hk := gMay_k hm
  have ee : encP ⟨st, en, id, total, typ, k, lb, data, sum⟩ = two (gHead st en k (gBody st en id total typ lb data sum).length) ++ gBody st en id total typ lb data sum := by
    unfold encP gEnc; simp only; rw [if_pos h]
  have hh : 4096 ≤ gHead st en k (gBody st en id total typ lb data sum).length ∧ gHead st en k (gBody st en id total typ lb data sum).length < 65536 := by
    unfold gHead; cases st <;> cases en <;> simp only [if_true, Bool.false_eq_true, if_false] <;> omega
  have parts := fun q hq => parts_of (data := data) hm q hq
  have e0 : ((encP ⟨st, en, id, total, typ, k, lb, data, sum⟩).length : Int) = 2 + ((gBody st en id total typ lb data sum).length : Int) := by
    rw [ee, List.length_append, show (two (gHead st en k (gBody st en id total typ lb data sum).length)).length = 2 from rfl]; omega
  rw [e0, ee]
  generalize hB : gBody st en id total typ lb data sum = B at *
  generalize hH : gHead st en k B.length = G at *
  have es : two G ++ B ++ rest = UInt8.ofNat (G / 256 % 256).toNat :: UInt8.ofNat (G % 256).toNat :: (B ++ rest) := by simp [two]
  rw [es]
  generalize hs : UInt8.ofNat (G / 256 % 256).toNat :: UInt8.ofNat (G % 256).toNat :: (B ++ rest) = s
  have w : w16 s 0 = G := by rw [← hs]; exact w16_two (by omega) hh.2 _
  have b : by8 s 0 = G / 256 := by rw [← hs, by8_zero, u8_nat (by omega) (by omega)]; omega
  have hl : s.length = 2 + (B.length + rest.length) := by rw [← hs]; simp only [List.length_cons, List.length_append]; omega
  have dl : dLen s = B.length := by
    unfold dLen
    rw [w, ← hH]
    unfold gHead
    cases st <;> cases en <;> simp only [if_true, Bool.false_eq_true, if_false] <;> omega
  have ds : dSt s = st := by
    unfold dSt
    rw [b, ← hH]
    unfold gHead
    cases st <;> cases en <;> simp only [if_true, Bool.false_eq_true, if_false, decide_eq_true_eq, decide_eq_false_iff_not] <;> omega
  have de : dEn s = en := by
    unfold dEn
    rw [b, ← hH]
    unfold gHead
    cases st <;> cases en <;> simp only [if_true, Bool.false_eq_true, if_false, decide_eq_true_eq, decide_eq_false_iff_not] <;> omega
  have dk : dKind s = if st then k else 3 := by
    unfold dKind
    rw [w, ← hH]
    unfold gHead
    cases st <;> cases en <;> simp only [if_true, Bool.false_eq_true, if_false] <;> omega
  have db : dBody s = B := by
    unfold dBody
    rw [dl, ← hs]
    simp only [List.drop_succ_cons, List.drop_zero, List.take_left]
  obtain ⟨p1, p2⟩ := parts (dKind s) (fun h => by rw [dk, h]; rfl)
  have hne : s ≠ [] := by rw [← hs]; simp
  rw [dec_good, ds, de, db, dl, p2]
  · rintro (h1 | h1)
    · exact hne h1
    · omega
  · rintro (h1 | h1 | h1 | h1)
    · omega
    · omega
    · rw [ds, dk] at h1
      obtain ⟨h1, h2⟩ := h1
      rw [h1] at h2
      exact h2 rfl
    · rw [ds, de, db, p1] at h1; cases h1

theorem encP_len {p : PieceR} (h : errP p = 0) : (encP p).length ≤ 4097 := by
  obtain ⟨_, hb, _⟩ := gErr_len h
  have h' : gErr p.st p.en p.id p.total p.typ p.k p.lb p.data p.sum = 0 := h
  unfold encP gEnc
  rw [if_pos h', List.length_append, show ∀ n, (two n).length = 2 from fun _ => rfl]
  omega

/-- Pieces' bytes, one behind the other, and what stands behind. -/
theorem all_back {rest : List UInt8} : ∀ G : List PieceR, (∀ p ∈ G, errP p = 0) → allP (G.flatMap encP ++ rest) = G ++ allP rest ∧ allE (G.flatMap encP ++ rest) = allE rest
  | [], _ => ⟨rfl, rfl⟩
  | p :: G, h => by
    obtain ⟨i1, i2⟩ := all_back (rest := rest) G (fun q hq => h q (List.mem_cons_of_mem _ hq))
    have e : (p :: G).flatMap encP ++ rest = encP p ++ (G.flatMap encP ++ rest) := by simp [List.flatMap_cons]
    have d := dec_enc (h p (List.mem_cons_self ..)) (G.flatMap encP ++ rest)
    rw [e]
    obtain ⟨a1, a2⟩ := all_0 (s := encP p ++ (G.flatMap encP ++ rest)) (by rw [d])
    rw [a1, a2, d]
    simp only [Int.toNat_natCast, List.drop_left]
    exact ⟨by rw [i1]; rfl, i2⟩

theorem all_zeros (n : Nat) : allP (repN n (0 : UInt8)) = [] ∧ allE (repN n (0 : UInt8)) = 0 := by
  refine all_5 ?_
  rw [dec_bad5]
  rw [repN_eq]
  cases n with
  | zero => exact .inl rfl
  | succ n => exact .inr (by decide : (0 : Int) < 16)

theorem all_tail : allP [16] = [] ∧ allE [16] = 4 := by
  have d : dec [16] = ⟨zeroP, 0, 4⟩ := by
    refine dec_bad4 ?_ (.inl (by decide))
    rintro (h | h)
    · cases h
    · exact absurd h (by decide)
  obtain ⟨a1, a2⟩ := all_4 (s := [16]) (by rw [d]; decide) (by rw [d]; decide)
  rw [d] at a2
  exact ⟨a1, a2⟩

end Go.Proofs.Ytcbkenicjmhkdaa
