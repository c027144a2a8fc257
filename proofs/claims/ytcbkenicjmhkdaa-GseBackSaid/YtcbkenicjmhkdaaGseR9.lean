/-
  The document's bytes of a piece: the contract.
-/
import Derived.Test.YtcbkenicjmhkdaaGseMath
namespace Go.Proofs.Ytcbkenicjmhkdaa
set_option linter.unusedVariables false
set_option linter.unusedSimpArgs false
open Go.RowKit Ev

theorem renc_sound8 : FcSound Try.prog 13 fcEnc := by
  refine fc_pure TE2ok.ctx (n := 100) Try.call13 (fun args H v h => ?_)
  unfold fcEnc at h
  split at h <;> simp only [Option.some.injEq, Prod.mk.injEq, decide_eq_true_eq, reduceCtorEq] at h
  obtain ⟨hl, rfl⟩ := h
  rename_i st en id total typ k lb data sum
  refine ⟨rfl, rfl, ?_⟩
  cases hm : gMay st en id total typ k lb sum with
  | false =>
    have e1 : gErr st en id total typ k lb data sum = 2 := by unfold gErr; rw [hm]; rfl
    have e2 : gEnc st en id total typ k lb data sum = [] := by unfold gEnc; rw [e1]; rfl
    rw [e1, e2]
    cases st <;> cases en
    · rw [w_renc_ff, hm]; exact rfl
    · rw [w_renc_ft, hm]; exact rfl
    · rw [w_renc_tf, hm]; exact rfl
    · rw [w_renc_tt, hm]; exact rfl
  | true =>
    have hk := gMay_k hm
    have hbody : rBody st en id total typ lb data sum = gBody st en id total typ lb data sum := by
      unfold gMay at hm
      cases st <;> cases en <;> simp at hm <;> simp [rBody, gBody]
      all_goals grind
    have hbd : (st = true → 0 ≤ typ ∧ typ ≤ 65535) ∧ (st = true ∧ en = false → 0 ≤ total ∧ total ≤ 65535) := by
      unfold gMay at hm
      simp only [Bool.and_eq_true, decide_eq_true_eq] at hm
      exact ⟨fun _ => by omega, fun _ => by omega⟩
    have hdom : lb.length + data.length + sum.length ≤ 9223372036854775000 ∧ (st = true → 0 ≤ typ ∧ typ ≤ 65535) ∧ (st = true ∧ en = false → 0 ≤ total ∧ total ≤ 65535) := ⟨hl, hbd.1, hbd.2⟩
    generalize hB : gBody st en id total typ lb data sum = B at hbody
    have e3 : 4095 < B.length → Out.ret (.tup [.str [], .int .i64 3]) = Out.ret (.tup [.str (gEnc st en id total typ k lb data sum), .int .i64 (gErr st en id total typ k lb data sum)]) := fun h => by
      have e1 : gErr st en id total typ k lb data sum = 3 := by unfold gErr; rw [hm, hB, if_neg (by simp), if_pos h]
      have e2 : gEnc st en id total typ k lb data sum = [] := by unfold gEnc; rw [e1]; rfl
      rw [e1, e2]
    have e0 : ¬ 4095 < B.length → ∀ n : Int, n = gHead st en k B.length → Out.ret (.tup [.str (two n ++ B), .int .i64 0]) = Out.ret (.tup [.str (gEnc st en id total typ k lb data sum), .int .i64 (gErr st en id total typ k lb data sum)]) := fun h n hn => by
      have e1 : gErr st en id total typ k lb data sum = 0 := by unfold gErr; rw [hm, hB, if_neg (by simp), if_neg h]
      have e2 : gEnc st en id total typ k lb data sum = two (gHead st en k B.length) ++ B := by unfold gEnc; rw [e1, hB]; rfl
      rw [e1, e2, hn]
    have tw : ∀ n, (two n).length = 2 := fun _ => rfl
    cases st <;> cases en
    · rw [w_renc_ff, hm, hbody]
      simp only [Bool.not_true, branch_f, obl_iff, branch_iff, decide_eq_true_eq, decide_eq_false_iff_not, inI64_iff, Bool.and_eq_true, tw]
      refine ⟨fun h => absurd h (by simp), fun _ => ⟨?_, fun h => e3 (by omega), fun h => ?_⟩⟩
      · have := hdom
        simp only [reduceCtorEq, false_implies, true_implies, false_and, and_false, and_true, and_self] at this ⊢
        try exact this
      (repeat' apply And.intro) <;> first | omega | exact e0 (by omega) _ (by simp [gHead]; omega)
    · rw [w_renc_ft, hm, hbody]
      simp only [Bool.not_true, branch_f, obl_iff, branch_iff, decide_eq_true_eq, decide_eq_false_iff_not, inI64_iff, Bool.and_eq_true, tw]
      refine ⟨fun h => absurd h (by simp), fun _ => ⟨?_, fun h => e3 (by omega), fun h => ?_⟩⟩
      · have := hdom
        simp only [reduceCtorEq, false_implies, true_implies, false_and, and_false, and_true, and_self] at this ⊢
        try exact this
      (repeat' apply And.intro) <;> first | omega | exact e0 (by omega) _ (by simp [gHead]; omega)
    · rw [w_renc_tf, hm, hbody]
      simp only [Bool.not_true, branch_f, obl_iff, branch_iff, decide_eq_true_eq, decide_eq_false_iff_not, inI64_iff, Bool.and_eq_true, tw]
      refine ⟨fun h => absurd h (by simp), fun _ => ⟨?_, fun h => e3 (by omega), fun h => ?_⟩⟩
      · have := hdom
        simp only [reduceCtorEq, false_implies, true_implies, false_and, and_false, and_true, and_self] at this ⊢
        try exact this
      (repeat' apply And.intro) <;> first | omega | exact e0 (by omega) _ (by simp [gHead]; omega)
    · rw [w_renc_tt, hm, hbody]
      simp only [Bool.not_true, branch_f, obl_iff, branch_iff, decide_eq_true_eq, decide_eq_false_iff_not, inI64_iff, Bool.and_eq_true, tw]
      refine ⟨fun h => absurd h (by simp), fun _ => ⟨?_, fun h => e3 (by omega), fun h => ?_⟩⟩
      · have := hdom
        simp only [reduceCtorEq, false_implies, true_implies, false_and, and_false, and_true, and_self] at this ⊢
        try exact this
      (repeat' apply And.intro) <;> first | omega | exact e0 (by omega) _ (by simp [gHead]; omega)

noncomputable def TE : Tabs := (TE2.addFc 13 fcEnc)
theorem TEok : TabsOk TE Try.prog := (TE2ok.addFc renc_sound8)

theorem again_true (s : List UInt8) (at_ : Int) (h0 : 0 ≤ at_) (h1 : at_ ≤ 65535) : LawT (TE2.ctx Try.prog) 3 [.str s, .int .u16 at_] := by
  refine ⟨?_⟩
  rw [w_again8]
  have e1 := take_min8 s 9000
  simp only [Int.cast_ofNat_Int] at e1
  rw [e1]
  have hl : (s.take 9000).length ≤ 9000 := by simp; omega
  generalize s.take 9000 = t at hl
  have hb : (dec t).e ≠ 0 → dec t = ⟨zeroP, 0, 4⟩ ∨ dec t = ⟨zeroP, 0, 5⟩ := by
    intro h
    unfold dec at h ⊢
    split
    · exact .inr rfl
    · split
      · exact .inl rfl
      · rename_i q1 q2; rw [if_neg q1, if_neg q2] at h; exact absurd rfl h
  by_cases he : (dec t).e = 0
  · obtain ⟨g1, g2, g3, g4, g5⟩ := dec_again he
    have gl : (dec t).p.lb.length + (dec t).p.data.length + (dec t).p.sum.length ≤ 9223372036854775000 := by
      have := (gErr_len g1).2.2
      omega
    have key := dec_short he (k := (1 + at_ % ((dec t).n - 1)).toNat) (by
      have := Int.emod_nonneg at_ (show (dec t).n - 1 ≠ 0 by omega); omega) (by
      have := Int.emod_lt_of_pos at_ (show 0 < (dec t).n - 1 by omega)
      have := Int.emod_nonneg at_ (show (dec t).n - 1 ≠ 0 by omega); omega)
    have m1 := Int.emod_lt_of_pos at_ (show 0 < (dec t).n - 1 by omega)
    have m2 := Int.emod_nonneg at_ (show (dec t).n - 1 ≠ 0 by omega)
    simp only [key, g5, he, g1]
    simp only [obl_iff, branch_iff, decide_eq_true_eq, decide_eq_false_iff_not, inI64_iff, Bool.not_eq_true', Bool.not_eq_false', Bool.and_eq_true, List.length_take]
    refine ⟨by omega, by omega, fun h => absurd trivial h, fun _ => ⟨gl, fun h => absurd trivial h, fun _ => ⟨fun h => by omega, fun _ => ⟨fun h => by omega, fun _ => ?_⟩⟩⟩⟩
    refine ⟨by omega, fun h => absurd trivial h, fun _ => ?_⟩
    (repeat' apply And.intro) <;> first | omega | rfl | simp
  · have he' : decide ((dec t).e = 0) = false := by simpa using he
    rw [he']
    simp only [obl_iff, branch_iff, Bool.not_false, reduceCtorEq, false_implies, true_implies, and_true, decide_eq_true_eq, decide_eq_false_iff_not]
    refine ⟨by omega, by omega, ?_⟩
    rcases hb he with h | h <;> rw [h] <;> simp [zeroP]

end Go.Proofs.Ytcbkenicjmhkdaa
