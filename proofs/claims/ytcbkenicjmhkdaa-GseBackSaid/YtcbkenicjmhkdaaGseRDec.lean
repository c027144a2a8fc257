/-
  The document's piece that stands first: the contract.
-/
import Derived.Test.YtcbkenicjmhkdaaGseR3
namespace Go.Proofs.Ytcbkenicjmhkdaa
set_option linter.unusedVariables false
set_option linter.unusedSimpArgs false
open Go.RowKit Ev

theorem by8_eq (s : List UInt8) (i : Nat) : (((s.getD i 0).toNat : Nat) : Int) = by8 s i := rfl
theorem w16_eq (s : List UInt8) : by8 s 0 * 256 + by8 s 1 = w16 s 0 := rfl
theorem st_eq (s : List UInt8) : decide (32768 ≤ w16 s 0) = dSt s := by
  unfold dSt w16
  have := by8_bd s (0 + 1)
  rw [decide_eq_decide]; omega
theorem en_eq (s : List UInt8) : decide (w16 s 0 / 16384 % 2 = 1) = dEn s := by
  unfold dEn w16
  have := by8_bd s (0 + 1)
  have := by8_bd s 0
  rw [decide_eq_decide]; omega
theorem st_eq0 (s : List UInt8) : decide ((32768 : Int) ≤ (((s.getD 0 0).toNat : Nat) : Int) * 256 + (((s.getD 1 0).toNat : Nat) : Int)) = dSt s := st_eq s
theorem en_eq0 (s : List UInt8) : decide (((((s.getD 0 0).toNat : Nat) : Int) * 256 + (((s.getD 1 0).toNat : Nat) : Int)) / 16384 % 2 = 1) = dEn s := en_eq s
theorem len_eq (s : List UInt8) : w16 s 0 % 4096 = (dLen s : Int) := by
  have := w16_bd s 0
  unfold dLen; omega
theorem body_eq (s : List UInt8) : (s.take ((2 : Int) + (dLen s : Int)).toNat).drop 2 = dBody s := by
  have e : ((2 : Int) + (dLen s : Int)).toNat = dLen s + 2 := by omega
  rw [e, List.drop_take]
  rfl

/-- Behind the first two bytes. -/
theorem rdec_tail (s : List UInt8) (hl : s.length ≤ 9223372036854775000) (hn : ¬ (s = [] ∨ by8 s 0 < 16)) (h2 : 2 ≤ s.length) {n k : Int} (hnn : n = (dLen s : Int)) (hkk : k = dKind s) (v42_1 v41_2 v40_3 v39_4 v38_5 v37_6 v36_7 v35_9 v34_10 v33_11 v32_13 v31_14 v5_15 v30_16 v29_17 v28_18 v27_19 v26_20 v25_21 v24_22 v23_23 v21_24 v20_25 v19_26 v17_27 v16_28 v13_29 v15_30 v13_31 v14_32 v13_33 v13_34 v12_35 v11_36 : AVal) : wpC (TD.ctx Try.prog) 93 16 0 (tailN 7 (bodyC Try.f16)) ((8, .ptr 10 0 0 0) :: (42, v42_1) :: (41, v41_2) :: (40, v40_3) :: (39, v39_4) :: (38, v38_5) :: (37, v37_6) :: (36, v36_7) :: (7, .int .i64 k) :: (35, v35_9) :: (34, v34_10) :: (33, v33_11) :: (6, .int .i64 n) :: (32, v32_13) :: (31, v31_14) :: (5, v5_15) :: (30, v30_16) :: (29, v29_17) :: (28, v28_18) :: (27, v27_19) :: (26, v26_20) :: (25, v25_21) :: (24, v24_22) :: (23, v23_23) :: (21, v21_24) :: (20, v20_25) :: (19, v19_26) :: (17, v17_27) :: (16, v16_28) :: (13, v13_29) :: (15, v15_30) :: (13, v13_31) :: (14, v14_32) :: (13, v13_33) :: (13, v13_34) :: (12, v12_35) :: (11, v11_36) :: (4, .int .i64 0) :: (3, .int .i64 0) :: (2, .ptr 0 0 0 0) :: (0, .str s) :: []) ⟨11, [(10, .cells 27 [.bool (dSt s), .bool (dEn s), .int .i64 0, .int .i64 0, .int .i64 0, .int .i64 0, .str [], .str [], .str []]), (10, .cells 27 [.bool false, .bool false, .int .i64 0, .int .i64 0, .int .i64 0, .int .i64 0, .str [], .str [], .str []]), (0, .cells 27 [.bool false, .bool false, .int .i64 0, .int .i64 0, .int .i64 0, .int .i64 0, .str [], .str [], .str []])]⟩ (endA (TD.ctx Try.prog).P Try.f16 (fun o _ => o = .ret (decV (dec s)))) := by
  subst hnn hkk
  have k4 : (s.length < 2 ∨ s.length < 2 + dLen s ∨ (dSt s = false ∧ dKind s ≠ 3) ∨ rOk (dSt s) (dEn s) (dKind s) (dBody s) = false) → Out.ret (.tup [.agg [.bool false, .bool false, .int .i64 0, .int .i64 0, .int .i64 0, .int .i64 0, .str [], .str [], .str []], .int .i64 0, .int .i64 4]) = Out.ret (decV (dec s)) := fun h2 => by rw [dec_bad4 hn h2]; rfl
  have hbl : 2 + dLen s ≤ s.length → (dBody s).length = dLen s := fun h => by show ((s.drop 2).take (dLen s)).length = _; simp; omega
  have hbl2 : (dBody s).length ≤ 9223372036854775000 := by show ((s.drop 2).take (dLen s)).length ≤ _; simp; omega
  have hdl : dLen s < 4096 := by have := len_eq s; omega
  have k0 : ¬ (s.length < 2 ∨ s.length < 2 + dLen s ∨ (dSt s = false ∧ dKind s ≠ 3) ∨ rOk (dSt s) (dEn s) (dKind s) (dBody s) = false) → ∀ {st en : Bool} {id total typ k' n : Int} {lb data sum : List UInt8}, st = dSt s → en = dEn s → id = rId (dSt s) (dEn s) (dBody s) → total = rTotal (dSt s) (dEn s) (dBody s) → typ = rTyp (dSt s) (dEn s) (dBody s) → k' = rK (dSt s) (dKind s) → lb = rLb (dSt s) (dEn s) (dKind s) (dBody s) → data = rData (dSt s) (dEn s) (dKind s) (dBody s) → sum = rSum (dSt s) (dEn s) (dBody s) → n = 2 + (dLen s : Int) → Out.ret (.tup [.agg [.bool st, .bool en, .int .i64 id, .int .i64 total, .int .i64 typ, .int .i64 k', .str lb, .str data, .str sum], .int .i64 n, .int .i64 0]) = Out.ret (decV (dec s)) := by
    rintro h2 _ _ _ _ _ _ _ _ _ _ rfl rfl rfl rfl rfl rfl rfl rfl rfl rfl
    rw [dec_good hn h2]
    rfl
  have hk := lSize_nn (dKind s)
  generalize hG : (fun o : Out => o = .ret (decV (dec s))) = G
  have hG' : ∀ o, G o = (o = .ret (decV (dec s))) := fun o => by rw [← hG]
  generalize dec s = D at k4 k0 hG'
  cases hst : dSt s <;> cases hen : dEn s <;> simp only [hst, hen] at k0 k4
  · have hr : rOk false false (dKind s) (dBody s) = decide (1 ≤ (dBody s).length) := by simp [rOk, rC, rB, rA]
    simp only [hr, decide_eq_false_iff_not, true_and] at k0 k4
    have b0 := by8_bd (dBody s) 0
    rw [w_rdec2_ff]
    simp only [branch_iff, obl_iff, decide_eq_true_eq, decide_eq_false_iff_not, Bool.and_eq_true, inI64_iff, Bool.not_false, Bool.not_true, Bool.not_eq_true', Bool.not_eq_false', hG', body_eq, by8_eq]
    (repeat' (first | apply And.intro | intro _)) <;> first | omega | exact k4 (by omega) | exact k0 (by omega) rfl rfl rfl rfl rfl rfl rfl rfl rfl rfl
  · have hr : rOk false true (dKind s) (dBody s) = decide (5 ≤ (dBody s).length) := by simp [rOk, rC, rB, rA]
    simp only [hr, decide_eq_false_iff_not, true_and] at k0 k4
    have b0 := by8_bd (dBody s) 0
    rw [w_rdec2_ft]
    simp only [branch_iff, obl_iff, decide_eq_true_eq, decide_eq_false_iff_not, Bool.and_eq_true, inI64_iff, Bool.not_false, Bool.not_true, Bool.not_eq_true', Bool.not_eq_false', hG', body_eq, by8_eq, List.length_drop]
    have d1 : 5 ≤ (dBody s).length → ((dBody s).drop 1).take ((((dBody s).length - 1 : Nat) : Int) - 4).toNat = rData false true (dKind s) (dBody s) := fun h => by
      show _ = ((dBody s).drop 1).take ((dBody s).length - 5)
      congr 1; omega
    have d2 : 5 ≤ (dBody s).length → ((dBody s).drop 1).drop ((((dBody s).length - 1 : Nat) : Int) - 4).toNat = rSum false true (dBody s) := fun h => by
      show _ = (dBody s).drop ((dBody s).length - 4)
      rw [List.drop_drop]; congr 1; omega
    (repeat' (first | apply And.intro | intro _)) <;> first | omega | exact k4 (by omega) | exact k0 (by omega) rfl rfl rfl rfl rfl rfl rfl (d1 (by omega)) (d2 (by omega)) rfl
  · obtain ⟨z, hz⟩ : ∃ z : Nat, lSize (dKind s) = (z : Int) := ⟨(lSize (dKind s)).toNat, by omega⟩
    have hr : rOk true false (dKind s) (dBody s) = decide (5 + z ≤ (dBody s).length) := by
      simp [rOk, rC, rB, rA, hz]; omega
    simp only [hr, decide_eq_false_iff_not, reduceCtorEq, false_and, false_or] at k0 k4
    have b0 := by8_bd (dBody s) 0
    have b1 := by8_bd (dBody s) 1
    have b2 := by8_bd (dBody s) 2
    have b3 := by8_bd (dBody s) 3
    have b4 := by8_bd (dBody s) 4
    have d0 : rLb true false (dKind s) (dBody s) = ((dBody s).drop 5).take z := by simp [rLb, rB, rA, hz]
    have d1 : rData true false (dKind s) (dBody s) = (dBody s).drop (5 + z) := by simp [rData, rC, rB, rA, hz]; congr 1; omega
    rw [w_rdec2_tf]
    simp only [branch_iff, obl_iff, decide_eq_true_eq, decide_eq_false_iff_not, Bool.and_eq_true, inI64_iff, Bool.not_false, Bool.not_true, Bool.not_eq_true', Bool.not_eq_false', hG', body_eq, by8_eq, List.length_drop, List.drop_drop, by8_drop, hz, Nat.reduceAdd]
    have e1 : (((dBody s).drop 3).take ((2 : Int) + (z : Int)).toNat).drop 2 = rLb true false (dKind s) (dBody s) := by
      rw [d0, show ((2 : Int) + (z : Int)).toNat = z + 2 by omega, List.drop_take, List.drop_drop]; rfl
    have e2 : (dBody s).drop (3 + ((2 : Int) + (z : Int)).toNat) = rData true false (dKind s) (dBody s) := by
      rw [d1]; congr 1; omega
    (repeat' (first | apply And.intro | intro _)) <;> first | omega | exact k4 (by omega) | exact k0 (by omega) rfl rfl rfl rfl rfl rfl e1 e2 rfl rfl
  · obtain ⟨z, hz⟩ : ∃ z : Nat, lSize (dKind s) = (z : Int) := ⟨(lSize (dKind s)).toNat, by omega⟩
    have hr : rOk true true (dKind s) (dBody s) = decide (2 + z ≤ (dBody s).length) := by
      simp [rOk, rC, rB, rA, hz]
    simp only [hr, decide_eq_false_iff_not, reduceCtorEq, false_and, false_or] at k0 k4
    have b0 := by8_bd (dBody s) 0
    have b1 := by8_bd (dBody s) 1
    have d0 : rLb true true (dKind s) (dBody s) = ((dBody s).drop 2).take z := by simp [rLb, rB, rA, hz]
    have d1 : rData true true (dKind s) (dBody s) = (dBody s).drop (2 + z) := by simp [rData, rC, rB, rA, hz]
    rw [w_rdec2_tt]
    simp only [branch_iff, obl_iff, decide_eq_true_eq, decide_eq_false_iff_not, Bool.and_eq_true, inI64_iff, Bool.not_false, Bool.not_true, Bool.not_eq_true', Bool.not_eq_false', hG', body_eq, by8_eq, List.length_drop, List.drop_drop, by8_drop, hz, Nat.reduceAdd]
    have e1 : ((dBody s).take ((2 : Int) + (z : Int)).toNat).drop 2 = rLb true true (dKind s) (dBody s) := by
      rw [d0, show ((2 : Int) + (z : Int)).toNat = z + 2 by omega, List.drop_take]; rfl
    have e2 : (dBody s).drop ((2 : Int) + (z : Int)).toNat = rData true true (dKind s) (dBody s) := by
      rw [d1]; congr 1 <;> omega
    (repeat' (first | apply And.intro | intro _)) <;> first | omega | exact k4 (by omega) | exact k0 (by omega) rfl rfl rfl rfl rfl rfl e1 e2 rfl rfl

theorem rdec_sound : FcSound Try.prog 16 fcDec := by
  refine fc_pure TDok.ctx (n := 93 + 7) Try.call16 (fun args H v h => ?_)
  unfold fcDec at h
  split at h <;> simp only [Option.some.injEq, Prod.mk.injEq, decide_eq_true_eq, reduceCtorEq] at h
  obtain ⟨hl, rfl⟩ := h
  rename_i s
  refine ⟨rfl, rfl, ?_⟩
  refine callC_cut (fn := Try.f16) (c := bodyC Try.f16) (by kernel_rfl) (by kernel_rfl) rfl (by kernel_rfl) ?_
  show wpN (TD.ctx Try.prog) 7 100 16 0 (bodyC Try.f16) (env0 [.str s] 0) ⟨0, []⟩ _ (endA Try.prog Try.f16 (fun o _ => o = .ret (decV (dec s))))
  rw [w_rdec1 s _ (fun o => o = .ret (decV (dec s)))]
  have hw := w16_bd s 0
  have hb0 : (0 : Int) ≤ (((s.getD 0 0).toNat : Nat) : Int) ∧ (((s.getD 0 0).toNat : Nat) : Int) < 256 := by8_bd s 0
  have hb1 : (0 : Int) ≤ (((s.getD 1 0).toNat : Nat) : Int) ∧ (((s.getD 1 0).toNat : Nat) : Int) < 256 := by8_bd s 1
  have k5 : (s = [] ∨ by8 s 0 < 16) → Out.ret (.tup [.agg [.bool false, .bool false, .int .i64 0, .int .i64 0, .int .i64 0, .int .i64 0, .str [], .str [], .str []], .int .i64 0, .int .i64 5]) = Out.ret (decV (dec s)) := fun h => by rw [dec_bad5 h]; rfl
  have k4 : ¬ (s = [] ∨ by8 s 0 < 16) → s.length < 2 → Out.ret (.tup [.agg [.bool false, .bool false, .int .i64 0, .int .i64 0, .int .i64 0, .int .i64 0, .str [], .str [], .str []], .int .i64 0, .int .i64 4]) = Out.ret (decV (dec s)) := fun h h2 => by rw [dec_bad4 h (.inl h2)]; rfl
  simp only [branch_iff, obl_iff, decide_eq_true_eq, decide_eq_false_iff_not, Bool.and_eq_true, inI64_iff]
  simp only [st_eq0, en_eq0]
  refine ⟨fun h0 => k5 (.inl h0), fun h0 => ?_⟩
  have hp : 0 < s.length := List.length_pos_iff.2 h0
  refine ⟨by omega, fun h1 => k5 (.inr h1), fun h1 => ?_⟩
  have hn : ¬ (s = [] ∨ by8 s 0 < 16) := by rintro (h | h) <;> contradiction
  refine ⟨fun h2 => k4 hn (by omega), fun h2 => ?_⟩
  refine ⟨by omega, by omega, by omega, by omega, by omega, by omega, by omega, by omega, ?_⟩
  exact rdec_tail s hl hn (by omega) (len_eq s) rfl _ _ _ _ _ _ _ _ _ _ _ _ _ _ _ _ _ _ _ _ _ _ _ _ _ _ _ _ _ _ _ _ _ _

noncomputable def TRD : Tabs := (TD.addFc 16 fcDec)
theorem TRDok : TabsOk TRD Try.prog := (TDok.addFc rdec_sound)

end Go.Proofs.Ytcbkenicjmhkdaa
