/-
  CutAgain: it is true.
-/
import Derived.Test.YtdjidmnehfjmbaaCutAL
namespace Go.Proofs.Ytdjidmnehfjmbaa
set_option linter.unusedVariables false
set_option linter.unusedSimpArgs false
open Go.RowKit Ev

theorem n1_whole {D : List UInt8} {n : Int} (h1 : 2 ≤ D.length) (h2 : D.length ≤ 302) (hn : 1 ≤ n) (hn2 : n ≤ (D.length : Int) - 1) (h : (D.length : Int) ≤ n + 3) :
    nextR 2048 1 [120, 121, 122] D 0 3 1 [120, 121, 122] (10 + n) false = ⟨true, true, 0, 0, 2048, 1, [120, 121, 122], D, [], 1, [120, 121, 122], (D.length : Int), 0⟩ := by
  have hm : cMay 2048 1 [120, 121, 122] D 0 3 = true := cMay_iff.2 ⟨by decide, by decide, rfl, by decide, by omega, by omega, by decide, by decide⟩
  have hk : nOk 2048 1 [120, 121, 122] D 0 3 1 [120, 121, 122] = true := by unfold nOk; rw [hm]; rfl
  have e3 : lSize 1 = 3 := rfl
  unfold nextR
  rw [if_neg (by rw [hk]; simp), if_pos rfl, if_pos (by omega)]

theorem n1_start {D : List UInt8} {n : Int} (h1 : 2 ≤ D.length) (h2 : D.length ≤ 302) (hn : 1 ≤ n) (h : n + 3 < (D.length : Int)) :
    nextR 2048 1 [120, 121, 122] D 0 3 1 [120, 121, 122] (10 + n) false = ⟨true, false, 3, pTotal 1 [120, 121, 122] (D.length : Int), 2048, 1, [120, 121, 122], D.take n.toNat, [], 1, [120, 121, 122], n, 0⟩ := by
  have hm : cMay 2048 1 [120, 121, 122] D 0 3 = true := cMay_iff.2 ⟨by decide, by decide, rfl, by decide, by omega, by omega, by decide, by decide⟩
  have hk : nOk 2048 1 [120, 121, 122] D 0 3 1 [120, 121, 122] = true := by unfold nOk; rw [hm]; rfl
  have e3 : lSize 1 = 3 := rfl
  have e4 : min (max 0 (min (10 + n) 4097) - 7 - lSize 1) ((D.length : Int) - 1) = n := by omega
  unfold nextR
  rw [if_neg (by rw [hk]; simp), if_pos rfl, if_neg (by omega), if_neg (by rw [e4]; simp; omega), e4]

theorem cagain_true (data : List UInt8) (at_ sp : Int) (hd : data.length ≤ maxLen) (h0 : 0 ≤ at_) (h1 : at_ ≤ 65535) (h2 : 0 ≤ sp) (h3 : sp ≤ 65535) : LawT (TCA.ctx Try.prog) 3 [.str data, .int .u16 at_, .int .u16 sp] := by
  refine ⟨?_⟩
  rw [w_cagain at_ sp data (fun o => o = .ret (.bool true))]
  have hl : (List.take (min (data.length : Int) 300).toNat data).length ≤ 300 := by rw [List.length_take]; omega
  have hD : 2 ≤ ([97, 98] ++ List.take (min (data.length : Int) 300).toNat data).length ∧ ([97, 98] ++ List.take (min (data.length : Int) 300).toNat data).length ≤ 302 := by
    simp only [List.length_append, List.length_cons, List.length_nil]; omega
  generalize List.take (min (data.length : Int) 300).toNat data = d at hl hD ⊢
  generalize hDD : ([97, 98] : List UInt8) ++ d = D at hD ⊢
  obtain ⟨d1, d2⟩ := hD
  have hmod := Int.emod_nonneg at_ (b := (D.length : Int) - 1) (by omega)
  have hmod2 := Int.emod_lt_of_pos at_ (b := (D.length : Int) - 1) (by omega)
  have hsp := Int.emod_nonneg sp (b := 400) (by decide)
  have hsp2 := Int.emod_lt_of_pos sp (b := 400) (by decide)
  have hmax : maxLen = 9223372036854775807 := rfl
  generalize hn : 1 + at_ % ((D.length : Int) - 1) = n
  by_cases h : (D.length : Int) ≤ n + 3
  · rw [n1_whole d1 d2 (by omega) (by omega) h]
    simp only [branch_iff, obl_iff, inI64_iff, decide_eq_true_eq, decide_eq_false_iff_not, decide_true, Bool.not_true, reduceCtorEq, false_implies, true_implies, true_and, and_true, not_true_eq_false]
    refine ⟨by omega, by omega, by omega, by omega, by omega, by omega, by omega, by omega, by omega, fun _ => trivial, fun hh => ?_⟩
    exfalso; omega
  · rw [n1_start d1 d2 (by omega) (by omega)]
    have hp : preA ⟨sp, 0, 2048, 1, [120, 121, 122], D, 0, 3, 2048, 1, [120, 121, 122], D, n, 3, 1, [120, 121, 122]⟩ = true := by
      have hm : cMay 2048 1 [120, 121, 122] D 0 3 = true := cMay_iff.2 ⟨by decide, by decide, rfl, by decide, by omega, by omega, by decide, by decide⟩
      unfold preA
      simp only [hm, Bool.true_and, Bool.and_eq_true, decide_eq_true_eq]
      exact ⟨trivial, trivial, trivial, trivial, by omega, by omega, by omega⟩
    simp only [hp, branch_iff, obl_iff, inI64_iff, decide_eq_true_eq, decide_eq_false_iff_not, decide_true, Bool.not_true, Bool.not_false, reduceCtorEq, false_implies, true_implies, true_and, and_true, not_true_eq_false, beq_self_eq_true, Bool.and_self, Bool.true_and, Bool.and_true]
    refine ⟨by omega, by omega, by omega, by omega, by omega, by omega, by omega, by omega, by omega⟩

end Go.Proofs.Ytdjidmnehfjmbaa
