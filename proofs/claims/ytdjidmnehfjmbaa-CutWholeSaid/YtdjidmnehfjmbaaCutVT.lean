/-
  CutWhole: it is true, where no spaces are.
-/
import Derived.Test.YtdjidmnehfjmbaaCutVW
import Derived.Test.YtdjidmnehfjmbaaCutWT
namespace Go.Proofs.Ytdjidmnehfjmbaa
set_option linter.unusedVariables false
set_option linter.unusedSimpArgs false
open Go.RowKit Ev

theorem cwholen_true (data : List UInt8) (kind : Int) (h0 : 0 ≤ kind) (h1 : kind ≤ 255) :
    LawH ((TCGW.addLc 5 0 lcV).ctx Try.prog) 5 [.str data, .int .u8 kind, .nils] ⟨1, []⟩ := by
  refine ⟨?_⟩
  rw [w_cwholen kind data (fun o => o = .ret (.bool true))]
  have hk : kind % 3 = 0 ∨ kind % 3 = 1 ∨ kind % 3 = 2 := by omega
  have hl : lOk (([0, 1, 2] : List Int).getD (0 + (kind % 3).toNat) 0) (([[97, 98, 99, 100, 101, 102], [120, 121, 122], []] : List (List UInt8)).getD (0 + (kind % 3).toNat) []) = true := by
    rcases hk with h | h | h <;> rw [h] <;> rfl
  generalize ([0, 1, 2] : List Int).getD (0 + (kind % 3).toNat) 0 = k0 at *
  generalize ([[97, 98, 99, 100, 101, 102], [120, 121, 122], []] : List (List UInt8)).getD (0 + (kind % 3).toNat) [] = b0 at *
  have hD : (List.take (min (data.length : Int) 6000).toNat data).length ≤ 6000 := by rw [List.length_take]; omega
  have pre : ∀ (D : List UInt8) (lk : Int) (lb : List UInt8), 0 < D.length → D.length ≤ 6000 → lOk lk lb = true → ((lk = k0 ∧ lb = b0) ∨ lk = 3) →
      preV ⟨D, kind, [], 0, false, false, 0, 0, 0, 0, [], [], [], 2049, k0, b0, D, 0, kind, lk, lb, k0, b0⟩ = true := by
    intro D lk lb g1 g2 g3 g4
    unfold preV
    simp only [List.all_nil, Bool.true_and, Bool.and_eq_true, decide_eq_true_eq]
    exact ⟨⟨rfl, trivial, trivial, trivial, h0, h1, g1, g2, hl, g3, g4, by simp⟩, trivial, trivial, trivial, trivial, trivial⟩
  refine obl_iff.2 ⟨by rw [decide_eq_true_eq]; omega, branch_iff.2 ⟨fun _ => rfl, fun hne => ?_⟩⟩
  have hpos : 0 < (List.take (min (data.length : Int) 6000).toNat data).length := by
    rw [decide_eq_false_iff_not] at hne
    exact List.length_pos_iff.2 hne
  refine obl_iff.2 ⟨by rw [decide_eq_true_eq]; omega, obl_iff.2 ⟨by rw [decide_eq_true_eq]; omega, obl_iff.2 ⟨by rw [decide_eq_true_eq]; omega, obl_iff.2 ⟨by rw [decide_eq_true_eq]; omega, branch_iff.2 ⟨fun _ => ?_, fun _ => ?_⟩⟩⟩⟩⟩
  · refine obl_iff.2 ⟨by rw [inI64_iff]; omega, obl_iff.2 ⟨pre _ 3 [] hpos hD rfl (.inr rfl), fun i' pst' pen' pid' ptot' ptyp' pk' plb' pdata' psum' k' b' h => ?_⟩⟩
    exact end_ok hl rfl hD h
  · refine obl_iff.2 ⟨by rw [inI64_iff]; omega, obl_iff.2 ⟨pre _ k0 b0 hpos hD hl (.inl ⟨rfl, rfl⟩), fun i' pst' pen' pid' ptot' ptyp' pk' plb' pdata' psum' k' b' h => ?_⟩⟩
    exact end_ok hl hl hD h

end Go.Proofs.Ytdjidmnehfjmbaa
