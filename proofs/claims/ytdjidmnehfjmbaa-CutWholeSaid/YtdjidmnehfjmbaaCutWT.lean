/-
  CutWhole: it is true, where there are spaces.
-/
import Derived.Test.YtdjidmnehfjmbaaCutWW
namespace Go.Proofs.Ytdjidmnehfjmbaa
set_option linter.unusedVariables false
set_option linter.unusedSimpArgs false
open Go.RowKit Ev

structure LawH (X : Ctx) (f : FuncId) (args : List AVal) (H : AHeap) : Prop where
  h : callC X 100 f args H (fun o _ => o = .ret (.bool true))

theorem end_ok {D : List UInt8} {lk k0 : Int} {lb b0 : List UInt8} (h0 : lOk k0 b0 = true) (h1 : lOk lk lb = true) (hD : D.length ≤ 6000) {pst' : Bool} {psum' : List UInt8} (h : pst' = true ∨ psum' = pSum 2049 lk lb D) :
    obl (decide (D.length ≤ 9223372036854775000)) (branch (!pst') (branch (!decide (pErr 2049 lk lb (D.length : Int) = 0)) (Out.ret (.bool false) = .ret (.bool true)) (branch (!decide (psum' = pSum 2049 lk lb D)) (Out.ret (.bool false) = .ret (.bool true))
      (branch (decide (D = D)) (branch (decide ((if lOk k0 b0 = true then (0 : Int) else 2) = 0)) (Out.ret (.bool true) = .ret (.bool true)) (Out.ret (.bool false) = .ret (.bool true))) (Out.ret (.bool false) = .ret (.bool true)))))
      (branch (decide (D = D)) (branch (decide ((if lOk k0 b0 = true then (0 : Int) else 2) = 0)) (Out.ret (.bool true) = .ret (.bool true)) (Out.ret (.bool false) = .ret (.bool true))) (Out.ret (.bool false) = .ret (.bool true)))) := by
  have hz := lSize_le lk
  have he : pErr 2049 lk lb (D.length : Int) = 0 := pErr_iff.2 ⟨by decide, by decide, h1, by omega⟩
  rw [if_pos h0, he]
  cases pst' with
  | true => simp [branch_iff, obl_iff]; omega
  | false =>
    have h2 : psum' = pSum 2049 lk lb D := by simpa using h
    simp [branch_iff, obl_iff, h2]; omega

theorem cwhole_true (data : List UInt8) (kind : Int) (sp : List Int) (h0 : 0 ≤ kind) (h1 : kind ≤ 255) (hn : sp.length ≤ 140737488355327) (hsp : ∀ x ∈ sp, 0 ≤ x ∧ x ≤ 65535) :
    LawH ((TCGW.addLc 5 0 (lcW sp)).ctx Try.prog) 5 [.str data, .int .u8 kind, .sl 0 0 1 0 sp.length none] ⟨1, [(0, .row 22 (intRow .u16) sp .ro)]⟩ := by
  refine ⟨?_⟩
  rw [w_cwhole kind data sp sp.length (fun o => o = .ret (.bool true))]
  have hk : kind % 3 = 0 ∨ kind % 3 = 1 ∨ kind % 3 = 2 := by omega
  have hl : lOk (([0, 1, 2] : List Int).getD (0 + (kind % 3).toNat) 0) (([[97, 98, 99, 100, 101, 102], [120, 121, 122], []] : List (List UInt8)).getD (0 + (kind % 3).toNat) []) = true := by
    rcases hk with h | h | h <;> rw [h] <;> rfl
  generalize ([0, 1, 2] : List Int).getD (0 + (kind % 3).toNat) 0 = k0 at *
  generalize ([[97, 98, 99, 100, 101, 102], [120, 121, 122], []] : List (List UInt8)).getD (0 + (kind % 3).toNat) [] = b0 at *
  have hD : (List.take (min (data.length : Int) 6000).toNat data).length ≤ 6000 := by rw [List.length_take]; omega
  have hsp' : sp.all (fun x => decide (0 ≤ x ∧ x ≤ 65535)) = true := by
    rw [List.all_eq_true]; intro x hx; rw [decide_eq_true_eq]; exact hsp x hx
  have pre : ∀ (D : List UInt8) (lk : Int) (lb : List UInt8), 0 < D.length → D.length ≤ 6000 → lOk lk lb = true → ((lk = k0 ∧ lb = b0) ∨ lk = 3) →
      preW sp ⟨D, kind, sp.length, [], 0, false, false, 0, 0, 0, 0, [], [], [], 2049, k0, b0, D, 0, kind, lk, lb, k0, b0⟩ = true := by
    intro D lk lb g1 g2 g3 g4
    unfold preW
    rw [hsp']
    simp only [Bool.true_and, Bool.and_eq_true, decide_eq_true_eq]
    exact ⟨⟨trivial, trivial, trivial, trivial, h0, h1, g1, g2, hl, g3, g4, hn⟩, trivial, trivial, trivial, trivial, trivial⟩
  refine obl_iff.2 ⟨by rw [decide_eq_true_eq]; omega, branch_iff.2 ⟨fun _ => rfl, fun hne => ?_⟩⟩
  have hpos : 0 < (List.take (min (data.length : Int) 6000).toNat data).length := by
    rw [decide_eq_false_iff_not] at hne
    exact List.length_pos_iff.2 hne
  refine obl_iff.2 ⟨by rw [decide_eq_true_eq]; omega, obl_iff.2 ⟨by rw [decide_eq_true_eq]; omega, obl_iff.2 ⟨by rw [decide_eq_true_eq]; omega, obl_iff.2 ⟨by rw [decide_eq_true_eq]; omega, branch_iff.2 ⟨fun _ => ?_, fun _ => ?_⟩⟩⟩⟩⟩
  · refine obl_iff.2 ⟨by rw [inI64_iff]; omega, rfl, rfl, obl_iff.2 ⟨pre _ 3 [] hpos hD rfl (.inr rfl), fun i' pst' pen' pid' ptot' ptyp' pk' plb' pdata' psum' k' b' h => ?_⟩⟩
    exact end_ok hl rfl hD h
  · refine obl_iff.2 ⟨by rw [inI64_iff]; omega, rfl, rfl, obl_iff.2 ⟨pre _ k0 b0 hpos hD hl (.inl ⟨rfl, rfl⟩), fun i' pst' pen' pid' ptot' ptyp' pk' plb' pdata' psum' k' b' h => ?_⟩⟩
    exact end_ok hl hl hD h

end Go.Proofs.Ytdjidmnehfjmbaa
