/-
  The loop of CutWhole without spaces: its law.
-/
import Derived.Test.YtdjidmnehfjmbaaCutWLd
import Derived.Test.YtdjidmnehfjmbaaCutHR
namespace Go.Proofs.Ytdjidmnehfjmbaa
set_option linter.unusedVariables false
set_option linter.unusedSimpArgs false
open Go.RowKit Ev

def GoodV : Swnil → Prop
  | ⟨data, kind, all, i, pst, pen, pid, ptot, ptyp, pk, plb, pdata, psum, typ, k, b, cdata, at_, id, lk, lb, k0, b0⟩ => FixW [] data kind 0 typ cdata id lk lb k0 b0 ∧ MovW data 0 lk lb k0 b0 all i pst psum k b at_

def preV : Swnil → Bool
  | ⟨data, kind, all, i, pst, pen, pid, ptot, ptyp, pk, plb, pdata, psum, typ, k, b, cdata, at_, id, lk, lb, k0, b0⟩ => decide ((0 : Nat) = ([] : List Int).length ∧ cdata = data ∧ typ = 2049 ∧ id = kind ∧ 0 ≤ kind ∧ kind ≤ 255 ∧ 0 < data.length ∧ data.length ≤ 6000 ∧ lOk k0 b0 = true ∧ lOk lk lb = true ∧ ((lk = k0 ∧ lb = b0) ∨ lk = 3) ∧ ([] : List Int).length ≤ 140737488355327) &&
    (([] : List Int).all (fun x => decide (0 ≤ x ∧ x ≤ 65535)) && decide (at_ = 0 ∧ i = 0 ∧ all = [] ∧ k = k0 ∧ b = b0))

theorem preV_ok (s : Swnil) (h : preV s = true) : GoodV s := by
  obtain ⟨data, kind, all, i, pst, pen, pid, ptot, ptyp, pk, plb, pdata, psum, typ, k, b, cdata, at_, id, lk, lb, k0, b0⟩ := s
  unfold preV at h
  simp only [Bool.and_eq_true, decide_eq_true_eq, List.all_eq_true] at h
  obtain ⟨⟨h1, h2, h3, h4, h5, h6, h7, h8, h9, h10, h11, h12⟩, h13, h14, h15, h16, h17, h18⟩ := h
  refine ⟨⟨h1, h2, h3, h4, ⟨h5, h6⟩, h7, h8, h9, h10, h11, h12, h13⟩, ⟨by omega, by omega, by rw [h14, h16]; rfl, fun _ => ⟨h17, h18⟩, fun h => by omega, fun h => by omega, by omega, by omega⟩⟩

def TtV : Swnil → (AExit → Env → AHeap → Prop) → Prop
  | ⟨data, kind, all, i, pst, pen, pid, ptot, ptyp, pk, plb, pdata, psum, typ, k, b, cdata, at_, id, lk, lb, k0, b0⟩, Q => ∀ (i' : Int) (pst' pen' : Bool) (pid' ptot' ptyp' pk' : Int) (plb' pdata' psum' : List UInt8) (k' : Int) (b' : List UInt8), pst' = true ∨ psum' = pSum 2049 lk lb data → contSt (stwnil ⟨data, kind, data, i', pst', pen', pid', ptot', ptyp', pk', plb', pdata', psum', typ, k', b', cdata, (data.length : Int), id, lk, lb, k0, b0⟩) Q

noncomputable def lcV : LC := lcOf 6 findwnil preV TtV

end Go.Proofs.Ytdjidmnehfjmbaa
