/-
  The loop of CutWhole: its law.
-/
import Derived.Test.YtdjidmnehfjmbaaCutWLaw
import Derived.Test.YtdjidmnehfjmbaaCutGR
namespace Go.Proofs.Ytdjidmnehfjmbaa
set_option linter.unusedVariables false
set_option linter.unusedSimpArgs false
open Go.RowKit Ev

theorem ob {c : Bool} {A : Prop} (h : c = true) (a : A) : obl c A := obl_iff.2 ⟨h, a⟩
theorem brf {c : Bool} {A B : Prop} (h : c = false) (b : B) : branch c A B := branch_iff.2 ⟨fun g => absurd (h.symm.trans g) (by decide), fun _ => b⟩
theorem brt {c : Bool} {A B : Prop} (h : c = true) (a : A) : branch c A B := branch_iff.2 ⟨fun _ => a, fun g => absurd (h.symm.trans g) (by decide)⟩

/-- What stays. -/
structure FixW (sp : List Int) (data : List UInt8) (kind : Int) (n : Nat) (typ : Int) (cdata : List UInt8) (id lk : Int) (lb : List UInt8) (k0 : Int) (b0 : List UInt8) : Prop where
  n : n = sp.length
  cd : cdata = data
  typ : typ = 2049
  id : id = kind
  kd : 0 ≤ kind ∧ kind ≤ 255
  pos : 0 < data.length
  most : data.length ≤ 6000
  l0 : lOk k0 b0 = true
  l1 : lOk lk lb = true
  like : (lk = k0 ∧ lb = b0) ∨ lk = 3
  nm : sp.length ≤ 140737488355327
  spb : ∀ x ∈ sp, 0 ≤ x ∧ x ≤ 65535

/-- What goes on. -/
structure MovW (data : List UInt8) (n : Nat) (lk : Int) (lb : List UInt8) (k0 : Int) (b0 all : List UInt8) (i : Int) (pst : Bool) (psum : List UInt8) (k : Int) (b : List UInt8) (at_ : Int) : Prop where
  at0 : 0 ≤ at_
  at1 : at_ ≤ (data.length : Int)
  all : all = data.take at_.toNat
  kb0 : at_ = 0 → k = k0 ∧ b = b0
  kb1 : 0 < at_ → at_ < (data.length : Int) → k = lk ∧ b = lb
  last : at_ = (data.length : Int) → pst = true ∨ psum = pSum 2049 lk lb data
  i0 : 0 ≤ i
  i1 : i ≤ (n : Int) + at_

def GoodW (sp : List Int) : Swhole → Prop
  | ⟨data, kind, n, all, i, pst, pen, pid, ptot, ptyp, pk, plb, pdata, psum, typ, k, b, cdata, at_, id, lk, lb, k0, b0⟩ => FixW sp data kind n typ cdata id lk lb k0 b0 ∧ MovW data n lk lb k0 b0 all i pst psum k b at_

def preW (sp : List Int) : Swhole → Bool
  | ⟨data, kind, n, all, i, pst, pen, pid, ptot, ptyp, pk, plb, pdata, psum, typ, k, b, cdata, at_, id, lk, lb, k0, b0⟩ => decide (n = sp.length ∧ cdata = data ∧ typ = 2049 ∧ id = kind ∧ 0 ≤ kind ∧ kind ≤ 255 ∧ 0 < data.length ∧ data.length ≤ 6000 ∧ lOk k0 b0 = true ∧ lOk lk lb = true ∧ ((lk = k0 ∧ lb = b0) ∨ lk = 3) ∧ sp.length ≤ 140737488355327) &&
    (sp.all (fun x => decide (0 ≤ x ∧ x ≤ 65535)) && decide (at_ = 0 ∧ i = 0 ∧ all = [] ∧ k = k0 ∧ b = b0))

theorem preW_ok (sp : List Int) (s : Swhole) (h : preW sp s = true) : GoodW sp s := by
  obtain ⟨data, kind, n, all, i, pst, pen, pid, ptot, ptyp, pk, plb, pdata, psum, typ, k, b, cdata, at_, id, lk, lb, k0, b0⟩ := s
  unfold preW at h
  simp only [Bool.and_eq_true, decide_eq_true_eq, List.all_eq_true] at h
  obtain ⟨⟨h1, h2, h3, h4, h5, h6, h7, h8, h9, h10, h11, h12⟩, h13, h14, h15, h16, h17, h18⟩ := h
  refine ⟨⟨h1, h2, h3, h4, ⟨h5, h6⟩, h7, h8, h9, h10, h11, h12, h13⟩, ⟨by omega, by omega, by rw [h14, h16]; rfl, fun _ => ⟨h17, h18⟩, fun h => by omega, fun h => by omega, by omega, by omega⟩⟩

def TtW (sp : List Int) : Swhole → (AExit → Env → AHeap → Prop) → Prop
  | ⟨data, kind, n, all, i, pst, pen, pid, ptot, ptyp, pk, plb, pdata, psum, typ, k, b, cdata, at_, id, lk, lb, k0, b0⟩, Q => ∀ (i' : Int) (pst' pen' : Bool) (pid' ptot' ptyp' pk' : Int) (plb' pdata' psum' : List UInt8) (k' : Int) (b' : List UInt8), pst' = true ∨ psum' = pSum 2049 lk lb data → contSt (stwhole sp ⟨data, kind, n, data, i', pst', pen', pid', ptot', ptyp', pk', plb', pdata', psum', typ, k', b', cdata, (data.length : Int), id, lk, lb, k0, b0⟩) Q

noncomputable def lcW (sp : List Int) : LC := lcRow (rowswhole sp) 1 6 findwhole (preW sp) (TtW sp)

end Go.Proofs.Ytdjidmnehfjmbaa
