/-
  The state of a loop of aerial/aeriallaw11.CutAgain.
-/
import Derived.Test.YtdjidmnehfjmbaaCutOk1
namespace Go.Proofs.Ytdjidmnehfjmbaa
set_option linter.unusedVariables false
set_option linter.unusedSimpArgs false
open Go.RowKit Ev

structure Sagain where
  sp : Int
  x : Int
  typ : Int
  k : Int
  b : List UInt8
  data : List UInt8
  at_ : Int
  id : Int
  typ3 : Int
  k3 : Int
  b3 : List UInt8
  data3 : List UInt8
  at3 : Int
  id3 : Int
  lk : Int
  lb : List UInt8

def stagain : Sagain → Env × AHeap
  | ⟨sp, x, typ, k, b, data, at_, id, typ3, k3, b3, data3, at3, id3, lk, lb⟩ => ([(2, .int .u16 sp), (8, .ptr 0 0 0 0), (11, .ptr 3 0 0 0), (13, .ptr 4 0 0 0), (14, .int .i64 x)], ⟨5, [(4, .cells 26 [.int .i64 typ, .int .i64 k, .str b, .str data, .int .i64 at_, .int .i64 id]), (3, .cells 26 [.int .i64 typ3, .int .i64 k3, .str b3, .str data3, .int .i64 at3, .int .i64 id3]), (0, .cells 24 [.int .i64 lk, .str lb])]⟩)

def findagain (E : Env) (H : AHeap) : Option Sagain := (getE E 2).bind fun v0 => (unI .u16 v0).bind fun sp => (getE E 8).bind fun v1 => (unP 0 v1).bind fun _ => (getE E 11).bind fun v2 => (unP 3 v2).bind fun _ => (getE E 13).bind fun v3 => (unP 4 v3).bind fun _ => (getE E 14).bind fun v4 => (unI .i64 v4).bind fun x => (hCells H 4 26).bind fun l5 => (unC l5).bind fun q6 => (unI .i64 q6.1).bind fun typ => (unC q6.2).bind fun q7 => (unI .i64 q7.1).bind fun k => (unC q7.2).bind fun q8 => (unS q8.1).bind fun b => (unC q8.2).bind fun q9 => (unS q9.1).bind fun data => (unC q9.2).bind fun q10 => (unI .i64 q10.1).bind fun at_ => (unC q10.2).bind fun q11 => (unI .i64 q11.1).bind fun id => (unN q11.2).bind fun _ => (hCells H 3 26).bind fun l12 => (unC l12).bind fun q13 => (unI .i64 q13.1).bind fun typ3 => (unC q13.2).bind fun q14 => (unI .i64 q14.1).bind fun k3 => (unC q14.2).bind fun q15 => (unS q15.1).bind fun b3 => (unC q15.2).bind fun q16 => (unS q16.1).bind fun data3 => (unC q16.2).bind fun q17 => (unI .i64 q17.1).bind fun at3 => (unC q17.2).bind fun q18 => (unI .i64 q18.1).bind fun id3 => (unN q18.2).bind fun _ => (hCells H 0 24).bind fun l19 => (unC l19).bind fun q20 => (unI .i64 q20.1).bind fun lk => (unC q20.2).bind fun q21 => (unS q21.1).bind fun lb => (unN q21.2).bind fun _ => some ⟨sp, x, typ, k, b, data, at_, id, typ3, k3, b3, data3, at3, id3, lk, lb⟩

theorem findagain_ok (E : Env) (H : AHeap) (s : Sagain) (h : findagain E H = some s) : subE 5 (stagain s).1 E ∧ subH 5 (stagain s).2.bs H := by
  unfold findagain at h
  simp only [Option.bind_eq_some_iff] at h
  obtain ⟨v0, e0, sp, e1, v1, e2, _, e3, v2, e4, _, e5, v3, e6, _, e7, v4, e8, x, e9, l5, e10, q6, e11, typ, e12, q7, e13, k, e14, q8, e15, b, e16, q9, e17, data, e18, q10, e19, at_, e20, q11, e21, id, e22, _, e23, l12, e24, q13, e25, typ3, e26, q14, e27, k3, e28, q15, e29, b3, e30, q16, e31, data3, e32, q17, e33, at3, e34, q18, e35, id3, e36, _, e37, l19, e38, q20, e39, lk, e40, q21, e41, lb, e42, _, e43, e44⟩ := h
  cases e44
  have f0 := unI_ok e1
  subst f0
  have f2 := unP_ok e3
  subst f2
  have f4 := unP_ok e5
  subst f4
  have f6 := unP_ok e7
  subst f6
  have f8 := unI_ok e9
  subst f8
  have g10 := hCells_ok e10
  rw [unC_ok e11, unI_ok e12, unC_ok e13, unI_ok e14, unC_ok e15, unS_ok e16, unC_ok e17, unS_ok e18, unC_ok e19, unI_ok e20, unC_ok e21, unI_ok e22, unN_ok e23] at g10
  have g24 := hCells_ok e24
  rw [unC_ok e25, unI_ok e26, unC_ok e27, unI_ok e28, unC_ok e29, unS_ok e30, unC_ok e31, unS_ok e32, unC_ok e33, unI_ok e34, unC_ok e35, unI_ok e36, unN_ok e37] at g24
  have g38 := hCells_ok e38
  rw [unC_ok e39, unI_ok e40, unC_ok e41, unS_ok e42, unN_ok e43] at g38
  exact ⟨subE_cons e0 rfl rfl (subE_cons e2 rfl rfl (subE_cons e4 rfl rfl (subE_cons e6 rfl rfl (subE_cons e8 rfl rfl (subE_nil))))), subH_cons g10 rfl rfl rfl (subH_cons g24 rfl rfl rfl (subH_cons g38 rfl rfl rfl (subH_nil)))⟩

end Go.Proofs.Ytdjidmnehfjmbaa
