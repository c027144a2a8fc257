/-
  The state of a loop of aerial/aeriallaw11.CutWhole.
-/
import Derived.Test.YtdjidmnehfjmbaaCutOk1
namespace Go.Proofs.Ytdjidmnehfjmbaa
set_option linter.unusedVariables false
set_option linter.unusedSimpArgs false
open Go.RowKit Ev

structure Swhole where
  data : List UInt8
  kind : Int
  n : Nat
  all : List UInt8
  i : Int
  pst : Bool
  pen : Bool
  pid : Int
  ptot : Int
  ptyp : Int
  pk : Int
  plb : List UInt8
  pdata : List UInt8
  psum : List UInt8
  typ : Int
  k : Int
  b : List UInt8
  cdata : List UInt8
  at_ : Int
  id : Int
  lk : Int
  lb : List UInt8
  k0 : Int
  b0 : List UInt8

def stwhole (sp : List Int) : Swhole → Env × AHeap
  | ⟨data, kind, n, all, i, pst, pen, pid, ptot, ptyp, pk, plb, pdata, psum, typ, k, b, cdata, at_, id, lk, lb, k0, b0⟩ => ([(0, .str data), (1, .int .u8 kind), (2, .sl 0 0 1 0 n none), (7, .ptr 2 0 0 0), (8, .ptr 3 0 0 0), (9, .ptr 4 0 0 0), (10, .str all), (11, .ptr 5 0 0 0), (12, .int .i64 i)], ⟨6, [(5, .cells 28 [.bool pst, .bool pen, .int .i64 pid, .int .i64 ptot, .int .i64 ptyp, .int .i64 pk, .str plb, .str pdata, .str psum]), (4, .cells 26 [.int .i64 typ, .int .i64 k, .str b, .str cdata, .int .i64 at_, .int .i64 id]), (3, .cells 24 [.int .i64 lk, .str lb]), (2, .cells 24 [.int .i64 k0, .str b0]), (0, .row 22 (intRow .u16) sp .ro)]⟩)

def rowswhole (sp : List Int) (H : AHeap) : Prop := H.get 0 = some (.row 22 (intRow .u16) sp .ro)

def findwhole (E : Env) (H : AHeap) : Option Swhole := (getE E 0).bind fun v0 => (unS v0).bind fun data => (getE E 1).bind fun v1 => (unI .u8 v1).bind fun kind => (getE E 2).bind fun v2 => (unR 0 1 v2).bind fun n => (getE E 7).bind fun v3 => (unP 2 v3).bind fun _ => (getE E 8).bind fun v4 => (unP 3 v4).bind fun _ => (getE E 9).bind fun v5 => (unP 4 v5).bind fun _ => (getE E 10).bind fun v6 => (unS v6).bind fun all => (getE E 11).bind fun v7 => (unP 5 v7).bind fun _ => (getE E 12).bind fun v8 => (unI .i64 v8).bind fun i => (hCells H 5 28).bind fun l9 => (unC l9).bind fun q10 => (unB q10.1).bind fun pst => (unC q10.2).bind fun q11 => (unB q11.1).bind fun pen => (unC q11.2).bind fun q12 => (unI .i64 q12.1).bind fun pid => (unC q12.2).bind fun q13 => (unI .i64 q13.1).bind fun ptot => (unC q13.2).bind fun q14 => (unI .i64 q14.1).bind fun ptyp => (unC q14.2).bind fun q15 => (unI .i64 q15.1).bind fun pk => (unC q15.2).bind fun q16 => (unS q16.1).bind fun plb => (unC q16.2).bind fun q17 => (unS q17.1).bind fun pdata => (unC q17.2).bind fun q18 => (unS q18.1).bind fun psum => (unN q18.2).bind fun _ => (hCells H 4 26).bind fun l19 => (unC l19).bind fun q20 => (unI .i64 q20.1).bind fun typ => (unC q20.2).bind fun q21 => (unI .i64 q21.1).bind fun k => (unC q21.2).bind fun q22 => (unS q22.1).bind fun b => (unC q22.2).bind fun q23 => (unS q23.1).bind fun cdata => (unC q23.2).bind fun q24 => (unI .i64 q24.1).bind fun at_ => (unC q24.2).bind fun q25 => (unI .i64 q25.1).bind fun id => (unN q25.2).bind fun _ => (hCells H 3 24).bind fun l26 => (unC l26).bind fun q27 => (unI .i64 q27.1).bind fun lk => (unC q27.2).bind fun q28 => (unS q28.1).bind fun lb => (unN q28.2).bind fun _ => (hCells H 2 24).bind fun l29 => (unC l29).bind fun q30 => (unI .i64 q30.1).bind fun k0 => (unC q30.2).bind fun q31 => (unS q31.1).bind fun b0 => (unN q31.2).bind fun _ => some ⟨data, kind, n, all, i, pst, pen, pid, ptot, ptyp, pk, plb, pdata, psum, typ, k, b, cdata, at_, id, lk, lb, k0, b0⟩

theorem bindOkwhole {α β : Type} {o : Option α} {f : α → Option β} {b : β} (h : o.bind f = some b) : ∃ a, o = some a ∧ f a = some b := Option.bind_eq_some_iff.1 h

theorem findwhole_ok (sp : List Int) (E : Env) (H : AHeap) (s : Swhole) (hr : rowswhole sp H) (h : findwhole E H = some s) : subE 6 (stwhole sp s).1 E ∧ subH 6 (stwhole sp s).2.bs H := by
  unfold findwhole at h
  obtain ⟨v0, e0, h⟩ := bindOkwhole h
  obtain ⟨data, e1, h⟩ := bindOkwhole h
  obtain ⟨v1, e2, h⟩ := bindOkwhole h
  obtain ⟨kind, e3, h⟩ := bindOkwhole h
  obtain ⟨v2, e4, h⟩ := bindOkwhole h
  obtain ⟨n, e5, h⟩ := bindOkwhole h
  obtain ⟨v3, e6, h⟩ := bindOkwhole h
  obtain ⟨_, e7, h⟩ := bindOkwhole h
  obtain ⟨v4, e8, h⟩ := bindOkwhole h
  obtain ⟨_, e9, h⟩ := bindOkwhole h
  obtain ⟨v5, e10, h⟩ := bindOkwhole h
  obtain ⟨_, e11, h⟩ := bindOkwhole h
  obtain ⟨v6, e12, h⟩ := bindOkwhole h
  obtain ⟨all, e13, h⟩ := bindOkwhole h
  obtain ⟨v7, e14, h⟩ := bindOkwhole h
  obtain ⟨_, e15, h⟩ := bindOkwhole h
  obtain ⟨v8, e16, h⟩ := bindOkwhole h
  obtain ⟨i, e17, h⟩ := bindOkwhole h
  obtain ⟨l9, e18, h⟩ := bindOkwhole h
  obtain ⟨q10, e19, h⟩ := bindOkwhole h
  obtain ⟨pst, e20, h⟩ := bindOkwhole h
  obtain ⟨q11, e21, h⟩ := bindOkwhole h
  obtain ⟨pen, e22, h⟩ := bindOkwhole h
  obtain ⟨q12, e23, h⟩ := bindOkwhole h
  obtain ⟨pid, e24, h⟩ := bindOkwhole h
  obtain ⟨q13, e25, h⟩ := bindOkwhole h
  obtain ⟨ptot, e26, h⟩ := bindOkwhole h
  obtain ⟨q14, e27, h⟩ := bindOkwhole h
  obtain ⟨ptyp, e28, h⟩ := bindOkwhole h
  obtain ⟨q15, e29, h⟩ := bindOkwhole h
  obtain ⟨pk, e30, h⟩ := bindOkwhole h
  obtain ⟨q16, e31, h⟩ := bindOkwhole h
  obtain ⟨plb, e32, h⟩ := bindOkwhole h
  obtain ⟨q17, e33, h⟩ := bindOkwhole h
  obtain ⟨pdata, e34, h⟩ := bindOkwhole h
  obtain ⟨q18, e35, h⟩ := bindOkwhole h
  obtain ⟨psum, e36, h⟩ := bindOkwhole h
  obtain ⟨_, e37, h⟩ := bindOkwhole h
  obtain ⟨l19, e38, h⟩ := bindOkwhole h
  obtain ⟨q20, e39, h⟩ := bindOkwhole h
  obtain ⟨typ, e40, h⟩ := bindOkwhole h
  obtain ⟨q21, e41, h⟩ := bindOkwhole h
  obtain ⟨k, e42, h⟩ := bindOkwhole h
  obtain ⟨q22, e43, h⟩ := bindOkwhole h
  obtain ⟨b, e44, h⟩ := bindOkwhole h
  obtain ⟨q23, e45, h⟩ := bindOkwhole h
  obtain ⟨cdata, e46, h⟩ := bindOkwhole h
  obtain ⟨q24, e47, h⟩ := bindOkwhole h
  obtain ⟨at_, e48, h⟩ := bindOkwhole h
  obtain ⟨q25, e49, h⟩ := bindOkwhole h
  obtain ⟨id, e50, h⟩ := bindOkwhole h
  obtain ⟨_, e51, h⟩ := bindOkwhole h
  obtain ⟨l26, e52, h⟩ := bindOkwhole h
  obtain ⟨q27, e53, h⟩ := bindOkwhole h
  obtain ⟨lk, e54, h⟩ := bindOkwhole h
  obtain ⟨q28, e55, h⟩ := bindOkwhole h
  obtain ⟨lb, e56, h⟩ := bindOkwhole h
  obtain ⟨_, e57, h⟩ := bindOkwhole h
  obtain ⟨l29, e58, h⟩ := bindOkwhole h
  obtain ⟨q30, e59, h⟩ := bindOkwhole h
  obtain ⟨k0, e60, h⟩ := bindOkwhole h
  obtain ⟨q31, e61, h⟩ := bindOkwhole h
  obtain ⟨b0, e62, h⟩ := bindOkwhole h
  obtain ⟨_, e63, h⟩ := bindOkwhole h
  cases h
  have f0 := unS_ok e1
  subst f0
  have f2 := unI_ok e3
  subst f2
  have f4 := unR_ok e5
  subst f4
  have f6 := unP_ok e7
  subst f6
  have f8 := unP_ok e9
  subst f8
  have f10 := unP_ok e11
  subst f10
  have f12 := unS_ok e13
  subst f12
  have f14 := unP_ok e15
  subst f14
  have f16 := unI_ok e17
  subst f16
  have g18 := hCells_ok e18
  rw [unC_ok e19, unB_ok e20, unC_ok e21, unB_ok e22, unC_ok e23, unI_ok e24, unC_ok e25, unI_ok e26, unC_ok e27, unI_ok e28, unC_ok e29, unI_ok e30, unC_ok e31, unS_ok e32, unC_ok e33, unS_ok e34, unC_ok e35, unS_ok e36, unN_ok e37] at g18
  have g38 := hCells_ok e38
  rw [unC_ok e39, unI_ok e40, unC_ok e41, unI_ok e42, unC_ok e43, unS_ok e44, unC_ok e45, unS_ok e46, unC_ok e47, unI_ok e48, unC_ok e49, unI_ok e50, unN_ok e51] at g38
  have g52 := hCells_ok e52
  rw [unC_ok e53, unI_ok e54, unC_ok e55, unS_ok e56, unN_ok e57] at g52
  have g58 := hCells_ok e58
  rw [unC_ok e59, unI_ok e60, unC_ok e61, unS_ok e62, unN_ok e63] at g58
  have hr0 := hr
  exact ⟨subE_cons e0 rfl rfl (subE_cons e2 rfl rfl (subE_cons e4 rfl rfl (subE_cons e6 rfl rfl (subE_cons e8 rfl rfl (subE_cons e10 rfl rfl (subE_cons e12 rfl rfl (subE_cons e14 rfl rfl (subE_cons e16 rfl rfl (subE_nil))))))))), subH_cons g18 rfl rfl rfl (subH_cons g38 rfl rfl rfl (subH_cons g52 rfl rfl rfl (subH_cons g58 rfl rfl rfl (subH_cons hr0 rfl rfl rfl (subH_nil)))))⟩

end Go.Proofs.Ytdjidmnehfjmbaa
