/-
  The state of the loop of PduKeeps.
-/
import Derived.Test.YtofnedbclnlnmaaPduOk4
namespace Go.Proofs.Ytofnedbclnlnmaa
set_option linter.unusedVariables false
set_option linter.unusedSimpArgs false
open Go.RowKit Ev

structure SK where
  s : List UInt8
  n : Int
  L : Nat
  first : Int
  turned : Bool
  i : Int
  d : List UInt8
  k : Int
  lb : List UInt8
  at_ : Int
  bits : Int
  typ : Int
  kind : Int
  l0 : Int
  l1 : Int
  l2 : Int
  l3 : Int
  l4 : Int
  l5 : Int
  data : List UInt8

def stK : SK → Env × AHeap
  | ⟨s, n, L, first, turned, i, d, k, lb, at_, bits, typ, kind, l0, l1, l2, l3, l4, l5, data⟩ => ([(3, .ptr 0 0 0 0), (5, .ptr 1 0 0 0), (8, .ptr 2 0 0 0), (9, .str s), (11, .int .i64 n), (12, .sl 3 0 1 0 L none), (13, .int .i64 first), (14, .bool turned), (15, .int .i64 i)], ⟨4, [(3, .row 5 byteRow d .strish), (2, .cells 23 [.int .i64 k, .str lb]), (1, .cells 45 [.int .u16 at_, .int .u32 bits]), (0, .cells 37 [.int .u16 typ, .int .u8 kind, .int .u8 l0, .int .u8 l1, .int .u8 l2, .int .u8 l3, .int .u8 l4, .int .u8 l5, .str data])]⟩)

def rowsK (D : List UInt8) (H : AHeap) : Prop := H.get 3 = some (.row 5 byteRow D .strish)

def findK (D : List UInt8) (E : Env) (H : AHeap) : Option SK := (getE E 3).bind fun v3 => (unP 0 v3).bind fun _ => (getE E 5).bind fun v5 => (unP 1 v5).bind fun _ => (getE E 8).bind fun v8 => (unP 2 v8).bind fun _ => (getE E 9).bind fun v9 => (unS v9).bind fun s => (getE E 11).bind fun v11 => (unI .i64 v11).bind fun n => (getE E 12).bind fun v12 => (unR 3 1 v12).bind fun L => (getE E 13).bind fun v13 => (unI .i64 v13).bind fun first => (getE E 14).bind fun v14 => (unB v14).bind fun turned => (getE E 15).bind fun v15 => (unI .i64 v15).bind fun i => (hCells H 2 23).bind fun c2_0 => (unC c2_0).bind fun q2_0 => (unI .i64 q2_0.1).bind fun k => (unC q2_0.2).bind fun q2_1 => (unS q2_1.1).bind fun lb => (unN q2_1.2).bind fun _ => (hCells H 1 45).bind fun c1_0 => (unC c1_0).bind fun q1_0 => (unI .u16 q1_0.1).bind fun at_ => (unC q1_0.2).bind fun q1_1 => (unI .u32 q1_1.1).bind fun bits => (unN q1_1.2).bind fun _ => (hCells H 0 37).bind fun c0_0 => (unC c0_0).bind fun q0_0 => (unI .u16 q0_0.1).bind fun typ => (unC q0_0.2).bind fun q0_1 => (unI .u8 q0_1.1).bind fun kind => (unC q0_1.2).bind fun q0_2 => (unI .u8 q0_2.1).bind fun l0 => (unC q0_2.2).bind fun q0_3 => (unI .u8 q0_3.1).bind fun l1 => (unC q0_3.2).bind fun q0_4 => (unI .u8 q0_4.1).bind fun l2 => (unC q0_4.2).bind fun q0_5 => (unI .u8 q0_5.1).bind fun l3 => (unC q0_5.2).bind fun q0_6 => (unI .u8 q0_6.1).bind fun l4 => (unC q0_6.2).bind fun q0_7 => (unI .u8 q0_7.1).bind fun l5 => (unC q0_7.2).bind fun q0_8 => (unS q0_8.1).bind fun data => (unN q0_8.2).bind fun _ => some ⟨s, n, L, first, turned, i, D, k, lb, at_, bits, typ, kind, l0, l1, l2, l3, l4, l5, data⟩

theorem bindOk {α β : Type} {o : Option α} {f : α → Option β} {b : β} (h : o.bind f = some b) : ∃ a, o = some a ∧ f a = some b := Option.bind_eq_some_iff.1 h

theorem findK_ok (D : List UInt8) (E : Env) (H : AHeap) (s : SK) (hr : rowsK D H) (h : findK D E H = some s) : subE 4 (stK s).1 E ∧ subH 4 (stK s).2.bs H := by
  unfold findK at h
  obtain ⟨v3, e0, h⟩ := bindOk h
  obtain ⟨_, e1, h⟩ := bindOk h
  obtain ⟨v5, e2, h⟩ := bindOk h
  obtain ⟨_, e3, h⟩ := bindOk h
  obtain ⟨v8, e4, h⟩ := bindOk h
  obtain ⟨_, e5, h⟩ := bindOk h
  obtain ⟨v9, e6, h⟩ := bindOk h
  obtain ⟨s, e7, h⟩ := bindOk h
  obtain ⟨v11, e8, h⟩ := bindOk h
  obtain ⟨n, e9, h⟩ := bindOk h
  obtain ⟨v12, e10, h⟩ := bindOk h
  obtain ⟨L, e11, h⟩ := bindOk h
  obtain ⟨v13, e12, h⟩ := bindOk h
  obtain ⟨first, e13, h⟩ := bindOk h
  obtain ⟨v14, e14, h⟩ := bindOk h
  obtain ⟨turned, e15, h⟩ := bindOk h
  obtain ⟨v15, e16, h⟩ := bindOk h
  obtain ⟨i, e17, h⟩ := bindOk h
  obtain ⟨c2_0, e18, h⟩ := bindOk h
  obtain ⟨q2_0, e19, h⟩ := bindOk h
  obtain ⟨k, e20, h⟩ := bindOk h
  obtain ⟨q2_1, e21, h⟩ := bindOk h
  obtain ⟨lb, e22, h⟩ := bindOk h
  obtain ⟨_, e23, h⟩ := bindOk h
  obtain ⟨c1_0, e24, h⟩ := bindOk h
  obtain ⟨q1_0, e25, h⟩ := bindOk h
  obtain ⟨at_, e26, h⟩ := bindOk h
  obtain ⟨q1_1, e27, h⟩ := bindOk h
  obtain ⟨bits, e28, h⟩ := bindOk h
  obtain ⟨_, e29, h⟩ := bindOk h
  obtain ⟨c0_0, e30, h⟩ := bindOk h
  obtain ⟨q0_0, e31, h⟩ := bindOk h
  obtain ⟨typ, e32, h⟩ := bindOk h
  obtain ⟨q0_1, e33, h⟩ := bindOk h
  obtain ⟨kind, e34, h⟩ := bindOk h
  obtain ⟨q0_2, e35, h⟩ := bindOk h
  obtain ⟨l0, e36, h⟩ := bindOk h
  obtain ⟨q0_3, e37, h⟩ := bindOk h
  obtain ⟨l1, e38, h⟩ := bindOk h
  obtain ⟨q0_4, e39, h⟩ := bindOk h
  obtain ⟨l2, e40, h⟩ := bindOk h
  obtain ⟨q0_5, e41, h⟩ := bindOk h
  obtain ⟨l3, e42, h⟩ := bindOk h
  obtain ⟨q0_6, e43, h⟩ := bindOk h
  obtain ⟨l4, e44, h⟩ := bindOk h
  obtain ⟨q0_7, e45, h⟩ := bindOk h
  obtain ⟨l5, e46, h⟩ := bindOk h
  obtain ⟨q0_8, e47, h⟩ := bindOk h
  obtain ⟨data, e48, h⟩ := bindOk h
  obtain ⟨_, e49, h⟩ := bindOk h
  cases h
  have f1 := unP_ok e1
  subst f1
  have f3 := unP_ok e3
  subst f3
  have f5 := unP_ok e5
  subst f5
  have f7 := unS_ok e7
  subst f7
  have f9 := unI_ok e9
  subst f9
  have f11 := unR_ok e11
  subst f11
  have f13 := unI_ok e13
  subst f13
  have f15 := unB_ok e15
  subst f15
  have f17 := unI_ok e17
  subst f17
  have g18 := hCells_ok e18
  rw [unC_ok e19, unI_ok e20, unC_ok e21, unS_ok e22, unN_ok e23] at g18
  have g24 := hCells_ok e24
  rw [unC_ok e25, unI_ok e26, unC_ok e27, unI_ok e28, unN_ok e29] at g24
  have g30 := hCells_ok e30
  rw [unC_ok e31, unI_ok e32, unC_ok e33, unI_ok e34, unC_ok e35, unI_ok e36, unC_ok e37, unI_ok e38, unC_ok e39, unI_ok e40, unC_ok e41, unI_ok e42, unC_ok e43, unI_ok e44, unC_ok e45, unI_ok e46, unC_ok e47, unS_ok e48, unN_ok e49] at g30
  exact ⟨subE_cons e0 rfl rfl (subE_cons e2 rfl rfl (subE_cons e4 rfl rfl (subE_cons e6 rfl rfl (subE_cons e8 rfl rfl (subE_cons e10 rfl rfl (subE_cons e12 rfl rfl (subE_cons e14 rfl rfl (subE_cons e16 rfl rfl (subE_nil))))))))), subH_cons hr rfl rfl rfl (subH_cons g18 rfl rfl rfl (subH_cons g24 rfl rfl rfl (subH_cons g30 rfl rfl rfl (subH_nil))))⟩

end Go.Proofs.Ytofnedbclnlnmaa
