/-
  The piece that stands first: the contract.
-/
import Derived.Test.YtjacnjecggedhaaGseD4
namespace Go.Proofs.Ytjacnjecggedhaa
set_option linter.unusedVariables false
set_option linter.unusedSimpArgs false
open Go.RowKit Ev

def zeroP : PieceR := ⟨false, false, 0, 0, 0, 0, [], [], []⟩
structure Dec where
  p : PieceR
  n : Int
  e : Int
deriving DecidableEq

def dSt (s : List UInt8) : Bool := decide (128 ≤ by8 s 0)
def dEn (s : List UInt8) : Bool := decide (64 ≤ by8 s 0 % 128)
def dKind (s : List UInt8) : Int := w16 s 0 / 4096 % 4
def dLen (s : List UInt8) : Nat := (w16 s 0 % 4096).toNat
def dBody (s : List UInt8) : List UInt8 := (s.drop 2).take (dLen s)
def dPiece (st en : Bool) (k : Int) (b : List UInt8) : PieceR := ⟨st, en, rId st en b, rTotal st en b, rTyp st en b, rK st k, rLb st en k b, rData st en k b, rSum st en b⟩

/-- The piece that stands first. -/
def dec (s : List UInt8) : Dec :=
  if s = [] ∨ by8 s 0 < 16 then ⟨zeroP, 0, 5⟩
  else if s.length < 2 ∨ s.length < 2 + dLen s ∨ (dSt s = false ∧ dKind s ≠ 3) ∨ rOk (dSt s) (dEn s) (dKind s) (dBody s) = false then ⟨zeroP, 0, 4⟩
  else ⟨dPiece (dSt s) (dEn s) (dKind s) (dBody s), 2 + dLen s, 0⟩

def decV (d : Dec) : AVal := .tup [.agg d.p.cells, .int .i64 d.n, .int .i64 d.e]

def fcDec : FC := fun args _ => match args with
  | [.str s] => some (decide (s.length ≤ 9223372036854775000), .tup [.agg [.bool (dec s).p.st, .bool (dec s).p.en, .int .i64 (dec s).p.id, .int .i64 (dec s).p.total, .int .i64 (dec s).p.typ, .int .i64 (dec s).p.k, .str (dec s).p.lb, .str (dec s).p.data, .str (dec s).p.sum], .int .i64 (dec s).n, .int .i64 (dec s).e])
  | _ => none

set_option maxRecDepth 10000 in
theorem and_u8 : ∀ x : Fin 256, decide (bitsA .and .u8 (x.val : Int) 128 = 0) = !decide (128 ≤ x.val) ∧ decide (bitsA .and .u8 (x.val : Int) 64 = 0) = !decide (64 ≤ x.val % 128) := by decide
theorem and_st (s : List UInt8) : (!decide (bitsA .and .u8 (((s.getD 0 0).toNat : Nat) : Int) 128 = 0)) = dSt s ∧ (!decide (bitsA .and .u8 (((s.getD 0 0).toNat : Nat) : Int) 64 = 0)) = dEn s := by
  have h := and_u8 ⟨(s.getD 0 0).toNat, (s.getD 0 0).toNat_lt⟩
  simp only at h
  rw [h.1, h.2]
  unfold dSt dEn by8
  constructor
  · simp only [Bool.not_not, decide_eq_decide]; omega
  · simp only [Bool.not_not, decide_eq_decide]; omega

theorem dec_bad5 {s : List UInt8} (h : s = [] ∨ by8 s 0 < 16) : dec s = ⟨zeroP, 0, 5⟩ := by unfold dec; rw [if_pos h]
theorem dec_bad4 {s : List UInt8} (h : ¬ (s = [] ∨ by8 s 0 < 16)) (h2 : s.length < 2 ∨ s.length < 2 + dLen s ∨ (dSt s = false ∧ dKind s ≠ 3) ∨ rOk (dSt s) (dEn s) (dKind s) (dBody s) = false) : dec s = ⟨zeroP, 0, 4⟩ := by unfold dec; rw [if_neg h, if_pos h2]
theorem dec_good {s : List UInt8} (h : ¬ (s = [] ∨ by8 s 0 < 16)) (h2 : ¬ (s.length < 2 ∨ s.length < 2 + dLen s ∨ (dSt s = false ∧ dKind s ≠ 3) ∨ rOk (dSt s) (dEn s) (dKind s) (dBody s) = false)) : dec s = ⟨dPiece (dSt s) (dEn s) (dKind s) (dBody s), 2 + dLen s, 0⟩ := by unfold dec; rw [if_neg h, if_neg h2]

theorem len_eq (s : List UInt8) : w16 s 0 % 4096 = (dLen s : Int) := by
  have := w16_bd s 0
  unfold dLen; omega

/-- What is reckoned of Decode. -/
theorem dec_walk (s : List UInt8) (hl : s.length ≤ 9223372036854775000) : wpD (TR4.ctx Try.prog) 100 28 39 10 6 3 [.tmp 2, .tmp 3, .tmp 4] Try.f28 (seqL (bodyC Try.f28)) (seqR (seqR (bodyC Try.f28))) (seqR (bodyC Try.f39)) [.str s] ⟨0, []⟩ (fun o _ => o = .ret (decV (dec s))) := by
  rw [w_dec]
  have hw := w16_bd s 0
  have hb := by8_bd s 0
  obtain ⟨a1, a2⟩ := and_st s
  have a3 : bitsA .and .i64 (w16 s 0) 4095 = w16 s 0 % 4096 := and_4095 hw.1 hw.2
  have a4 : bitsA .and .i64 (w16 s 0 / 4096) 3 = dKind s := and_3 (by omega) (by omega)
  have a5 : (w16 s 0 % 4096).toNat = dLen s := rfl
  have a6 : w16 s 0 % 4096 = (dLen s : Int) := by unfold dLen; omega
  have a7 : (s.drop 2).take (dLen s) = dBody s := rfl
  have a8 : (((s.getD 0 0).toNat : Nat) : Int) = by8 s 0 := rfl
  rw [a1, a2, a3, a4, a5, a6, a7, a8]
  have k5 : (s = [] ∨ by8 s 0 < 16) → Out.ret (.tup [.agg [.bool false, .bool false, .int .i64 0, .int .i64 0, .int .i64 0, .int .i64 0, .str [], .str [], .str []], .int .i64 0, .int .i64 5]) = Out.ret (decV (dec s)) := fun h => by rw [dec_bad5 h]; rfl
  have k4 : ¬ (s = [] ∨ by8 s 0 < 16) → (s.length < 2 ∨ s.length < 2 + dLen s ∨ (dSt s = false ∧ dKind s ≠ 3) ∨ rOk (dSt s) (dEn s) (dKind s) (dBody s) = false) → Out.ret (.tup [.agg [.bool false, .bool false, .int .i64 0, .int .i64 0, .int .i64 0, .int .i64 0, .str [], .str [], .str []], .int .i64 0, .int .i64 4]) = Out.ret (decV (dec s)) := fun h h2 => by rw [dec_bad4 h h2]; rfl
  have hbl : 2 + dLen s ≤ s.length → (dBody s).length = dLen s := fun h => by rw [← a7]; simp; omega
  have hbl2 : (dBody s).length ≤ 9223372036854775000 := by rw [← a7]; simp; omega
  have k0 : ¬ (s = [] ∨ by8 s 0 < 16) → ¬ (s.length < 2 ∨ s.length < 2 + dLen s ∨ (dSt s = false ∧ dKind s ≠ 3) ∨ rOk (dSt s) (dEn s) (dKind s) (dBody s) = false) → Out.ret (.tup [.agg [.bool (dSt s), .bool (dEn s), .int .i64 (rId (dSt s) (dEn s) (dBody s)), .int .i64 (rTotal (dSt s) (dEn s) (dBody s)), .int .i64 (rTyp (dSt s) (dEn s) (dBody s)), .int .i64 (rK (dSt s) (dKind s)), .str (rLb (dSt s) (dEn s) (dKind s) (dBody s)), .str (rData (dSt s) (dEn s) (dKind s) (dBody s)), .str (rSum (dSt s) (dEn s) (dBody s))], .int .i64 (2 + ((dBody s).length : Int)), .int .i64 0]) = Out.ret (decV (dec s)) := fun h h2 => by
    rw [dec_good h h2]
    have : ((dBody s).length : Int) = dLen s := by rw [hbl (by omega)]
    rw [this]
    rfl
  simp only [branch_iff, obl_iff, decide_eq_true_eq, decide_eq_false_iff_not, Bool.not_eq_true', Bool.not_eq_false', inI64_iff, List.length_drop]
  refine ⟨fun h0 => k5 (.inl h0), fun h0 => ?_⟩
  have hp : 0 < s.length := List.length_pos_iff.2 h0
  refine ⟨by omega, fun h1 => k5 (.inr h1), fun h1 => ?_⟩
  have hn : ¬ (s = [] ∨ by8 s 0 < 16) := by rintro (h | h) <;> contradiction
  refine ⟨fun h2 => k4 hn (.inl (by omega)), fun h2 => ⟨fun h3 => k4 hn (.inr (.inl (by omega))), fun h3 => ⟨by omega, by omega, by omega, ?_⟩⟩⟩
  have fin : (dSt s = true ∨ dKind s = 3) → (dBody s).length ≤ 9223372036854775807 ∧
      (rOk (dSt s) (dEn s) (dKind s) (dBody s) = true → (-9223372036854775808 ≤ 2 + ((dBody s).length : Int) ∧ 2 + ((dBody s).length : Int) ≤ 9223372036854775807) ∧ Out.ret (.tup [.agg [.bool (dSt s), .bool (dEn s), .int .i64 (rId (dSt s) (dEn s) (dBody s)), .int .i64 (rTotal (dSt s) (dEn s) (dBody s)), .int .i64 (rTyp (dSt s) (dEn s) (dBody s)), .int .i64 (rK (dSt s) (dKind s)), .str (rLb (dSt s) (dEn s) (dKind s) (dBody s)), .str (rData (dSt s) (dEn s) (dKind s) (dBody s)), .str (rSum (dSt s) (dEn s) (dBody s))], .int .i64 (2 + ((dBody s).length : Int)), .int .i64 0]) = Out.ret (decV (dec s))) ∧
      (rOk (dSt s) (dEn s) (dKind s) (dBody s) = false → Out.ret (.tup [.agg [.bool false, .bool false, .int .i64 0, .int .i64 0, .int .i64 0, .int .i64 0, .str [], .str [], .str []], .int .i64 0, .int .i64 4]) = Out.ret (decV (dec s))) := by
    intro hk
    refine ⟨by omega, fun hr => ⟨by omega, k0 hn ?_⟩, fun hr => k4 hn (.inr (.inr (.inr hr)))⟩
    rintro (h | h | h | h)
    · omega
    · omega
    · rcases hk with hk | hk
      · rw [hk] at h; exact absurd h.1 (by simp)
      · exact h.2 hk
    · rw [h] at hr; cases hr
  exact ⟨fun h4 => ⟨fun h5 => k4 hn (.inr (.inr (.inl ⟨h4, h5⟩))), fun h5 => fin (.inr h5)⟩, fun h4 => fin (.inl h4)⟩

set_option maxRecDepth 100000 in
theorem dec_sound : FcSound Try.prog 28 fcDec := by
  refine fc_wpD TR4ok.ctx Try.call28 (fun args H v h => ?_)
  unfold fcDec at h
  split at h <;> simp only [Option.some.injEq, Prod.mk.injEq, decide_eq_true_eq, reduceCtorEq] at h
  obtain ⟨hl, rfl⟩ := h
  rename_i s
  refine ⟨rfl, rfl, fun ρ w => ?_⟩
  exact wpD_sound TR4ok.ctx (fn := Try.f28) (gn := Try.f39) (by kernel_rfl) (by kernel_rfl) rfl rfl rfl (by decide) (dec_walk s hl) (rel_nil ρ w) rfl

noncomputable def TD : Tabs := (TR4.addFc 28 fcDec)
theorem TDok : TabsOk TD Try.prog := (TR4ok.addFc dec_sound)

end Go.Proofs.Ytjacnjecggedhaa
