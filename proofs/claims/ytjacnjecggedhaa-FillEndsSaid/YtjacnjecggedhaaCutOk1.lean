/-
  The next piece: the contract.
-/
import Derived.Test.YtjacnjecggedhaaCutW1
namespace Go.Proofs.Ytjacnjecggedhaa
set_option linter.unusedVariables false
set_option linter.unusedSimpArgs false
open Go.RowKit Ev

/-- May anything be cut off? -/
def nOk (typ k : Int) (b data : List UInt8) (at_ id lk : Int) (lb : List UInt8) : Bool := cMay typ k b data at_ id && lOk lk lb && (!decide (at_ = 0) || (decide (lk = k) && decide (lb = b)) || decide (lk = 3))

/-- The next piece, what is left, the error. -/
def nextV (typ k : Int) (b data : List UInt8) (at_ id lk : Int) (lb : List UInt8) (space : Int) (whole : Bool) : AVal :=
  if nOk typ k b data at_ id lk lb = false then .tup [pieceV false false 0 0 0 0 [] [] [], cutV typ k b data at_ id, .int .i64 2]
  else if at_ = 0 then
    if 4 + lSize lk + (data.length : Int) ≤ max 0 (min space 4097) then .tup [pieceV true true 0 0 typ lk lb data [], cutV typ k b data (data.length : Int) id, .int .i64 0]
    else if whole = true ∨ min (max 0 (min space 4097) - 7 - lSize lk) ((data.length : Int) - 1) < 1 then .tup [pieceV false false 0 0 0 0 [] [] [], cutV typ k b data at_ id, .int .i64 12]
    else .tup [pieceV true false id (pTotal lk lb (data.length : Int)) typ lk lb (data.take (min (max 0 (min space 4097) - 7 - lSize lk) ((data.length : Int) - 1)).toNat) [], cutV typ lk lb data (min (max 0 (min space 4097) - 7 - lSize lk) ((data.length : Int) - 1)) id, .int .i64 0]
  else if 7 + ((data.length : Int) - at_) ≤ max 0 (min space 4097) then .tup [pieceV false true id 0 0 0 [] (data.drop at_.toNat) (pSum typ k b data), cutV typ k b data (data.length : Int) id, .int .i64 0]
  else if min (max 0 (min space 4097) - 3) ((data.length : Int) - at_ - 1) < 1 then .tup [pieceV false false 0 0 0 0 [] [] [], cutV typ k b data at_ id, .int .i64 12]
  else .tup [pieceV false false id 0 0 0 [] ((data.take (at_ + min (max 0 (min space 4097) - 3) ((data.length : Int) - at_ - 1)).toNat).drop at_.toNat) [], cutV typ k b data (at_ + min (max 0 (min space 4097) - 3) ((data.length : Int) - at_ - 1)) id, .int .i64 0]

/-- The same, part by part. -/
structure NextR where
  st : Bool
  en : Bool
  id : Int
  total : Int
  typ : Int
  k : Int
  lb : List UInt8
  data : List UInt8
  sum : List UInt8
  k2 : Int
  b2 : List UInt8
  at2 : Int
  err : Int

def nextR (typ k : Int) (b data : List UInt8) (at_ id lk : Int) (lb : List UInt8) (space : Int) (whole : Bool) : NextR :=
  if nOk typ k b data at_ id lk lb = false then ⟨false, false, 0, 0, 0, 0, [], [], [], k, b, at_, 2⟩
  else if at_ = 0 then
    if 4 + lSize lk + (data.length : Int) ≤ max 0 (min space 4097) then ⟨true, true, 0, 0, typ, lk, lb, data, [], k, b, (data.length : Int), 0⟩
    else if whole = true ∨ min (max 0 (min space 4097) - 7 - lSize lk) ((data.length : Int) - 1) < 1 then ⟨false, false, 0, 0, 0, 0, [], [], [], k, b, at_, 12⟩
    else ⟨true, false, id, pTotal lk lb (data.length : Int), typ, lk, lb, data.take (min (max 0 (min space 4097) - 7 - lSize lk) ((data.length : Int) - 1)).toNat, [], lk, lb, min (max 0 (min space 4097) - 7 - lSize lk) ((data.length : Int) - 1), 0⟩
  else if 7 + ((data.length : Int) - at_) ≤ max 0 (min space 4097) then ⟨false, true, id, 0, 0, 0, [], data.drop at_.toNat, pSum typ k b data, k, b, (data.length : Int), 0⟩
  else if min (max 0 (min space 4097) - 3) ((data.length : Int) - at_ - 1) < 1 then ⟨false, false, 0, 0, 0, 0, [], [], [], k, b, at_, 12⟩
  else ⟨false, false, id, 0, 0, 0, [], (data.take (at_ + min (max 0 (min space 4097) - 3) ((data.length : Int) - at_ - 1)).toNat).drop at_.toNat, [], k, b, at_ + min (max 0 (min space 4097) - 3) ((data.length : Int) - at_ - 1), 0⟩

def nextT (typ : Int) (data : List UInt8) (id : Int) (r : NextR) : AVal := .tup [pieceV r.st r.en r.id r.total r.typ r.k r.lb r.data r.sum, cutV typ r.k2 r.b2 data r.at2 id, .int .i64 r.err]

theorem nextT_eq (typ k : Int) (b data : List UInt8) (at_ id lk : Int) (lb : List UInt8) (space : Int) (whole : Bool) : nextT typ data id (nextR typ k b data at_ id lk lb space whole) = nextV typ k b data at_ id lk lb space whole := by
  unfold nextR nextV
  repeat' split
  all_goals rfl

def fcNext : FC := fun args _ => match args with
  | [.agg [.int .i64 typ, .int .i64 k, .str b, .str data, .int .i64 at_, .int .i64 id], .agg [.int .i64 lk, .str lb], .int .i64 space, .bool whole] => some (true, nextT typ data id (nextR typ k b data at_ id lk lb space whole))
  | _ => none

theorem cMay_iff {typ k at_ id : Int} {b data : List UInt8} : cMay typ k b data at_ id = true ↔ 0 ≤ typ ∧ typ ≤ 65535 ∧ lOk k b = true ∧ 0 ≤ at_ ∧ at_ < (data.length : Int) ∧ (data.length : Int) ≤ 65519 ∧ 0 ≤ id ∧ id < 256 := by
  unfold cMay; rw [decide_eq_true_eq]

theorem next_sound : FcSound Try.prog 78 fcNext := by
  refine fc_pure TC0ok.ctx (n := 100) Try.call78 (fun args H v h => ?_)
  unfold fcNext at h
  split at h <;> cases h
  rename_i typ k b data at_ id lk lb space whole
  refine ⟨rfl, rfl, ?_⟩
  rw [nextT_eq, w_next]
  have hk := lSize_le lk
  have hk' := lSize_le k
  have hl : (decide ((if lOk lk lb = true then (0 : Int) else 2) = 0)) = lOk lk lb := by cases lOk lk lb <;> rfl
  simp only [hl, Bool.and_true]
  cases hm : cMay typ k b data at_ id with
  | false =>
    show Out.ret _ = Out.ret _
    have : nOk typ k b data at_ id lk lb = false := by unfold nOk; rw [hm]; rfl
    unfold nextV; rw [if_pos this]
  | true =>
  obtain ⟨m1, m2, m3, m4, m5, m6, m7, m8⟩ := cMay_iff.1 hm
  cases hb : lOk lk lb with
  | false =>
    show Out.ret _ = Out.ret _
    have : nOk typ k b data at_ id lk lb = false := by unfold nOk; rw [hb]; simp
    unfold nextV; rw [if_pos this]
  | true =>
  have e1 : at_ + ((data.length : Int) - at_) = (data.length : Int) := by omega
  have hp : pErr typ k b (data.length : Int) = 0 := pErr_iff.2 ⟨m1, m2, m3, by omega⟩
  simp only [Bool.not_true, e1, hp]
  by_cases h0 : at_ = 0
  · subst h0
    have e2 : (data.length : Int) - 0 = (data.length : Int) := by omega
    simp only [e2, Int.zero_add]
    by_cases hq : ((decide (lk = k) && decide (lb = b)) || decide (lk = 3)) = true
    · have hn : nOk typ k b data 0 id lk lb = true := by unfold nOk; rw [hm, hb]; simpa using hq
      unfold nextV
      rw [if_neg (by rw [hn]; simp)]
      simp only [branch_iff, obl_iff, decide_eq_true_eq, decide_eq_false_iff_not, Bool.not_eq_true', Bool.not_eq_false', inI64_iff, if_true, true_implies, not_true_eq_false, false_implies, and_true, true_and, decide_true, Bool.not_false, Bool.not_true, reduceCtorEq] at hq ⊢
      have key : ∀ (p : Prop), p → p := fun _ h => h
      refine ⟨fun g1 => ⟨fun g2 => ?_, fun g2 => ?_⟩, fun g1 => ?_⟩
      · exfalso
        rw [g1] at hq
        simp only [Bool.false_or, decide_eq_true_eq] at hq
        exact g2 hq
      all_goals
        refine ⟨by omega, by omega, by omega, by omega, fun g3 => ?_, fun g3 => ⟨by omega, by omega, by omega, fun g4 => ?_, fun g4 => ⟨fun g5 => ?_, fun g5 => ⟨by omega, by omega, ?_⟩⟩⟩⟩
        · rw [if_pos g3]
        · rw [if_neg g3, if_pos (.inl g4)]
        · rw [if_neg g3, if_pos (.inr g5)]
        · rw [if_neg g3, if_neg (by rw [g4]; simp; omega)]
    · have hn : nOk typ k b data 0 id lk lb = false := by unfold nOk; rw [hm, hb]; simpa using hq
      unfold nextV
      rw [if_pos hn]
      simp only [Bool.or_eq_true, not_or, Bool.not_eq_true, decide_eq_false_iff_not] at hq
      rw [hq.1]
      simp [branch_iff, hq.2, branch, obl]
  · have hn : nOk typ k b data at_ id lk lb = true := by unfold nOk; rw [hm, hb]; simp [h0]
    unfold nextV
    rw [if_neg (by rw [hn]; simp), if_neg h0]
    simp only [branch_iff, obl_iff, h0, decide_eq_true_eq, decide_eq_false_iff_not, Bool.not_eq_true', Bool.not_eq_false', inI64_iff, if_true, true_implies, not_true_eq_false, false_implies, and_true, true_and, decide_true, Bool.not_false, Bool.not_true, reduceCtorEq, not_false_eq_true, decide_false]
    refine ⟨by omega, by omega, fun g1 => ⟨by omega, by omega, fun g2 => ?_, fun g2 => ⟨by omega, by omega, by omega, ?_⟩⟩, fun g1 => ⟨by omega, by omega, by omega, ?_⟩⟩
    · rw [if_neg (by omega), if_pos g2]
    · rw [if_neg (by omega), if_neg g2]
    · rw [if_pos (by omega)]

noncomputable def TC : Tabs := (TC0.addFc 78 fcNext)
theorem TCok : TabsOk TC Try.prog := (TC0ok.addFc next_sound)

end Go.Proofs.Ytjacnjecggedhaa
