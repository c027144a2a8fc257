/-
  The document's pieces: may they be; small contracts of the law.
-/
import Derived.Test.YtcbkenicjmhkdaaGseRDec
namespace Go.Proofs.Ytcbkenicjmhkdaa
set_option linter.unusedVariables false
set_option linter.unusedSimpArgs false
open Go.RowKit Ev

theorem rmay_sound8 : FcSound Try.prog 29 fcGMay := by
  refine fc_pure TDok.ctx (n := 100) Try.call29 (fun args H v h => ?_)
  unfold fcGMay at h
  split at h <;> cases h
  rename_i st en id total typ k lb data sum
  refine ⟨rfl, rfl, ?_⟩
  have hs : (decide ((sum.length : Int) = 4)) = decide (sum.length = 4) := by rw [Bool.eq_iff_iff, decide_eq_true_eq, decide_eq_true_eq]; omega
  cases st <;> cases en
  · rw [w_rmay_ff]
    simp only [hs, branch_iff, decide_eq_true_eq, decide_eq_false_iff_not, Bool.and_true, Bool.and_eq_true, Bool.and_eq_false_iff]
    (repeat' (first | apply And.intro | intro _)) <;> refine congrArg (fun c => Out.ret (AVal.bool c)) ?_ <;> unfold gMay <;> grind
  · rw [w_rmay_ft]
    simp only [hs, branch_iff, decide_eq_true_eq, decide_eq_false_iff_not, Bool.and_true, Bool.and_eq_true, Bool.and_eq_false_iff]
    (repeat' (first | apply And.intro | intro _)) <;> refine congrArg (fun c => Out.ret (AVal.bool c)) ?_ <;> unfold gMay <;> grind
  · rw [w_rmay_tf]
    cases hb : lOk k lb <;> simp only [branch_t, branch_f, branch_iff, decide_eq_true_eq, decide_eq_false_iff_not] <;>
    ((repeat' (first | apply And.intro | intro _)) <;> refine congrArg (fun c => Out.ret (AVal.bool c)) ?_ <;> unfold gMay <;> grind)
  · rw [w_rmay_tt]
    cases hb : lOk k lb <;> simp only [branch_t, branch_f, branch_iff, decide_eq_true_eq, decide_eq_false_iff_not] <;>
    ((repeat' (first | apply And.intro | intro _)) <;> refine congrArg (fun c => Out.ret (AVal.bool c)) ?_ <;> unfold gMay <;> grind)

theorem rtwo_sound8 : FcSound Try.prog 31 fcRTwo := by
  refine fc_pure TDok.ctx (n := 100) Try.call31 (fun args H v h => ?_)
  unfold fcRTwo at h
  split at h <;> simp only [Option.some.injEq, Prod.mk.injEq, decide_eq_true_eq, reduceCtorEq] at h
  obtain ⟨hl, rfl⟩ := h
  rename_i n
  refine ⟨rfl, rfl, ?_⟩
  rw [w_rtwo8]
  have e : n % 256 % 256 = n % 256 := by omega
  simp only [obl_iff, Bool.and_eq_true, decide_eq_true_eq, inI64_iff, e]
  exact ⟨by omega, by omega, rfl⟩

def fcCut8 : FC := fun args _ => match args with
  | [.agg [.bool st, .bool en, .int .i64 id, .int .i64 total, .int .i64 typ, .int .i64 k, .str lb, .str data, .str sum]] => some (true, .agg [.bool st, .bool en, .int .i64 id, .int .i64 total, .int .i64 typ, .int .i64 k, .str (lb.take 20), .str (data.take 4500), .str (sum.take 20)])
  | _ => none

theorem take_min8 (l : List UInt8) (n : Nat) : l.take (min (l.length : Int) (n : Int)).toNat = l.take n := by
  by_cases h : l.length ≤ n
  · rw [show (min (l.length : Int) (n : Int)).toNat = l.length by omega, List.take_length, List.take_of_length_le h]
  · rw [show (min (l.length : Int) (n : Int)).toNat = n by omega]

theorem cut_sound8 : FcSound Try.prog 12 fcCut8 := by
  refine fc_pure TDok.ctx (n := 100) Try.call12 (fun args H v h => ?_)
  unfold fcCut8 at h
  split at h <;> cases h
  rename_i st en id total typ k lb data sum
  refine ⟨rfl, rfl, ?_⟩
  rw [w_cut8]
  have e1 := take_min8 lb 20
  have e2 := take_min8 data 4500
  have e3 := take_min8 sum 20
  simp only [Int.cast_ofNat_Int] at e1 e2 e3
  simp only [obl_iff, decide_eq_true_eq, e1, e2, e3]
  exact ⟨by omega, by omega, by omega, trivial⟩

def fcLays8 : FC := fun args _ => match args with
  | [.agg [.bool st, .bool en, .int .i64 id, .int .i64 total, .int .i64 typ, .int .i64 k, .str lb, .str data, .str sum], .str want] => some (decide (lb.length + data.length + sum.length ≤ 9223372036854775000), .bool (decide (gErr st en id total typ k lb data sum = 0 ∧ gEnc st en id total typ k lb data sum = want)))
  | _ => none

theorem lays_sound8 : FcSound Try.prog 20 fcLays8 := by
  refine fc_pure TDok.ctx (n := 100) Try.call20 (fun args H v h => ?_)
  unfold fcLays8 at h
  split at h <;> simp only [Option.some.injEq, Prod.mk.injEq, decide_eq_true_eq, reduceCtorEq] at h
  obtain ⟨hl, rfl⟩ := h
  refine ⟨rfl, rfl, ?_⟩
  rw [w_lays8]
  simp only [obl_iff, branch_iff, decide_eq_true_eq, decide_eq_false_iff_not]
  refine ⟨hl, hl, fun h1 => ⟨fun h2 => ⟨fun _ => ?_, fun h => absurd h1 h⟩, fun h2 => ?_⟩, fun h1 => ?_⟩
  · rw [h2]; simp [h1]
  · simp [h2]
  · simp [h1]

def fcWrong8 : FC := fun args _ => match args with
  | [.str s, .int .i64 e] => some (decide (s.length ≤ 9223372036854775000), .bool (decide (dec s = ⟨zeroP, 0, e⟩)))
  | _ => none

theorem wrong_sound8 : FcSound Try.prog 11 fcWrong8 := by
  refine fc_pure TDok.ctx (n := 100) Try.call11 (fun args H v h => ?_)
  unfold fcWrong8 at h
  split at h <;> simp only [Option.some.injEq, Prod.mk.injEq, decide_eq_true_eq, reduceCtorEq] at h
  obtain ⟨hl, rfl⟩ := h
  rename_i s e
  refine ⟨rfl, rfl, ?_⟩
  rw [w_wrong8]
  simp only [obl_iff, branch_iff, decide_eq_true_eq, decide_eq_false_iff_not]
  generalize dec s = D
  obtain ⟨⟨st, en, id, total, typ, k, lb, data, sum⟩, n, er⟩ := D
  simp only [Dec.mk.injEq, zeroP, PieceR.mk.injEq]
  refine ⟨hl, fun h1 => ⟨fun h2 => ?_, fun h2 => ?_⟩, fun h1 => ?_⟩ <;> refine congrArg (fun c => Out.ret (AVal.bool c)) ?_
  · rw [Bool.eq_iff_iff]
    simp [h1, h2]
    grind
  · simp [h2]
  · simp [h1]

noncomputable def TE1 : Tabs := (((((TRD.addFc 29 fcGMay).addFc 31 fcRTwo).addFc 12 fcCut8).addFc 20 fcLays8).addFc 11 fcWrong8)
theorem TE1ok : TabsOk TE1 Try.prog := (((((TRDok.addFc rmay_sound8).addFc rtwo_sound8).addFc cut_sound8).addFc lays_sound8).addFc wrong_sound8)

end Go.Proofs.Ytcbkenicjmhkdaa
