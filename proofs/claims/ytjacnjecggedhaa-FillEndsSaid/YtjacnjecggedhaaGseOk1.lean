/-
  A piece's fields: the contracts.
-/
import Derived.Test.YtjacnjecggedhaaGseW1
namespace Go.Proofs.Ytjacnjecggedhaa
set_option linter.unusedVariables false
set_option linter.unusedSimpArgs false
open Go.RowKit Ev

theorem branch_t {T E : Prop} : branch true T E = T := rfl
theorem branch_f {T E : Prop} : branch false T E = E := rfl

/-- May a piece's fields be? -/
def gMay (st en : Bool) (id total typ k : Int) (lb sum : List UInt8) : Bool := decide (0 ≤ id ∧ id < 256 ∧ 0 ≤ total ∧ total < 65536 ∧ 0 ≤ typ ∧ typ < 65536) && (match st, en with
  | true, true => decide (id = 0 ∧ total = 0) && lOk k lb && decide (sum = [])
  | true, false => lOk k lb && decide (sum = [])
  | false, true => decide (typ = 0 ∧ total = 0 ∧ k = 0 ∧ lb = [] ∧ sum.length = 4)
  | false, false => decide (typ = 0 ∧ total = 0 ∧ k = 0 ∧ lb = [] ∧ sum = []))

def fcGMay : FC := fun args _ => match args with
  | [.agg [.bool st, .bool en, .int .i64 id, .int .i64 total, .int .i64 typ, .int .i64 k, .str lb, .str data, .str sum]] => some (true, .bool (gMay st en id total typ k lb sum))
  | _ => none

def fcGof : FC := fun args _ => match args with
  | [.agg [.bool st, .bool en, .int .i64 id, .int .i64 total, .int .i64 typ, .int .i64 k, .str lb, .str data, .str sum]] => some (true, .agg [.bool st, .bool en])
  | _ => none

def fcGwhole : FC := fun args _ => match args with
  | [.agg [.bool st, .bool en]] => some (true, .bool (st && en))
  | _ => none

set_option maxRecDepth 20000 in
theorem gmay_sound : FcSound Try.prog 29 fcGMay := by
  refine fc_pure TP2ok.ctx (n := 100) Try.call29 (fun args H v h => ?_)
  unfold fcGMay at h
  split at h <;> cases h
  rename_i st en id total typ k lb data sum
  refine ⟨rfl, rfl, ?_⟩
  rw [w_gmay]
  have hl : (decide ((if lOk k lb = true then (0 : Int) else 2) = 0)) = lOk k lb := by cases lOk k lb <;> rfl
  have hs : (decide ((sum.length : Int) = 4)) = decide (sum.length = 4) := by rw [Bool.eq_iff_iff, decide_eq_true_eq, decide_eq_true_eq]; omega
  have t : ∀ {c : Bool}, gMay st en id total typ k lb sum = c → Out.ret (AVal.bool c) = Out.ret (AVal.bool (gMay st en id total typ k lb sum)) := fun h => by rw [h]
  simp only [hl, hs, Bool.and_true, Bool.and_assoc]
  cases st <;> cases en <;> simp only [beq_self_eq_true, Bool.and_true, Bool.true_and, Bool.and_false, Bool.false_and, Bool.not_true, Bool.not_false, show (true == false) = false from rfl, show (false == true) = false from rfl]
  all_goals
    cases hb : lOk k lb <;> simp only [branch_t, branch_f, branch_iff, decide_eq_true_eq, decide_eq_false_iff_not, Bool.not_eq_true', Bool.not_eq_false', Bool.and_eq_true, Bool.and_eq_false_iff]
  all_goals
    clear t hl hs
    (repeat' (first | apply And.intro | intro _)) <;> refine congrArg (fun c => Out.ret (AVal.bool c)) ?_ <;> unfold gMay <;> grind


theorem gof_sound : FcSound Try.prog 30 fcGof := by
  refine fc_pure TP2ok.ctx (n := 100) Try.call30 (fun args H v h => ?_)
  unfold fcGof at h
  split at h <;> cases h
  refine ⟨rfl, rfl, ?_⟩
  rw [w_gof]

theorem gwhole_sound : FcSound Try.prog 31 fcGwhole := by
  refine fc_pure TP2ok.ctx (n := 100) Try.call31 (fun args H v h => ?_)
  unfold fcGwhole at h
  split at h <;> cases h
  rename_i st en
  refine ⟨rfl, rfl, ?_⟩
  rw [w_gwhole]
  cases st <;> cases en <;> rfl

theorem gtwo_sound : FcSound Try.prog 32 fcTwo := by
  refine fc_pure TP2ok.ctx (n := 100) Try.call32 (fun args H v h => ?_)
  unfold fcTwo at h
  split at h <;> cases h
  refine ⟨rfl, rfl, ?_⟩
  rw [w_gtwo]
  rfl

noncomputable def TG1 : Tabs := ((((TP2.addFc 29 fcGMay).addFc 30 fcGof).addFc 31 fcGwhole).addFc 32 fcTwo)
theorem TG1ok : TabsOk TG1 Try.prog := ((((TP2ok.addFc gmay_sound).addFc gof_sound).addFc gwhole_sound).addFc gtwo_sound)

end Go.Proofs.Ytjacnjecggedhaa
