/-
  Are two labels alike: the contract.
-/
import Derived.Test.YtgbjecgkbhknmaaLabS
namespace Go.Proofs.Ytgbjecgkbhknmaa
set_option linter.unusedVariables false
set_option linter.unusedSimpArgs false
open Go.RowKit Ev

def fcSame : FC := fun args _ => match args with
  | [.agg [.int .i64 k, .str b], .agg [.int .i64 k2, .str b2]] => some (true, .bool (decide (k = k2) && decide (b = b2) && lOk k b))
  | _ => none

theorem same_sound : FcSound Try.prog 16 fcSame := by
  refine fc_pure TLok.ctx (n := 100) Try.call16 (fun args H v h => ?_)
  unfold fcSame at h
  split at h <;> cases h
  rename_i k b k2 b2
  refine ⟨rfl, rfl, ?_⟩
  rw [w_same]
  simp only [branch_iff, decide_eq_true_eq, decide_eq_false_iff_not, Bool.and_true]
  cases h1 : decide (k = k2) <;> cases h2 : decide (b = b2) <;> cases h3 : lOk k b <;> simp_all

noncomputable def TLS : Tabs := TL.addFc 16 fcSame
theorem TLSok : TabsOk TLS Try.prog := TLok.addFc same_sound

end Go.Proofs.Ytgbjecgkbhknmaa
