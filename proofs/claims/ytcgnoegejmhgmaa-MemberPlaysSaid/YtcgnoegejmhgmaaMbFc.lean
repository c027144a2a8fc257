/-
  Modes: what there is; contracts of plain functions.
-/
import Derived.Test.YtcgnoegejmhgmaaMbW0
namespace Go.Proofs.Ytcgnoegejmhgmaa
set_option linter.unusedVariables false
set_option linter.unusedSimpArgs false
open Go.RowKit Ev

def mrowsV : AVal := .agg [.int .i64 0, .int .i64 0, .int .i64 0, .int .i64 0, .int .i64 0, .int .i64 16008, .int .i64 3072, .int .i64 (-235), .int .i64 0, .int .i64 21408, .int .i64 5232, .int .i64 (-124), .int .i64 0, .int .i64 25728, .int .i64 6312, .int .i64 (-30), .int .i64 0, .int .i64 32208, .int .i64 7032, .int .i64 100, .int .i64 0, .int .i64 38688, .int .i64 9552, .int .i64 223, .int .i64 0, .int .i64 43040, .int .i64 10632, .int .i64 310, .int .i64 0, .int .i64 48408, .int .i64 11712, .int .i64 403, .int .i64 0, .int .i64 51648, .int .i64 12432, .int .i64 468, .int .i64 0, .int .i64 53840, .int .i64 13152, .int .i64 518, .int .i64 0, .int .i64 57472, .int .i64 14232, .int .i64 620, .int .i64 0, .int .i64 58192, .int .i64 0, .int .i64 642, .int .i64 1, .int .i64 38688, .int .i64 9552, .int .i64 550, .int .i64 1, .int .i64 43040, .int .i64 10632, .int .i64 662, .int .i64 1, .int .i64 48408, .int .i64 11712, .int .i64 791, .int .i64 1, .int .i64 53840, .int .i64 13152, .int .i64 935, .int .i64 1, .int .i64 57472, .int .i64 14232, .int .i64 1069, .int .i64 1, .int .i64 58192, .int .i64 0, .int .i64 1098, .int .i64 2, .int .i64 43040, .int .i64 10632, .int .i64 897, .int .i64 2, .int .i64 48408, .int .i64 11712, .int .i64 1021, .int .i64 2, .int .i64 51648, .int .i64 12432, .int .i64 1103, .int .i64 2, .int .i64 53840, .int .i64 13152, .int .i64 1161, .int .i64 2, .int .i64 57472, .int .i64 14232, .int .i64 1289, .int .i64 2, .int .i64 58192, .int .i64 0, .int .i64 1313, .int .i64 3, .int .i64 48408, .int .i64 11712, .int .i64 1273, .int .i64 3, .int .i64 51648, .int .i64 12432, .int .i64 1364, .int .i64 3, .int .i64 53840, .int .i64 13152, .int .i64 1428, .int .i64 3, .int .i64 57472, .int .i64 14232, .int .i64 1569, .int .i64 3, .int .i64 58192, .int .i64 0, .int .i64 1605]

def fcMrows : FC := fun args H => match args with
  | [] => some (true, mrowsV)
  | _ => none

theorem mrows_sound : FcSound Try.prog 45 fcMrows := by
  refine fc_pure T0ok.ctx (n := 90) Try.call45 (fun args H v h => ?_)
  unfold fcMrows at h
  split at h <;> cases h
  exact ⟨rfl, rfl, by rw [w_mrows]; rfl⟩

noncomputable def TM1 : Tabs := (T0.addFc 45 fcMrows)
theorem TM1ok : TabsOk TM1 Try.prog := (T0ok.addFc mrows_sound)

end Go.Proofs.Ytcgnoegejmhgmaa
