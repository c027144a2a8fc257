/-
  Members: the table with the methods; what follows.
-/
import Derived.Test.YtcgnoegejmhgmaaMbAll
namespace Go.Proofs.Ytcgnoegejmhgmaa
set_option linter.unusedVariables false
set_option linter.unusedSimpArgs false
open Go.RowKit Ev

def nOf : List AVal → Option AVal
  | [.int .i64 _] => some .nils
  | _ => none
theorem of_sound' : GcSound Try.prog 10 (gcNil nOf (gcSub decMem memC (fMem cOf))) := by
  refine gc_nil TM4ok.ctx (n := 90) Try.call10 of_sound (fun rest v h => ?_)
  unfold nOf at h
  split at h <;> cases h
  exact ⟨rfl, fun _ => rfl, fun _ _ => rfl, Eq.mpr (w_of_nil _ _) rfl⟩
def nMove : List AVal → Option AVal
  | [.int .i64 _, .int .i64 _] => some (.int .i64 1)
  | _ => none
theorem move_sound' : GcSound Try.prog 9 (gcNil nMove (gcSub decMem memC (fMem cMove))) := by
  refine gc_nil TM4ok.ctx (n := 90) Try.call9 move_sound (fun rest v h => ?_)
  unfold nMove at h
  split at h <;> cases h
  exact ⟨rfl, fun _ => rfl, fun _ _ => rfl, Eq.mpr (w_mv_nil _ _ _) rfl⟩
noncomputable def TM5 : Tabs := ((TM4.addGc 10 (gcNil nOf (gcSub decMem memC (fMem cOf)))).addGc 9 (gcNil nMove (gcSub decMem memC (fMem cMove)))).addGc 22 gcSorted
theorem TM5ok : TabsOk TM5 Try.prog := ((TM4ok.addGc of_sound').addGc move_sound').addGc sorted_sound

noncomputable abbrev allB : Code := bodyC Try.f16
noncomputable abbrev newB : Code := bodyC Try.f7
def tsAll : AExit → List Nat := fun _ => [2]
def tsNew : AExit → List Nat := fun _ => [4]
def newE (n m : Int) : Env := [(0, .int .i64 n), (1, .int .i64 m), (5, .ptr 0 0 0 0)]

end Go.Proofs.Ytcgnoegejmhgmaa
