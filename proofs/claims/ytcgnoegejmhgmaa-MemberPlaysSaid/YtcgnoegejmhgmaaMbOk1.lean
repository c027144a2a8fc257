/-
  Members: a terminal's mode.
-/
import Derived.Test.YtcgnoegejmhgmaaMbC
import Derived.Test.YtcgnoegejmhgmaaMbW2
namespace Go.Proofs.Ytcgnoegejmhgmaa
set_option linter.unusedVariables false
set_option linter.unusedSimpArgs false
open Go.RowKit Ev

def cMode (S : MemS) : List AVal → Option (AVal × AHeap)
  | [.int .i64 t] => some (.int .i64 (modeM S t), ⟨3, memH S⟩)
  | _ => none

theorem mode_sound : GcSound Try.prog 8 (gcSub decMem memC (fMem cMode)) := by
  refine mem_gc Try.call8 (fun S rest v H1 hW hC ρ w hR hb => ?_)
  unfold cMode at hC
  split at hC <;> cases hC
  rename_i t
  refine ((callC_ok TM3ok.ctx 90) 8 _ _ (fun out H' => out = .ret (.int .i64 (modeM S t)) ∧ H' = ⟨3, memH S⟩) (Eq.mpr (w_mode S t _) ?_) ρ w hR hb).2
  simp only [branch_iff, obl_iff, decide_eq_true_eq, decide_eq_false_iff_not]
  refine ⟨fun h => ⟨?_, rfl⟩, fun h => ⟨fun h2 => ⟨?_, rfl⟩, fun h2 => ⟨by omega, by omega, ?_, rfl⟩⟩⟩
  · unfold modeM; rw [if_neg (by omega)]
  · unfold modeM; rw [if_neg (by omega)]
  · unfold modeM; rw [if_pos (by omega), Nat.zero_add]

def nMode : List AVal → Option AVal
  | [.int .i64 _] => some (.int .i64 0)
  | _ => none
theorem mode_sound' : GcSound Try.prog 8 (gcNil nMode (gcSub decMem memC (fMem cMode))) := by
  refine gc_nil TM3ok.ctx (n := 90) Try.call8 mode_sound (fun rest v h => ?_)
  unfold nMode at h
  split at h <;> cases h
  exact ⟨rfl, fun _ => rfl, fun _ _ => rfl, Eq.mpr (w_mode_nil _ _) rfl⟩
noncomputable def TM4 : Tabs := TM3.addGc 8 (gcNil nMode (gcSub decMem memC (fMem cMode)))
theorem TM4ok : TabsOk TM4 Try.prog := TM3ok.addGc mode_sound'

noncomputable abbrev ofB : Code := bodyC Try.f10
noncomputable abbrev mvB : Code := bodyC Try.f9
def tsOf : AExit → List Nat := fun _ => [4]
def tsMv : AExit → List Nat := fun x => match x with
  | .ret => [6]
  | _ => [0, 2, 4, 7]
def mvE (m f : Int) : Env := [(0, .ptr 0 0 0 0), (2, .int .i64 m), (4, .ptr 3 0 0 0), (7, .int .i64 f)]
def cellI (t : Int) : ABlk := .cells 3 [.int .i64 t]

end Go.Proofs.Ytcgnoegejmhgmaa
