/-
  The document's bytes behind the first two: the contract; the chapter's rows.
-/
import Derived.Test.YtcbkenicjmhkdaaGseR6
namespace Go.Proofs.Ytcbkenicjmhkdaa
set_option linter.unusedVariables false
set_option linter.unusedSimpArgs false
open Go.RowKit Ev

def rBody (st en : Bool) (id total typ : Int) (lb data sum : List UInt8) : List UInt8 :=
  (if st && en then [] else [UInt8.ofNat (id % 256).toNat]) ++ (if st && !en then two total else []) ++ (if st then two typ ++ lb else []) ++ data ++ (if st then [] else sum)

def fcRBody : FC := fun args _ => match args with
  | [.agg [.bool st, .bool en, .int .i64 id, .int .i64 total, .int .i64 typ, .int .i64 k, .str lb, .str data, .str sum]] => some (decide (lb.length + data.length + sum.length ≤ 9223372036854775000 ∧ (st = true → 0 ≤ typ ∧ typ ≤ 65535) ∧ (st = true ∧ en = false → 0 ≤ total ∧ total ≤ 65535)), .str (rBody st en id total typ lb data sum))
  | _ => none

theorem rbody_sound8 : FcSound Try.prog 30 fcRBody := by
  refine fc_pure TE1ok.ctx (n := 100) Try.call30 (fun args H v h => ?_)
  unfold fcRBody at h
  split at h <;> simp only [Option.some.injEq, Prod.mk.injEq, decide_eq_true_eq, reduceCtorEq] at h
  obtain ⟨⟨hl, h1, h2⟩, rfl⟩ := h
  rename_i st en id total typ k lb data sum
  have tw : (two typ).length = 2 ∧ (two total).length = 2 := ⟨rfl, rfl⟩
  refine ⟨rfl, rfl, ?_⟩
  cases st <;> cases en <;> simp only [true_and, and_true, forall_const, reduceCtorEq, false_implies, and_false, false_and] at h1 h2
  · rw [w_rbody_ff]
    simp only [obl_iff, decide_eq_true_eq, List.length_append, List.length_cons, List.length_nil]
    exact ⟨by omega, by omega, by simp [rBody]⟩
  · rw [w_rbody_ft]
    simp only [obl_iff, decide_eq_true_eq, List.length_append, List.length_cons, List.length_nil]
    exact ⟨by omega, by omega, by simp [rBody]⟩
  · rw [w_rbody_tf]
    simp only [obl_iff, decide_eq_true_eq, List.length_append, List.length_cons, List.length_nil, tw.1, tw.2]
    exact ⟨by omega, by omega, by omega, by omega, by simp [rBody]⟩
  · rw [w_rbody_tt]
    simp only [obl_iff, decide_eq_true_eq, List.length_append, List.length_cons, List.length_nil, tw.1, tw.2]
    exact ⟨by omega, by omega, by omega, by simp [rBody]⟩

def fcWorks8 : FC := fun args _ => match args with
  | [] => some (true, .bool true)
  | _ => none

theorem works_sound8 : FcSound Try.prog 8 fcWorks8 := by
  refine fc_pure TE1ok.ctx (n := 100) Try.call8 (fun args H v h => ?_)
  unfold fcWorks8 at h
  split at h <;> cases h
  refine ⟨rfl, rfl, ?_⟩
  rw [w_works8]

noncomputable def TE2 : Tabs := ((TE1.addFc 30 fcRBody).addFc 8 fcWorks8)
theorem TE2ok : TabsOk TE2 Try.prog := ((TE1ok.addFc rbody_sound8).addFc works_sound8)

end Go.Proofs.Ytcbkenicjmhkdaa
