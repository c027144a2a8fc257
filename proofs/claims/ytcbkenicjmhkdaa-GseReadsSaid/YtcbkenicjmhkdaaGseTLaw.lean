/-
  The law of which pieces any bytes are.
-/
import Derived.Test.YtcbkenicjmhkdaaGseT1
namespace Go.Proofs.Ytcbkenicjmhkdaa
set_option linter.unusedVariables false
set_option linter.unusedSimpArgs false
open Go.RowKit Ev

theorem reads_true (s : List UInt8) : LawT (TS.ctx Try.prog) 5 [.str s] := by
  refine ⟨?_⟩
  rw [w_reads]
  have hl : (List.take (min (s.length : Int) 9000).toNat s).length ≤ 9000 := by rw [List.length_take]; omega
  generalize List.take (min (s.length : Int) 9000).toNat s = S at hl
  have ok := sameOk_rows (allP S) (allP S)
  have v := sameV_rows (allP S) (allP S)
  rw [decide_eq_true rfl] at v
  cases hp : (allP S).isEmpty with
  | true =>
    simp only [obl_iff, branch_t, branch_f, branch_iff, decide_eq_true_eq, decide_eq_false_iff_not, beq_self_eq_true, decide_true, Bool.and_self, Bool.and_true]
    (repeat' (first | apply And.intro | intro _)) <;> first | omega | trivial | (rename_i h; exact absurd rfl h) | simp_all
  | false =>
    simp only [obl_iff, branch_t, branch_f, branch_iff, decide_eq_true_eq, decide_eq_false_iff_not, beq_self_eq_true, decide_true, Bool.and_self, Bool.and_true, ok, v]
    (repeat' (first | apply And.intro | intro _)) <;> first | omega | trivial | (rename_i h; exact absurd rfl h) | simp_all

end Go.Proofs.Ytcbkenicjmhkdaa
