/-
  The law of what a piece's bytes are.
-/
import Derived.Test.YtcbkenicjmhkdaaGseL1
namespace Go.Proofs.Ytcbkenicjmhkdaa
set_option linter.unusedVariables false
set_option linter.unusedSimpArgs false
open Go.RowKit Ev

theorem lays_true (st en : Bool) (id total typ k : Int) (lb data sum : List UInt8) (zeros : Int) (h0 : 0 ≤ zeros) (h1 : zeros ≤ 65535) : LawT (TE.ctx Try.prog) 4 [.agg [.bool st, .bool en, .int .i64 id, .int .i64 total, .int .i64 typ, .int .i64 k, .str lb, .str data, .str sum], .int .u16 zeros] := by
  refine ⟨?_⟩
  rw [w_lays]
  have r : (repN (zeros % 4200).toNat (0 : UInt8)).length = (zeros % 4200).toNat := by rw [repN_eq, List.length_replicate]
  have hz : (zeros % 4200).toNat ≤ 4200 := by omega
  have hx : ((repN (zeros % 4200).toNat (0 : UInt8)).drop 0).take (zeros % 4200).toNat = repN (zeros % 4200).toNat (0 : UInt8) := by
    rw [List.drop_zero, List.take_of_length_le (by omega)]
  simp only [hx]
  generalize repN (zeros % 4200).toNat (0 : UInt8) = Z at r
  have b1 : (lb.take 20).length ≤ 20 := by simp; omega
  have b2 : (data.take 4500).length ≤ 4500 := by simp; omega
  have b3 : (sum.take 20).length ≤ 20 := by simp; omega
  have b4 : (data.take 4500 ++ Z).length ≤ 9000 := by rw [List.length_append]; omega
  generalize lb.take 20 = L at b1
  generalize sum.take 20 = S at b3
  have b5 : (data.take 4500).length + Z.length ≤ 9000 := by omega
  generalize hD : data.take 4500 ++ Z = D at b4
  simp only [obl_iff, branch_iff, decide_eq_true_eq, decide_eq_false_iff_not, inI64_iff]
  (repeat' (first | apply And.intro | intro _)) <;> first | omega | trivial | (rename_i h; exact absurd trivial h)

end Go.Proofs.Ytcbkenicjmhkdaa
