/-
  Whatever a source answers: the law's answer.
-/
import Derived.Test.YtjacnjecggedhaaFlE3
namespace Go.Proofs.Ytjacnjecggedhaa
set_option linter.unusedVariables false
set_option linter.unusedSimpArgs false
open Go.RowKit Ev

theorem odd_err {o : OddS} (h : oErr o ≠ 0) : oddK o = 0 ∧ oddSent o = 0 := by
  have hk := oddK_none (.inl h)
  refine ⟨hk, ?_⟩
  unfold oddSent
  rw [hk]
  split <;> rfl

theorem odd_fits {o : OddS} (h : oErr o = 0) (h0 : 0 ≤ o.sp) : ((repL (oddK o) (oT o)).length : Int) ≤ o.sp := by
  rw [repL_length]
  have t2 := oT_len h
  unfold oddK
  split
  · rw [Nat.zero_mul]; exact h0
  · rename_i hn
    have hs : ((oT o).length : Int) ≤ o.sp := by
      by_cases hs : o.sp < ((oT o).length : Int)
      · exact absurd (.inr hs) hn
      · omega
    split
    · rw [Nat.one_mul]; exact hs
    · have := Nat.div_mul_le_self o.sp.toNat (oT o).length
      omega

theorem odd_mod (o : OddS) : ((repL (oddK o) (oT o)).length : Int) % ((oT o).length : Int) = 0 := by
  rw [repL_length, Int.natCast_mul]
  exact Int.mul_emod_left _ _

theorem odd_none {o : OddS} (h : o.last = false) : oddSent o = 0 := by unfold oddSent; rw [h]; rfl

theorem cut_len (l : List UInt8) (m : Nat) : (List.take (min (l.length : Int) (m : Int)).toNat l).length ≤ m := by
  rw [List.length_take]
  omega

set_option maxRecDepth 100000 in
theorem ends_true (p : PieceR) (s0 s1 : Bool) (sp : Int) (h0 : 0 ≤ sp) (h1 : sp ≤ 65535) : LawT (TO.ctx Try.prog) 7 [.agg [.bool p.st, .bool p.en, .int .i64 p.id, .int .i64 p.total, .int .i64 p.typ, .int .i64 p.k, .str p.lb, .str p.data, .str p.sum], .agg [.bool s0, .bool s1], .int .u16 sp] := by
  refine ⟨?_⟩
  rw [w_ends]
  have a1 : (List.take (min (p.data.length : Int) 4500).toNat p.data).length ≤ 4500 := cut_len p.data 4500
  have a2 : (List.take (min (p.lb.length : Int) 20).toNat p.lb).length ≤ 20 := cut_len p.lb 20
  have a3 : (List.take (min (p.sum.length : Int) 20).toNat p.sum).length ≤ 20 := cut_len p.sum 20
  rw [obl_iff, decide_eq_true_eq, obl_iff, decide_eq_true_eq, obl_iff, decide_eq_true_eq]
  refine ⟨by omega, by omega, by omega, ?_⟩
  generalize List.take (min (p.data.length : Int) 4500).toNat p.data = A at a1 ⊢
  generalize List.take (min (p.lb.length : Int) 20).toNat p.lb = B at a2 ⊢
  generalize List.take (min (p.sum.length : Int) 20).toNat p.sum = C at a3 ⊢
  have key : ∀ o : OddS, o = ⟨⟨p.st, p.en, p.id, p.total, p.typ, p.k, B, A, C⟩, s0, s1, sp % 7300⟩ → gEnc p.st p.en p.id p.total p.typ p.k B A C = oT o ∧ gErr p.st p.en p.id p.total p.typ p.k B A C = oErr o ∧ o.sp = sp % 7300 ∧ o.last = s0 := by
    rintro o rfl; exact ⟨rfl, rfl, rfl, rfl⟩
  generalize ho : (OddS.mk (PieceR.mk p.st p.en p.id p.total p.typ p.k B A C) s0 s1 (sp % 7300)) = o
  obtain ⟨k1, k2, k3, k4⟩ := key o ho.symm
  rw [k1, k2]
  have hsp : 0 ≤ sp % 7300 ∧ sp % 7300 < 7300 := by omega
  have inn : inI64 sp = true := inI64_iff.2 (by omega)
  have bnd : A.length ≤ 4500 ∧ B.length ≤ 20 ∧ C.length ≤ 20 ∧ sp % 7300 ≤ 7300 := ⟨a1, a2, a3, by omega⟩
  have bnd2 : B.length + A.length + C.length ≤ 9223372036854775000 := by omega
  have bnd3 : 0 ≤ sp ∧ (0 : Int) < 7300 := ⟨h0, by decide⟩
  by_cases he : oErr o = 0
  · have t2 := oT_len he
    have hf := odd_fits he (by omega)
    rw [k3] at hf
    have hm := odd_mod o
    have e1 : decide (((oT o).length : Int) < 1) = false := decide_eq_false (by omega)
    have e2 : decide (((repL (oddK o) (oT o)).length : Int) ≤ sp % 7300) = true := decide_eq_true hf
    have e3 : decide (((repL (oddK o) (oT o)).length : Int) % ((oT o).length : Int) = 0) = true := decide_eq_true hm
    have e4 : (0 : Int) ≤ ((repL (oddK o) (oT o)).length : Int) ∧ (0 : Int) < ((oT o).length : Int) := ⟨by omega, by omega⟩
    have e5 : (!decide (oErr o = 0)) = false := by simp [he]
    rw [e1, e2, e3, e5]
    simp only [obl_iff, branch_iff, same_iff, decide_eq_true_eq, decide_eq_false_iff_not, inn, bnd, bnd2, bnd3, e4, true_and, true_implies, reduceCtorEq, false_implies, and_true, and_self, hsp]
    refine ⟨fun _ => by trivial, fun hs => ⟨fun _ => trivial, fun hl => ?_⟩⟩
    exact absurd (odd_none (by rw [k4]; exact hl)) hs
  · obtain ⟨q1, q2⟩ := odd_err he
    have e5 : (!decide (oErr o = 0)) = true := by simp [he]
    rw [e5, q1, q2]
    have r0 : repL 0 (oT o) = [] := rfl
    rw [r0]
    simp only [obl_iff, branch_iff, same_iff, decide_eq_true_eq, decide_eq_false_iff_not, inn, bnd, bnd2, bnd3, true_and, true_implies, reduceCtorEq, false_implies, and_true, and_self, hsp, not_true_eq_false]

theorem ends_law (st en : Bool) (id total typ k : Int) (lb data sum : List UInt8) (s0 s1 : Bool) (sp : Int) (h0 : 0 ≤ sp) (h1 : sp ≤ 65535) : LawT (TO.ctx Try.prog) 7 [.agg [.bool st, .bool en, .int .i64 id, .int .i64 total, .int .i64 typ, .int .i64 k, .str lb, .str data, .str sum], .agg [.bool s0, .bool s1], .int .u16 sp] :=
  ends_true ⟨st, en, id, total, typ, k, lb, data, sum⟩ s0 s1 sp h0 h1

end Go.Proofs.Ytjacnjecggedhaa
