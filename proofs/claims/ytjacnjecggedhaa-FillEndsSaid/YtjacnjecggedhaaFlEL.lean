/-
  Fields of a source that answers what it likes: the rounds, joined.
-/
import Derived.Test.YtjacnjecggedhaaFlE0
import Derived.Test.YtjacnjecggedhaaFlE1
namespace Go.Proofs.Ytjacnjecggedhaa
set_option linter.unusedVariables false
set_option linter.unusedSimpArgs false
open Go.RowKit Ev

/-- The piece's bytes, and what is wrong with it. -/
def oT (o : OddS) : List UInt8 := gEnc o.p.st o.p.en o.p.id o.p.total o.p.typ o.p.k o.p.lb o.p.data o.p.sum
def oErr (o : OddS) : Int := gErr o.p.st o.p.en o.p.id o.p.total o.p.typ o.p.k o.p.lb o.p.data o.p.sum
def repL (k : Nat) (T : List UInt8) : List UInt8 := (List.replicate k T).flatten

/-- How many pieces go in. -/
def oddK (o : OddS) : Nat := if oErr o ≠ 0 ∨ o.sp < ((oT o).length : Int) then 0 else if o.last = true ∧ o.again = false then 1 else o.sp.toNat / (oT o).length
def oddSent (o : OddS) : Nat := if o.last = true then oddK o else 0
def oddN (o : OddS) : Int := if o.sp < 1 then 0 else (oddSent o : Int) + 1

structure OddB (o : OddS) : Prop where
  b1 : o.p.data.length ≤ 4500
  b2 : o.p.lb.length ≤ 20
  b3 : o.p.sum.length ≤ 20
  b4 : o.sp ≤ 7300

theorem repL_length (k : Nat) (T : List UInt8) : (repL k T).length = k * T.length := by
  unfold repL; simp
theorem repL_succ (k : Nat) (T : List UInt8) : repL (k + 1) T = repL k T ++ T := by
  unfold repL
  rw [List.replicate_succ', List.flatten_append]
  simp
theorem rep9 (k : Nat) : List.replicate (k + 1) (9 : Int) = List.replicate k 9 ++ [9] := List.replicate_succ' ..

theorem oT_len {o : OddS} (h : oErr o = 0) : 2 ≤ (oT o).length := by
  unfold oT gEnc
  unfold oErr at h
  rw [if_pos h]
  simp [two]

theorem oT_nil {o : OddS} (h : oErr o ≠ 0) : oT o = [] := by
  unfold oT gEnc
  unfold oErr at h
  rw [if_neg h]

/-- So many pieces are laid. -/
structure OddJ (o : OddS) (k : Nat) : Prop where
  k1 : 1 ≤ k
  err : oErr o = 0
  fits : (k : Int) * ((oT o).length : Int) ≤ o.sp

theorem OddJ.nat {o : OddS} {k : Nat} (h : OddJ o k) : k * (oT o).length ≤ o.sp.toNat ∧ 0 ≤ o.sp := by
  have := h.fits
  have e : (k : Int) * ((oT o).length : Int) = ((k * (oT o).length : Nat) : Int) := by rw [Int.natCast_mul]
  rw [e] at this
  omega
theorem OddJ.small {o : OddS} {k : Nat} (h : OddJ o k) (hb : OddB o) : k ≤ 3650 := by
  have h1 := h.nat
  have h2 := oT_len h.err
  have h3 : k * 2 ≤ k * (oT o).length := Nat.mul_le_mul_left k h2
  have := hb.b4
  omega
theorem OddJ.len {o : OddS} {k : Nat} (h : OddJ o k) : (repL k (oT o)).length ≤ o.sp.toNat := by
  rw [repL_length]; exact h.nat.1
theorem OddJ.succ {o : OddS} {k : Nat} (h : oErr o = 0) (hs : ¬ (o.sp - ((repL k (oT o)).length : Int) < ((oT o).length : Int))) : OddJ o (k + 1) := by
  refine ⟨Nat.succ_pos k, h, ?_⟩
  rw [repL_length, Int.natCast_mul] at hs
  rw [Int.natCast_succ, Int.add_mul]
  omega
/-- One piece more does not go in. -/
theorem OddJ.full {o : OddS} {k : Nat} (h : OddJ o k) (hs : o.sp - ((repL k (oT o)).length : Int) < ((oT o).length : Int)) (ha : ¬ (o.last = true ∧ o.again = false)) : oddK o = k := by
  have h1 := h.nat
  have h2 := oT_len h.err
  have hk := h.k1
  rw [repL_length] at hs
  have h3 : (oT o).length ≤ k * (oT o).length := Nat.le_mul_of_pos_left _ hk
  unfold oddK
  rw [if_neg (by rintro (h' | h'); exact h' h.err; omega), if_neg ha]
  apply Nat.div_eq_of_lt_le h1.1
  rw [Nat.succ_mul]
  omega
theorem OddJ.once {o : OddS} (h : OddJ o 1) (ha : o.last = true ∧ o.again = false) : oddK o = 1 := by
  have h1 := h.nat
  unfold oddK
  rw [if_neg (by rintro (h' | h'); exact h' h.err; omega), if_pos ha]
theorem oddK_none {o : OddS} (h : oErr o ≠ 0 ∨ o.sp < ((oT o).length : Int)) : oddK o = 0 := if_pos h

/-- Where the filling ends. -/
def oFin (o : OddS) (E : Env) (H : AHeap) : Prop :=
  (oddK o = 0 ∧ E = (o00 o 1 o13).1 ∧ H = (o00 o 1 o13).2) ∨
  (∃ k beg, o.last = false ∧ OddJ o k ∧ oddK o = k ∧ E = (o10 o 1 k beg (repL k (oT o)) o13).1 ∧ H = (o10 o 1 k beg (repL k (oT o)) o13).2) ∨
  (∃ k beg, o.last = true ∧ OddJ o k ∧ oddK o = k ∧ E = (o11 o (k + 1) k beg (repL k (oT o)) (List.replicate k 9) o13).1 ∧ H = (o11 o (k + 1) k beg (repL k (oT o)) (List.replicate k 9) o13).2)
/-- One is sent. -/
def oNext (o : OddS) (k0 : Nat) (E : Env) (H : AHeap) : Prop :=
  ∃ k beg, k0 < k ∧ o.last = true ∧ OddJ o k ∧ (o.again = false → k = 1) ∧ E = (o11 o k k beg (repL k (oT o)) (List.replicate k 9) o13).1 ∧ H = (o11 o k k beg (repL k (oT o)) (List.replicate k 9) o13).2
def oQi (o : OddS) (k0 : Nat) : AExit → Env → AHeap → Prop := fun x E H => match x with
  | .exit 0 => oFin o E H
  | .exit 2 => oNext o k0 E H
  | _ => False
/-- Ahead of a round of the inner loop. -/
def oIn (o : OddS) (k0 m : Nat) (E : Env) (H : AHeap) : Prop :=
  (k0 = 0 ∧ m = 8000 ∧ E = (o00 o 1 o13).1 ∧ H = (o00 o 1 o13).2) ∨
  (∃ k beg, m = 8000 - k ∧ o.last = false ∧ OddJ o k ∧ E = (o10 o 1 k beg (repL k (oT o)) o13).1 ∧ H = (o10 o 1 k beg (repL k (oT o)) o13).2) ∨
  (∃ k beg, k0 ≤ k ∧ m = 8000 - k ∧ o.last = true ∧ o.again = true ∧ OddJ o k ∧ E = (o11 o (k + 1) k beg (repL k (oT o)) (List.replicate k 9) o13).1 ∧ H = (o11 o (k + 1) k beg (repL k (oT o)) (List.replicate k 9) o13).2)

theorem fIn (p : List Bool) : InFn (TF.ctx Try.prog) 9 (codeAt p fillB) :=
  inFn_at TFok.ctx (fn := Try.f9) (by kernel_rfl) (by kernel_rfl) p

abbrev FGd (o : OddS) (c : Code) (Q : AExit → Env → AHeap → Prop) (E : Env) (H : AHeap) : Prop := Gd (TF.ctx Try.prog) 9 ⟨1, [(0, oddB o.p o.last o.again 0)]⟩ c Q E H

set_option maxRecDepth 100000 in
theorem o_inner (o : OddS) (hb : OddB o) (hsp : 1 ≤ o.sp) (k0 : Nat) : ∀ m E H, oIn o k0 m E H → FGd o (.loop fillL) (oQi o k0) E H := by
  refine Gd.loop (oIn o k0) (fun m E H hI => ?_)
  have b1 := hb.b1
  have b2 := hb.b2
  have b3 := hb.b3
  have b4 := hb.b4
  rcases hI with ⟨hz, hm, rfl, rfl⟩ | ⟨k, beg, hm, hl, hJ, rfl, rfl⟩ | ⟨k, beg, hz, hm, hl, ha, hJ, rfl, rfl⟩
  · refine Gd.walkC TFok.ctx 1 ts13 (Nat.le_refl _) (fIn [true, false, true, true, true, true, true, false, true, false, false, true, false, false, false, false]) (Eq.mpr (w_ol_00 o 1 _) ?_)
    have e1 : (1 : Nat) * (oT o).length = (oT o).length := Nat.one_mul _
    have r1 : repL 1 (oT o) = oT o := by unfold repL; simp
    have rl : repL 0 (oT o) = [] := rfl
    rw [obl_iff, inI64_iff, twice_iff, obl_iff, decide_eq_true_eq, branch_iff, branch_iff]
    change _ ∧ _ ∧ ((!decide (oErr o = 0)) = true → _) ∧ ((!decide (oErr o = 0)) = false → (decide (o.sp - 0 < ((oT o).length : Int)) = true → _) ∧ (decide (o.sp - 0 < ((oT o).length : Int)) = false → _))
    refine ⟨by omega, by omega, fun he => ?_, fun he => ⟨fun hs => ?_, fun hs => ?_⟩⟩
    · have he : oErr o ≠ 0 := by simpa using he
      exact .inl ⟨oddK_none (.inl he), rfl, rfl⟩
    · have hs : o.sp - 0 < ((oT o).length : Int) := of_decide_eq_true hs
      exact .inl ⟨oddK_none (.inr (by omega)), rfl, rfl⟩
    · have he : oErr o = 0 := by simpa using he
      have hs : ¬ (o.sp - 0 < ((oT o).length : Int)) := of_decide_eq_false hs
      have t2 := oT_len he
      have hJ : OddJ o (0 + 1) := OddJ.succ (k := 0) he (by rw [rl]; exact hs)
      change OddJ o 1 at hJ
      change obl (true && decide (0 < (oT o).length ∧ 1 = 1 ∧ 1 = 1 ∧ 0 < 1 ∧ (oT o).length ≤ 9223372036854775807 ∧ (oT o).length * 1 ≤ 140737488355328)) _
      rw [obl_iff]
      refine ⟨by simp; omega, ?_⟩
      have key : ∀ beg : Bool, branch o.last (oNext o k0 (o11 o 1 1 beg (oT o) [9] o13).1 (o11 o 1 1 beg (oT o) [9] o13).2) (∃ m', m' < m ∧ oIn o k0 m' (o10 o 1 1 beg (oT o) o13).1 (o10 o 1 1 beg (oT o) o13).2) := by
        intro beg
        rw [branch_iff]
        refine ⟨fun h => ⟨1, beg, by omega, h, hJ, fun _ => rfl, ?_, ?_⟩, fun h => ⟨7999, by omega, .inr (.inl ⟨1, beg, rfl, h, hJ, ?_, ?_⟩)⟩⟩ <;> rw [r1] <;> rfl
      rw [branch_iff]
      exact ⟨fun _ => key (!o.p.en), fun _ => key false⟩
  · refine Gd.walkC TFok.ctx 1 ts13 (Nat.le_refl _) (fIn [true, false, true, true, true, true, true, false, true, false, false, true, false, false, false, false]) (Eq.mpr (w_ol_10 o 1 k beg (repL k (oT o)) _) ?_)
    have hlen := hJ.len
    have hsm := hJ.small hb
    have hn := hJ.nat
    rw [obl_iff, inI64_iff, twice_iff, obl_iff, decide_eq_true_eq, branch_iff, branch_iff]
    change _ ∧ _ ∧ ((!decide (oErr o = 0)) = true → _) ∧ ((!decide (oErr o = 0)) = false → (decide (o.sp - ((repL k (oT o)).length : Int) < ((oT o).length : Int)) = true → _) ∧ (decide (o.sp - ((repL k (oT o)).length : Int) < ((oT o).length : Int)) = false → _))
    refine ⟨by omega, by omega, fun he => ?_, fun he => ⟨fun hs => ?_, fun hs => ?_⟩⟩
    · exact absurd hJ.err (by simpa using he)
    · have hs := of_decide_eq_true hs
      exact .inr (.inl ⟨k, beg, hl, hJ, hJ.full hs (by rw [hl]; simp), rfl, rfl⟩)
    · have hs := of_decide_eq_false hs
      have hJ' := OddJ.succ hJ.err hs
      have hlen' := hJ'.len
      rw [repL_succ] at hlen'
      rw [branch_iff]
      refine ⟨fun h => absurd (of_decide_eq_true h) (by omega), fun _ => ?_⟩
      rw [obl_iff, inI64_iff]
      refine ⟨by omega, ?_⟩
      change obl (true && decide ((repL k (oT o)).length = (repL k (oT o)).length ∧ 1 = 1 ∧ 1 = 1 ∧ 0 < 1 ∧ (repL k (oT o) ++ oT o).length ≤ 9223372036854775807 ∧ (repL k (oT o) ++ oT o).length * 1 ≤ 140737488355328)) _
      rw [obl_iff]
      have q1 : (repL k (oT o) ++ oT o).length ≤ 9223372036854775807 := by omega
      have q2 : (repL k (oT o) ++ oT o).length * 1 ≤ 140737488355328 := by omega
      refine ⟨decide_eq_true ⟨rfl, rfl, rfl, Nat.one_pos, q1, q2⟩, ?_⟩
      have key : ∀ beg : Bool, branch o.last (oNext o k0 (o11 o 1 (k + 1) beg (repL k (oT o) ++ oT o) [9] o13).1 (o11 o 1 (k + 1) beg (repL k (oT o) ++ oT o) [9] o13).2) (∃ m', m' < m ∧ oIn o k0 m' (o10 o 1 (k + 1) beg (repL k (oT o) ++ oT o) o13).1 (o10 o 1 (k + 1) beg (repL k (oT o) ++ oT o) o13).2) := by
        intro beg
        rw [branch_iff]
        refine ⟨fun h => absurd h (by rw [hl]; simp), fun _ => ⟨8000 - (k + 1), by omega, .inr (.inl ⟨k + 1, beg, rfl, hl, hJ', ?_, ?_⟩)⟩⟩ <;> rw [repL_succ] <;> rfl
      rw [branch_iff]
      refine ⟨fun _ => key true, fun _ => ?_⟩
      rw [branch_iff]
      exact ⟨fun _ => key (!o.p.en), fun _ => key false⟩
  · refine Gd.walkC TFok.ctx 1 ts13 (Nat.le_refl _) (fIn [true, false, true, true, true, true, true, false, true, false, false, true, false, false, false, false]) (Eq.mpr (w_ol_11 o (k + 1) k beg (repL k (oT o)) (List.replicate k 9) _) ?_)
    have hlen := hJ.len
    have hsm := hJ.small hb
    have hn := hJ.nat
    rw [obl_iff, inI64_iff, twice_iff, obl_iff, decide_eq_true_eq, branch_iff, branch_iff]
    change _ ∧ _ ∧ ((!decide (oErr o = 0)) = true → _) ∧ ((!decide (oErr o = 0)) = false → (decide (o.sp - ((repL k (oT o)).length : Int) < ((oT o).length : Int)) = true → _) ∧ (decide (o.sp - ((repL k (oT o)).length : Int) < ((oT o).length : Int)) = false → _))
    refine ⟨by omega, by omega, fun he => ?_, fun he => ⟨fun hs => ?_, fun hs => ?_⟩⟩
    · exact absurd hJ.err (by simpa using he)
    · have hs := of_decide_eq_true hs
      exact .inr (.inr ⟨k, beg, hl, hJ, hJ.full hs (by rw [ha]; simp), rfl, rfl⟩)
    · have hs := of_decide_eq_false hs
      have hJ' := OddJ.succ hJ.err hs
      have hlen' := hJ'.len
      rw [repL_succ] at hlen'
      rw [branch_iff]
      refine ⟨fun h => absurd (of_decide_eq_true h) (by omega), fun _ => ?_⟩
      rw [obl_iff, inI64_iff]
      refine ⟨by omega, ?_⟩
      change obl (true && decide ((repL k (oT o)).length = (repL k (oT o)).length ∧ 1 = 1 ∧ 1 = 1 ∧ 0 < 1 ∧ (repL k (oT o) ++ oT o).length ≤ 9223372036854775807 ∧ (repL k (oT o) ++ oT o).length * 1 ≤ 140737488355328)) _
      rw [obl_iff]
      have q1 : (repL k (oT o) ++ oT o).length ≤ 9223372036854775807 := by omega
      have q2 : (repL k (oT o) ++ oT o).length * 1 ≤ 140737488355328 := by omega
      refine ⟨decide_eq_true ⟨rfl, rfl, rfl, Nat.one_pos, q1, q2⟩, ?_⟩
      have key : ∀ beg : Bool, branch o.last (obl (true && decide ((List.replicate k (9 : Int)).length = (List.replicate k (9 : Int)).length ∧ 1 = 1 ∧ 1 = 1 ∧ 0 < 1 ∧ (List.replicate k (9 : Int) ++ [9]).length ≤ 9223372036854775807 ∧ (List.replicate k (9 : Int) ++ [9]).length * 8 ≤ 140737488355328)) (oNext o k0 (o11 o (k + 1) (k + 1) beg (repL k (oT o) ++ oT o) (List.replicate k 9 ++ [9]) o13).1 (o11 o (k + 1) (k + 1) beg (repL k (oT o) ++ oT o) (List.replicate k 9 ++ [9]) o13).2))
          (∃ m', m' < m ∧ oIn o k0 m' (o11 o (k + 1) (k + 1) beg (repL k (oT o) ++ oT o) (List.replicate k 9) o13).1 (o11 o (k + 1) (k + 1) beg (repL k (oT o) ++ oT o) (List.replicate k 9) o13).2) := by
        intro beg
        rw [branch_iff]
        refine ⟨fun _ => ?_, fun h => absurd hl (by rw [h]; simp)⟩
        rw [obl_iff]
        have q3 : (List.replicate k (9 : Int) ++ [9]).length = k + 1 := by simp
        have q4 : (List.replicate k (9 : Int) ++ [9]).length ≤ 9223372036854775807 := by omega
        have q5 : (List.replicate k (9 : Int) ++ [9]).length * 8 ≤ 140737488355328 := by omega
        refine ⟨decide_eq_true ⟨rfl, rfl, rfl, Nat.one_pos, q4, q5⟩, k + 1, beg, by omega, hl, hJ', fun h => absurd ha (by rw [h]; simp), ?_, ?_⟩ <;> rw [repL_succ, rep9] <;> rfl
      rw [branch_iff]
      refine ⟨fun _ => key true, fun _ => ?_⟩
      rw [branch_iff]
      exact ⟨fun _ => key (!o.p.en), fun _ => key false⟩

end Go.Proofs.Ytjacnjecggedhaa
