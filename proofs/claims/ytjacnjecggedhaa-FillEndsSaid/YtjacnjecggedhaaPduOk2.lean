/-
  The packets' sums: the contracts.
-/
import Derived.Test.YtjacnjecggedhaaPduW2
namespace Go.Proofs.Ytjacnjecggedhaa
set_option linter.unusedVariables false
set_option linter.unusedSimpArgs false
open Go.RowKit Ev

def pErr (typ k : Int) (b : List UInt8) (n : Int) : Int := if typ < 0 ∨ 65535 < typ ∨ lOk k b = false then 2 else if 65535 < 2 + lSize k + n then 3 else 0

def pText (typ k : Int) (b data : List UInt8) : List UInt8 := two (2 + lSize k + (data.length : Int)) ++ two typ ++ b ++ data

def pSum (typ k : Int) (b data : List UInt8) : List UInt8 := if pErr typ k b (data.length : Int) = 0 then four (crcN (pText typ k b data)) else []

def fcSum : FC := fun args _ => match args with
  | [.int .i64 typ, .agg [.int .i64 k, .str b], .str data] => some (decide (data.length ≤ 9223372036854775000), .tup [.str (pSum typ k b data), .int .i64 (pErr typ k b (data.length : Int))])
  | _ => none

theorem two_length (n : Int) : (two n).length = 2 := rfl
theorem four_length (n : Int) : (four n).length = 4 := rfl

theorem crcN_bd (l : List UInt8) : 0 ≤ crcN l ∧ crcN l < 4294967296 := by
  unfold crcN
  have := (Crc.sum l).isLt
  omega

theorem pErr_2 {typ k n : Int} {b : List UInt8} (h : typ < 0 ∨ 65535 < typ ∨ lOk k b = false) : pErr typ k b n = 2 := by unfold pErr; rw [if_pos h]
theorem pErr_3 {typ k n : Int} {b : List UInt8} (h : ¬ (typ < 0 ∨ 65535 < typ ∨ lOk k b = false)) (h3 : 65535 < 2 + lSize k + n) : pErr typ k b n = 3 := by unfold pErr; rw [if_neg h, if_pos h3]
theorem pErr_0 {typ k n : Int} {b : List UInt8} (h : ¬ (typ < 0 ∨ 65535 < typ ∨ lOk k b = false)) (h3 : ¬ 65535 < 2 + lSize k + n) : pErr typ k b n = 0 := by unfold pErr; rw [if_neg h, if_neg h3]
theorem pErr_iff {typ k n : Int} {b : List UInt8} : pErr typ k b n = 0 ↔ 0 ≤ typ ∧ typ ≤ 65535 ∧ lOk k b = true ∧ 2 + lSize k + n ≤ 65535 := by
  unfold pErr
  split
  · rename_i h; cases hl : lOk k b <;> simp_all <;> omega
  · rename_i h
    split
    · simp; intros; omega
    · cases hl : lOk k b <;> simp_all <;> omega

theorem lOk_length {k : Int} {b : List UInt8} (h : lOk k b = true) : 0 ≤ k ∧ k < 4 ∧ (b.length : Int) = lSize k := by simpa [lOk] using h

theorem sum_sound : FcSound Try.prog 86 fcSum := by
  refine fc_pure TP1ok.ctx (n := 100) Try.call86 (fun args H v h => ?_)
  unfold fcSum at h
  split at h <;> simp only [Option.some.injEq, Prod.mk.injEq, decide_eq_true_eq, reduceCtorEq] at h
  obtain ⟨hl, rfl⟩ := h
  rename_i typ k b data
  refine ⟨rfl, rfl, ?_⟩
  rw [w_sum]
  have hk := lSize_le k
  simp only [branch_iff, obl_iff, decide_eq_true_eq, decide_eq_false_iff_not, Bool.not_eq_true', Bool.not_eq_false', inI64_iff, List.length_append, two_length]
  have bad : pErr typ k b (data.length : Int) ≠ 0 → pSum typ k b data = [] := fun h => by unfold pSum; rw [if_neg h]
  refine ⟨fun h0 => ?_, fun h0 => ⟨fun h1 => ?_, fun h1 => ⟨fun h2 => ?_, fun h2 => ⟨by omega, by omega, fun h3 => ?_, fun h3 => ?_⟩⟩⟩⟩
  · rw [bad (by rw [pErr_2 (.inl h0)]; decide), pErr_2 (.inl h0)]
  · rw [bad (by rw [pErr_2 (.inr (.inl h1))]; decide), pErr_2 (.inr (.inl h1))]
  · have hf : lOk k b = false := by cases hb : lOk k b <;> simp_all
    rw [bad (by rw [pErr_2 (.inr (.inr hf))]; decide), pErr_2 (.inr (.inr hf))]
  · have hf : lOk k b = true := by cases hb : lOk k b <;> simp_all
    have hn : ¬ (typ < 0 ∨ 65535 < typ ∨ lOk k b = false) := by rw [hf]; simp; omega
    rw [bad (by rw [pErr_3 hn h3]; decide), pErr_3 hn h3]
  · have hf : lOk k b = true := by cases hb : lOk k b <;> simp_all
    have hn : ¬ (typ < 0 ∨ 65535 < typ ∨ lOk k b = false) := by rw [hf]; simp; omega
    have := lOk_length hf
    refine ⟨decide_eq_true (by omega), by omega, ?_⟩
    unfold pSum
    rw [pErr_0 hn h3, if_pos rfl]
    rfl

theorem two_two (c : Int) (h0 : 0 ≤ c) (h1 : c < 4294967296) : two (c / 65536 % 4294967296) ++ two (c % 65536) = four c := by
  unfold two four
  have e1 : c / 65536 % 4294967296 / 256 % 256 = c / 16777216 % 256 := by omega
  have e2 : c / 65536 % 4294967296 % 256 = c / 65536 % 256 := by omega
  have e3 : c % 65536 / 256 % 256 = c / 256 % 256 := by omega
  have e4 : c % 65536 % 256 = c % 256 := by omega
  rw [e1, e2, e3, e4]; rfl

theorem rsum_sound : FcSound Try.prog 37 fcSum := by
  refine fc_pure TP1ok.ctx (n := 100) Try.call37 (fun args H v h => ?_)
  unfold fcSum at h
  split at h <;> simp only [Option.some.injEq, Prod.mk.injEq, decide_eq_true_eq, reduceCtorEq] at h
  obtain ⟨hl, rfl⟩ := h
  rename_i typ k b data
  refine ⟨rfl, rfl, ?_⟩
  rw [w_rsum]
  have hk := lSize_le k
  have hc := crcN_bd (two (2 + lSize k + (data.length : Int)) ++ two typ ++ b ++ data)
  simp only [branch_iff, obl_iff, decide_eq_true_eq, decide_eq_false_iff_not, Bool.not_eq_true', Bool.not_eq_false', inI64_iff, List.length_append, two_length, two_two _ hc.1 hc.2]
  have bad : pErr typ k b (data.length : Int) ≠ 0 → pSum typ k b data = [] := fun h => by unfold pSum; rw [if_neg h]
  refine ⟨fun h0 => ?_, fun h0 => ⟨fun h1 => ?_, fun h1 => ⟨fun hf => ?_, fun hf => ⟨by omega, by omega, fun h3 => ?_, fun h3 => ?_⟩⟩⟩⟩
  · rw [bad (by rw [pErr_2 (.inl h0)]; decide), pErr_2 (.inl h0)]
  · rw [bad (by rw [pErr_2 (.inr (.inl h1))]; decide), pErr_2 (.inr (.inl h1))]
  · rw [bad (by rw [pErr_2 (.inr (.inr hf))]; decide), pErr_2 (.inr (.inr hf))]
  · have hn : ¬ (typ < 0 ∨ 65535 < typ ∨ lOk k b = false) := by rw [hf]; simp; omega
    rw [bad (by rw [pErr_3 hn h3]; decide), pErr_3 hn h3]
  · have hn : ¬ (typ < 0 ∨ 65535 < typ ∨ lOk k b = false) := by rw [hf]; simp; omega
    have := lOk_length hf
    refine ⟨by omega, by omega, by omega, by omega, by omega, by omega, by omega, by omega, by omega, ?_⟩
    unfold pSum
    rw [pErr_0 hn h3, if_pos rfl]
    rfl

noncomputable def TP2 : Tabs := ((TP1.addFc 86 fcSum).addFc 37 fcSum)
theorem TP2ok : TabsOk TP2 Try.prog := ((TP1ok.addFc sum_sound).addFc rsum_sound)

end Go.Proofs.Ytjacnjecggedhaa
