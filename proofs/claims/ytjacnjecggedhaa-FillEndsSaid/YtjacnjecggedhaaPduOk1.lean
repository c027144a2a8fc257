/-
  The packets' small functions: the contracts.
-/
import Derived.Test.YtjacnjecggedhaaPduW1
namespace Go.Proofs.Ytjacnjecggedhaa
set_option linter.unusedVariables false
set_option linter.unusedSimpArgs false
open Go.RowKit Ev

theorem inI64_iff {n : Int} : inI64 n = true ↔ -9223372036854775808 ≤ n ∧ n ≤ 9223372036854775807 := by simp [inI64]

theorem lSize_le (k : Int) : 0 ≤ lSize k ∧ lSize k ≤ 6 := by
  unfold lSize
  split
  · omega
  · split <;> omega

theorem two_sound : FcSound Try.prog 89 fcTwo := by
  refine fc_pure TP0ok.ctx (n := 100) Try.call89 (fun args H v h => ?_)
  unfold fcTwo at h
  split at h <;> cases h
  exact ⟨rfl, rfl, by rw [w_two]; rfl⟩

theorem rtwo_sound : FcSound Try.prog 55 fcRTwo := by
  refine fc_pure TP0ok.ctx (n := 100) Try.call55 (fun args H v h => ?_)
  unfold fcRTwo at h
  split at h <;> simp only [Option.some.injEq, Prod.mk.injEq, decide_eq_true_eq, reduceCtorEq] at h
  obtain ⟨hn, rfl⟩ := h
  rename_i n
  refine ⟨rfl, rfl, ?_⟩
  rw [w_rtwo]
  simp only [obl_iff, Bool.and_eq_true, decide_eq_true_eq, inI64_iff]
  refine ⟨⟨by omega, by omega, by omega⟩, by omega, ?_⟩
  unfold two
  rw [Int.emod_emod_of_dvd n (by decide : (256 : Int) ∣ 256)]

theorem joined_sound : FcSound Try.prog 91 fcJoined := by
  refine fc_reads TP0ok.ctx (n := 100) Try.call91 (fun args H v h => ?_)
  unfold fcJoined at h
  split at h <;> try cases h
  rename_i b
  split at h <;> simp only [Option.some.injEq, Prod.mk.injEq, decide_eq_true_eq, reduceCtorEq] at h
  obtain ⟨hl, rfl⟩ := h
  rename_i e s1 s2 s3 s4 hb
  refine ⟨b, _, 0, strRow, [s1, s2, s3, s4], 0, 1, 0, 4, 4, [], [], rfl, rfl, rfl, hb, ⟨e, rfl⟩, by simp, rfl, ?_⟩
  show callC (TP0.ctx Try.prog) 100 _ [.sl 0 0 1 0 4 (some 4)] _ _
  rw [w_joined]
  simp only [obl_iff, decide_eq_true_eq, List.getD_cons_zero, List.getD_cons_succ, List.nil_append, List.length_append]
  refine ⟨by omega, by simp; omega, by simp; omega, by simp; omega, ?_⟩
  trivial

def pTotal (k : Int) (b : List UInt8) (n : Int) : Int := if lOk k b = false ∨ n < 0 ∨ 65535 < n then 0 else 2 + lSize k + n

def fcTotal : FC := fun args _ => match args with
  | [.agg [.int .i64 k, .str b], .int .i64 n] => some (true, .int .i64 (pTotal k b n))
  | _ => none

theorem total_sound : FcSound Try.prog 84 fcTotal := by
  refine fc_pure TP0ok.ctx (n := 100) Try.call84 (fun args H v h => ?_)
  unfold fcTotal at h
  split at h <;> cases h
  rename_i k b n
  refine ⟨rfl, rfl, ?_⟩
  rw [w_total]
  have := lSize_le k
  unfold pTotal
  simp only [branch_iff, obl_iff, decide_eq_true_eq, decide_eq_false_iff_not, Bool.not_eq_true', Bool.not_eq_false', inI64_iff]
  cases lOk k b <;> simp
  omega

theorem rtotal_sound : FcSound Try.prog 53 fcTotal := by
  refine fc_pure TP0ok.ctx (n := 100) Try.call53 (fun args H v h => ?_)
  unfold fcTotal at h
  split at h <;> cases h
  rename_i k b n
  refine ⟨rfl, rfl, ?_⟩
  rw [w_rtotal]
  have := lSize_le k
  unfold pTotal
  simp only [branch_iff, obl_iff, decide_eq_true_eq, decide_eq_false_iff_not, Bool.not_eq_true', Bool.not_eq_false', inI64_iff]
  cases lOk k b <;> simp
  omega

def fcAbc : FC := fun args _ => match args with
  | [] => some (true, .agg [.int .i64 1, .str [97, 98, 99]])
  | _ => none

/-- The text that a law is given: bytes, and noughts. -/
theorem textOf_ex : ∃ f : List UInt8 → Int → List UInt8, ∀ s n, f s n = s.take 70000 ++ List.replicate (n % 70000).toNat 0 := ⟨_, fun _ _ => rfl⟩
noncomputable def textOf : List UInt8 → Int → List UInt8 := Classical.choose textOf_ex
theorem textOf_eq (s : List UInt8) (n : Int) : textOf s n = s.take 70000 ++ List.replicate (n % 70000).toNat 0 := Classical.choose_spec textOf_ex s n

noncomputable def fcText : FC := fun args _ => match args with
  | [.agg [.str s, .int .u32 n]] => some (decide (0 ≤ n), .str (textOf s n))
  | _ => none

theorem take_min {α : Type} (s : List α) (c : Nat) (m : Int) (h : m = min (s.length : Int) (c : Int)) : s.take m.toNat = s.take c := by
  subst h
  rcases Nat.lt_or_ge s.length c with h | h
  · rw [List.take_of_length_le (by omega), List.take_of_length_le (by omega)]
  · congr 1; omega

/-- The label that a law is given. -/
def labK (kind : Int) : Int := kind % 3
def labB (kind : Int) (b : List UInt8) : List UInt8 := if kind % 3 = 0 then b else if kind % 3 = 1 then b.take 3 else []

def fcLabel : FC := fun args _ => match args with
  | [.int .u8 kind, .agg [.int .u8 b0, .int .u8 b1, .int .u8 b2, .int .u8 b3, .int .u8 b4, .int .u8 b5]] => some (decide (0 ≤ kind), .agg [.int .i64 (labK kind), .str (labB kind ([b0, b1, b2, b3, b4, b5].map fun n => UInt8.ofNat n.toNat))])
  | _ => none

noncomputable def TP1 : Tabs := (((((TP0.addFc 89 fcTwo).addFc 55 fcRTwo).addFc 91 fcJoined).addFc 84 fcTotal).addFc 53 fcTotal)
theorem TP1ok : TabsOk TP1 Try.prog := (((((TP0ok.addFc two_sound).addFc rtwo_sound).addFc joined_sound).addFc total_sound).addFc rtotal_sound)

end Go.Proofs.Ytjacnjecggedhaa
