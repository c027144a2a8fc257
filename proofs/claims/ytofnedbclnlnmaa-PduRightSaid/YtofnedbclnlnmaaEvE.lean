/-
  Ev: arithmetic, strings, equality, conversions, slices, fields, indexes: each does as it is reckoned.
-/
import Derived.Test.YtofnedbclnlnmaaEvD
import Derived.Laws.BitsAllLaws
import Derived.Laws.Bits64
import Derived.Laws.Shifts
import Derived.IntWalk
namespace Go.Proofs.Ytofnedbclnlnmaa.Ev
set_option linter.unusedVariables false
set_option linter.unusedSimpArgs false
open Go.RowKit

theorem aWrap_sound {k : IntKind} {n m : Int} (h : aWrap k n = some (true, m)) : k.wrap n = m := by
  unfold aWrap at h
  split at h
  · simp only [Option.some.injEq, Prod.mk.injEq, inI64, decide_eq_true_eq] at h
    obtain ⟨h1, rfl⟩ := h
    exact IntWalk.i64_in n h1
  · simp only [Option.some.injEq, Prod.mk.injEq, true_and] at h; subst h; exact IntKind.wrap_u8' n
  · simp only [Option.some.injEq, Prod.mk.injEq, true_and] at h; subst h; exact IntKind.wrap_u16 n
  · simp only [Option.some.injEq, Prod.mk.injEq, true_and] at h; subst h; exact IntKind.wrap_u32' n
  · simp only [Option.some.injEq, Prod.mk.injEq, true_and] at h; subst h; exact IntKind.wrap_u64 n
  · cases h

section
variable {P : Program} (w : World)

theorem intA_sound {op : BinOp} {k : IntKind} {x y : Int} {v : AVal} (h : intA op k x y = some (true, v)) (t : TypeId) (ρ : Rho) : (binOp op t (.int k x) (.int k y)).run P w = .ok (tr ρ v) w ∧ v.data = true := by
  cases op <;> simp only [intA, Option.some.injEq, Prod.mk.injEq, true_and, reduceCtorEq] at h
  case add | sub | mul =>
    split at h <;> try cases h
    rename_i n hn
    have := aWrap_sound hn
    simp [binOp, Op.intArith, this, tr, AVal.data]
  case quo =>
    split at h <;> try cases h
    rename_i c n hn
    simp only [Option.some.injEq, Prod.mk.injEq, Bool.and_eq_true, decide_eq_true_eq] at h
    obtain ⟨⟨⟨hx, hy⟩, rfl⟩, rfl⟩ := h
    have := aWrap_sound hn
    have hy0 : ¬ y = 0 := by omega
    simp [binOp, Op.intDiv, hy0, Int.tdiv_eq_ediv_of_nonneg hx, this, tr, AVal.data]
  case rem =>
    simp only [decide_eq_true_eq] at h
    obtain ⟨⟨hx, hy⟩, rfl⟩ := h
    have hy0 : ¬ y = 0 := by omega
    simp [binOp, Op.intDiv, hy0, Int.tmod_eq_emod_of_nonneg hx, tr, AVal.data]
  all_goals
    subst h
    simp [binOp, Op.intBits, Op.intCmp, bitsA, tr, AVal.data]
    try rfl

theorem pow2_pos (k : IntKind) (y : Int) : 0 < pow2 k y := by
  unfold pow2
  exact Int.pow_pos (by decide)

theorem shiftA_sound {op : BinOp} {k : IntKind} {x y : Int} {v : AVal} (h : shiftA op k x y = some (true, v)) (t : TypeId) (yk : IntKind) (ρ : Rho) : (binOp op t (.int k x) (.int yk y)).run P w = .ok (tr ρ v) w ∧ v.data = true := by
  cases op <;> simp only [shiftA, reduceCtorEq] at h
  case shl =>
    split at h <;> try cases h
    rename_i c n hn
    simp only [Option.some.injEq, Prod.mk.injEq, Bool.and_eq_true, decide_eq_true_eq] at h
    obtain ⟨⟨hy, rfl⟩, rfl⟩ := h
    have := aWrap_sound hn
    unfold pow2 at this
    have hy0 : ¬ y < 0 := by omega
    simp [binOp, Op.shift, hy0, this, tr, AVal.data]
  case shr =>
    simp only [Option.some.injEq, Prod.mk.injEq, decide_eq_true_eq] at h
    obtain ⟨hy, rfl⟩ := h
    have hy0 : ¬ y < 0 := by omega
    have hp := pow2_pos k y
    simp only [binOp, Op.shift, hy0, if_false, Sem.run_pure, tr, AVal.data, and_true]
    congr 2
    rw [Int.fdiv_eq_ediv_of_nonneg _ (by unfold pow2 at hp; exact Int.le_of_lt hp)]
    rfl

theorem str_toList (a : List UInt8) : (⟨a.toArray⟩ : ByteArray).toList = a := by rw [ByteArray.toList_eq]

theorem str_append (a b : List UInt8) : (⟨a.toArray⟩ : ByteArray) ++ ⟨b.toArray⟩ = ⟨(a ++ b).toArray⟩ := by
  apply ByteArray.ext
  simp [ByteArray.data_append]

theorem str_size (a : List UInt8) : (⟨a.toArray⟩ : ByteArray).size = a.length := by simp [ByteArray.size]

/-! ### equality -/

theorem beq_dec {α : Type} [DecidableEq α] (a b : α) : (a == b) = decide (a = b) := by
  by_cases h : a = b <;> simp [h]

theorem eqT_sound : ∀ (d D : Nat) (t : TypeId) (x y : AVal) (r : Bool), d ≤ D → eqT P d t x y = some r → ∀ ρ, (Op.equalIn D t (tr ρ x) (tr ρ y)).run P w = .ok r w := by
  intro d
  induction d with
  | zero => intro D t x y r _ h; simp [eqT] at h
  | succ d ih =>
    intro D t x y r hD h ρ
    obtain ⟨D, rfl⟩ : ∃ D', D = D' + 1 := ⟨D - 1, by omega⟩
    simp only [eqT] at h
    split at h
    · rename_i hu
      simp only [Option.some.injEq] at h; subst h
      simp [Op.equalIn, run_underlying hu, tr]
    · rename_i hu
      split at h <;> try cases h
      rename_i hk
      subst hk
      simp [Op.equalIn, run_underlying hu, tr, beq_dec]
    · rename_i hu
      simp only [Option.some.injEq] at h; subst h
      rename_i a b
      have e : ((⟨a.toArray⟩ : ByteArray) == ⟨b.toArray⟩) = decide (a = b) := by
        rw [beq_toListBytes, str_toList, str_toList]
        by_cases hab : a = b <;> simp [hab]
      simp [Op.equalIn, run_underlying hu, tr, e]
    · rename_i fs xs ys hu
      split at h <;> try cases h
      rename_i hst
      have hf : P.fieldsOf t = fs := by simp [Program.fieldsOf, hu]
      have := run_equalIn_struct (P := P) w D t (trL ρ xs).toArray (trL ρ ys).toArray (by rw [hf]; exact hu) hst
      simp only [tr]
      rw [this, hf]
      clear this hf hu
      generalize fs.toList = l at h
      induction l generalizing r with
      | nil => simp only [eqFs, Option.some.injEq] at h; subst h; simp [Op.eqFields]
      | cons f l ihl =>
        simp only [eqFs] at h
        split at h
        · rename_i hn
          have hn' : ¬ f.name ≠ "_" := by simpa using hn
          simp only [Op.eqFields, hn', if_false]
          exact ihl r h
        · rename_i hn
          have hn' : f.name ≠ "_" := by simpa using hn
          split at h <;> try cases h
          rename_i m ag hm ha
          split at h <;> try cases h
          rename_i a b hta htb
          split at h <;> try cases h
          rename_i a' b' hpa hpb
          split at h <;> try cases h
          rename_i r1 r2 h1 h2
          simp only [Op.eqFields, hn', ne_eq, not_false_eq_true, if_true, Sem.run_bind, part_run hm ha hta hpa, part_run hm ha htb hpb, Result.andThen_ok, ih D f.type a' b' r1 (by omega) h1 ρ]
          cases r1
          · simp
          · simp [ihl r2 h2]
    · rename_i n e xs ys hu
      split at h <;> try cases h
      rename_i m ag hm ha
      simp only [Op.equalIn, tr, Sem.run_bind, run_underlying hu, Result.andThen_ok, sizeA_run hm, Std.Legacy.Range.forIn_eq_forIn_range', Std.Legacy.Range.size, Nat.sub_zero, Nat.add_sub_cancel, Nat.div_one]
      have key : ∀ (k i : Nat) (r : Bool), eqAs ag m (eqT P d e) xs ys k (i * m) = some r →
          ((forIn (List.range' i k) ((none, ()) : Option Bool × Unit) fun i _ => do
              let a ← part e (trL ρ xs).toArray (i * m)
              let b ← part e (trL ρ ys).toArray (i * m)
              let r ← Op.equalIn D e a b
              if (!r) = true then pure (ForInStep.done (some false, ())) else pure (ForInStep.yield (none, ())) : Sem (Option Bool × Unit))).run P w = .ok (if r then (none, ()) else (some false, ())) w := by
        intro k
        induction k with
        | zero => intro i r h; simp only [eqAs, Option.some.injEq] at h; subst h; simp
        | succ k ihk =>
          intro i r h
          simp only [eqAs] at h
          split at h <;> try cases h
          rename_i a b hta htb
          split at h <;> try cases h
          rename_i a' b' hpa hpb
          split at h <;> try cases h
          rename_i r1 r2 h1 h2
          rw [show i * m + m = (i + 1) * m by rw [Nat.add_mul]; omega] at h2
          simp only [List.range'_succ, List.forIn_cons, Sem.run_bind, part_run hm ha hta hpa, part_run hm ha htb hpb, Result.andThen_ok, ih D e a' b' r1 (by omega) h1 ρ]
          cases r1
          · simp
          · simp only [Bool.not_true, Bool.false_eq_true, if_false, Sem.run_pure, Result.andThen_ok, Bool.true_and]
            exact ihk (i + 1) r2 h2
      have hk := key n 0 r (by simpa using h)
      rw [hk]
      cases r <;> rfl
    all_goals first
      | (rename_i hu; simp only [Option.some.injEq] at h; subst h; simp [Op.equalIn, run_underlying hu, tr]; done)
      | (cases h; done)

end

end Go.Proofs.Ytofnedbclnlnmaa.Ev
