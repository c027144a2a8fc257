/-
  Ev: slices, fields, indexes, lengths, aggregates; and all the operations that leave memory as it is.
-/
import Derived.Test.YtofnedbclnlnmaaEvF
namespace Go.Proofs.Ytofnedbclnlnmaa.Ev
set_option linter.unusedVariables false
set_option linter.unusedSimpArgs false
open Go.RowKit

section
variable {P : Program} (w : World)

theorem addr_add (g o n : Nat) : (⟨g, o, none⟩ : Addr).add n = ⟨g, o + n, none⟩ := by unfold Addr.add; split <;> simp_all

theorem run_bound (k : IntKind) (i : Int) (y : Nat) (code : BoundsCode) (h0 : 0 ≤ i) (h1 : i ≤ y) : (Instr.sliceBound (.int k i) y code).run P w = .ok i.toNat w := by
  simp [Instr.sliceBound, asIntOf, h0, h1]

theorem str_extract (s : List UInt8) (a b : Nat) : (⟨s.toArray⟩ : ByteArray).extract a b = ⟨((s.take b).drop a).toArray⟩ := by
  apply ByteArray.ext
  simp [ByteArray.data_extract, List.extract_eq_take_drop, List.drop_take]

theorem tr_int (ρ : Rho) (k : IntKind) (n : Int) : tr ρ (.int k n) = .int k n := rfl

theorem sliceA_sound {t : TypeId} {x v : AVal} {lo hi : Option AVal} {H : AHeap} (h : sliceA P H t x lo hi = some (true, v)) {ρ : Rho} {N : Nat} (hH : ∀ b y, H.get b = some y → y.under N = true ∧ y.ok ρ w b) (hx : x.under N = true) :
    (Instr.sliceAt t (tr ρ x) (lo.map (tr ρ)) (hi.map (tr ρ)) none).run P w = .ok (tr ρ v) w ∧ v.under N = true := by
  unfold sliceA at h
  split at h
  · rename_i s hu
    split at h
    · simp only [Option.some.injEq, Prod.mk.injEq, true_and] at h; subst h
      refine ⟨?_, rfl⟩
      simp only [Instr.sliceAt, Instr.slice, Sem.run_bind, run_underlying hu, Result.andThen_ok, tr, Option.map_none, Option.isSome_none, Bool.false_eq_true, if_false, Instr.sliceBounds, Sem.run_pure, str_extract, str_size]
      simp
    · rename_i k l
      simp only [Option.some.injEq, Prod.mk.injEq, decide_eq_true_eq] at h
      obtain ⟨⟨h0, h1⟩, rfl⟩ := h
      refine ⟨?_, rfl⟩
      simp only [Instr.sliceAt, Instr.slice, Sem.run_bind, run_underlying hu, Result.andThen_ok, tr, Option.map_none, Option.map_some, Option.isSome_none, Bool.false_eq_true, if_false, Instr.sliceBounds, Sem.run_pure, str_extract, str_size, run_bound w k l s.length _ h0 h1]
      simp
    · rename_i k l
      simp only [Option.some.injEq, Prod.mk.injEq, decide_eq_true_eq] at h
      obtain ⟨⟨h0, h1⟩, rfl⟩ := h
      refine ⟨?_, rfl⟩
      simp only [Instr.sliceAt, Instr.slice, Sem.run_bind, run_underlying hu, Result.andThen_ok, tr, Option.map_none, Option.map_some, Option.isSome_none, Bool.false_eq_true, if_false, Instr.sliceBounds, Sem.run_pure, str_extract, str_size, run_bound w k l s.length _ h0 h1]
      simp
    · rename_i k l k' l'
      simp only [Option.some.injEq, Prod.mk.injEq, decide_eq_true_eq] at h
      obtain ⟨⟨h0, h1, h2⟩, rfl⟩ := h
      refine ⟨?_, rfl⟩
      simp only [Instr.sliceAt, Instr.slice, Sem.run_bind, run_underlying hu, Result.andThen_ok, tr, Option.map_none, Option.map_some, Option.isSome_none, Bool.false_eq_true, if_false, Instr.sliceBounds, Sem.run_pure, str_extract, str_size, run_bound w k' l' s.length _ (by omega) h2, run_bound w k l l'.toNat _ h0 (by omega)]
    · cases h
  · rename_i e b i sz j n c hu
    split at h <;> try cases h
    rename_i m q hm hq
    split at h <;> try cases h
    rename_i hsz
    have hsz := nat_beq_eq.1 hsz
    subst hsz
    have hm' := sizeA_run hm w
    -- the capacity
    have hqt : q = true := by
      split at h <;> simp only [Option.some.injEq, Prod.mk.injEq, Bool.and_eq_true, reduceCtorEq] at h
      · exact h.1
      · exact h.1.2
      · exact h.1.2
      · exact h.1.2
    subst hqt
    simp only [Bool.and_true] at h
    have hcc : match c with | some c => n ≤ c | none => i + n ≤ ρ.cap b := by
      unfold capA at hq
      cases c with
      | some c => simpa using hq
      | none =>
        simp only at hq
        split at hq <;> try cases hq
        rename_i e' T l md hb
        simp only [Option.some.injEq, decide_eq_true_eq] at hq
        have := (hH b _ hb).2
        have := (ABlk.ok_row this).1
        simp only; omega
    obtain ⟨C, hC, hnC, hCl⟩ : ∃ C, (∀ o, tr ρ (.sl b i m j n c) = .slice (some ⟨ρ.blk b, ρ.off b + (i * m + j), none⟩) n C) ∧ n ≤ C ∧ (∀ l n', l ≤ C → tr ρ (.sl b (i + l) m j n' (c.map (· - l))) = .slice (some ⟨ρ.blk b, ρ.off b + ((i + l) * m + j), none⟩) n' (C - l)) := by
      cases c with
      | none =>
        refine ⟨ρ.cap b - i, fun _ => rfl, by simp only at hcc; omega, fun l n' hl => ?_⟩
        simp only [tr, Option.map_none]
        congr 1
        omega
      | some c => exact ⟨c, fun _ => rfl, hcc, fun l n' hl => rfl⟩
    have hb : Nat.blt b N = true := hx
    have run : ∀ (l h : Nat) (hl : l = 0 ∨ l < n) (hlh : l ≤ h) (hh : h ≤ n), (Value.slice (if C = l then some ⟨ρ.blk b, ρ.off b + (i * m + j), none⟩ else (some (⟨ρ.blk b, ρ.off b + (i * m + j), none⟩ : Addr)).map (·.add (l * m))) (h - l) (C - l)) = tr ρ (.sl b (i + l) m j (h - l) (c.map (· - l))) := by
      intro l h hl hlh hh
      rw [hCl l _ (by omega)]
      by_cases hcl : C = l
      · have : l = 0 := by omega
        subst this
        simp [hcl]
      · rw [if_neg hcl]
        simp only [Option.map_some, addr_add]
        congr 3
        rw [Nat.add_mul]; omega
    have hsl := hC 0
    split at h
    · simp only [Option.some.injEq, Prod.mk.injEq, true_and] at h; subst h
      refine ⟨?_, hx⟩
      have := run 0 n (.inl rfl) (by omega) (Nat.le_refl _)
      rw [hsl]
      simp only [Instr.sliceAt, Instr.slice, Sem.run_bind, run_underlying hu, Result.andThen_ok, Option.map_none, Instr.sliceBounds, Sem.run_pure, hm', Nat.zero_mul, Option.isSome_none, Bool.false_eq_true, if_false, Option.map_some]
      congr 2
      by_cases hc0 : C = 0 <;> simp [hc0, addr_add]
    · rename_i k l
      simp only [Option.some.injEq, Prod.mk.injEq, decide_eq_true_eq] at h
      obtain ⟨⟨h0, h1⟩, rfl⟩ := h
      refine ⟨?_, hb⟩
      rw [← run l.toNat n (by omega) (by omega) (Nat.le_refl _)]
      rw [hsl]
      simp only [Instr.sliceAt, Instr.slice, Sem.run_bind, run_underlying hu, Result.andThen_ok, Option.map_none, Option.map_some, tr_int, Instr.sliceBounds, Sem.run_pure, hm', Option.isSome_none, Bool.false_eq_true, if_false, run_bound w k l n _ h0 (by omega)]
    · rename_i k l
      simp only [Option.some.injEq, Prod.mk.injEq, decide_eq_true_eq] at h
      obtain ⟨⟨h0, h1⟩, rfl⟩ := h
      refine ⟨?_, hb⟩
      have e : tr ρ (.sl b i m j l.toNat c) = .slice (some ⟨ρ.blk b, ρ.off b + (i * m + j), none⟩) l.toNat C := by
        have := hCl 0 l.toNat (Nat.zero_le _)
        have hcc : c.map (· - 0) = c := by cases c <;> simp
        simpa [hcc] using this
      rw [e]
      rw [hsl]
      simp only [Instr.sliceAt, Instr.slice, Sem.run_bind, run_underlying hu, Result.andThen_ok, Option.map_none, Option.map_some, tr_int, Instr.sliceBounds, Sem.run_pure, hm', Option.isSome_none, Bool.false_eq_true, if_false, run_bound w k l C _ h0 (by omega), Nat.zero_mul]
      congr 2
      by_cases hc0 : C = 0 <;> simp [hc0, addr_add]
    · rename_i k l k' l'
      simp only [Option.some.injEq, Prod.mk.injEq, decide_eq_true_eq] at h
      obtain ⟨⟨h0, h1, h2, h3⟩, rfl⟩ := h
      refine ⟨?_, hb⟩
      rw [← run l.toNat l'.toNat (by omega) (by omega) (by omega)]
      rw [hsl]
      simp only [Instr.sliceAt, Instr.slice, Sem.run_bind, run_underlying hu, Result.andThen_ok, Option.map_none, Option.map_some, tr_int, Instr.sliceBounds, Sem.run_pure, hm', Option.isSome_none, Bool.false_eq_true, if_false, run_bound w k' l' C _ (by omega) (by omega), run_bound w k l l'.toNat _ h0 (by omega)]
    · cases h
  · rename_i n e b i sz j hu
    split at h <;> try cases h
    rename_i m hm
    have hm' := sizeA_run hm w
    have hb : Nat.blt b N = true := hx
    split at h
    · simp only [Option.some.injEq, Prod.mk.injEq, true_and] at h; subst h
      refine ⟨?_, hb⟩
      simp only [Instr.sliceAt, Instr.sureAddr, Sem.run_bind, run_underlying hu, Result.andThen_ok, Option.map_none, tr, Instr.sliceBounds, Sem.run_pure, hm', Nat.zero_mul, Nat.sub_zero, Nat.zero_add]
      congr 2
      by_cases hc0 : n = 0 <;> simp [hc0, addr_add]
    · rename_i k l
      simp only [Option.some.injEq, Prod.mk.injEq, decide_eq_true_eq] at h
      obtain ⟨⟨h0, h1⟩, rfl⟩ := h
      refine ⟨?_, hb⟩
      simp only [Instr.sliceAt, Instr.sureAddr, Sem.run_bind, run_underlying hu, Result.andThen_ok, Option.map_none, Option.map_some, tr, Instr.sliceBounds, Sem.run_pure, hm', Nat.zero_mul, Nat.sub_zero, Nat.zero_add, run_bound w k l n _ h0 h1]
      congr 2
      by_cases hc0 : n = 0 <;> simp [hc0, addr_add]
    · cases h
  · cases h

theorem fieldAddrA_sound {t : TypeId} {x v : AVal} {f : Nat} (h : fieldAddrA P t x f = some (true, v)) {ρ : Rho} {N : Nat} (hx : x.under N = true) :
    (Instr.fieldAt t (tr ρ x) f).run P w = .ok (tr ρ v) w ∧ v.under N = true := by
  unfold fieldAddrA at h
  split at h
  · rename_i fs b i sz j hu
    split at h <;> try cases h
    rename_i fd hfd
    split at h <;> try cases h
    rename_i m hm
    refine ⟨?_, hx⟩
    have hm' := sizeA_run hm w
    have hfd' : fs[f]? = some fd := by simpa using hfd
    simp only [Instr.fieldAt, Sem.run_bind, run_underlying hu, Result.andThen_ok, hfd', Instr.sureAddr, tr, Sem.run_pure, fieldPlace, hm', Nat.add_one_ne_zero, if_false, addr_add]
    congr 4
    omega
  · cases h

theorem fieldA_sound {t : TypeId} {x v : AVal} {f : Nat} (h : fieldA P t x f = some (true, v)) {ρ : Rho} {N : Nat} (hx : x.under N = true) :
    (Instr.field t (tr ρ x) f).run P w = .ok (tr ρ v) w ∧ v.under N = true := by
  unfold fieldA at h
  split at h
  · rename_i fs cs hu
    split at h <;> try cases h
    rename_i fd hfd
    split at h <;> try cases h
    rename_i m ag hm ha
    split at h <;> try cases h
    rename_i r hr
    split at h <;> try cases h
    rename_i hv
    have hfd' : fs[f]? = some fd := by simpa using hfd
    refine ⟨?_, ?_⟩
    · simp only [Instr.field, Sem.run_bind, run_underlying hu, Result.andThen_ok, hfd', tr, asAgg, Sem.run_pure]
      exact part_run hm ha hr hv w
    · obtain ⟨rfl, _⟩ := takeN_spec hr
      have hb : belowL N (List.take m (List.drop fd.offset cs)) = true := belowL_take (belowL_drop hx _) _
      rcases pack_spec hv with ⟨_, rfl⟩ | ⟨_, hc⟩
      · exact hb
      · rw [hc] at hb; simpa [belowL] using hb
  · cases h

theorem indexAddrA_sound {t : TypeId} {x ix v : AVal} (h : indexAddrA P t x ix = some (true, v)) {ρ : Rho} {N : Nat} (hx : x.under N = true) :
    (Instr.indexAt t (tr ρ x) (tr ρ ix)).run P w = .ok (tr ρ v) w ∧ v.under N = true := by
  unfold indexAddrA at h
  split at h
  · rename_i e b i sz j n c k q hu
    split at h <;> try cases h
    rename_i m hm
    split at h <;> try cases h
    rename_i hsz
    have hsz := nat_beq_eq.1 hsz
    subst hsz
    simp only [Option.some.injEq, Prod.mk.injEq, decide_eq_true_eq] at h
    obtain ⟨⟨h0, h1⟩, rfl⟩ := h
    refine ⟨?_, hx⟩
    have hm' := sizeA_run hm w
    simp only [Instr.indexAt, Sem.run_bind, tr, asIntOf, Sem.run_pure, Result.andThen_ok, run_underlying hu, Bool.and_false, Bool.false_eq_true, if_false, h0, h1, and_self, if_true, hm', addr_add]
    congr 4
    simp only [Nat.succ_eq_add_one, Nat.add_mul i]; omega
  · rename_i n e b i sz j k q hu
    split at h <;> try cases h
    rename_i m hm
    simp only [Option.some.injEq, Prod.mk.injEq, decide_eq_true_eq] at h
    obtain ⟨⟨h0, h1⟩, rfl⟩ := h
    refine ⟨?_, hx⟩
    have hm' := sizeA_run hm w
    simp only [Instr.indexAt, Sem.run_bind, tr, asIntOf, Sem.run_pure, Result.andThen_ok, run_underlying hu, Instr.sureAddr, h0, h1, and_self, if_true, hm', addr_add]
    congr 4
    simp only [Nat.succ_eq_add_one]; omega
  · cases h

theorem indexA_sound {sm : Bool} {t : TypeId} {x ix v : AVal} (h : indexA P sm t x ix = some (true, v)) {ρ : Rho} {N : Nat} (hx : x.under N = true) :
    (Instr.index t (tr ρ x) (tr ρ ix)).run P w = .ok (tr ρ v) w ∧ v.under N = true := by
  unfold indexA at h
  split at h
  · rename_i s k q hu
    simp only [Option.some.injEq, Prod.mk.injEq, decide_eq_true_eq] at h
    obtain ⟨⟨h0, h1⟩, rfl⟩ := h
    refine ⟨?_, rfl⟩
    have h2 : q.toNat < s.length := by omega
    have e : (⟨s.toArray⟩ : ByteArray)[q.toNat]? = some s[q.toNat] := by
      rw [getElem?_pos (⟨s.toArray⟩ : ByteArray) q.toNat (by simpa [ByteArray.size] using h2)]
      rfl
    simp only [Instr.index, Sem.run_bind, tr, asIntOf, Sem.run_pure, Result.andThen_ok, run_underlying hu, h0, if_true, e]
    simp [List.getD, List.getElem?_eq_getElem h2]
  · rename_i n e cs k q hu
    split at h <;> try cases h
    rename_i m ag hm ha
    split at h
    · split at h <;> try cases h
      rename_i r hr
      split at h <;> try cases h
      rename_i v' hv
      simp only [Option.some.injEq, Prod.mk.injEq, decide_eq_true_eq] at h
      obtain ⟨⟨h0, h1⟩, rfl⟩ := h
      have hm' := sizeA_run hm w
      obtain ⟨r1, r2, r3⟩ := selCells_spec (by omega : q.toNat < n) hr
      have hr' : takeN (m + 1) (cs.drop (q.toNat * (m + 1))) = some r := by
        have : ∀ (n : Nat) (l r : List AVal), r.length = n → (∀ x, x < n → r[x]? = l[x]?) → takeN n l = some r := by
          intro n
          induction n with
          | zero => intro l r hl _; cases r <;> simp_all [takeN]
          | succ n ih =>
            intro l r hl hx
            cases r with
            | nil => simp at hl
            | cons y r =>
              cases l with
              | nil => have := hx 0 (by omega); simp at this
              | cons z l =>
                have := hx 0 (by omega)
                simp only [List.getElem?_cons_zero, Option.some.injEq] at this
                subst this
                simp only [takeN, ih l r (by simpa using hl) (fun x hxn => by have := hx (x + 1) (by omega); simpa using this)]
        refine this _ _ _ r1 (fun x hxm => ?_)
        rw [r3 x hxm, List.getElem?_drop]
        congr 1; omega
      refine ⟨?_, ?_⟩
      · simp only [Instr.index, Sem.run_bind, tr, asIntOf, Sem.run_pure, Result.andThen_ok, run_underlying hu, h0, h1, and_self, if_true, hm']
        exact part_run hm ha hr' hv w
      · have hb : belowL N r = true := by
          rw [belowL_eq, List.all_eq_true]
          rw [List.all_eq_true] at r2
          exact fun x hx => AVal.data_below (r2 x hx) N
        rcases pack_spec hv with ⟨_, rfl⟩ | ⟨_, rfl⟩
        · exact hb
        · simpa [belowL] using hb
    · split at h <;> try cases h
      rename_i r hr
      split at h <;> try cases h
      rename_i v' hv
      simp only [Option.some.injEq, Prod.mk.injEq, decide_eq_true_eq] at h
      obtain ⟨⟨h0, h1⟩, rfl⟩ := h
      have hm' := sizeA_run hm w
      refine ⟨?_, ?_⟩
      · simp only [Instr.index, Sem.run_bind, tr, asIntOf, Sem.run_pure, Result.andThen_ok, run_underlying hu, h0, h1, and_self, if_true, hm']
        exact part_run hm ha hr hv w
      · obtain ⟨rfl, _⟩ := takeN_spec hr
        have hb : belowL N (List.take (m + 1) (List.drop (q.toNat * (m + 1)) cs)) = true := belowL_take (belowL_drop hx _) _
        rcases pack_spec hv with ⟨_, rfl⟩ | ⟨_, hc⟩
        · exact hb
        · rw [hc] at hb; simpa [belowL] using hb
  · cases h

theorem lenA_sound {t : TypeId} {x v : AVal} (h : lenA P t x = some (true, v)) (ts : Array TypeId) (ht : ts[0]? = some t) (ty : TypeId) (ρ : Rho) :
    (Builtin.len_ ts ty #[tr ρ x]).run P w = .ok (tr ρ v) w ∧ v.data = true := by
  unfold lenA at h
  split at h
  · rename_i s hu
    simp only [Option.some.injEq, Prod.mk.injEq, true_and] at h; subst h
    simp [Builtin.len_, ht, run_underlying hu, tr, str_size, goInt, AVal.data]
  · rename_i hu
    simp only [Option.some.injEq, Prod.mk.injEq, true_and] at h; subst h
    simp [Builtin.len_, ht, run_underlying hu, tr, goInt, AVal.data]
  · rename_i hu
    simp only [Option.some.injEq, Prod.mk.injEq, true_and] at h; subst h
    simp [Builtin.len_, ht, run_underlying hu, tr, goInt, AVal.data]
  · rename_i hu
    simp only [Option.some.injEq, Prod.mk.injEq, true_and] at h; subst h
    simp [Builtin.len_, ht, run_underlying hu, tr, goInt, AVal.data]
  · cases h

end

end Go.Proofs.Ytofnedbclnlnmaa.Ev
