/-
  Members: a move: the contract.
-/
import Derived.Test.YtcgnoegejmhgmaaMbOk2
namespace Go.Proofs.Ytcgnoegejmhgmaa
set_option linter.unusedVariables false
set_option linter.unusedSimpArgs false
open Go.RowKit Ev

def cMove (S : MemS) : List AVal → Option (AVal × AHeap)
  | [.int .i64 t, .int .i64 m] => some (.int .i64 (moveE S t m), ⟨4, memH (moveR S t m)⟩)
  | _ => none

theorem mvIn (p : List Bool) : InFn (TM4.ctx Try.prog) 9 (codeAt p mvB) :=
  inFn_at TM4ok.ctx (fn := Try.f9) (by kernel_rfl) (by kernel_rfl) p

theorem mvIn3 : InFn (TM4.ctx Try.prog) 9 (tailN 3 mvB) := by
  have e : tailN 3 mvB = codeAt [true, true, true] mvB := by kernel_rfl
  rw [e]; exact mvIn _
theorem mvIn5 : InFn (TM4.ctx Try.prog) 9 (tailN 5 mvB) := by
  have e : tailN 5 mvB = codeAt [true, true, true, true, true] mvB := by kernel_rfl
  rw [e]; exact mvIn _
theorem mv_tail : tailN 2 (tailN 3 mvB) = tailN 5 mvB := by kernel_rfl
theorem mv_seqs3 : isSeqs 3 mvB = true := by kernel_rfl
theorem mv_seqs2 : isSeqs 2 (tailN 3 mvB) = true := by kernel_rfl
theorem mv_body : Try.f9.body = some mvB := by kernel_rfl
theorem mv_fns : (TM4.ctx Try.prog).fns 9 = some Try.f9 := by kernel_rfl

def mvK (S : MemS) (t m : Int) (out : Out) (H' : AHeap) : Prop := ∃ H'', Ghost H' H'' ∧ out = .ret (.int .i64 (moveE S t m)) ∧ H'' = ⟨4, memH (moveR S t m)⟩

noncomputable abbrev MvGd (S : MemS) (t m : Int) (c : Code) (E : Env) (H : AHeap) : Prop := Gd (TM4.ctx Try.prog) 9 ⟨3, memH S⟩ c (canQ 3 tsMv (endA (TM4.ctx Try.prog).P Try.f9 (mvK S t m))) E H

set_option maxRecDepth 100000 in
/-- The last part: a terminal goes into its new list. -/
theorem mv_in (S S0 : MemS) (t m f : Int) (L1 : List (Int × List Int)) (ht : 0 ≤ t ∧ t < S.modes.length) (hl : ∀ l, getK m L1 = some l → l.length ≤ 8)
    (hE : moveE S0 t m = 0) (hS : moveR S0 t m = ⟨S.modes.set t.toNat m, inL m t L1⟩) : MvGd S0 t m (tailN 5 mvB) (mvE m f) ⟨5, memH ⟨S.modes, L1⟩ ++ [(3, cellI t)]⟩ := by
  have e0 : 0 + t.toNat = t.toNat := Nat.zero_add _
  cases hg : getK m L1 with
  | none =>
    have e : inL m t L1 = delK m L1 ++ [(m, [t])] := by unfold inL; rw [hg]; rfl
    refine Gd.ghost (memF_none ⟨S.modes, L1⟩ m 5 [(3, cellI t)] hg) (Gd.walk TM4ok.ctx (base := 3) (Nat.le_refl _) mvIn5 (Eq.mpr (w_mv_c0 ⟨S.modes, L1⟩ _ t m f _) ?_))
    rw [e0]
    refine obl_dec ht (obl_mk (by rw [Bool.and_true, decide_eq_true_eq]; show t.toNat < S.modes.length; omega) (obl_dec rfl (obl_dec rfl ⟨⟨4, memH ⟨S.modes.set t.toNat m, inL m t L1⟩⟩, ?_, by rw [hE], by rw [hS]⟩)))
    rw [e]
    refine (memF_back ⟨S.modes.set t.toNat m, []⟩ (delK m L1) m [t] 4 3 (by omega) [(3, rowI [t])] rfl : Ghost ⟨4, memF ⟨S.modes.set t.toNat m, []⟩ (delK m L1) m [slI 3 [t]] ++ [(3, rowI [t])]⟩ _) |> fun h => ?_
    have hs : Ghost ⟨4, memF ⟨S.modes.set t.toNat m, []⟩ (delK m L1) m [slI 3 [t]] ++ [(3, rowI [t])]⟩ ⟨4, memH ⟨S.modes.set t.toNat m, delK m L1 ++ [(m, [t])]⟩⟩ := h.trans (Ghost.ext rfl fun b => by
      unfold AHeap.get memH
      simp only [List.cons_append, List.nil_append, getB_cons]
      by_cases h0 : 0 = b
      · subst h0; rfl
      by_cases h1 : 1 = b
      · subst h1; rfl
      by_cases h2 : 2 = b
      · subst h2; rfl
      by_cases h3 : 3 = b
      · subst h3; rfl
      simp only [h0, h1, h2, h3, if_false, getB])
    have hlen : (S.modes.set t.toNat m).length = S.modes.length := List.length_set
    unfold memF at hs
    rw [hlen] at hs
    exact hs
  | some l =>
    have e : inL m t L1 = delK m L1 ++ [(m, l ++ [t])] := by unfold inL; rw [hg]; rfl
    have h8 := hl l hg
    refine Gd.ghost (memF_some ⟨S.modes, L1⟩ m l 5 [(3, cellI t)] (by omega) hg) (Gd.walk TM4ok.ctx (base := 3) (Nat.le_refl _) mvIn5 (Eq.mpr (w_mv_c1 ⟨S.modes, L1⟩ _ t m f l _) ?_))
    rw [e0]
    have hla : (l ++ [t]).length = l.length + 1 := by simp
    refine obl_dec ht (obl_mk (by rw [Bool.and_true, decide_eq_true_eq]; show t.toNat < S.modes.length; omega) (obl_dec rfl (obl_mk (by rw [Bool.true_and, decide_eq_true_eq]; omega) (obl_dec rfl ⟨⟨4, memH ⟨S.modes.set t.toNat m, inL m t L1⟩⟩, ?_, by rw [hE], by rw [hS]⟩))))
    rw [e]
    have h := memF_back ⟨S.modes.set t.toNat m, []⟩ (delK m L1) m (l ++ [t]) 4 3 (by omega) [(3, rowI (l ++ [t]))] rfl
    have hs : Ghost ⟨4, memF ⟨S.modes.set t.toNat m, []⟩ (delK m L1) m [slI 3 (l ++ [t])] ++ [(3, rowI (l ++ [t]))]⟩ ⟨4, memH ⟨S.modes.set t.toNat m, delK m L1 ++ [(m, l ++ [t])]⟩⟩ := h.trans (Ghost.ext rfl fun b => by
      unfold AHeap.get memH
      simp only [List.cons_append, List.nil_append, getB_cons]
      by_cases h0 : 0 = b
      · subst h0; rfl
      by_cases h1 : 1 = b
      · subst h1; rfl
      by_cases h2 : 2 = b
      · subst h2; rfl
      by_cases h3 : 3 = b
      · subst h3; rfl
      simp only [h0, h1, h2, h3, if_false, getB])
    have hlen : (S.modes.set t.toNat m).length = S.modes.length := List.length_set
    unfold memF at hs
    rw [hlen] at hs
    exact hs

theorem mode_in {S : MemS} (hW : WfM S) {t : Int} (h : modeM S t ≠ 0) : (0 ≤ t ∧ t < S.modes.length) ∧ ∃ l, getK (modeM S t) S.lists = some l ∧ t ∈ l := by
  unfold modeM at h ⊢
  split at h
  · rename_i ht
    rw [if_pos ht]
    obtain ⟨l, h1, h2⟩ := hW.all t.toNat (by omega)
    exact ⟨ht, l, h1, by rw [Int.toNat_of_nonneg ht.1] at h2; exact h2⟩
  · exact absurd rfl h

theorem out_len {S : MemS} (hW : WfM S) {f t m : Int} (hne : f ≠ m) : ∀ l, getK m (outL f t S.lists) = some l → l.length ≤ 8 := by
  intro l h
  unfold outL at h
  split at h
  · rw [getK_delK (Ne.symm hne)] at h
    exact len8 hW h
  · rw [getK_append] at h
    simp only [getK, if_neg hne] at h
    rw [getK_delK (Ne.symm hne)] at h
    cases hq : getK m S.lists with
    | none => rw [hq] at h; cases h
    | some l' => rw [hq] at h; cases h; exact len8 hW hq

set_option maxRecDepth 100000 in
theorem move_good (S : MemS) (hW : WfM S) (t m : Int) : MvGd S t m mvB (env0 [.ptr 0 0 0 0, .int .i64 t, .int .i64 m] 0) ⟨3, memH S⟩ := by
  refine Gd.walkN TM4ok.ctx (base := 3) (Nat.le_refl _) (It := fun E H => canonK 3 [0, 2, 4, 7] E H (fun E H => (modeM S t ≠ 0 ∧ isM m = true ∧ modeM S t ≠ m) ∧ E = mvE m (modeM S t) ∧ H = ⟨4, memH S ++ [(3, cellI t)]⟩)) 3 90 _ _ _ mv_seqs3 (mvIn []) (Eq.mpr (w_mv_a S t m (fun E H => (modeM S t ≠ 0 ∧ isM m = true ∧ modeM S t ≠ m) ∧ E = mvE m (modeM S t) ∧ H = ⟨4, memH S ++ [(3, cellI t)]⟩) (mvK S t m)) ?_) (fun E H h => ?_)
  · refine ⟨rfl, rfl, ⟨rfl, rfl⟩, hW, ?_⟩
    refine branch_iff.2 ⟨fun h => ?_, fun h => branch_iff.2 ⟨fun h2 => ?_, fun h2 => branch_iff.2 ⟨fun h3 => ?_, fun h3 => ?_⟩⟩⟩
    · have h : modeM S t = 0 := of_decide_eq_true h
      exact ⟨⟨4, memH S⟩, Ghost.more _ _, by unfold moveE; rw [if_pos h], by unfold moveR; rw [if_pos h]⟩
    · have h : modeM S t ≠ 0 := of_decide_eq_false h
      have h2 : ¬ isM m = true := by
        have h2 : (!decide (1 ≤ m ∧ m ≤ 28)) = true := h2
        rw [Bool.not_eq_true', decide_eq_false_iff_not] at h2
        unfold isM
        rw [decide_eq_true_eq]
        exact h2
      exact ⟨⟨4, memH S⟩, Ghost.more _ _, by unfold moveE; rw [if_neg h, if_neg h2], by unfold moveR; rw [if_neg h, if_neg h2]⟩
    · have h : modeM S t ≠ 0 := of_decide_eq_false h
      have h2 : isM m = true := (Bool.not_eq_false' _).mp h2
      have h3 : modeM S t = m := of_decide_eq_true h3
      exact ⟨⟨4, memH S⟩, Ghost.more _ _, by unfold moveE; rw [if_neg h, if_pos h2], by unfold moveR; rw [if_neg h, if_pos h2, if_pos h3]⟩
    · exact ⟨⟨of_decide_eq_false h, (Bool.not_eq_false' _).mp h2, of_decide_eq_false h3⟩, rfl, rfl⟩
  obtain ⟨E', H', σ, ⟨⟨hf0, hm, hfm⟩, rfl, rfl⟩, g2, g3, g4, g5, g6⟩ := canonK_ok h
  refine Gd.sub (base := 3) (Nat.le_refl _) g6 ?_ g2 g3 g4 g5
  obtain ⟨ht, l, hl, hmem⟩ := mode_in hW hf0
  have h8 := len8 hW hl
  have hE : moveE S t m = 0 := by unfold moveE; rw [if_neg hf0, if_pos hm]
  have hS : moveR S t m = ⟨S.modes.set t.toNat m, inL m t (outL (modeM S t) t S.lists)⟩ := by unfold moveR; rw [if_neg hf0, if_pos hm, if_neg hfm]; rfl
  have hol := out_len hW (f := modeM S t) (t := t) (m := m) hfm
  generalize hf : modeM S t = f at *
  refine Gd.ghost (memF_some S f l 4 [(3, cellI t)] (by omega) hl) ?_
  show MvGd S t m (tailN 3 mvB) (mvE m f) ⟨5, (4, rowI l) :: memF S (delK f S.lists) f [slI 4 l] ++ [(3, cellI t)]⟩
  refine Gd.walkN TM4ok.ctx (base := 3) (Nat.le_refl _) (It := fun E H => canonK 3 [0, 2, 4, 7] E H (fun E H => E = mvE m f ∧ Ghost H ⟨5, memH ⟨S.modes, outL f t S.lists⟩ ++ [(3, cellI t)]⟩ ∧ 3 ≤ H.next)) 2 90 _ _ _ mv_seqs2 mvIn3 (Eq.mpr (w_mv_b S (delK f S.lists) t m f l (fun E H => E = mvE m f ∧ Ghost H ⟨5, memH ⟨S.modes, outL f t S.lists⟩ ++ [(3, cellI t)]⟩ ∧ 3 ≤ H.next) (canQ 3 tsMv (endA (TM4.ctx Try.prog).P Try.f9 (mvK S t m)))) ?_) (fun E H h => ?_)
  · refine obl_dec rfl ⟨rfl, ⟨rfl, by show l.length ≤ 1000; omega⟩, obl_dec rfl (obl_dec rfl (branch_iff.2 ⟨fun h => obl_dec rfl ⟨rfl, ?_, by show 3 ≤ 4; omega⟩, fun h => ⟨rfl, ?_, by show 3 ≤ 5; omega⟩⟩))⟩
    · have h : l.filter (fun x => !(decide (x = t))) = [] := by
        have := of_decide_eq_true h
        exact List.eq_nil_of_length_eq_zero (by omega)
      have e : outL f t S.lists = delK f S.lists := by unfold outL; rw [hl]; simp only [Option.getD_some]; rw [h]
      rw [e]
      exact (memF_back0 S (delK f S.lists) f 4 [(3, cellI t)]).trans (Ghost.more _ _)
    · have h : l.filter (fun x => !(decide (x = t))) ≠ [] := by
        intro e
        have := of_decide_eq_false h
        rw [e] at this
        exact this rfl
      have e : outL f t S.lists = delK f S.lists ++ [(f, l.filter (fun x => !(decide (x = t))))] := by
        unfold outL; rw [hl]; simp only [Option.getD_some]
        cases hq : l.filter (fun x => !(decide (x = t))) with
        | nil => exact absurd hq h
        | cons a r => rfl
      rw [e]
      generalize l.filter (fun x => !(decide (x = t))) = l'
      refine (memF_back S (delK f S.lists) f l' 5 4 (by omega) [(3, cellI t), (4, rowI l')] rfl).trans (Ghost.ext rfl fun b => ?_)
      unfold AHeap.get memH
      simp only [List.cons_append, List.nil_append, getB_cons]
      by_cases h0 : 0 = b
      · subst h0; rfl
      by_cases h1 : 1 = b
      · subst h1; rfl
      by_cases h2 : 2 = b
      · subst h2; rfl
      by_cases h3 : 3 = b
      · subst h3; rfl
      by_cases h4 : 4 = b
      · subst h4; rfl
      simp only [h0, h1, h2, h3, h4, if_false, getB]
  obtain ⟨E', H', σ, ⟨rfl, hgh, _⟩, g2, g3, g4, g5, g6⟩ := canonK_ok h
  refine Gd.sub (base := 3) (Nat.le_refl _) g6 (Gd.ghost hgh ?_) g2 g3 g4 g5
  rw [mv_tail]
  exact mv_in S S t m f _ ht hol hE hS

set_option maxRecDepth 100000 in
theorem move_sound : GcSound Try.prog 9 (gcSub decMem memC (fMem cMove)) := by
  refine mem_gc Try.call9 (fun S rest v H1 hW hC ρ w hR hb => ?_)
  unfold cMove at hC
  split at hC <;> cases hC
  rename_i t m
  exact calls_ghost (K' := mvK S t m) (fn_good TM4ok.ctx (fn := Try.f9) (c := mvB) mv_fns mv_body (Gd.can (Nat.le_refl _) (move_good S hW t m)) hR hb) (fun out H' h => h)

end Go.Proofs.Ytcgnoegejmhgmaa
