/-
  Members: new ones; all modes: contracts.
-/
import Derived.Test.YtcgnoegejmhgmaaMbW5
namespace Go.Proofs.Ytcgnoegejmhgmaa
set_option linter.unusedVariables false
set_option linter.unusedSimpArgs false
open Go.RowKit Ev

def allM (S : MemS) : List Int := sortI (S.lists.map (·.1))

theorem wf_keys {S : MemS} (hW : WfM S) : okKeys S.lists := by
  have hk : ∀ p ∈ S.lists, 1 ≤ p.1 ∧ p.1 ≤ 28 := fun p hp => by
    obtain ⟨h1, _, h3⟩ := hW.list p hp
    cases hl : p.2 with
    | nil => exact absurd hl h1
    | cons t r =>
      obtain ⟨a1, a2, a3⟩ := h3 t (by rw [hl]; exact List.mem_cons_self ..)
      have := hW.is t.toNat (by omega)
      rw [a3] at this
      exact of_decide_eq_true this
  refine ⟨fun e => ?_, ?_, hk⟩
  · obtain ⟨l, h, _⟩ := hW.all 0 hW.n1
    rw [e] at h; cases h
  · have := nodup_bound 29 (S.lists.map (·.1)) hW.nodup (fun t ht => by
      obtain ⟨p, hp, rfl⟩ := List.mem_map.1 ht
      have := hk p hp
      omega)
    rw [List.length_map] at this
    omega

def cAll (S : MemS) : List AVal → Option (AVal × AHeap)
  | [] => some (.sl 3 0 1 0 (allM S).length none, ⟨4, memH S ++ [(3, rowI (allM S))]⟩)
  | _ => none

set_option maxRecDepth 100000 in
theorem all_sound : GcSound Try.prog 16 (gcSub decMem memC (fMem cAll)) := by
  refine mem_gc Try.call16 (fun S rest v H1 hW hC ρ w hR hb => ?_)
  unfold cAll at hC
  split at hC <;> cases hC
  have hin := inFn_at TM5ok.ctx (f := 16) (fn := Try.f16) (body := allB) (by kernel_rfl) (by kernel_rfl) []
  exact fn_good TM5ok.ctx (fn := Try.f16) (c := allB) (by kernel_rfl) (by kernel_rfl) (Gd.walkC TM5ok.ctx 3 tsAll (Nat.le_refl _) hin (Eq.mpr (w_all S (fun out H' => out = .ret (.sl 3 0 1 0 (allM S).length none) ∧ H' = ⟨4, memH S ++ [(3, rowI (allM S))]⟩)) ⟨rfl, ⟨rfl, wf_keys hW⟩, rfl, rfl⟩)) hR hb

/-! ### new members -/

def newS (n m : Int) : MemS := ⟨List.replicate n.toNat m, [(m, (List.range n.toNat).map fun (i : Nat) => (i : Int))]⟩
def newBad (n m : Int) : Bool := decide (n < 1 ∨ 8 < n ∨ ¬ (1 ≤ m ∧ m ≤ 28))

def decNew (args : List AVal) (H : AHeap) : Option (List (Nat × Nat) × (Int × Int)) := match args with
  | [.int .i64 n, .int .i64 m] => some ([], (n, m))
  | _ => none
def fNew (s : Int × Int) (K : Out → AHeap → Prop) : Prop :=
  branch (newBad s.1 s.2) (forceH ⟨4, []⟩ (K (.ret .nilp))) (forceH ⟨4, memH (newS s.1 s.2)⟩ (K (.ret (.ptr 0 0 0 0))))

theorem decNew_ok : DecOk decNew (fun s => [.int .i64 s.1, .int .i64 s.2]) (fun _ => ⟨0, []⟩) := by
  refine ⟨fun args H σ s h hb hH => ?_⟩
  unfold decNew at h
  split at h <;> cases h
  exact ⟨rfl, rfl, (fun c x hx => by cases hx), fun c c' hc => absurd hc (Nat.not_lt_zero _), fun c hc => absurd hc (Nat.not_lt_zero _)⟩

theorem newIn (p : List Bool) : InFn (TM5.ctx Try.prog) 7 (codeAt p newB) :=
  inFn_at TM5ok.ctx (fn := Try.f7) (by kernel_rfl) (by kernel_rfl) p
theorem newIn3 : InFn (TM5.ctx Try.prog) 7 (tailN 3 newB) := by
  have e : tailN 3 newB = codeAt [true, true, true] newB := by kernel_rfl
  rw [e]; exact newIn _
theorem new_seqs3 : isSeqs 3 newB = true := by kernel_rfl
theorem new_body : Try.f7.body = some newB := by kernel_rfl
theorem new_fns : (TM5.ctx Try.prog).fns 7 = some Try.f7 := by kernel_rfl

def newK (n m : Int) (out : Out) (H' : AHeap) : Prop := ∃ H'', Ghost H' H'' ∧ ((newBad n m = true ∧ out = .ret .nilp ∧ H'' = ⟨4, []⟩) ∨ (newBad n m = false ∧ out = .ret (.ptr 0 0 0 0) ∧ H'' = ⟨4, memH (newS n m)⟩))

noncomputable abbrev NewGd (n m : Int) (c : Code) (E : Env) (H : AHeap) : Prop := Gd (TM5.ctx Try.prog) 7 ⟨0, []⟩ c (canQ 0 tsNew (endA (TM5.ctx Try.prog).P Try.f7 (newK n m))) E H

theorem new_end (n m : Int) (modes l : List Int) (k : Nat) (hk1 : modes.length = k) (hk2 : l.length = k) (hb : newBad n m = false) (h1 : modes = List.replicate n.toNat m) (h2 : l = (List.range n.toNat).map fun (i : Nat) => (i : Int)) :
    newK n m (.ret (.ptr 0 0 0 0)) ⟨4, [(0, membersB (.sl 1 0 1 0 k none) (.map 2)), (1, rowI modes), (2, .obj (MapT listV) ⟨[], some m⟩ [.sl 3 0 1 0 k none]), (3, rowI l)]⟩ := by
  subst hk1
  refine ⟨⟨4, memH (newS n m)⟩, ?_, .inr ⟨hb, rfl, rfl⟩⟩
  have e : newS n m = ⟨modes, [(m, l)]⟩ := by unfold newS; rw [h1, h2]
  rw [e]
  have h := (memF_back ⟨modes, []⟩ [] m l 4 3 (by omega) [(3, rowI l)] rfl).trans (Ghost.ext (H' := ⟨4, memH ⟨modes, [(m, l)]⟩⟩) rfl fun b => by
    unfold AHeap.get memH
    simp only [List.cons_append, List.nil_append, getB_cons]
    by_cases h0 : 0 = b
    · subst h0; rfl
    by_cases h1 : 1 = b
    · subst h1; rfl
    by_cases h2 : 2 = b
    · subst h2; rfl
    by_cases h3 : 3 = b
    · subst h3; rfl
    simp only [h0, h1, h2, h3, if_false, getB])
  unfold memF slI at h
  rw [hk2] at h
  exact h

theorem Ghost.mores (n : Nat) (bs : List (Nat × ABlk)) : ∀ k, Ghost ⟨n, bs⟩ ⟨n + k, bs⟩
  | 0 => .refl _
  | k + 1 => (Ghost.mores n bs k).trans (Ghost.more _ _)

set_option maxRecDepth 100000 in
theorem new_good (n m : Int) : NewGd n m newB (env0 [.int .i64 n, .int .i64 m] 0) ⟨0, []⟩ := by
  refine Gd.walkN TM5ok.ctx (base := 0) (Nat.le_refl _) (It := fun E H => canonK 0 [0, 1, 5] E H (fun E H => newBad n m = false ∧ E = newE n m ∧ H = ⟨2, [(0, membersB .nils (.map 1)), (1, .obj (MapT listV) ⟨[], none⟩ [])]⟩)) 3 200 _ _ _ new_seqs3 (newIn []) (Eq.mpr (w_new_a n m (fun E H => newBad n m = false ∧ E = newE n m ∧ H = ⟨2, [(0, membersB .nils (.map 1)), (1, .obj (MapT listV) ⟨[], none⟩ [])]⟩) (newK n m)) ?_) (fun E H h => ?_)
  · have bad : (n < 1 ∨ 8 < n ∨ ¬ (1 ≤ m ∧ m ≤ 28)) → newK n m (.ret .nilp) ⟨0, []⟩ := fun h => ⟨⟨4, []⟩, Ghost.mores 0 [] 4, .inl ⟨decide_eq_true h, rfl, rfl⟩⟩
    refine branch_iff.2 ⟨fun h => bad (.inl (of_decide_eq_true h)), fun h => branch_iff.2 ⟨fun h2 => bad (.inr (.inl (of_decide_eq_true h2))), fun h2 => branch_iff.2 ⟨fun h3 => ?_, fun h3 => ?_⟩⟩⟩
    · refine bad (.inr (.inr ?_))
      have h3 := (Bool.not_eq_true' _).mp h3
      exact of_decide_eq_false h3
    · have h := of_decide_eq_false h
      have h2 := of_decide_eq_false h2
      have h3 := of_decide_eq_true ((Bool.not_eq_false' _).mp h3)
      exact ⟨decide_eq_false (by omega), rfl, rfl⟩
  obtain ⟨E', H', σ, ⟨hb, rfl, rfl⟩, g2, g3, g4, g5, g6⟩ := canonK_ok h
  refine Gd.sub (base := 0) (Nat.le_refl _) g6 ?_ g2 g3 g4 g5
  have hgh : Ghost ⟨2, [(0, membersB .nils (.map 1)), (1, .obj (MapT listV) ⟨[], none⟩ [])]⟩ ⟨2, [(0, membersB .nils (.map 1)), (1, .obj (MapT listV) ⟨[], some m⟩ [])]⟩ :=
    (focus_none (V := listV) (H := ⟨2, [(0, membersB .nils (.map 1)), (1, .obj (MapT listV) ⟨[], none⟩ [])]⟩) (b := 1) (L := []) (n := m) rfl rfl).trans (Ghost.ext rfl fun b => by
      unfold AHeap.get AHeap.put
      simp only [getB_cons]
      by_cases h0 : 0 = b
      · subst h0; rfl
      by_cases h1 : 1 = b
      · subst h1; rfl
      simp only [h0, h1, if_false, getB])
  refine Gd.ghost hgh ?_
  have hn : n = 1 ∨ n = 2 ∨ n = 3 ∨ n = 4 ∨ n = 5 ∨ n = 6 ∨ n = 7 ∨ n = 8 := by
    have := of_decide_eq_false hb
    omega
  rcases hn with rfl | rfl | rfl | rfl | rfl | rfl | rfl | rfl
  · refine Gd.walk TM5ok.ctx (base := 0) (Nat.le_refl _) newIn3 (Eq.mpr (w_new_1 m (newK 1 m)) ?_)
    simp only [decide_true, obl_iff, true_and]
    exact new_end 1 m _ _ 1 rfl rfl hb rfl rfl
  · refine Gd.walk TM5ok.ctx (base := 0) (Nat.le_refl _) newIn3 (Eq.mpr (w_new_2 m (newK 2 m)) ?_)
    simp only [decide_true, obl_iff, true_and]
    exact new_end 2 m _ _ 2 rfl rfl hb rfl rfl
  · refine Gd.walk TM5ok.ctx (base := 0) (Nat.le_refl _) newIn3 (Eq.mpr (w_new_3 m (newK 3 m)) ?_)
    simp only [decide_true, obl_iff, true_and]
    exact new_end 3 m _ _ 3 rfl rfl hb rfl rfl
  · refine Gd.walk TM5ok.ctx (base := 0) (Nat.le_refl _) newIn3 (Eq.mpr (w_new_4 m (newK 4 m)) ?_)
    simp only [decide_true, obl_iff, true_and]
    exact new_end 4 m _ _ 4 rfl rfl hb rfl rfl
  · refine Gd.walk TM5ok.ctx (base := 0) (Nat.le_refl _) newIn3 (Eq.mpr (w_new_5 m (newK 5 m)) ?_)
    simp only [decide_true, obl_iff, true_and]
    exact new_end 5 m _ _ 5 rfl rfl hb rfl rfl
  · refine Gd.walk TM5ok.ctx (base := 0) (Nat.le_refl _) newIn3 (Eq.mpr (w_new_6 m (newK 6 m)) ?_)
    simp only [decide_true, obl_iff, true_and]
    exact new_end 6 m _ _ 6 rfl rfl hb rfl rfl
  · refine Gd.walk TM5ok.ctx (base := 0) (Nat.le_refl _) newIn3 (Eq.mpr (w_new_7 m (newK 7 m)) ?_)
    simp only [decide_true, obl_iff, true_and]
    exact new_end 7 m _ _ 7 rfl rfl hb rfl rfl
  · refine Gd.walk TM5ok.ctx (base := 0) (Nat.le_refl _) newIn3 (Eq.mpr (w_new_8 m (newK 8 m)) ?_)
    simp only [decide_true, obl_iff, true_and]
    exact new_end 8 m _ _ 8 rfl rfl hb rfl rfl

theorem new_sound : GcSound Try.prog 7 (gcSub decNew (fun _ => ⟨0, []⟩) fNew) := by
  refine gc_sub Try.call7 decNew_ok (fun s k hk ρ w hR hb => ?_)
  obtain ⟨n, m⟩ := s
  refine calls_ghost (K' := newK n m) (fn_good TM5ok.ctx (fn := Try.f7) (c := newB) new_fns new_body (Gd.can (Nat.le_refl _) (new_good n m)) hR hb) (fun out H' h => ?_)
  obtain ⟨H'', hg, h⟩ := h
  unfold fNew at hk
  simp only [forceH_eq] at hk
  rcases h with ⟨h1, rfl, rfl⟩ | ⟨h1, rfl, rfl⟩
  · exact ⟨_, hg, (branch_iff.1 hk).1 h1⟩
  · exact ⟨_, hg, (branch_iff.1 hk).2 h1⟩

def nAll : List AVal → Option AVal
  | [] => some .nils
  | _ => none
theorem all_sound' : GcSound Try.prog 16 (gcNil nAll (gcSub decMem memC (fMem cAll))) := by
  refine gc_nil TM5ok.ctx (n := 90) Try.call16 all_sound (fun rest v h => ?_)
  unfold nAll at h
  split at h <;> cases h
  exact ⟨rfl, fun _ => rfl, fun _ _ => rfl, Eq.mpr (w_all_nil _) rfl⟩
noncomputable def TM6 : Tabs := (TM5.addGc 16 (gcNil nAll (gcSub decMem memC (fMem cAll)))).addGc 7 (gcSub decNew (fun _ => ⟨0, []⟩) fNew)
theorem TM6ok : TabsOk TM6 Try.prog := (TM5ok.addGc all_sound').addGc new_sound

end Go.Proofs.Ytcgnoegejmhgmaa
