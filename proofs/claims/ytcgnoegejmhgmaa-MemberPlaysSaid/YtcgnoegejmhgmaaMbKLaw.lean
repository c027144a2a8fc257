/-
  Members: the closed statement; works.
-/
import Derived.Test.YtcgnoegejmhgmaaMbK0
namespace Go.Proofs.Ytcgnoegejmhgmaa
set_option linter.unusedVariables false
set_option linter.unusedSimpArgs false
open Go.RowKit Ev

def nodupB : List Int → Bool
  | [] => true
  | a :: r => !(r.any fun b => decide (b = a)) && nodupB r
theorem nodupB_ok : ∀ {l : List Int}, nodupB l = true → l.Nodup
  | [], _ => List.nodup_nil
  | a :: r, h => by
    simp only [nodupB, Bool.and_eq_true, Bool.not_eq_true', List.any_eq_false, decide_eq_true_eq] at h
    exact List.nodup_cons.2 ⟨fun ha => h.1 a ha rfl, nodupB_ok h.2⟩

def wfB (S : MemS) : Bool :=
  decide (1 ≤ S.modes.length ∧ S.modes.length ≤ 8) && (S.modes.all isM && (nodupB (S.lists.map (·.1)) &&
    (S.lists.all (fun p => !(p.2.isEmpty) && (nodupB p.2 && p.2.all fun t => decide (0 ≤ t ∧ t < S.modes.length ∧ S.modes.getD t.toNat 0 = p.1))) &&
      (List.range S.modes.length).all fun (t : Nat) => match getK (S.modes.getD t 0) S.lists with
        | some l => l.any fun x => decide (x = (t : Int))
        | none => false)))

theorem wf_of {S : MemS} (h : wfB S = true) : WfM S := by
  unfold wfB at h
  simp only [Bool.and_eq_true, decide_eq_true_eq, List.all_eq_true] at h
  obtain ⟨⟨h1, h2⟩, h3, h4, h5, h6⟩ := h
  refine ⟨h1, h2, fun i hi => ?_, nodupB_ok h4, fun p hp => ?_, fun t ht => ?_⟩
  · have := h3 (S.modes.getD i 0) (by simp [List.getD, hi])
    exact this
  · obtain ⟨a1, a2, a3⟩ := h5 p hp
    refine ⟨?_, nodupB_ok a2, a3⟩
    rintro e
    rw [e] at a1
    cases a1
  · have := h6 t (by simpa using ht)
    split at this
    · rename_i l hl
      simp only [List.any_eq_true, decide_eq_true_eq] at this
      obtain ⟨x, hx, rfl⟩ := this
      exact ⟨l, hl, hx⟩
    · cases this

/-- Two obligations of each call. -/
theorem mem_step {α β : Prop} {T : RowTy} {U : ObjTy} {S : MemS} {K : Prop} (hα : α) (hβ : β) (hS : wfB S = true) (hK : K) : ∃ (hT : T = T), ∃ (hU : U = U), (α ∧ β) ∧ WfM S ∧ K :=
  ⟨rfl, rfl, ⟨hα, hβ⟩, wf_of hS, hK⟩

set_option maxRecDepth 100000 in
theorem works_true : callC (TM7.ctx Try.prog) 90 11 [] ⟨0, []⟩ (fun o _ => o = .ret (.bool true)) := by
  rw [w_works]
  repeat (refine mem_step rfl rfl (by kernel_rfl) ?_)
  rfl

set_option maxRecDepth 100000 in
theorem known_true17 : LawT (TM7.ctx Try.prog) 6 [] := by
  refine ⟨?_⟩
  rw [w_known]
  repeat (refine mem_step rfl rfl (by kernel_rfl) ?_)
  rfl

def fcWorks : FC := fun args H => match args with
  | [] => some (true, .bool true)
  | _ => none
theorem fworks_sound : FcSound Try.prog 11 fcWorks := by
  refine fc_pure TM7ok.ctx (n := 90) Try.call11 (fun args H v h => ?_)
  unfold fcWorks at h
  split at h <;> cases h
  exact ⟨rfl, rfl, works_true⟩
noncomputable def TM8 : Tabs := TM7.addFc 11 fcWorks
theorem TM8ok : TabsOk TM8 Try.prog := TM7ok.addFc fworks_sound

end Go.Proofs.Ytcgnoegejmhgmaa
