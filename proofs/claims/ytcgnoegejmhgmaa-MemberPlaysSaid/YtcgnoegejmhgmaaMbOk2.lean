/-
  Members: the lists, and a move: contracts.
-/
import Derived.Test.YtcgnoegejmhgmaaMbW3
namespace Go.Proofs.Ytcgnoegejmhgmaa
set_option linter.unusedVariables false
set_option linter.unusedSimpArgs false
open Go.RowKit Ev

theorem reDec_int (l : List Int) : l.map (reDec (intRow .i64) (intRow .i64)) = l := by
  conv => rhs; rw [← List.map_id l]
  apply List.map_congr_left
  intro a _
  rfl
theorem reOk_int (l : List Int) : l.all (reOk (intRow .i64) (intRow .i64)) = true := by
  rw [List.all_eq_true]
  intro a _
  rfl

theorem nodup_bound : ∀ (n : Nat) (l : List Int), l.Nodup → (∀ t ∈ l, 0 ≤ t ∧ t < n) → l.length ≤ n
  | 0, l, _, h => by
    cases l with
    | nil => exact Nat.le_refl _
    | cons a l => have := h a (List.mem_cons_self ..); omega
  | n + 1, l, hn, h => by
    have h1 := nodup_bound n (l.erase (n : Int)) (hn.erase _) (fun t ht => by
      rw [hn.mem_erase_iff] at ht
      have := h t ht.2
      omega)
    have h2 := List.length_erase (a := (n : Int)) (l := l)
    split at h2 <;> omega

theorem len8 {S : MemS} (hW : WfM S) {k : Int} {l : List Int} (hg : getK k S.lists = some l) : l.length ≤ 8 := by
  obtain ⟨_, h2, h3⟩ := hW.list _ (getK_mem hg)
  have := hW.n8
  exact nodup_bound 8 l h2 fun t ht => by
    obtain ⟨a1, a2, _⟩ := h3 t ht
    omega

def cOf (S : MemS) : List AVal → Option (AVal × AHeap)
  | [.int .i64 k] => some (.sl 3 0 1 0 (ofM S k).length none, ⟨5, memH S ++ [(3, rowI (ofM S k))]⟩)
  | _ => none

theorem of_sound : GcSound Try.prog 10 (gcSub decMem memC (fMem cOf)) := by
  refine mem_gc Try.call10 (fun S rest v H1 hW hC ρ w hR hb => ?_)
  unfold cOf at hC
  split at hC <;> cases hC
  rename_i k
  refine calls_ghost (K' := fun out H' => ∃ H'', Ghost H' H'' ∧ out = .ret (.sl 3 0 1 0 (ofM S k).length none) ∧ H'' = ⟨5, memH S ++ [(3, rowI (ofM S k))]⟩) (fn_good TM4ok.ctx (fn := Try.f10) (c := ofB) (by kernel_rfl) (by kernel_rfl) ?_ hR hb) (fun out H' h => h)
  have hin := inFn_at TM4ok.ctx (f := 10) (fn := Try.f10) (body := ofB) (by kernel_rfl) (by kernel_rfl) []
  cases hg : getK k S.lists with
  | none =>
    have e : ofM S k = [] := by unfold ofM; rw [hg]; rfl
    rw [e]
    refine Gd.ghost (memF_none S k 3 [] hg) (Gd.walkC TM4ok.ctx 3 tsOf (Nat.le_refl _) hin (Eq.mpr (w_of0 S _ k _) ?_))
    refine obl_dec rfl (obl_dec rfl ⟨_, (memF_back0 S (delK k S.lists) k 4 [(3, rowI [])]).trans (Ghost.more _ _), rfl, ?_⟩)
    rw [delK_self (getK_none.1 hg)]
  | some l =>
    have e : ofM S k = l := by unfold ofM; rw [hg]; rfl
    rw [e]
    have hp := delK_perm hW.nodup hg
    refine Gd.ghost (memF_some S k l 3 [] (Nat.le_refl _) hg) (Gd.walkC TM4ok.ctx 3 tsOf (Nat.le_refl _) hin (Eq.mpr (w_of1 S _ k l _) ?_))
    have hl : l.length ≤ 8 := len8 hW hg
    have e1 : List.map (reDec (intRow .i64) (intRow .i64)) (List.take l.length (List.drop 0 l)) = l := by
      rw [List.drop_zero, List.take_length]; exact reDec_int l
    have e2 : (List.take l.length (List.drop 0 l)).all (reOk (intRow .i64) (intRow .i64)) = true := by
      rw [List.drop_zero, List.take_length]; exact reOk_int l
    have e3 : ((l.length : Int)).toNat = l.length := by omega
    rw [e1, e2, repN_eq, e3, List.drop_eq_nil_of_le (by rw [List.length_replicate]; exact Nat.le_refl _), List.append_nil]
    refine obl_dec rfl (obl_dec (by omega) (obl_dec rfl (obl_mk ?_ ⟨⟨5, memH S ++ [(3, rowI l)]⟩, ((memF_back S (delK k S.lists) k l 5 4 (by omega) [(3, rowI l), (4, rowI l)] rfl).trans (memH_perm _ S.lists 5 _ hp)).trans (Ghost.ext rfl fun b => ?_), rfl, rfl⟩)))
    · rw [List.length_replicate]
      simp
    · unfold AHeap.get memH
      simp only [List.cons_append, List.nil_append, getB_cons]
      by_cases h0 : 0 = b
      · subst h0; rfl
      by_cases h1 : 1 = b
      · subst h1; rfl
      by_cases h2 : 2 = b
      · subst h2; rfl
      by_cases h3 : 3 = b
      · subst h3; rfl
      by_cases h4 : 4 = b
      · subst h4; rfl
      simp only [h0, h1, h2, h3, h4, if_false, getB]

end Go.Proofs.Ytcgnoegejmhgmaa
