/-
  MemberOnce: plain facts.
-/
import Derived.Test.YtcgnoegejmhgmaaMbO
namespace Go.Proofs.Ytcgnoegejmhgmaa
set_option linter.unusedVariables false
set_option linter.unusedSimpArgs false
open Go.RowKit Ev

def cntP (S : MemS) (ks : List Int) (u : Nat) : Int := if u < S.modes.length ∧ S.modes.getD u 0 ∈ ks then 1 else 0
def cntL (l : List Int) (u : Nat) : Int := if (u : Int) ∈ l then 1 else 0
/-- What is counted. -/
def CntOk (S : MemS) (ks l : List Int) (c : Nat → Int) : Prop := ∀ u, u < 8 → c u = cntP S ks u + cntL l u
def list8 (c : Nat → Int) : List Int := [c 0, c 1, c 2, c 3, c 4, c 5, c 6, c 7]
def incC (c : Nat → Int) (x : Int) : Nat → Int := fun u => if decide (x.toNat = u) = true then (list8 c).getD x.toNat 0 + 1 else c u

theorem getD8 (c : Nat → Int) {u : Nat} (h : u < 8) : (list8 c).getD u 0 = c u := by
  have : u = 0 ∨ u = 1 ∨ u = 2 ∨ u = 3 ∨ u = 4 ∨ u = 5 ∨ u = 6 ∨ u = 7 := by omega
  rcases this with rfl | rfl | rfl | rfl | rfl | rfl | rfl | rfl <;> rfl

theorem cnt_0 (S : MemS) : CntOk S [] [] (fun _ => 0) := fun u _ => by simp [cntP, cntL]

theorem cnt_le {S : MemS} {ks l : List Int} {c : Nat → Int} (h : CntOk S ks l c) {u : Nat} (hu : u < 8) : 0 ≤ c u ∧ c u ≤ 2 := by
  rw [h u hu]
  unfold cntP cntL
  split <;> split <;> omega

theorem getD_mem {l : List Int} {i : Nat} (h : i < l.length) : l.getD i 0 ∈ l := by simp [List.getD, h]

theorem cnt_inc {S : MemS} {ks l : List Int} {c : Nat → Int} {j : Nat} (h : CntOk S ks (l.take j) c) (hj : j < l.length) (hnd : l.Nodup) (hx : 0 ≤ l.getD j 0 ∧ l.getD j 0 < 8) : CntOk S ks (l.take (j + 1)) (incC c (l.getD j 0)) := by
  have hs := take_snoc hj
  have hnot : l.getD j 0 ∉ l.take j := by
    have h2 : (l.take (j + 1)).Nodup := hnd.sublist (List.take_sublist _ _)
    rw [hs, List.nodup_append] at h2
    exact fun hm => h2.2.2 _ hm _ (List.mem_singleton.2 rfl) rfl
  intro u hu
  show (if decide ((l.getD j 0).toNat = u) = true then (list8 c).getD (l.getD j 0).toNat 0 + 1 else c u) = _
  have hx8 : (l.getD j 0).toNat < 8 := by omega
  rw [getD8 c hx8, hs]
  by_cases he : (l.getD j 0).toNat = u
  · rw [if_pos (decide_eq_true he), he, h u hu]
    have hl : l.getD j 0 = (u : Int) := by omega
    rw [hl] at hnot ⊢
    unfold cntL
    rw [if_neg hnot, if_pos (by simp)]
    omega
  · rw [if_neg (by simpa using he), h u hu]
    unfold cntL
    have : ((u : Int) ∈ l.take j ++ [l.getD j 0]) ↔ (u : Int) ∈ l.take j := by
      rw [List.mem_append, List.mem_singleton]
      refine ⟨fun h => h.resolve_right (by omega), .inl⟩
    simp only [this]

theorem cnt_next {S : MemS} (hW : WfM S) {ks : List Int} {c : Nat → Int} {k : Nat} (hk : k < ks.length) (hnot : ks.getD k 0 ∉ ks.take k) (h : CntOk S (ks.take k) (ofM S (ks.getD k 0)) c) : CntOk S (ks.take (k + 1)) [] c := by
  intro u hu
  rw [h u hu, take_snoc hk]
  have hm : (u : Int) ∈ ofM S (ks.getD k 0) ↔ u < S.modes.length ∧ S.modes.getD u 0 = ks.getD k 0 := by
    rw [ofM_mem hW, Int.toNat_natCast]
    exact ⟨fun h => ⟨by omega, h.2⟩, fun h => ⟨by omega, h.2⟩⟩
  unfold cntP cntL
  simp only [hm, List.mem_append, List.mem_singleton, List.not_mem_nil, if_false]
  generalize S.modes.getD u 0 = a at *
  generalize ks.getD k 0 = b at *
  by_cases hn : u < S.modes.length
  · by_cases he : a = b
    · subst he
      simp [hn, hnot]
    · simp [hn, he]
  · simp [hn]

theorem mem_all {S : MemS} {k : Int} : k ∈ allM S ↔ k ∈ S.lists.map (·.1) := (sortI_perm _).mem_iff
theorem all_nodup {S : MemS} (hW : WfM S) : (allM S).Nodup := (sortI_perm _).nodup_iff.2 hW.nodup
theorem all_len {S : MemS} (hW : WfM S) : (allM S).length ≤ 1000 := by
  show (sortI _).length ≤ 1000
  rw [(sortI_perm _).length_eq, List.length_map]
  exact (wf_keys hW).2.1
theorem all_rise {S : MemS} (hW : WfM S) {k : Nat} (h0 : 0 < k) (hk : k < (allM S).length) : (allM S).getD (k - 1) 0 < (allM S).getD k 0 := by
  have h1 : (allM S).Pairwise (· ≤ ·) := sortI_sorted _
  have h2 : (allM S).Pairwise (· ≠ ·) := all_nodup hW
  have e1 : (allM S).getD (k - 1) 0 = (allM S)[k - 1]'(by omega) := by simp [List.getD, show k - 1 < (allM S).length by omega]
  have e2 : (allM S).getD k 0 = (allM S)[k]'hk := by simp [List.getD, hk]
  have a1 := List.pairwise_iff_getElem.1 h1 (k - 1) k (by omega) hk (by omega)
  have a2 := List.pairwise_iff_getElem.1 h2 (k - 1) k (by omega) hk (by omega)
  rw [e1, e2]
  omega
theorem all_not {S : MemS} (hW : WfM S) {k : Nat} (hk : k < (allM S).length) : (allM S).getD k 0 ∉ (allM S).take k := by
  have h2 : ((allM S).take (k + 1)).Nodup := (all_nodup hW).sublist (List.take_sublist _ _)
  rw [take_snoc hk, List.nodup_append] at h2
  exact fun hm => h2.2.2 _ hm _ (List.mem_singleton.2 rfl) rfl
theorem all_of {S : MemS} (hW : WfM S) {k : Int} (h : k ∈ allM S) : ofM S k ≠ [] := by
  rw [mem_all, List.mem_map] at h
  obtain ⟨p, hp, rfl⟩ := h
  have hg : getK p.1 S.lists = some p.2 := getK_of_mem hW.nodup hp
  unfold ofM
  rw [hg]
  exact (hW.list p hp).1
theorem of_mode {S : MemS} (hW : WfM S) {k u : Int} (h : u ∈ ofM S k) : (0 ≤ u ∧ u < S.modes.length) ∧ modeM S u = k := by
  rw [ofM_mem hW] at h
  refine ⟨h.1, ?_⟩
  unfold modeM
  rw [if_pos h.1]
  exact h.2

theorem cnt_end {S : MemS} (hW : WfM S) {c : Nat → Int} (h : CntOk S (allM S) [] c) {u : Nat} (hu : u < 8) : c u = if u < S.modes.length then 1 else 0 := by
  rw [h u hu]
  unfold cntP cntL
  rw [if_neg (List.not_mem_nil (a := (u : Int)))]
  by_cases hn : u < S.modes.length
  · have hin : S.modes.getD u 0 ∈ allM S := by
      rw [mem_all]
      obtain ⟨l, hl, _⟩ := hW.all u hn
      exact List.mem_map.2 ⟨_, getK_mem hl, rfl⟩
    rw [if_pos hn, if_pos ⟨hn, hin⟩]; rfl
  · rw [if_neg hn, if_neg (fun h => hn h.1)]; rfl

/-! ### a move -/

theorem move_mode {S : MemS} (hW : WfM S) {t m : Int} (ht : 0 ≤ t ∧ t < S.modes.length) (hm : isM m = true) : modeM (moveR S t m) t = m := by
  by_cases h : modeM S t = m
  · unfold moveR
    rw [if_neg (mode_of hW ht).2, if_pos hm, if_pos h]; exact h
  · rw [moveR_ne hW ht hm h, modeM_move ht, if_pos rfl]
theorem move_same {S : MemS} (hW : WfM S) {t m : Int} (ht : 0 ≤ t ∧ t < S.modes.length) (hm : isM m = true) (h : modeM S t = m) : moveR S t m = S := by
  unfold moveR
  rw [if_neg (mode_of hW ht).2, if_pos hm, if_pos h]
theorem move_from {S : MemS} (hW : WfM S) {t m : Int} (ht : 0 ≤ t ∧ t < S.modes.length) (hm : isM m = true) (h : modeM S t ≠ m) : ofM (moveR S t m) (modeM S t) = without t (ofM S (modeM S t)) := by
  rw [moveR_ne hW ht hm h, ofM_move hW h, if_neg h, if_pos rfl]

end Go.Proofs.Ytcgnoegejmhgmaa
