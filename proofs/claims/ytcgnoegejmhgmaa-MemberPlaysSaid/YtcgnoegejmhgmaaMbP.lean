/-
  Members: what a move does, in plain words.
-/
import Derived.Test.YtcgnoegejmhgmaaMbKLaw
namespace Go.Proofs.Ytcgnoegejmhgmaa
set_option linter.unusedVariables false
set_option linter.unusedSimpArgs false
open Go.RowKit Ev

def without (t : Int) (l : List Int) : List Int := l.filter fun x => !(decide (x = t))
theorem mem_without {t x : Int} {l : List Int} : x ∈ without t l ↔ x ∈ l ∧ x ≠ t := by simp [without]

theorem getK_out {f t k : Int} {L : List (Int × List Int)} (h : (L.map (·.1)).Nodup) : getK k (outL f t L) = if k = f then (match without t ((getK f L).getD []) with
    | [] => none
    | a :: r => some (a :: r)) else getK k L := by
  have e : outL f t L = (match without t ((getK f L).getD []) with
    | [] => delK f L
    | a :: r => delK f L ++ [(f, a :: r)]) := rfl
  rw [e]
  cases hq : without t ((getK f L).getD []) with
  | nil =>
    by_cases hk : k = f
    · rw [if_pos hk, hk]; exact getK_del
    · rw [if_neg hk]; exact getK_delK hk
  | cons a r =>
    simp only [getK_append]
    by_cases hk : k = f
    · rw [if_pos hk, hk, getK_del]; simp [getK]
    · rw [if_neg hk, getK_delK hk]
      simp only [getK, if_neg (Ne.symm hk)]
      cases getK k L <;> rfl

theorem getK_in {m t k : Int} {L : List (Int × List Int)} : getK k (inL m t L) = if k = m then some ((getK m L).getD [] ++ [t]) else getK k L := by
  unfold inL
  rw [getK_append]
  by_cases hk : k = m
  · rw [if_pos hk, hk, getK_del]; simp [getK]
  · rw [if_neg hk, getK_delK hk]
    simp only [getK, if_neg (Ne.symm hk)]
    cases getK k L <;> rfl

theorem nodup_out {f t : Int} {L : List (Int × List Int)} (h : (L.map (·.1)).Nodup) : ((outL f t L).map (·.1)).Nodup := by
  unfold outL
  split
  · exact nodup_delK h
  · rw [List.map_append, List.nodup_append]
    refine ⟨nodup_delK h, by simp, ?_⟩
    rintro a ha b hb rfl
    simp at hb
    rw [key_delK] at ha
    exact ha.2 hb
theorem nodup_in {m t : Int} {L : List (Int × List Int)} (h : (L.map (·.1)).Nodup) : ((inL m t L).map (·.1)).Nodup := by
  unfold inL
  rw [List.map_append, List.nodup_append]
  refine ⟨nodup_delK h, by simp, ?_⟩
  rintro a ha b hb rfl
  simp at hb
  rw [key_delK] at ha
  exact ha.2 hb

theorem ofM_mem {S : MemS} (hW : WfM S) {k : Int} (u : Int) : u ∈ ofM S k ↔ (0 ≤ u ∧ u < S.modes.length) ∧ S.modes.getD u.toNat 0 = k := by
  unfold ofM
  constructor
  · intro h
    cases hg : getK k S.lists with
    | none => rw [hg] at h; simp at h
    | some l =>
      rw [hg] at h
      obtain ⟨_, _, h3⟩ := hW.list _ (getK_mem hg)
      obtain ⟨a1, a2, a3⟩ := h3 u h
      exact ⟨⟨a1, a2⟩, a3⟩
  · rintro ⟨⟨h1, h2⟩, h3⟩
    obtain ⟨l, hl, hu⟩ := hW.all u.toNat (by omega)
    rw [h3] at hl
    rw [hl]
    rw [Int.toNat_of_nonneg h1] at hu
    exact hu
theorem ofM_nodup {S : MemS} (hW : WfM S) (k : Int) : (ofM S k).Nodup := by
  unfold ofM
  cases hg : getK k S.lists with
  | none => exact List.nodup_nil
  | some l => exact (hW.list _ (getK_mem hg)).2.1

theorem ofM_move {S : MemS} (hW : WfM S) {t m : Int} (hne : modeM S t ≠ m) (k : Int) : ofM (moveS S t m) k = if k = m then ofM S m ++ [t] else if k = modeM S t then without t (ofM S k) else ofM S k := by
  have h1 : ∀ k, (getK k (outL (modeM S t) t S.lists)).getD [] = if k = modeM S t then without t (ofM S k) else ofM S k := by
    intro k
    rw [getK_out hW.nodup]
    by_cases hk : k = modeM S t
    · rw [if_pos hk, if_pos hk]
      subst hk
      show _ = without t ((getK (modeM S t) S.lists).getD [])
      cases without t ((getK (modeM S t) S.lists).getD []) <;> rfl
    · rw [if_neg hk, if_neg hk]; rfl
  show (getK k (inL m t (outL (modeM S t) t S.lists))).getD [] = _
  rw [getK_in]
  by_cases hk : k = m
  · rw [if_pos hk, if_pos hk, Option.getD_some, h1, if_neg (Ne.symm hne)]
  · rw [if_neg hk, if_neg hk, h1]

theorem getD_set {l : List Int} {i j : Nat} {a : Int} (hi : i < l.length) : (l.set i a).getD j 0 = if j = i then a else l.getD j 0 := by
  simp only [List.getD, List.getElem?_set]
  by_cases h : j = i
  · subst h; simp [hi]
  · rw [if_neg (Ne.symm h), if_neg h]

theorem modeM_move {S : MemS} {t m : Int} (ht : 0 ≤ t ∧ t < S.modes.length) (u : Int) : modeM (moveS S t m) u = if u = t then m else modeM S u := by
  unfold modeM moveS
  simp only [List.length_set]
  by_cases hu : 0 ≤ u ∧ u < S.modes.length
  · rw [if_pos hu, if_pos hu, getD_set (by omega)]
    by_cases h : u = t
    · rw [if_pos h, if_pos (by rw [h])]
    · rw [if_neg h, if_neg (by omega)]
  · rw [if_neg hu, if_neg hu, if_neg]
    rintro rfl
    exact hu ht

theorem wf_move {S : MemS} (hW : WfM S) {t m : Int} (ht : modeM S t ≠ 0) (hm : isM m = true) (hne : modeM S t ≠ m) : WfM (moveS S t m) := by
  obtain ⟨hti, _⟩ := mode_in hW ht
  have hft : modeM S t = S.modes.getD t.toNat 0 := by unfold modeM; rw [if_pos hti]
  have hof := ofM_move hW hne
  have hnd : ((moveS S t m).lists.map (·.1)).Nodup := nodup_in (nodup_out hW.nodup)
  have hlen : (moveS S t m).modes.length = S.modes.length := List.length_set
  have hmode : ∀ j, (moveS S t m).modes.getD j 0 = if j = t.toNat then m else S.modes.getD j 0 := fun j => getD_set (by omega)
  have hgk : ∀ k l, getK k (moveS S t m).lists = some l → ofM (moveS S t m) k = l := fun k l h => by unfold ofM; rw [h]; rfl
  have hne' : ∀ k l, getK k (moveS S t m).lists = some l → l ≠ [] := by
    intro k l h
    have h : getK k (inL m t (outL (modeM S t) t S.lists)) = some l := h
    rw [getK_in] at h
    by_cases hk : k = m
    · rw [if_pos hk] at h; cases h; simp
    · rw [if_neg hk, getK_out hW.nodup] at h
      by_cases hf : k = modeM S t
      · rw [if_pos hf] at h
        split at h
        · cases h
        · cases h; simp
      · rw [if_neg hf] at h
        exact (hW.list _ (getK_mem h)).1
  have hmem : ∀ k u, u ∈ ofM (moveS S t m) k ↔ (0 ≤ u ∧ u < S.modes.length) ∧ (moveS S t m).modes.getD u.toNat 0 = k := by
    intro k u
    rw [hof, hmode]
    by_cases hk : k = m
    · rw [if_pos hk, List.mem_append, ofM_mem hW, List.mem_singleton]
      by_cases hu : u = t
      · subst hu; rw [if_pos rfl]; simp [hti, hk]
      · by_cases hin : 0 ≤ u ∧ u < S.modes.length
        · rw [if_neg (by omega)]; simp [hu, hin, hk]
        · simp [hu, hin]
    · rw [if_neg hk]
      by_cases hf : k = modeM S t
      · rw [if_pos hf, mem_without, ofM_mem hW]
        by_cases hu : u = t
        · subst hu; rw [if_pos rfl]; simp [Ne.symm hk]
        · by_cases hin : 0 ≤ u ∧ u < S.modes.length
          · rw [if_neg (by omega)]; simp [hu, hin]
          · simp [hin]
      · rw [if_neg hf, ofM_mem hW]
        by_cases hu : u = t
        · subst hu; rw [if_pos rfl]; rw [← hft]; simp [Ne.symm hf, Ne.symm hk]
        · by_cases hin : 0 ≤ u ∧ u < S.modes.length
          · rw [if_neg (by omega)]
          · simp [hin]
  have hndl : ∀ k, (ofM (moveS S t m) k).Nodup := by
    intro k
    rw [hof]
    by_cases hk : k = m
    · rw [if_pos hk, List.nodup_append]
      refine ⟨ofM_nodup hW m, by simp, ?_⟩
      rintro a ha b hb rfl
      simp at hb
      subst hb
      rw [ofM_mem hW, ← hft] at ha
      exact hne ha.2
    · rw [if_neg hk]
      by_cases hf : k = modeM S t
      · rw [if_pos hf]; exact (ofM_nodup hW k).sublist List.filter_sublist
      · rw [if_neg hf]; exact ofM_nodup hW k
  refine ⟨by rw [hlen]; exact hW.n1, by rw [hlen]; exact hW.n8, fun i hi => ?_, hnd, fun p hp => ?_, fun u hu => ?_⟩
  · rw [hlen] at hi
    rw [hmode]
    by_cases h : i = t.toNat
    · rw [if_pos h]; exact hm
    · rw [if_neg h]; exact hW.is i hi
  · have hg : getK p.1 (moveS S t m).lists = some p.2 := getK_of_mem hnd hp
    have e := hgk _ _ hg
    refine ⟨hne' _ _ hg, e ▸ hndl p.1, fun u hu => ?_⟩
    rw [← e, hmem] at hu
    rw [hlen]
    exact ⟨hu.1.1, hu.1.2, hu.2⟩
  · rw [hlen] at hu
    have h := (hmem ((moveS S t m).modes.getD u 0) (u : Int)).2 ⟨by omega, by simp⟩
    cases hq : getK ((moveS S t m).modes.getD u 0) (moveS S t m).lists with
    | none => unfold ofM at h; rw [hq] at h; simp at h
    | some l => exact ⟨l, rfl, by rw [hgk _ _ hq] at h; exact h⟩

theorem wf_moveR {S : MemS} (hW : WfM S) (t m : Int) : WfM (moveR S t m) := by
  unfold moveR
  split
  · exact hW
  · rename_i h
    split
    · rename_i hm
      split
      · exact hW
      · rename_i hne; exact wf_move hW h hm hne
    · exact hW
theorem len_moveR {S : MemS} (t m : Int) : (moveR S t m).modes.length = S.modes.length := by
  unfold moveR
  split
  · rfl
  · split
    · split
      · rfl
      · exact List.length_set
    · rfl

theorem wf_new {n m : Int} (hn : 1 ≤ n ∧ n ≤ 8) (hm : isM m = true) : WfM (newS n m) := by
  have hr : ∀ u : Int, u ∈ ((List.range n.toNat).map fun (i : Nat) => (i : Int)) ↔ 0 ≤ u ∧ u < n := fun u => by
    rw [List.mem_map]
    constructor
    · rintro ⟨i, hi, rfl⟩
      rw [List.mem_range] at hi
      omega
    · rintro ⟨h1, h2⟩
      exact ⟨u.toNat, List.mem_range.2 (by omega), by omega⟩
  have hg : ∀ i, i < n.toNat → (List.replicate n.toNat m).getD i 0 = m := fun i hi => by simp [List.getD, List.getElem?_replicate, hi]
  refine ⟨by simp [newS]; omega, by simp [newS]; omega, fun i hi => ?_, by simp [newS], fun p hp => ?_, fun t ht => ?_⟩
  · simp only [newS, List.length_replicate] at hi
    show isM ((List.replicate n.toNat m).getD i 0) = true
    rw [hg i hi]; exact hm
  · simp only [newS, List.mem_singleton] at hp
    subst hp
    refine ⟨fun e => ?_, ?_, fun t ht => ?_⟩
    · have := (hr 0).2 (by omega)
      simp only at e
      rw [e] at this
      cases this
    · exact List.Pairwise.map _ (fun a b h => by omega) List.nodup_range
    · have := (hr t).1 ht
      simp only [newS, List.length_replicate]
      exact ⟨this.1, by omega, hg _ (by omega)⟩
  · simp only [newS, List.length_replicate] at ht
    refine ⟨_, ?_, (hr (t : Int)).2 (by omega)⟩
    show getK ((List.replicate n.toNat m).getD t 0) _ = _
    rw [hg t ht]
    simp [getK, newS]

end Go.Proofs.Ytcgnoegejmhgmaa
