/-
  Members and the document's members: they are alike.
-/
import Derived.Test.YtcgnoegejmhgmaaMrOk3
import Derived.Test.YtcgnoegejmhgmaaMbO2
namespace Go.Proofs.Ytcgnoegejmhgmaa
set_option linter.unusedVariables false
set_option linter.unusedSimpArgs false
open Go.RowKit Ev

def cm (R : RefS) (u : Int) : Int := R.came.getD u.toNat 0

structure JR (S : MemS) (R : RefS) (B : Int) : Prop where
  wf : WfM S
  modes : R.modes = S.modes
  len : R.came.length = R.modes.length
  lo : 0 ≤ R.last
  hi : R.last ≤ B
  came : ∀ u : Int, 0 ≤ u ∧ u < S.modes.length → 1 ≤ cm R u ∧ cm R u ≤ R.last
  inj : ∀ u v : Int, 0 ≤ u ∧ u < S.modes.length → 0 ≤ v ∧ v < S.modes.length → cm R u = cm R v → u = v
  ord : ∀ k, (ofM S k).Pairwise fun u v => cm R u < cm R v

theorem JR.wfR {S : MemS} {R : RefS} {B : Int} (h : JR S R B) (hB : B ≤ 1000) : WfR R := ⟨by rw [h.modes]; exact h.wf.n8, h.len, h.lo, Int.le_trans h.hi hB⟩

theorem mem_rRow {R : RefS} {k c u : Int} {i : Nat} : u ∈ rRow R k c i ↔ (0 ≤ u ∧ u < i) ∧ R.modes.getD u.toNat 0 = k ∧ cm R u = c := by
  unfold rRow cm
  rw [List.mem_map]
  constructor
  · rintro ⟨j, hj, rfl⟩
    rw [List.mem_filter, List.mem_range] at hj
    obtain ⟨h1, h2⟩ := hj
    unfold rIn at h2
    rw [Bool.and_eq_true, decide_eq_true_eq, decide_eq_true_eq] at h2
    rw [Int.toNat_natCast]
    exact ⟨⟨by omega, by omega⟩, h2⟩
  · rintro ⟨⟨h1, h2⟩, h3, h4⟩
    refine ⟨u.toNat, ?_, by omega⟩
    rw [List.mem_filter, List.mem_range]
    refine ⟨by omega, ?_⟩
    unfold rIn
    rw [Bool.and_eq_true, decide_eq_true_eq, decide_eq_true_eq]
    exact ⟨h3, h4⟩
theorem rRow_nodup (R : RefS) (k c : Int) (i : Nat) : (rRow R k c i).Nodup := by
  unfold rRow
  exact List.Pairwise.map _ (fun a b h => by omega) (List.nodup_range.sublist List.filter_sublist)
theorem mem_rTo {R : RefS} {k u : Int} : ∀ {c : Nat}, u ∈ rTo R k c ↔ (0 ≤ u ∧ u < R.modes.length) ∧ R.modes.getD u.toNat 0 = k ∧ 1 ≤ cm R u ∧ cm R u ≤ c
  | 0 => by
    simp only [rTo, List.not_mem_nil, false_iff]
    rintro ⟨_, _, h1, h2⟩
    omega
  | c + 1 => by
    rw [rTo, List.mem_append, mem_rTo, mem_rRow]
    constructor
    · rintro (⟨h1, h2, h3, h4⟩ | ⟨h1, h2, h3⟩)
      · exact ⟨h1, h2, h3, by omega⟩
      · exact ⟨h1, h2, by omega, by omega⟩
    · rintro ⟨h1, h2, h3, h4⟩
      by_cases h : cm R u ≤ c
      · exact .inl ⟨h1, h2, h3, h⟩
      · exact .inr ⟨h1, h2, by omega⟩
theorem rTo_ord {S : MemS} {R : RefS} {B : Int} (h : JR S R B) (k : Int) : ∀ c : Nat, (rTo R k c).Pairwise fun u v => cm R u < cm R v
  | 0 => List.Pairwise.nil
  | c + 1 => by
    rw [rTo, List.pairwise_append]
    refine ⟨rTo_ord h k c, ?_, fun u hu v hv => ?_⟩
    · refine (rRow_nodup R k _ _).imp_of_mem fun {u v} hu hv hne => ?_
      rw [mem_rRow, h.modes] at hu hv
      exact absurd (h.inj u v hu.1 hv.1 (by rw [hu.2.2, hv.2.2])) hne
    · rw [mem_rTo] at hu
      rw [mem_rRow] at hv
      omega

theorem nodup_of_ord {R : RefS} {l : List Int} (h : l.Pairwise fun u v => cm R u < cm R v) : l.Nodup := h.imp fun {u v} hlt heq => by subst heq; exact absurd hlt (Int.lt_irrefl _)

/-- The lists. -/
theorem JR.of {S : MemS} {R : RefS} {B : Int} (h : JR S R B) (k : Int) : rOf R k = ofM S k := by
  have h1 : (rOf R k).Pairwise fun u v => cm R u < cm R v := rTo_ord h k _
  refine List.Perm.eq_of_pairwise (le := fun u v => cm R u < cm R v) (fun a b _ _ h1 h2 => absurd h1 (by omega)) h1 (h.ord k) ?_
  refine (List.perm_ext_iff_of_nodup (nodup_of_ord h1) (ofM_nodup h.wf k)).2 fun u => ?_
  have hlo := h.lo
  unfold rOf
  rw [mem_rTo, ofM_mem h.wf, h.modes]
  constructor
  · rintro ⟨h1, h2, _⟩; exact ⟨h1, h2⟩
  · rintro ⟨h1, h2⟩
    have := h.came u h1
    exact ⟨h1, h2, by omega, by omega⟩

theorem key_of {S : MemS} (hW : WfM S) {k : Int} : k ∈ allM S ↔ (1 ≤ k ∧ k ≤ 28) ∧ ofM S k ≠ [] := by
  constructor
  · intro h
    refine ⟨?_, all_of hW h⟩
    rw [mem_all, List.mem_map] at h
    obtain ⟨p, hp, rfl⟩ := h
    exact (wf_keys hW).2.2 p hp
  · rintro ⟨_, h⟩
    rw [mem_all]
    unfold ofM at h
    cases hg : getK k S.lists with
    | none => rw [hg] at h; exact absurd rfl h
    | some l => exact List.mem_map.2 ⟨_, getK_mem hg, rfl⟩

theorem JR.all {S : MemS} {R : RefS} {B : Int} (h : JR S R B) : rAll R = allM S := by
  have e : rAll R = ((List.range 28).map fun (j : Nat) => (j : Int) + 1).filter fun k => !(decide (ofM S k = [])) := by
    unfold rAll rAllTo
    exact List.filter_congr fun k _ => by rw [h.of]
  have hlt : (rAll R).Pairwise (· < ·) := by
    rw [e]
    exact (List.Pairwise.map _ (fun a b h => by omega) List.pairwise_lt_range).sublist List.filter_sublist
  refine List.Perm.eq_of_pairwise (le := fun a b : Int => a ≤ b) (fun a b _ _ h1 h2 => Int.le_antisymm h1 h2) (hlt.imp fun h => Int.le_of_lt h) (sortI_sorted _) ?_
  refine (List.perm_ext_iff_of_nodup (hlt.imp fun h => Int.ne_of_lt h) (all_nodup h.wf)).2 fun k => ?_
  rw [e, List.mem_filter, List.mem_map, key_of h.wf]
  simp only [List.mem_range, Bool.not_eq_true', decide_eq_false_iff_not]
  constructor
  · rintro ⟨⟨j, hj, rfl⟩, h2⟩; exact ⟨⟨by omega, by omega⟩, h2⟩
  · rintro ⟨⟨h1, h2⟩, h3⟩; exact ⟨⟨(k - 1).toNat, by omega, by omega⟩, h3⟩

theorem JR.mode {S : MemS} {R : RefS} {B : Int} (h : JR S R B) (t : Int) : modeM (modesOf R) t = modeM S t := by
  unfold modeM modesOf
  simp only [h.modes]
theorem JR.moveE {S : MemS} {R : RefS} {B : Int} (h : JR S R B) (t m : Int) : moveE (modesOf R) t m = moveE S t m := by
  unfold Go.Proofs.Ytcgnoegejmhgmaa.moveE
  rw [h.mode]

/-- A move. -/
theorem JR.move {S : MemS} {R : RefS} {B : Int} (h : JR S R B) (t m : Int) : JR (moveR S t m) (rMove R t m) (B + 1) := by
  have same : JR S R (B + 1) := ⟨h.wf, h.modes, h.len, h.lo, by have := h.hi; omega, h.came, h.inj, h.ord⟩
  have hW1 := wf_moveR h.wf t m
  unfold moveR rMove at *
  rw [h.mode]
  by_cases h0 : modeM S t = 0
  · rw [if_pos h0, if_pos h0]; exact same
  by_cases hm : isM m = true
  rotate_left
  · rw [if_neg h0, if_neg hm, if_neg h0, if_neg hm]; exact same
  by_cases he : modeM S t = m
  · rw [if_neg h0, if_pos hm, if_pos he, if_neg h0, if_pos hm, if_pos he]; exact same
  rw [if_neg h0, if_pos hm, if_neg he] at hW1 ⊢
  rw [if_neg h0, if_pos hm, if_neg he]
  have ht : 0 ≤ t ∧ t < S.modes.length := (mode_in h.wf h0).1
  have hft : S.modes.getD t.toNat 0 = modeM S t := by unfold modeM; rw [if_pos ht]
  have hlen : (moveS S t m).modes.length = S.modes.length := List.length_set
  have hc : ∀ u : Int, 0 ≤ u → cm ⟨R.modes.set t.toNat m, R.came.set t.toNat (R.last + 1), R.last + 1⟩ u = if u = t then R.last + 1 else cm R u := fun u hu => by
    unfold cm
    have hl : t.toNat < R.came.length := by rw [h.len, h.modes]; omega
    simp only
    rw [getD_set hl]
    by_cases hut : u = t
    · rw [if_pos hut, if_pos (by rw [hut])]
    · rw [if_neg hut, if_neg (by omega)]
  have hlo := h.lo
  have hhi := h.hi
  refine ⟨hW1, ?_, ?_, by show 0 ≤ R.last + 1; omega, by show R.last + 1 ≤ B + 1; omega, fun u hu => ?_, fun u v hu hv huv => ?_, fun k => ?_⟩
  · show R.modes.set _ _ = S.modes.set _ _
    rw [h.modes]
  · show (R.came.set _ _).length = (R.modes.set _ _).length
    rw [List.length_set, List.length_set]; exact h.len
  · rw [hlen] at hu
    rw [hc u hu.1]
    have := h.came u hu
    show 1 ≤ _ ∧ _ ≤ R.last + 1
    split <;> omega
  · rw [hlen] at hu hv
    rw [hc u hu.1, hc v hv.1] at huv
    have h1 := h.came u hu
    have h2 := h.came v hv
    by_cases hut : u = t <;> by_cases hvt : v = t
    · rw [hut, hvt]
    · rw [if_pos hut, if_neg hvt] at huv; omega
    · rw [if_neg hut, if_pos hvt] at huv; omega
    · rw [if_neg hut, if_neg hvt] at huv; exact h.inj u v hu hv huv
  · rw [ofM_move h.wf he]
    have keep : ∀ l : List Int, (∀ u ∈ l, 0 ≤ u ∧ u ≠ t) → l.Pairwise (fun u v => cm R u < cm R v) → l.Pairwise (fun u v => cm ⟨R.modes.set t.toNat m, R.came.set t.toNat (R.last + 1), R.last + 1⟩ u < cm ⟨R.modes.set t.toNat m, R.came.set t.toNat (R.last + 1), R.last + 1⟩ v) := fun l hl hp =>
      hp.imp_of_mem fun {u v} hu hv huv => by
        rw [hc u (hl u hu).1, hc v (hl v hv).1, if_neg (hl u hu).2, if_neg (hl v hv).2]; exact huv
    have out : ∀ k, k ≠ modeM S t → ∀ u ∈ ofM S k, 0 ≤ u ∧ u ≠ t := fun k hk u hu => by
      rw [ofM_mem h.wf] at hu
      refine ⟨hu.1.1, fun e => ?_⟩
      rw [e, hft] at hu
      exact hk hu.2.symm
    by_cases hk : k = m
    · rw [if_pos hk, List.pairwise_append]
      refine ⟨keep _ (out m (Ne.symm he)) (h.ord m), by simp, fun u hu v hv => ?_⟩
      rw [List.mem_singleton] at hv
      subst hv
      have hu' := out m (Ne.symm he) u hu
      rw [hc u hu'.1, hc v ht.1, if_neg hu'.2, if_pos rfl]
      rw [ofM_mem h.wf] at hu
      have := h.came u hu.1
      omega
    · rw [if_neg hk]
      by_cases hf : k = modeM S t
      · rw [if_pos hf]
        refine keep _ (fun u hu => ?_) ((h.ord k).sublist List.filter_sublist)
        rw [mem_without, ofM_mem h.wf] at hu
        exact ⟨hu.1.1.1, hu.2⟩
      · rw [if_neg hf]
        exact keep _ (out k hf) (h.ord k)

/-- New ones. -/
theorem JR.new {n m : Int} (hn : 1 ≤ n ∧ n ≤ 8) (hm : isM m = true) : JR (newS n m) (rNew n m) 8 := by
  have hl : (newS n m).modes.length = n.toNat := by simp [newS]
  have hc : ∀ u : Int, 0 ≤ u ∧ u < n → cm (rNew n m) u = u + 1 := fun u hu => by
    unfold cm rNew
    simp only [List.getD, List.getElem?_map]
    rw [List.getElem?_range (by omega)]
    simp only [Option.map_some, Option.getD_some]
    omega
  refine ⟨wf_new hn hm, rfl, by simp [rNew], by show 0 ≤ n; omega, by show n ≤ 8; omega, fun u hu => ?_, fun u v hu hv huv => ?_, fun k => ?_⟩
  · rw [hl] at hu
    rw [hc u (by omega)]
    show 1 ≤ u + 1 ∧ u + 1 ≤ n
    omega
  · rw [hl] at hu hv
    rw [hc u (by omega), hc v (by omega)] at huv
    omega
  · unfold ofM newS
    simp only [getK]
    by_cases hk : m = k
    · rw [if_pos hk]
      refine List.Pairwise.map _ (fun a b h => h) (List.pairwise_lt_range.imp_of_mem fun {a b} ha hb hab => ?_)
      rw [List.mem_range] at ha hb
      rw [hc _ (by omega), hc _ (by omega)]
      omega
    · rw [if_neg hk]; exact List.Pairwise.nil

end Go.Proofs.Ytcgnoegejmhgmaa
