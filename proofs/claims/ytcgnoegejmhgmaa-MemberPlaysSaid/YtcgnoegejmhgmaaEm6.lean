/-
  Ev, part 6.
-/
import Derived.Test.YtcgnoegejmhgmaaEm5
/-
  Ev: maps from numbers to things of one block each, as a thing of several objects; one key at a time is in sight.
-/
namespace Go.Proofs.Ytcgnoegejmhgmaa.Ev
set_option linter.unusedVariables false
set_option linter.unusedSimpArgs false
open Go.RowKit

/-! ### what a map's entries are -/

structure MapOk (es : Array MapEntry) (clock : Nat) : Prop where
  keys : KeyI es.toList
  keyN : (es.toList.map (·.key)).Nodup
  bornN : (es.toList.map (·.born)).Nodup
  born : ∀ e ∈ es.toList, e.born < clock

def valI (n : Int) (es : List MapEntry) : Option Value := (idxI n es 0).map (·.2)

theorem idxI_shift (n : Int) : ∀ (es : List MapEntry) (i : Nat), (idxI n es i) = (idxI n es 0).map (fun p => (p.1 + i, p.2))
  | [], i => rfl
  | e :: es, i => by
    simp only [idxI]
    have h1 := idxI_shift n es (i + 1)
    have h2 := idxI_shift n es (0 + 1)
    have : idxI n es (i + 1) = (idxI n es (0 + 1)).map (fun p => (p.1 + i, p.2)) := by
      rw [h1, h2, Option.map_map]; congr 1; funext p; simp [Nat.add_comm, Nat.add_left_comm]
    split
    · split
      · simp
      · exact this
    · exact this

theorem valI_nil (n : Int) : valI n [] = none := rfl
theorem valI_cons {n m : Int} {e : MapEntry} {es : List MapEntry} (h : e.key = .int .i64 m) : valI n (e :: es) = if n = m then some e.val else valI n es := by
  unfold valI
  simp only [idxI, h]
  by_cases hnm : n = m
  · simp [hnm]
  · rw [if_neg hnm, if_neg hnm, idxI_shift, Option.map_map]
    rfl

theorem valI_some {n : Int} {u : Value} : ∀ {es : List MapEntry}, KeyI es → valI n es = some u → ∃ e ∈ es, e.key = .int .i64 n ∧ e.val = u
  | [], _, h => by cases h
  | e :: es, hk, h => by
    obtain ⟨m, hm⟩ := hk e (List.mem_cons_self ..)
    rw [valI_cons hm] at h
    by_cases hnm : n = m
    · rw [if_pos hnm] at h; cases h
      exact ⟨e, List.mem_cons_self .., by rw [hm, hnm], rfl⟩
    · rw [if_neg hnm] at h
      obtain ⟨e', h1, h2⟩ := valI_some (fun x hx => hk x (List.mem_cons_of_mem _ hx)) h
      exact ⟨e', List.mem_cons_of_mem _ h1, h2⟩

theorem valI_mem {n : Int} : ∀ {es : List MapEntry}, KeyI es → (es.map (·.key)).Nodup → ∀ e ∈ es, e.key = .int .i64 n → valI n es = some e.val
  | [], _, _, e, he, _ => by cases he
  | x :: es, hk, hn, e, he, hen => by
    obtain ⟨m, hm⟩ := hk x (List.mem_cons_self ..)
    rw [valI_cons hm]
    rw [List.map_cons, List.nodup_cons] at hn
    rcases List.mem_cons.1 he with rfl | he
    · rw [hm] at hen; cases hen; rw [if_pos rfl]
    · have : n ≠ m := fun h => hn.1 (List.mem_map.2 ⟨e, he, by rw [hen, hm, h]⟩)
      rw [if_neg this]
      exact valI_mem (fun x hx => hk x (List.mem_cons_of_mem _ hx)) hn.2 e he hen

theorem valI_none {n : Int} {es : List MapEntry} (hk : KeyI es) : valI n es = none ↔ ∀ e ∈ es, e.key ≠ .int .i64 n := by
  induction es with
  | nil => simp [valI_nil]
  | cons e es ih =>
    obtain ⟨m, hm⟩ := hk e (List.mem_cons_self ..)
    rw [valI_cons hm]
    have ih := ih (fun x hx => hk x (List.mem_cons_of_mem _ hx))
    by_cases hnm : n = m
    · rw [if_pos hnm]
      simp only [reduceCtorEq, false_iff]
      intro h
      exact h e (List.mem_cons_self ..) (by rw [hm, hnm])
    · rw [if_neg hnm, ih]
      constructor
      · intro h x hx
        rcases List.mem_cons.1 hx with rfl | hx
        · rw [hm]; intro h; cases h; exact hnm rfl
        · exact h x hx
      · exact fun h x hx => h x (List.mem_cons_of_mem _ hx)

theorem idxI_get {n : Int} {i : Nat} {u : Value} : ∀ {es : List MapEntry}, idxI n es 0 = some (i, u) → ∃ e, es[i]? = some e ∧ e.key = .int .i64 n ∧ e.val = u
  | [], h => by cases h
  | e :: es, h => by
    simp only [idxI] at h
    have next : idxI n es (0 + 1) = some (i, u) → ∃ e', (e :: es)[i]? = some e' ∧ e'.key = .int .i64 n ∧ e'.val = u := by
      intro h
      rw [idxI_shift] at h
      cases hq : idxI n es 0 with
      | none => rw [hq] at h; cases h
      | some p =>
        obtain ⟨j, v⟩ := p
        rw [hq] at h
        simp at h
        obtain ⟨rfl, rfl⟩ := h
        obtain ⟨e', h1, h2⟩ := idxI_get hq
        exact ⟨e', by rw [List.getElem?_cons_succ]; exact h1, h2⟩
    split at h
    · rename_i m hm
      split at h
      · rename_i hnm
        cases h
        exact ⟨e, by simp, by rw [hm, hnm], rfl⟩
      · exact next h
    · exact next h

/-- The entries behind a store or a removal, as a list. -/
theorem updO_list {es : Array MapEntry} {clock : Nat} (n : Int) (x : Option Value) (hm : MapOk es clock) :
    (∃ (i : Nat) (e : MapEntry), es.toList[i]? = some e ∧ e.key = .int .i64 n ∧ (updO es clock n x).1.toList = (match x with
      | some v => es.toList.set i { e with val := v }
      | none => es.toList.eraseIdx i) ∧ (updO es clock n x).2 = clock) ∨
    (valI n es.toList = none ∧ (updO es clock n x).1.toList = (match x with
      | some v => es.toList ++ [{ key := .int .i64 n, val := v, born := clock }]
      | none => es.toList) ∧ (updO es clock n x).2 = (match x with
      | some _ => clock + 1
      | none => clock)) := by
  unfold updO
  cases hf : idxI n es.toList 0 with
  | none =>
    right
    refine ⟨by simp [valI, hf], ?_⟩
    cases x <;> simp
  | some p =>
    obtain ⟨i, u⟩ := p
    left
    obtain ⟨e, h1, h2, h3⟩ := idxI_get hf
    refine ⟨i, e, h1, h2, ?_⟩
    cases x with
    | none =>
      refine ⟨?_, rfl⟩
      have hi : i < es.size := by
        have := (List.getElem?_eq_some_iff.1 h1).1
        simpa using this
      simp [Array.eraseIdxIfInBounds, hi]
    | some v =>
      refine ⟨?_, rfl⟩
      simp only [Array.toList_modify]
      apply List.ext_getElem?
      intro j
      rw [List.getElem?_modify, List.getElem?_set]
      by_cases hij : i = j
      · subst hij
        have := (List.getElem?_eq_some_iff.1 h1).1
        rw [h1]
        simp [this, h2]
        cases e; simp_all
      · simp [hij]

theorem getElem_eraseIdx_mem {α : Type} {l : List α} {i : Nat} {x : α} (h : x ∈ l.eraseIdx i) : x ∈ l := List.mem_of_mem_eraseIdx h

theorem updO_ok {es : Array MapEntry} {clock : Nat} (n : Int) (x : Option Value) (hm : MapOk es clock) : MapOk (updO es clock n x).1 (updO es clock n x).2 := by
  rcases updO_list n x hm with ⟨i, e, h1, h2, h3, h4⟩ | ⟨h1, h2, h3⟩
  · rw [h4]
    have hkm : e ∈ es.toList := List.mem_of_getElem? h1
    cases x with
    | none =>
      simp only at h3
      have hsub := List.eraseIdx_sublist es.toList i
      exact ⟨by rw [h3]; exact fun y hy => hm.keys y (hsub.subset hy), by rw [h3]; exact hm.keyN.sublist (hsub.map _), by rw [h3]; exact hm.bornN.sublist (hsub.map _), by rw [h3]; exact fun y hy => hm.born y (hsub.subset hy)⟩
    | some v =>
      simp only at h3
      have hk : (es.toList.set i { e with val := v }).map (·.key) = es.toList.map (·.key) := by
        rw [List.map_set]
        apply List.ext_getElem?
        intro j
        rw [List.getElem?_set]
        by_cases hij : i = j
        · subst hij
          have := (List.getElem?_eq_some_iff.1 h1).1
          rw [if_pos rfl, if_pos (by simpa using this), List.getElem?_map, h1]
          rfl
        · simp [hij]
      have hb : (es.toList.set i { e with val := v }).map (·.born) = es.toList.map (·.born) := by
        rw [List.map_set]
        apply List.ext_getElem?
        intro j
        rw [List.getElem?_set]
        by_cases hij : i = j
        · subst hij
          have := (List.getElem?_eq_some_iff.1 h1).1
          rw [if_pos rfl, if_pos (by simpa using this), List.getElem?_map, h1]
          rfl
        · simp [hij]
      refine ⟨?_, by rw [h3, hk]; exact hm.keyN, by rw [h3, hb]; exact hm.bornN, ?_⟩
      · rw [h3]
        intro y hy
        rcases List.mem_or_eq_of_mem_set hy with hy | rfl
        · exact hm.keys y hy
        · exact ⟨n, h2⟩
      · rw [h3]
        intro y hy
        rcases List.mem_or_eq_of_mem_set hy with hy | rfl
        · exact hm.born y hy
        · exact hm.born e hkm
  · cases x with
    | none => simp only at h2 h3; rw [h3]; exact ⟨by rw [h2]; exact hm.keys, by rw [h2]; exact hm.keyN, by rw [h2]; exact hm.bornN, by rw [h2]; exact hm.born⟩
    | some v =>
      simp only at h2 h3
      have hn := (valI_none hm.keys).1 h1
      refine ⟨?_, ?_, ?_, ?_⟩
      · rw [h2]
        intro y hy
        rcases List.mem_append.1 hy with hy | hy
        · exact hm.keys y hy
        · cases List.mem_singleton.1 hy; exact ⟨n, rfl⟩
      · rw [h2, List.map_append, List.nodup_append]
        refine ⟨hm.keyN, by simp, ?_⟩
        intro a ha b hb hab
        obtain ⟨e, he, rfl⟩ := List.mem_map.1 ha
        simp at hb
        subst hb
        exact hn e he hab
      · rw [h2, List.map_append, List.nodup_append]
        refine ⟨hm.bornN, by simp, ?_⟩
        intro a ha b hb hab
        obtain ⟨e, he, rfl⟩ := List.mem_map.1 ha
        simp at hb
        subst hb
        have := hm.born e he
        omega
      · rw [h2, h3]
        intro y hy
        rcases List.mem_append.1 hy with hy | hy
        · exact Nat.lt_succ_of_lt (hm.born y hy)
        · cases List.mem_singleton.1 hy; exact Nat.lt_succ_self _

theorem valI_iff {m : Int} {es : List MapEntry} (hk : KeyI es) (hn : (es.map (·.key)).Nodup) (u : Value) : valI m es = some u ↔ ∃ e ∈ es, e.key = .int .i64 m ∧ e.val = u :=
  ⟨valI_some hk, fun ⟨e, h1, h2, h3⟩ => by rw [valI_mem hk hn e h1 h2, h3]⟩

theorem updO_val {es : Array MapEntry} {clock : Nat} (n : Int) (x : Option Value) (hm : MapOk es clock) (m : Int) : valI m (updO es clock n x).1.toList = if m = n then x else valI m es.toList := by
  have hm' := updO_ok n x hm
  rcases updO_list n x hm with ⟨i, e, h1, h2, h3, h4⟩ | ⟨h1, h2, h3⟩
  · have hi := (List.getElem?_eq_some_iff.1 h1).1
    have hg := (List.getElem?_eq_some_iff.1 h1).2
    have uniq : ∀ j e', es.toList[j]? = some e' → e'.key = .int .i64 n → j = i := by
      intro j e' hj hk
      have hjl := (List.getElem?_eq_some_iff.1 hj).1
      have hpw := List.pairwise_iff_getElem.1 hm.keyN
      rcases Nat.lt_trichotomy i j with h | h | h
      · refine absurd ?_ (hpw i j (by simpa using hi) (by simpa using hjl) h)
        rw [List.getElem_map, List.getElem_map, hg, (List.getElem?_eq_some_iff.1 hj).2, h2, hk]
      · exact h.symm
      · refine absurd ?_ (hpw j i (by simpa using hjl) (by simpa using hi) h)
        rw [List.getElem_map, List.getElem_map, hg, (List.getElem?_eq_some_iff.1 hj).2, h2, hk]
    cases x with
    | none =>
      simp only at h3
      by_cases hmn : m = n
      · rw [if_pos hmn]
        subst hmn
        rw [valI_none hm'.keys, h3]
        intro y hy hk
        rw [List.mem_eraseIdx_iff_getElem?] at hy
        obtain ⟨j, hj, hy⟩ := hy
        exact hj (uniq j y hy hk)
      · rw [if_neg hmn]
        apply Option.ext
        intro u
        rw [valI_iff hm'.keys hm'.keyN, valI_iff hm.keys hm.keyN, h3]
        constructor
        · rintro ⟨y, hy, hk⟩
          exact ⟨y, getElem_eraseIdx_mem hy, hk⟩
        · rintro ⟨y, hy, hk, hv⟩
          refine ⟨y, ?_, hk, hv⟩
          rw [List.mem_eraseIdx_iff_getElem?]
          obtain ⟨j, hj, hjy⟩ := List.mem_iff_getElem.1 hy
          refine ⟨j, fun e' => ?_, by rw [List.getElem?_eq_getElem hj, hjy]⟩
          subst e'
          rw [hg] at hjy
          subst hjy
          rw [h2] at hk
          cases hk
          exact hmn rfl
    | some v =>
      simp only at h3
      by_cases hmn : m = n
      · rw [if_pos hmn]
        subst hmn
        rw [valI_iff hm'.keys hm'.keyN, h3]
        exact ⟨{ e with val := v }, List.mem_set hi _, h2, rfl⟩
      · rw [if_neg hmn]
        apply Option.ext
        intro u
        rw [valI_iff hm'.keys hm'.keyN, valI_iff hm.keys hm.keyN, h3]
        constructor
        · rintro ⟨y, hy, hk, hv⟩
          rcases List.mem_or_eq_of_mem_set hy with hy | rfl
          · exact ⟨y, hy, hk, hv⟩
          · simp only at hk
            rw [h2] at hk
            cases hk
            exact absurd rfl hmn
        · rintro ⟨y, hy, hk, hv⟩
          refine ⟨y, ?_, hk, hv⟩
          obtain ⟨j, hj, hjy⟩ := List.mem_iff_getElem.1 hy
          refine List.mem_iff_getElem?.2 ⟨j, ?_⟩
          rw [List.getElem?_set, if_neg, List.getElem?_eq_getElem hj, hjy]
          intro e'
          subst e'
          rw [hg] at hjy
          subst hjy
          rw [h2] at hk
          cases hk
          exact hmn rfl
  · cases x with
    | none =>
      simp only at h2
      rw [h2]
      by_cases hmn : m = n
      · rw [if_pos hmn, hmn, h1]
      · rw [if_neg hmn]
    | some v =>
      simp only at h2
      apply Option.ext
      intro u
      rw [valI_iff hm'.keys hm'.keyN, h2]
      by_cases hmn : m = n
      · rw [if_pos hmn]
        subst hmn
        have hn := (valI_none hm.keys).1 h1
        constructor
        · rintro ⟨y, hy, hk, hv⟩
          rcases List.mem_append.1 hy with hy | hy
          · exact absurd hk (hn y hy)
          · cases List.mem_singleton.1 hy
            simp only at hv
            rw [hv]
        · rintro h
          cases h
          exact ⟨_, List.mem_append_right _ (List.mem_singleton_self _), rfl, rfl⟩
      · rw [if_neg hmn, valI_iff hm.keys hm.keyN]
        constructor
        · rintro ⟨y, hy, hk, hv⟩
          rcases List.mem_append.1 hy with hy | hy
          · exact ⟨y, hy, hk, hv⟩
          · cases List.mem_singleton.1 hy
            cases hk
            exact absurd rfl hmn
        · rintro ⟨y, hy, hk⟩
          exact ⟨y, List.mem_append_left _ hy, hk⟩

end Go.Proofs.Ytcgnoegejmhgmaa.Ev

/-
  Ev: maps as things of several objects; steps that turn nothing in memory but what is in sight of it.
-/
namespace Go.Proofs.Ytcgnoegejmhgmaa.Ev
set_option linter.unusedVariables false
set_option linter.unusedSimpArgs false
open Go.RowKit

theorem ABlk.under_mono {N M : Nat} (h : N ≤ M) {x : ABlk} (hx : x.under N = true) : x.under M = true := by
  cases x with
  | cells e l => exact belowL_mono h l hx
  | obj U s l => exact belowL_mono h l hx
  | row => rfl
  | dead => rfl

/-- Some blocks (T) of the memory turn; all else stays. -/
theorem Step.frame {ρ ρ' : Rho} {H H' : AHeap} {w w' : World} (h : Rel ρ H w) (T : Nat → Prop) (hag : Rho.agree H.next ρ ρ') (hn : H.next ≤ H'.next) (hfp : ∀ b, b < H.next → ¬ T b → ρ'.fp b = ρ.fp b)
    (hos : w'.os = w.os) (hta : w'.tape = w.tape) (hou : w'.output = w.output) (hsz : w.heap.size ≤ w'.heap.size) (hT : ∀ b x, T b → H.get b = some x → x.own = true)
    (hold : ∀ g, g < w.heap.size → (∀ b x, T b → H.get b = some x → ¬ x.fp ρ b g) → w'.heap[g]? = w.heap[g]?)
    (hblk : ∀ b x, H'.get b = some x → (¬ T b ∧ H.get b = some x) ∨ ((T b ∨ H.next ≤ b) ∧ b < H'.next ∧ x.under H'.next = true ∧ ρ'.blk b < w'.heap.size ∧ x.ok ρ' w' b ∧ x.own = true ∧ ∀ g, x.fp ρ' b g → w.heap.size ≤ g ∨ ∃ c y, T c ∧ H.get c = some y ∧ y.fp ρ c g))
    (hdis : ∀ b b' x x', b ≠ b' → H'.get b = some x → H'.get b' = some x' → (T b ∨ H.next ≤ b) → (T b' ∨ H.next ≤ b') → ∀ g, x.fp ρ' b g → ¬ x'.fp ρ' b' g) : Step ρ H w ρ' H' w' := by
  have hin : ∀ {b x}, H.get b = some x → b < H.next := fun {b x} hx => (h.blk b x hx).1
  have hfe : ∀ {b x} (g : Nat), ¬ T b → H.get b = some x → (x.fp ρ' b g ↔ x.fp ρ b g) := fun {b x} g hb hx => ABlk.fp_eq (hag b (hin hx)).1 (hfp b (hin hx) hb) x g
  have cross : ∀ {b : Nat} {x : ABlk} {b' : Nat} {x' : ABlk} (g : Nat), ¬ T b → H.get b = some x → (x'.fp ρ' b' g → w.heap.size ≤ g ∨ ∃ c y, T c ∧ H.get c = some y ∧ y.fp ρ c g) → x.fp ρ b g → ¬ x'.fp ρ' b' g := by
    intro b x b' x' g hb hx hs hg hg'
    rcases hs hg' with hs | ⟨c, y, hc, hy, hyg⟩
    · have := h.low hx hg; omega
    · exact h.inj c b y x hy hx (hT c y hc hy) (fun e => hb (e ▸ hc)) g hyg hg
  refine ⟨hag, hn, ⟨fun b x hx => ?_, fun b b' x x' hx hx' ho hne g hg hg' => ?_⟩, hos, hta, hou, hsz, fun g hg hno => hold g hg fun b x hb hx hf => hno ⟨b, x, hx, hT b x hb hx, hf⟩, ?_⟩
  · rcases hblk b x hx with ⟨hb, hy⟩ | ⟨_, q1, q2, q3, q4, _⟩
    · obtain ⟨k1, k2, k3, k4⟩ := h.blk b x hy
      refine ⟨Nat.lt_of_lt_of_le k1 hn, ABlk.under_mono hn k2, by rw [(hag b k1).1]; exact Nat.lt_of_lt_of_le k3 hsz, ABlk.ok_keep k4 k2 hag k1 hsz (hfp b k1 hb) fun g hg => ?_⟩
      exact hold g (h.low hy hg) fun c y hc hyc hyg => h.inj c b y x hyc hy (hT c y hc hyc) (fun e => hb (e ▸ hc)) g hyg hg
    · exact ⟨q1, q2, q3, q4⟩
  · rcases hblk b x hx with ⟨hb, hy⟩ | ⟨t1, q1, q2, q3, q4, q5, q6⟩ <;> rcases hblk b' x' hx' with ⟨hb', hy'⟩ | ⟨t1', q1', q2', q3', q4', q5', q6'⟩
    · exact h.inj b b' x x' hy hy' ho hne g ((hfe g hb hy).1 hg) ((hfe g hb' hy').1 hg')
    · exact cross g hb hy (q6' g) ((hfe g hb hy).1 hg) hg'
    · exact cross g hb' hy' (q6 g) ((hfe g hb' hy').1 hg') hg
    · exact hdis b b' x x' hne hx hx' t1 t1' g hg hg'
  · rintro g ⟨b, x, hx, ho, hg⟩
    rcases hblk b x hx with ⟨hb, hy⟩ | ⟨t1, q1, q2, q3, q4, q5, q6⟩
    · exact .inr ⟨b, x, hy, ho, (hfe g hb hy).1 hg⟩
    · rcases q6 g hg with q | ⟨c, y, hc, hy, hyg⟩
      · exact .inl q
      · exact .inr ⟨c, y, hy, hT c y hc hy, hyg⟩

theorem own_keep {ρ : Rho} {w w' : World} {b : Nat} {x : ABlk} (h : x.ok ρ w b) (ho : x.own = true) (hb : x.big = false) (hh : w'.heap[ρ.blk b]? = w.heap[ρ.blk b]?) : x.ok ρ w' b := by
  cases x with
  | dead => cases ho
  | obj U s l => cases hb
  | cells e l => obtain ⟨h0, h1, fz, h2, h3⟩ := h; exact ⟨h0, h1, fz, by rw [hh]; exact h2, h3⟩
  | row e T l md =>
    cases md with
    | ro => cases ho
    | plain => obtain ⟨h0, h1, h2, cur, fz, h3, h4⟩ := h; exact ⟨h0, h1, h2, cur, fz, by rw [hh]; exact h3, h4⟩
    | strish => obtain ⟨h0, h1, h2, cur, fz, h3, h4⟩ := h; exact ⟨h0, h1, h2, cur, fz, by rw [hh]; exact h3, h4⟩

theorem own_off {ρ : Rho} {w : World} {b : Nat} {x : ABlk} (h : x.ok ρ w b) (ho : x.own = true) : ρ.off b = 0 := by
  cases x with
  | dead => cases ho
  | obj U s l => exact h.1
  | cells e l => exact h.1
  | row e T l md =>
    cases md with
    | ro => cases ho
    | plain => exact h.off
    | strish => exact h.off

theorem own_obj {ρ : Rho} {w : World} {b : Nat} {x : ABlk} (h : x.ok ρ w b) (ho : x.own = true) (hb : x.big = false) : ∃ o, w.heap[ρ.blk b]? = some o ∧ oursO o = true := by
  cases x with
  | dead => cases ho
  | obj U s l => cases hb
  | cells e l => obtain ⟨h0, h1, fz, h2, h3⟩ := h; exact ⟨_, h2, rfl⟩
  | row e T l md =>
    cases md with
    | ro => cases ho
    | plain => obtain ⟨h0, h1, h2, cur, fz, h3, h4⟩ := h; exact ⟨_, h3, rfl⟩
    | strish => obtain ⟨h0, h1, h2, cur, fz, h3, h4⟩ := h; exact ⟨_, h3, rfl⟩

/-- A block without blocks in it means the same wherever its number lies. -/
theorem ok_move {ρ ρ' : Rho} {w : World} {b b' : Nat} {x : ABlk} (h : x.ok ρ w b) (hb : x.big = false) (hu : x.under 0 = true) (h1 : ρ'.blk b' = ρ.blk b) (h2 : ρ'.off b' = ρ.off b) (h3 : ρ'.cap b' = ρ.cap b) : x.ok ρ' w b' := by
  cases x with
  | dead => trivial
  | obj U s l => cases hb
  | cells e l =>
    obtain ⟨a0, a1, fz, a2, a3⟩ := h
    refine ⟨by rw [h2]; exact a0, a1, fz, ?_, a3⟩
    rw [h1, a2, trL_agree (N := 0) (ρ := ρ) (ρ' := ρ') (fun c hc => absurd hc (Nat.not_lt_zero _)) l hu]
  | row e T l md =>
    have hL : trL ρ' (T.flat l) = trL ρ (T.flat l) := trL_agree (N := 0) (fun c hc => absurd hc (Nat.not_lt_zero _)) _ (by
      rw [belowL_eq, List.all_eq_true]
      intro a ha
      exact AVal.data_below (List.all_eq_true.1 (flat_data T l) a ha) 0)
    cases md with
    | plain => obtain ⟨a0, a1, a2, cur, fz, a3, a4, a5, a6⟩ := h; exact ⟨by rw [h2]; exact a0, by rw [h3]; exact a1, by rw [h3]; exact a2, cur, fz, by rw [h1]; exact a3, a4, by rw [h3]; exact a5, by rw [hL]; exact a6⟩
    | strish => obtain ⟨a0, a1, a2, cur, fz, a3, a4, a5, a6⟩ := h; exact ⟨by rw [h2]; exact a0, by rw [h3]; exact a1, by rw [h3]; exact a2, cur, fz, by rw [h1]; exact a3, a4, by rw [h3]; exact a5, by rw [hL]; exact a6⟩
    | ro =>
      obtain ⟨a1, a2, a3, a4⟩ := h
      refine ⟨by rw [h3]; exact a1, by rw [h3]; exact a2, by rw [h1]; exact a3, fun i v hv => ?_⟩
      rw [h1, h2, a4 i v hv, AVal.data_tr (List.all_eq_true.1 (flat_data T l) v (List.mem_of_getElem? hv)) ρ ρ']

/-! ### elements of one block -/

structure ValTy where
  σ : Type
  val : σ → AVal
  blk : σ → ABlk
  own : ∀ s, (blk s).own = true
  small : ∀ s, (blk s).big = false
  vU : ∀ s, (val s).under 1 = true
  bU : ∀ s, (blk s).under 0 = true

def rho1 (g c : Nat) : Rho := ⟨fun _ => g, fun _ => 0, fun _ => c, fun _ _ => False⟩

def ValTy.lies (V : ValTy) (s : V.σ) (u : Value) (w : World) (g : Nat) : Prop := ∃ c, u = tr (rho1 g c) (V.val s) ∧ (V.blk s).ok (rho1 g c) w 0

theorem ValTy.lies_keep {V : ValTy} {s : V.σ} {u : Value} {w w' : World} {g : Nat} (h : V.lies s u w g) (hh : w'.heap[g]? = w.heap[g]?) : V.lies s u w' g := by
  obtain ⟨c, h1, h2⟩ := h
  exact ⟨c, h1, own_keep h2 (V.own s) (V.small s) hh⟩
theorem ValTy.lies_obj {V : ValTy} {s : V.σ} {u : Value} {w : World} {g : Nat} (h : V.lies s u w g) : ∃ o, w.heap[g]? = some o ∧ oursO o = true := by
  obtain ⟨c, h1, h2⟩ := h
  exact own_obj h2 (V.own s) (V.small s)

/-! ### maps -/

structure MapSt (V : ValTy) where
  base : List (Int × V.σ)
  foc : Option Int

def focOk (k : Int) (es : List MapEntry) : List Value → Prop
  | [] => valI k es = none
  | [u] => valI k es = some u
  | _ => False

/-- A map in memory: the base's elements are its own; what lies at the key in sight, is not. -/
structure MapIs (V : ValTy) (s : MapSt V) (vs : List Value) (w : World) (r : Nat) (F : Nat → Prop) (es : Array MapEntry) (clock : Nat) (G : Int → Nat) : Prop where
  at_ : w.heap[r]? = some (.map es clock)
  ok : MapOk es clock
  nodup : (s.base.map (·.1)).Nodup
  out : ∀ k, s.foc = some k → k ∉ s.base.map (·.1)
  elem : ∀ p ∈ s.base, ∃ u, valI p.1 es.toList = some u ∧ V.lies p.2 u w (G p.1)
  all : ∀ m u, valI m es.toList = some u → m ∈ s.base.map (·.1) ∨ s.foc = some m
  inj : ∀ m m', m ∈ s.base.map (·.1) → m' ∈ s.base.map (·.1) → G m = G m' → m = m'
  ne : ∀ m, m ∈ s.base.map (·.1) → G m ≠ r
  foot : ∀ g, F g ↔ ∃ m, m ∈ s.base.map (·.1) ∧ G m = g
  foc : match s.foc with
    | none => vs = []
    | some k => focOk k es.toList vs

def MapInv (V : ValTy) (s : MapSt V) (vs : List Value) (w : World) (r : Nat) (F : Nat → Prop) : Prop := ∃ es clock G, MapIs V s vs w r F es clock G

def mapLook {V : ValTy} (s : MapSt V) (l : List AVal) (n : Int) : Option (Bool × Option AVal) :=
  match s.foc with
  | none => none
  | some k => match l with
    | [] => some (decide (n = k), none)
    | [v] => some (decide (n = k), some v)
    | _ => none

def mapUpd {V : ValTy} (s : MapSt V) (l : List AVal) (n : Int) (x : Option AVal) : Option (Bool × MapSt V × List AVal) :=
  match s.foc with
  | none => none
  | some k => some (decide (n = k), s, match x with
    | none => []
    | some v => [v])

theorem focOk_val {k : Int} {es : List MapEntry} {ρ : Rho} {l : List AVal} (h : focOk k es (trL ρ l)) : valI k es = (match l with
    | [] => none
    | v :: _ => some (tr ρ v)) := by
  match l, h with
  | [], h => exact h
  | [v], h => exact h
  | _ :: _ :: _, h => exact h.elim

def MapT (V : ValTy) : ObjTy where
  σ := MapSt V
  inv := MapInv V
  look := mapLook
  upd := mapUpd
  rootOut := by
    rintro s vs w r F ⟨es, clock, G, h⟩ ⟨g, hg, rfl⟩
    obtain ⟨m, hm, he⟩ := (h.foot _).1 hg
    exact h.ne m hm he
  ours := by
    rintro s vs w r F ⟨es, clock, G, h⟩ g hg
    rcases hg with rfl | hg
    · exact ⟨_, h.at_, rfl⟩
    · obtain ⟨m, hm, rfl⟩ := (h.foot _).1 hg
      obtain ⟨p, hp, rfl⟩ := List.mem_map.1 hm
      obtain ⟨u, _, hu⟩ := h.elem p hp
      exact ValTy.lies_obj hu
  keep := by
    rintro s vs w w' r F ⟨es, clock, G, h⟩ hk
    refine ⟨es, clock, G, (hk r (.inl rfl)).trans h.at_, h.ok, h.nodup, h.out, fun p hp => ?_, h.all, h.inj, h.ne, h.foot, h.foc⟩
    obtain ⟨u, h1, h2⟩ := h.elem p hp
    exact ⟨u, h1, ValTy.lies_keep h2 (hk _ (.inr ((h.foot _).2 ⟨p.1, List.mem_map.2 ⟨p, hp, rfl⟩, rfl⟩)))⟩
  lookOk := by
    intro s l n v hl
    unfold mapLook at hl
    split at hl
    · cases hl
    rename_i k hk
    have hnk : n = k ∧ v = l.head? ∧ l.length ≤ 1 := by
      split at hl
      · simp only [Option.some.injEq, Prod.mk.injEq, decide_eq_true_eq] at hl
        exact ⟨hl.1, hl.2.symm, by simp⟩
      · simp only [Option.some.injEq, Prod.mk.injEq, decide_eq_true_eq] at hl
        exact ⟨hl.1, hl.2.symm, by simp⟩
      · cases hl
    obtain ⟨rfl, rfl, hlen⟩ := hnk
    refine ⟨fun N hN x hx => ?_, fun ρ w r F h => ?_⟩
    · cases l with
      | nil => cases hx
      | cons a l =>
        cases hx
        simp only [belowL, Bool.and_eq_true] at hN
        exact hN.1
    · obtain ⟨es, clock, G, h⟩ := h
      refine ⟨es, clock, h.at_, h.ok.keys, ?_⟩
      have hf := h.foc
      rw [hk] at hf
      have := focOk_val hf
      unfold valI at this
      rw [this]
      cases l <;> rfl
  updOk := by
    intro s l n x s' l' hu
    unfold mapUpd at hu
    split at hu
    · cases hu
    rename_i k hk
    simp only [Option.some.injEq, Prod.mk.injEq, decide_eq_true_eq] at hu
    obtain ⟨rfl, rfl, rfl⟩ := hu
    refine ⟨fun N hN hx => ?_, fun ρ w r F h => ?_⟩
    · cases x with
      | none => rfl
      | some v => simp only [belowL, hx v rfl, Bool.and_self]
    · obtain ⟨es, clock, G, h⟩ := h
      refine ⟨es, clock, h.at_, h.ok.keys, fun w' hw' hF => ⟨_, _, G, hw', updO_ok _ _ h.ok, h.nodup, h.out, fun p hp => ?_, fun m u hm => ?_, h.inj, h.ne, h.foot, ?_⟩⟩
      · obtain ⟨u, h1, h2⟩ := h.elem p hp
        have hpm : p.1 ∈ s.base.map (·.1) := List.mem_map.2 ⟨p, hp, rfl⟩
        refine ⟨u, ?_, ValTy.lies_keep h2 (hF _ ((h.foot _).2 ⟨p.1, hpm, rfl⟩))⟩
        rw [updO_val _ _ h.ok, if_neg]
        · exact h1
        · intro e
          exact h.out n hk (e ▸ hpm)
      · rw [updO_val _ _ h.ok] at hm
        by_cases hmn : m = n
        · exact .inr (by rw [hmn]; exact hk)
        · rw [if_neg hmn] at hm
          exact h.all m u hm
      · rw [hk]
        simp only
        cases x with
        | none =>
          show valI n _ = none
          rw [updO_val _ _ h.ok, if_pos rfl]; rfl
        | some v =>
          show valI n _ = some (tr ρ v)
          rw [updO_val _ _ h.ok, if_pos rfl]; rfl

end Go.Proofs.Ytcgnoegejmhgmaa.Ev

/-
  Ev: a map's key is brought into sight, and out of it; a new map; ghost steps in the small logic.
-/
namespace Go.Proofs.Ytcgnoegejmhgmaa.Ev
set_option linter.unusedVariables false
set_option linter.unusedSimpArgs false
open Go.RowKit

/-- Memory may as well be reckoned so. -/
def Ghost (H H' : AHeap) : Prop := ∀ ρ w, Rel ρ H w → ∃ ρ', Step ρ H w ρ' H' w

theorem Ghost.refl (H : AHeap) : Ghost H H := fun ρ w h => ⟨ρ, Step.refl h⟩
theorem Ghost.trans {H H' H'' : AHeap} (h : Ghost H H') (k : Ghost H' H'') : Ghost H H'' := fun ρ w hR => by
  obtain ⟨ρ', h1⟩ := h ρ w hR
  obtain ⟨ρ'', h2⟩ := k ρ' w h1.rel
  exact ⟨ρ'', h1.trans h2⟩

def delK {α : Type} (n : Int) (L : List (Int × α)) : List (Int × α) := L.filter fun p => !(decide (p.1 = n))
def getK {α : Type} (n : Int) : List (Int × α) → Option α
  | [] => none
  | (m, a) :: r => if m = n then some a else getK n r

theorem mem_delK {α : Type} {n : Int} {L : List (Int × α)} {p : Int × α} : p ∈ delK n L ↔ p ∈ L ∧ p.1 ≠ n := by simp [delK]
theorem key_delK {α : Type} {n m : Int} {L : List (Int × α)} : m ∈ (delK n L).map (·.1) ↔ m ∈ L.map (·.1) ∧ m ≠ n := by
  simp only [List.mem_map, mem_delK]
  constructor
  · rintro ⟨p, ⟨h1, h2⟩, rfl⟩; exact ⟨⟨p, h1, rfl⟩, h2⟩
  · rintro ⟨⟨p, h1, rfl⟩, h2⟩; exact ⟨p, ⟨h1, h2⟩, rfl⟩
theorem getK_mem {α : Type} {n : Int} {a : α} : ∀ {L : List (Int × α)}, getK n L = some a → (n, a) ∈ L
  | [], h => by cases h
  | (m, b) :: L, h => by
    unfold getK at h
    by_cases hm : m = n
    · rw [if_pos hm] at h; cases h; rw [hm]; exact List.mem_cons_self ..
    · rw [if_neg hm] at h; exact List.mem_cons_of_mem _ (getK_mem h)
theorem getK_none {α : Type} {n : Int} : ∀ {L : List (Int × α)}, getK n L = none ↔ n ∉ L.map (·.1)
  | [] => by simp [getK]
  | (m, b) :: L => by
    unfold getK
    by_cases hm : m = n
    · simp [hm]
    · rw [if_neg hm, getK_none (L := L)]
      simp [Ne.symm hm]
theorem getK_of_mem {α : Type} {n : Int} {a : α} : ∀ {L : List (Int × α)}, (L.map (·.1)).Nodup → (n, a) ∈ L → getK n L = some a
  | [], _, h => by cases h
  | (m, b) :: L, hn, h => by
    rw [List.map_cons, List.nodup_cons] at hn
    unfold getK
    rcases List.mem_cons.1 h with h | h
    · cases h; rw [if_pos rfl]
    · rw [if_neg, getK_of_mem hn.2 h]
      rintro rfl
      exact hn.1 (List.mem_map.2 ⟨_, h, rfl⟩)
theorem delK_self {α : Type} {n : Int} {L : List (Int × α)} (h : n ∉ L.map (·.1)) : delK n L = L := by
  unfold delK
  rw [List.filter_eq_self]
  intro p hp
  simp only [Bool.not_eq_true', decide_eq_false_iff_not]
  rintro rfl
  exact h (List.mem_map.2 ⟨p, hp, rfl⟩)
theorem nodup_delK {α : Type} {n : Int} {L : List (Int × α)} (h : (L.map (·.1)).Nodup) : ((delK n L).map (·.1)).Nodup := h.sublist ((List.filter_sublist).map _)
theorem getK_delK {α : Type} {n m : Int} {L : List (Int × α)} (h : m ≠ n) : getK m (delK n L) = getK m L := by
  induction L with
  | nil => rfl
  | cons p L ih =>
    obtain ⟨k, a⟩ := p
    by_cases hk : k = n
    · subst hk
      have : delK k ((k, a) :: L) = delK k L := by simp [delK]
      rw [this, ih, getK, if_neg (Ne.symm h)]
    · have : delK n ((k, a) :: L) = (k, a) :: delK n L := by simp [delK, hk]
      rw [this, getK, getK, ih]
theorem getK_del {α : Type} {n : Int} {L : List (Int × α)} : getK n (delK n L) = none := by
  rw [getK_none, key_delK]; simp
theorem getK_append {α : Type} {n : Int} : ∀ {L M : List (Int × α)}, getK n (L ++ M) = (getK n L).orElse fun _ => getK n M
  | [], M => by simp [getK]
  | (m, b) :: L, M => by
    simp only [List.cons_append, getK]
    by_cases hm : m = n
    · simp [hm]
    · rw [if_neg hm, if_neg hm, getK_append]

/-- The renaming of an element's own block. -/
def toN (nb : Nat) (v : AVal) : AVal := renV [(0, nb)] v

theorem toN_tr {ρ : Rho} {nb : Nat} {v : AVal} (hv : v.under 1 = true) (ho : ρ.off nb = 0) : tr ρ (toN nb v) = tr (rho1 (ρ.blk nb) (ρ.cap nb)) v := by
  unfold toN
  rw [tr_ren]
  refine tr_agree (N := 1) (fun b hb => ?_) v hv
  have : b = 0 := by omega
  subst this
  exact ⟨rfl, ho, rfl⟩

theorem toN_under {nb N : Nat} {v : AVal} (hv : v.under 1 = true) (h : nb < N) : (toN nb v).under N = true := by
  refine renV_under (N := 1) (fun b hb => ?_) v hv
  have : b = 0 := by omega
  subst this
  exact h

def focH {V : ValTy} (H : AHeap) (b : Nat) (L : List (Int × V.σ)) (n : Int) (s : V.σ) : AHeap :=
  (H.put b (.obj (MapT V) ⟨delK n L, some n⟩ [toN H.next (V.val s)])).new (V.blk s)

/-- A key comes into sight: it is there. -/
theorem focus_some {V : ValTy} {H : AHeap} {b : Nat} {L : List (Int × V.σ)} {n : Int} {s : V.σ} (hb : H.get b = some (.obj (MapT V) ⟨L, none⟩ [])) (hs : getK n L = some s) : Ghost H (focH H b L n s) := by
  intro ρ w hR
  obtain ⟨b1, _, b3, b4, es, clock, G, hm⟩ := hR.blk b _ hb
  have hmem := getK_mem hs
  obtain ⟨u, hu1, c, hu2, hu3⟩ := hm.elem _ hmem
  have hkey : n ∈ L.map (·.1) := List.mem_map.2 ⟨_, hmem, rfl⟩
  obtain ⟨o, ho1, ho2⟩ := own_obj hu3 (V.own s) (V.small s)
  have hGlt : G n < w.heap.size := (Array.getElem?_eq_some_iff.1 ho1).1
  have hGne : G n ≠ ρ.blk b := hm.ne n hkey
  let ρ' : Rho := ⟨(ρ.set H.next (G n) c).blk, (ρ.set H.next (G n) c).off, (ρ.set H.next (G n) c).cap, fun x => if x = b then (fun g => ρ.fp b g ∧ g ≠ G n) else ρ.fp x⟩
  have hag : Rho.agree H.next ρ ρ' := Rho.set_agree ρ H.next (G n) c
  obtain ⟨s1, s2, s3⟩ := set_self ρ H.next (G n) c
  have hbb : ρ'.blk b = ρ.blk b := (hag b b1).1
  have hfpb : ∀ g, ρ'.fp b g ↔ ρ.fp b g ∧ g ≠ G n := fun g => by simp [ρ']
  have hget : ∀ x y, (focH H b L n s).get x = some y → (x = H.next ∧ y = V.blk s) ∨ (x = b ∧ y = .obj (MapT V) ⟨delK n L, some n⟩ [toN H.next (V.val s)]) ∨ (x ≠ b ∧ x ≠ H.next ∧ H.get x = some y) := by
    intro x y hy
    unfold focH at hy
    rw [AHeap.get_new] at hy
    by_cases hx : H.next = x
    · rw [show (H.put b (.obj (MapT V) ⟨delK n L, some n⟩ [toN H.next (V.val s)])).next = H.next from rfl, if_pos hx, own_some (V.own s)] at hy
      cases hy
      exact .inl ⟨hx.symm, rfl⟩
    · rw [show (H.put b (.obj (MapT V) ⟨delK n L, some n⟩ [toN H.next (V.val s)])).next = H.next from rfl, if_neg hx, AHeap.get_put] at hy
      by_cases hxb : b = x
      · rw [if_pos hxb] at hy
        simp only [ABlk.live, Option.some.injEq] at hy
        exact .inr (.inl ⟨hxb.symm, hy.symm⟩)
      · rw [if_neg hxb] at hy
        exact .inr (.inr ⟨Ne.symm hxb, Ne.symm hx, hy⟩)
  have hnx : (focH H b L n s).next = H.next + 1 := rfl
  refine ⟨ρ', Step.frame hR (fun x => x = b) hag (by rw [hnx]; omega) (fun x hx hxb => if_neg hxb) rfl rfl rfl (Nat.le_refl _) (fun x y hx hy => by subst hx; rw [hb] at hy; cases hy; rfl) (fun _ _ _ => rfl) (fun x y hy => ?_) (fun x x' y y' hne hy hy' t t' g hg hg' => ?_)⟩
  · rcases hget x y hy with ⟨rfl, rfl⟩ | ⟨rfl, rfl⟩ | ⟨h1, h2, h3⟩
    · right
      refine ⟨.inr (Nat.le_refl _), by rw [hnx]; omega, ABlk.under_mono (Nat.zero_le _) (V.bU s), by show (ρ.set H.next (G n) c).blk H.next < _; rw [s1]; exact hGlt, ok_move hu3 (V.small s) (V.bU s) s1 s2 s3, V.own s, fun g hg => .inr ⟨b, _, rfl, hb, ?_⟩⟩
      rw [ABlk.fp_small (V.small s)] at hg
      rw [hg]
      refine .inr ⟨rfl, ?_⟩
      show ρ.fp b ((ρ.set H.next (G n) c).blk H.next)
      rw [s1]
      exact (hm.foot _).2 ⟨n, hkey, rfl⟩
    · right
      refine ⟨.inl rfl, by rw [hnx]; omega, ?_, by rw [hbb]; exact b3, ⟨(hag x b1).2.1.trans b4, es, clock, G, ?_⟩, rfl, fun g hg => .inr ⟨x, _, rfl, hb, ?_⟩⟩
      · show belowL _ [toN H.next (V.val s)] = true
        simp only [belowL, Bool.and_true]
        exact toN_under (V.vU s) (by rw [hnx]; omega)
      · rw [hbb]
        refine ⟨hm.at_, hm.ok, nodup_delK hm.nodup, fun k hk => by cases hk; rw [key_delK]; simp, fun p hp => hm.elem p (mem_delK.1 hp).1, fun m u hmu => ?_, fun m m' h h' => hm.inj m m' (key_delK.1 h).1 (key_delK.1 h').1, fun m h => hm.ne m (key_delK.1 h).1, fun g => ?_, ?_⟩
        · by_cases hmn : m = n
          · exact .inr (by rw [hmn])
          · rcases hm.all m u hmu with h | h
            · exact .inl (key_delK.2 ⟨h, hmn⟩)
            · cases h
        · rw [hfpb, hm.foot]
          constructor
          · rintro ⟨⟨m, h1, rfl⟩, h2⟩
            exact ⟨m, key_delK.2 ⟨h1, fun e => h2 (by rw [e])⟩, rfl⟩
          · rintro ⟨m, h1, rfl⟩
            have h1 := key_delK.1 h1
            exact ⟨⟨m, h1.1, rfl⟩, fun e => h1.2 (hm.inj m n h1.1 hkey e)⟩
        · show focOk n es.toList [tr ρ' (toN H.next (V.val s))]
          show valI n es.toList = some _
          rw [toN_tr (V.vU s) (show ρ'.off H.next = 0 from s2), hu1, hu2]
          have e1 : ρ'.blk H.next = G n := s1
          have e2 : ρ'.cap H.next = c := s3
          rw [e1, e2]
      · rcases hg with rfl | ⟨_, hg⟩
        · exact .inl hbb
        · exact .inr ⟨rfl, ((hfpb g).1 hg).1⟩
    · exact .inl ⟨h1, h3⟩
  · have two : ∀ {x y}, (x = b ∨ H.next ≤ x) → (focH H b L n s).get x = some y → (x = H.next ∧ y = V.blk s) ∨ (x = b ∧ y = .obj (MapT V) ⟨delK n L, some n⟩ [toN H.next (V.val s)]) := by
      intro x y t hy
      rcases hget x y hy with h | h | ⟨h1, h2, h3⟩
      · exact .inl h
      · exact .inr h
      · rcases t with t | t
        · exact absurd t h1
        · have := (hR.blk x y h3).1; omega
    have e1 : ρ'.blk H.next = G n := s1
    have cross : ∀ g, (V.blk s).fp ρ' H.next g → ¬ (ABlk.obj (MapT V) ⟨delK n L, some n⟩ [toN H.next (V.val s)]).fp ρ' b g := by
      intro g hg hg'
      rw [ABlk.fp_small (V.small s), e1] at hg
      subst hg
      rcases hg' with hg' | ⟨_, hg'⟩
      · exact hGne (hg'.trans hbb)
      · exact ((hfpb _).1 hg').2 rfl
    rcases two t hy with ⟨rfl, rfl⟩ | ⟨rfl, rfl⟩ <;> rcases two t' hy' with ⟨rfl, rfl⟩ | ⟨rfl, rfl⟩
    · exact hne rfl
    · exact cross g hg hg'
    · exact cross g hg' hg
    · exact hne rfl

/-- A key comes into sight: it is not there. -/
theorem focus_none {V : ValTy} {H : AHeap} {b : Nat} {L : List (Int × V.σ)} {n : Int} (hb : H.get b = some (.obj (MapT V) ⟨L, none⟩ [])) (hs : getK n L = none) : Ghost H (H.put b (.obj (MapT V) ⟨L, some n⟩ [])) := by
  intro ρ w hR
  obtain ⟨b1, b2, b3, b4, es, clock, G, hm⟩ := hR.blk b _ hb
  have hn := getK_none.1 hs
  have hget : ∀ x y, (H.put b (.obj (MapT V) ⟨L, some n⟩ [])).get x = some y → (x = b ∧ y = .obj (MapT V) ⟨L, some n⟩ []) ∨ (x ≠ b ∧ H.get x = some y) := by
    intro x y hy
    rw [AHeap.get_put] at hy
    by_cases hxb : b = x
    · rw [if_pos hxb] at hy
      simp only [ABlk.live, Option.some.injEq] at hy
      exact .inl ⟨hxb.symm, hy.symm⟩
    · rw [if_neg hxb] at hy
      exact .inr ⟨Ne.symm hxb, hy⟩
  refine ⟨ρ, Step.frame hR (fun x => x = b) (.refl _ _) (Nat.le_refl _) (fun x hx hxb => rfl) rfl rfl rfl (Nat.le_refl _) (fun x y hx hy => by subst hx; rw [hb] at hy; cases hy; rfl) (fun _ _ _ => rfl) (fun x y hy => ?_) (fun x x' y y' hne hy hy' t t' g hg hg' => ?_)⟩
  · rcases hget x y hy with ⟨rfl, rfl⟩ | h
    · refine .inr ⟨.inl rfl, b1, rfl, b3, ⟨b4, es, clock, G, hm.at_, hm.ok, hm.nodup, fun k hk => by cases hk; exact hn, hm.elem, fun m u h => .inl ((hm.all m u h).resolve_right (fun h => by cases h)), hm.inj, hm.ne, hm.foot, ?_⟩, rfl, fun g hg => .inr ⟨x, _, rfl, hb, hg⟩⟩
      show valI n es.toList = none
      cases hq : valI n es.toList with
      | none => rfl
      | some u => exact absurd ((hm.all n u hq).resolve_right (fun h => by cases h)) hn
    · exact .inl h
  · have two : ∀ {x y}, (x = b ∨ H.next ≤ x) → (H.put b (.obj (MapT V) ⟨L, some n⟩ [])).get x = some y → x = b := by
      intro x y t hy
      rcases t with t | t
      · exact t
      · rcases hget x y hy with h | ⟨_, h⟩
        · exact h.1
        · have := (hR.blk x y h).1; omega
    exact hne ((two t hy).trans (two t' hy').symm)

/-- It goes out of sight: it is there. -/
theorem unfocus_some {V : ValTy} {H : AHeap} {b nb : Nat} {B : List (Int × V.σ)} {n : Int} {s : V.σ} {v : AVal} (hb : H.get b = some (.obj (MapT V) ⟨B, some n⟩ [v])) (hnb : H.get nb = some (V.blk s)) (hne : nb ≠ b) (hv : v = toN nb (V.val s)) :
    Ghost H ((H.put nb .dead).put b (.obj (MapT V) ⟨B ++ [(n, s)], none⟩ [])) := by
  intro ρ w hR
  obtain ⟨b1, b2, b3, b4, es, clock, G, hm⟩ := hR.blk b _ hb
  obtain ⟨c1, c2, c3, c4⟩ := hR.blk nb _ hnb
  have hout : n ∉ B.map (·.1) := hm.out n rfl
  have hoff := own_off c4 (V.own s)
  have hapart : ∀ g, (V.blk s).fp ρ nb g → ¬ (ABlk.obj (MapT V) ⟨B, some n⟩ [v]).fp ρ b g := hR.inj nb b _ _ hnb hb (V.own s) hne
  have hnbF : ¬ ρ.fp b (ρ.blk nb) := fun h => hapart _ (ABlk.fp_root ..) (.inr ⟨rfl, h⟩)
  have hnbr : ρ.blk nb ≠ ρ.blk b := fun h => hapart _ (ABlk.fp_root ..) (.inl h)
  let ρ' : Rho := ⟨ρ.blk, ρ.off, ρ.cap, fun x => if x = b then (fun g => ρ.fp b g ∨ g = ρ.blk nb) else ρ.fp x⟩
  have hag : Rho.agree H.next ρ ρ' := fun _ _ => ⟨rfl, rfl, rfl⟩
  have hfpb : ∀ g, ρ'.fp b g ↔ ρ.fp b g ∨ g = ρ.blk nb := fun g => by simp [ρ']
  let G' : Int → Nat := fun m => if m = n then ρ.blk nb else G m
  have G'n : G' n = ρ.blk nb := if_pos rfl
  have G'm : ∀ {m}, m ≠ n → G' m = G m := fun h => if_neg h
  have keys : ∀ m, m ∈ (B ++ [(n, s)]).map (·.1) ↔ m ∈ B.map (·.1) ∨ m = n := fun m => by simp
  have nek : ∀ {m}, m ∈ B.map (·.1) → m ≠ n := fun h e => hout (e ▸ h)
  have hget : ∀ x y, ((H.put nb .dead).put b (.obj (MapT V) ⟨B ++ [(n, s)], none⟩ [])).get x = some y → (x = b ∧ y = .obj (MapT V) ⟨B ++ [(n, s)], none⟩ []) ∨ (x ≠ b ∧ x ≠ nb ∧ H.get x = some y) := by
    intro x y hy
    rw [AHeap.get_put] at hy
    by_cases hxb : b = x
    · rw [if_pos hxb] at hy
      simp only [ABlk.live, Option.some.injEq] at hy
      exact .inl ⟨hxb.symm, hy.symm⟩
    · rw [if_neg hxb, AHeap.get_put] at hy
      by_cases hxn : nb = x
      · rw [if_pos hxn] at hy; cases hy
      · rw [if_neg hxn] at hy
        exact .inr ⟨Ne.symm hxb, Ne.symm hxn, hy⟩
  have hfoc : valI n es.toList = some (tr ρ v) := hm.foc
  refine ⟨ρ', Step.frame hR (fun x => x = b ∨ x = nb) hag (Nat.le_refl _) (fun x hx hxb => if_neg fun e => hxb (.inl e)) rfl rfl rfl (Nat.le_refl _) (fun x y hx hy => ?_) (fun _ _ _ => rfl) (fun x y hy => ?_) (fun x x' y y' hne' hy hy' t t' g hg hg' => ?_)⟩
  · rcases hx with rfl | rfl
    · rw [hb] at hy; cases hy; rfl
    · rw [hnb] at hy; cases hy; exact V.own s
  · rcases hget x y hy with ⟨rfl, rfl⟩ | ⟨h1, h2, h3⟩
    · refine .inr ⟨.inl (.inl rfl), b1, rfl, b3, ⟨b4, es, clock, G', hm.at_, hm.ok, ?_, (fun k hk => by cases hk), fun p hp => ?_, fun m u h => .inl ((keys m).2 ?_), fun m m' h h' he => ?_, fun m h => ?_, fun g => ?_, rfl⟩, rfl, fun g hg => ?_⟩
      · rw [List.map_append, List.nodup_append]
        refine ⟨hm.nodup, by simp, ?_⟩
        rintro a ha c hc rfl
        simp at hc
        exact nek ha hc
      · rcases List.mem_append.1 hp with hp | hp
        · obtain ⟨u, h1, h2⟩ := hm.elem p hp
          refine ⟨u, h1, ?_⟩
          rw [G'm (nek (List.mem_map.2 ⟨p, hp, rfl⟩))]
          exact h2
        · cases List.mem_singleton.1 hp
          refine ⟨_, hfoc, ρ.cap nb, ?_, ?_⟩
          · simp only
            rw [G'n, hv, toN_tr (V.vU s) hoff]
          · simp only
            rw [G'n]
            exact ok_move c4 (V.small s) (V.bU s) rfl hoff.symm rfl
      · rcases hm.all m u h with h | h
        · exact .inl h
        · cases h; exact .inr rfl
      · by_cases e1 : m = n <;> by_cases e2 : m' = n
        · rw [e1, e2]
        · have k2 := ((keys m').1 h').resolve_right e2
          rw [e1, G'n, G'm e2] at he
          exact absurd ((hm.foot _).2 ⟨m', k2, he.symm⟩) hnbF
        · have k1 := ((keys m).1 h).resolve_right e1
          rw [e2, G'n, G'm e1] at he
          exact absurd ((hm.foot _).2 ⟨m, k1, he⟩) hnbF
        · have k1 := ((keys m).1 h).resolve_right e1
          have k2 := ((keys m').1 h').resolve_right e2
          rw [G'm e1, G'm e2] at he
          exact hm.inj m m' k1 k2 he
      · by_cases e1 : m = n
        · rw [e1, G'n]; exact hnbr
        · rw [G'm e1]; exact hm.ne m (((keys m).1 h).resolve_right e1)
      · rw [hfpb, hm.foot]
        constructor
        · rintro (⟨m, h1, rfl⟩ | rfl)
          · exact ⟨m, (keys m).2 (.inl h1), G'm (nek h1)⟩
          · exact ⟨n, (keys n).2 (.inr rfl), G'n⟩
        · rintro ⟨m, h1, rfl⟩
          rcases (keys m).1 h1 with h | rfl
          · exact .inl ⟨m, h, (G'm (nek h)).symm⟩
          · exact .inr G'n
      · rcases hg with rfl | ⟨_, hg⟩
        · exact .inr ⟨x, _, .inl rfl, hb, .inl rfl⟩
        · rcases (hfpb g).1 hg with hg | rfl
          · exact .inr ⟨x, _, .inl rfl, hb, .inr ⟨rfl, hg⟩⟩
          · exact .inr ⟨nb, _, .inr rfl, hnb, ABlk.fp_root ..⟩
    · exact .inl ⟨fun h => h.elim h1 h2, h3⟩
  · have two : ∀ {x y}, ((x = b ∨ x = nb) ∨ H.next ≤ x) → ((H.put nb .dead).put b (.obj (MapT V) ⟨B ++ [(n, s)], none⟩ [])).get x = some y → x = b := by
      intro x y t hy
      rcases hget x y hy with h | ⟨h1, h2, h3⟩
      · exact h.1
      · rcases t with (t | t) | t
        · exact t
        · exact absurd t h2
        · have := (hR.blk x y h3).1; omega
    exact hne' ((two t hy).trans (two t' hy').symm)

/-- It goes out of sight: it is not there. -/
theorem unfocus_none {V : ValTy} {H : AHeap} {b : Nat} {B : List (Int × V.σ)} {n : Int} (hb : H.get b = some (.obj (MapT V) ⟨B, some n⟩ [])) : Ghost H (H.put b (.obj (MapT V) ⟨B, none⟩ [])) := by
  intro ρ w hR
  obtain ⟨b1, b2, b3, b4, es, clock, G, hm⟩ := hR.blk b _ hb
  have hget : ∀ x y, (H.put b (.obj (MapT V) ⟨B, none⟩ [])).get x = some y → (x = b ∧ y = .obj (MapT V) ⟨B, none⟩ []) ∨ (x ≠ b ∧ H.get x = some y) := by
    intro x y hy
    rw [AHeap.get_put] at hy
    by_cases hxb : b = x
    · rw [if_pos hxb] at hy
      simp only [ABlk.live, Option.some.injEq] at hy
      exact .inl ⟨hxb.symm, hy.symm⟩
    · rw [if_neg hxb] at hy
      exact .inr ⟨Ne.symm hxb, hy⟩
  have hfoc : valI n es.toList = none := hm.foc
  refine ⟨ρ, Step.frame hR (fun x => x = b) (.refl _ _) (Nat.le_refl _) (fun x hx hxb => rfl) rfl rfl rfl (Nat.le_refl _) (fun x y hx hy => by subst hx; rw [hb] at hy; cases hy; rfl) (fun _ _ _ => rfl) (fun x y hy => ?_) (fun x x' y y' hne hy hy' t t' g hg hg' => ?_)⟩
  · rcases hget x y hy with ⟨rfl, rfl⟩ | h
    · refine .inr ⟨.inl rfl, b1, rfl, b3, ⟨b4, es, clock, G, hm.at_, hm.ok, hm.nodup, (fun k hk => by cases hk), hm.elem, fun m u h => .inl ?_, hm.inj, hm.ne, hm.foot, rfl⟩, rfl, fun g hg => .inr ⟨x, _, rfl, hb, hg⟩⟩
      rcases hm.all m u h with h' | h'
      · exact h'
      · cases h'; rw [hfoc] at h; cases h
    · exact .inl h
  · have two : ∀ {x y}, (x = b ∨ H.next ≤ x) → (H.put b (.obj (MapT V) ⟨B, none⟩ [])).get x = some y → x = b := by
      intro x y t hy
      rcases t with t | t
      · exact t
      · rcases hget x y hy with h | ⟨_, h⟩
        · exact h.1
        · have := (hR.blk x y h).1; omega
    exact hne ((two t hy).trans (two t' hy').symm)

/-- The order of what a map holds does not matter. -/
theorem map_perm {V : ValTy} {H : AHeap} {b : Nat} {L L' : List (Int × V.σ)} (hb : H.get b = some (.obj (MapT V) ⟨L, none⟩ [])) (hp : L.Perm L') : Ghost H (H.put b (.obj (MapT V) ⟨L', none⟩ [])) := by
  intro ρ w hR
  obtain ⟨b1, b2, b3, b4, es, clock, G, hm⟩ := hR.blk b _ hb
  have hk : ∀ m, m ∈ L'.map (·.1) ↔ m ∈ L.map (·.1) := fun m => (hp.map (·.1)).symm.mem_iff
  have hget : ∀ x y, (H.put b (.obj (MapT V) ⟨L', none⟩ [])).get x = some y → (x = b ∧ y = .obj (MapT V) ⟨L', none⟩ []) ∨ (x ≠ b ∧ H.get x = some y) := by
    intro x y hy
    rw [AHeap.get_put] at hy
    by_cases hxb : b = x
    · rw [if_pos hxb] at hy
      simp only [ABlk.live, Option.some.injEq] at hy
      exact .inl ⟨hxb.symm, hy.symm⟩
    · rw [if_neg hxb] at hy
      exact .inr ⟨Ne.symm hxb, hy⟩
  refine ⟨ρ, Step.frame hR (fun x => x = b) (.refl _ _) (Nat.le_refl _) (fun x hx hxb => rfl) rfl rfl rfl (Nat.le_refl _) (fun x y hx hy => by subst hx; rw [hb] at hy; cases hy; rfl) (fun _ _ _ => rfl) (fun x y hy => ?_) (fun x x' y y' hne hy hy' t t' g hg hg' => ?_)⟩
  · rcases hget x y hy with ⟨rfl, rfl⟩ | h
    · exact .inr ⟨.inl rfl, b1, rfl, b3, ⟨b4, es, clock, G, hm.at_, hm.ok, (hp.map (·.1)).nodup_iff.1 hm.nodup, (fun k h => by cases h), fun p h => hm.elem p (hp.symm.mem_iff.1 h), fun m u h => (hm.all m u h).imp (hk m).2 id, fun m m' h h' => hm.inj m m' ((hk m).1 h) ((hk m').1 h'), fun m h => hm.ne m ((hk m).1 h), fun g => (hm.foot g).trans ⟨fun ⟨m, h1, h2⟩ => ⟨m, (hk m).2 h1, h2⟩, fun ⟨m, h1, h2⟩ => ⟨m, (hk m).1 h1, h2⟩⟩, rfl⟩, rfl, fun g hg => .inr ⟨x, _, rfl, hb, hg⟩⟩
    · exact .inl h
  · have two : ∀ {x y}, (x = b ∨ H.next ≤ x) → (H.put b (.obj (MapT V) ⟨L', none⟩ [])).get x = some y → x = b := by
      intro x y t hy
      rcases t with t | t
      · exact t
      · rcases hget x y hy with h | ⟨_, h⟩
        · exact h.1
        · have := (hR.blk x y h).1; omega
    exact hne ((two t hy).trans (two t' hy').symm)

theorem delK_perm {α : Type} {n : Int} {a : α} : ∀ {L : List (Int × α)}, (L.map (·.1)).Nodup → getK n L = some a → (delK n L ++ [(n, a)]).Perm L
  | [], _, h => by cases h
  | (m, b) :: L, hn, h => by
    rw [List.map_cons, List.nodup_cons] at hn
    unfold getK at h
    by_cases hm : m = n
    · rw [if_pos hm] at h
      cases h
      subst hm
      have e : delK m ((m, a) :: L) = L := by
        have : delK m ((m, a) :: L) = delK m L := by simp [delK]
        rw [this, delK_self hn.1]
      rw [e]
      exact List.perm_append_singleton _ _
    · rw [if_neg hm] at h
      have e : delK n ((m, b) :: L) = (m, b) :: delK n L := by simp [delK, hm]
      rw [e]
      exact (delK_perm hn.2 h).cons _

/-- The keys are apart. -/
theorem map_nodup {V : ValTy} {H : AHeap} {b : Nat} {st : MapSt V} {l : List AVal} (hb : H.get b = some (.obj (MapT V) st l)) {ρ : Rho} {w : World} (hR : Rel ρ H w) : (st.base.map (·.1)).Nodup := by
  obtain ⟨_, _, _, _, es, clock, G, hm⟩ := hR.blk b _ hb
  exact hm.nodup

/-! ### a new map -/

def opMk (ms : TypeId → Option ValTy) (o : Oper) (E : Env) (H : AHeap) : Option ((Out → AHeap → Prop) → Prop) :=
  match o.op with
  | .makeMap t none => match ms t with
    | some V => some fun K => forceK H.next fun id => forceH (H.new (.obj (MapT V) ⟨[], none⟩ [])) (K (.ret (.map id)))
    | none => none
  | _ => opBase o E H

theorem opMk_sound (ms : TypeId → Option ValTy) (P : Program) : OpSound P (opMk ms) := by
  intro o E H g hg K hK ρ w a hR hE
  unfold opMk at hg
  split at hg
  · rename_i t hop
    split at hg
    · rename_i V hV
      cases hg
      simp only [forceK_eq, forceH_eq] at hK
      have hsz : (w.alloc (.map #[] 0)).heap.size = w.heap.size + 1 := by simp only [World.alloc, Array.size_push]
      have hnew : (w.alloc (.map #[] 0)).heap[w.heap.size]? = some (.map #[] 0) := by simp only [World.alloc, Array.getElem?_push, if_true]
      have hold : ∀ k, k < w.heap.size → (w.alloc (.map #[] 0)).heap[k]? = w.heap[k]? := fun k hk => by simp only [World.alloc, Array.getElem?_push, Nat.ne_of_lt hk, if_false]
      let ρ' : Rho := ⟨(ρ.set H.next w.heap.size 0).blk, (ρ.set H.next w.heap.size 0).off, (ρ.set H.next w.heap.size 0).cap, fun x => if x = H.next then (fun _ => False) else ρ.fp x⟩
      have hag : Rho.agree H.next ρ ρ' := Rho.set_agree ρ H.next w.heap.size 0
      obtain ⟨s1, s2, s3⟩ := set_self ρ H.next w.heap.size 0
      have hget : ∀ x y, (H.new (.obj (MapT V) ⟨[], none⟩ [])).get x = some y → (x = H.next ∧ y = .obj (MapT V) ⟨[], none⟩ []) ∨ (x ≠ H.next ∧ H.get x = some y) := by
        intro x y hy
        rw [AHeap.get_new] at hy
        by_cases hxb : H.next = x
        · rw [if_pos hxb] at hy
          simp only [ABlk.live, Option.some.injEq] at hy
          exact .inl ⟨hxb.symm, hy.symm⟩
        · rw [if_neg hxb] at hy
          exact .inr ⟨Ne.symm hxb, hy⟩
      have hst : Step ρ H w ρ' (H.new (.obj (MapT V) ⟨[], none⟩ [])) (w.alloc (.map #[] 0)) := by
        refine Step.frame hR (fun _ => False) hag (Nat.le_succ _) (fun x hx _ => if_neg (Nat.ne_of_lt hx)) rfl rfl rfl (by rw [hsz]; omega) (fun x y hx => hx.elim) (fun g hg _ => hold g hg) (fun x y hy => ?_) (fun x x' y y' hne hy hy' t t' g hg hg' => ?_)
        · rcases hget x y hy with ⟨rfl, rfl⟩ | ⟨_, h⟩
          · refine .inr ⟨.inr (Nat.le_refl _), Nat.lt_succ_self _, rfl, by show (ρ.set H.next w.heap.size 0).blk H.next < _; rw [s1, hsz]; omega, ⟨s2, #[], 0, fun _ => 0, ?_, ⟨(fun e he => by cases he), by simp, by simp, (fun e he => by cases he)⟩, by simp, (fun k hk => by cases hk), (fun p hp => by cases hp), (fun m u h => by cases h), (fun m m' h => by cases h), (fun m h => by cases h), fun g => ?_, rfl⟩, rfl, fun g hg => .inl ?_⟩
            · show (w.alloc (.map #[] 0)).heap[(ρ.set H.next w.heap.size 0).blk H.next]? = _
              rw [s1]; exact hnew
            · show (if H.next = H.next then (fun _ => False) else ρ.fp H.next) g ↔ _
              simp
            · rcases hg with rfl | ⟨_, hg⟩
              · show w.heap.size ≤ (ρ.set H.next w.heap.size 0).blk H.next
                rw [s1]; exact Nat.le_refl _
              · have : (if H.next = H.next then (fun _ => False) else ρ.fp H.next) g := hg
                simp at this
          · exact .inl ⟨id, h⟩
        · have two : ∀ {x y}, (False ∨ H.next ≤ x) → (H.new (.obj (MapT V) ⟨[], none⟩ [])).get x = some y → x = H.next := by
            intro x y t hy
            rcases hget x y hy with h | ⟨_, h⟩
            · exact h.1
            · have := (hR.blk x y h).1
              rcases t with t | t
              · exact t.elim
              · omega
          exact hne ((two t hy).trans (two t' hy').symm)
      refine ⟨_, _, ρ', _, hK, hst, .inl ?_, by show Nat.blt _ _ = true; rw [Nat.blt_eq]; exact Nat.lt_succ_self _⟩
      simp only [execOp, hop, Option.map_none, Instr.makeMap, Sem.run_bind, Sem.run_pure, Result.andThen_ok, tr]
      show Result.ok (Next.value (Value.map (some w.heap.size))) _ = Result.ok (Next.value (Value.map (some ((ρ.set H.next w.heap.size 0).blk H.next)))) _
      rw [s1]
      rfl
    · cases hg
  · exact opBase_sound P o E H g hg K hK ρ w a hR hE

/-! ### the small logic -/

theorem Gd.ghost {X : Ctx} {f : FuncId} {H0 : AHeap} {Q : AExit → Env → AHeap → Prop} {E : Env} {H H' : AHeap} {c : Code} (hg : Ghost H H') (h : Gd X f H0 c Q E H') : Gd X f H0 c Q E H := by
  intro fn hf N hN d ρ0 w0 ρ a w hS hE hd hn
  obtain ⟨ρ', h1⟩ := hg ρ w hS.rel
  exact h fn hf N hN d ρ0 w0 ρ' a w (hS.trans h1) (hE.step h1.agree h1.next) hd hn

/-- What holds of a memory only holds. -/
theorem Gd.rel {X : Ctx} {f : FuncId} {H0 : AHeap} {Q : AExit → Env → AHeap → Prop} {E : Env} {H : AHeap} {c : Code} (h : ∀ ρ w, Rel ρ H w → Gd X f H0 c Q E H) : Gd X f H0 c Q E H := by
  intro fn hf N hN d ρ0 w0 ρ a w hS hE hd hn
  exact h ρ w hS.rel fn hf N hN d ρ0 w0 ρ a w hS hE hd hn

theorem Out.rel_mono {ρ ρ' : Rho} {N M : Nat} (hag : Rho.agree N ρ ρ') (hNM : N ≤ M) {o : Out} {e : Ending} (h : Out.rel ρ N o e) : Out.rel ρ' M o e := by
  cases o <;> cases e <;> simp only [Out.rel] at h ⊢
  · exact ⟨by rw [tr_agree hag _ h.2]; exact h.1, AVal.under_mono hNM _ h.2⟩
  · exact ⟨by rw [tr_agree hag _ h.2]; exact h.1, AVal.under_mono hNM _ h.2⟩

/-- A call, with ghost steps ahead of it and behind it. -/
theorem calls_ghost {P : Program} {f : FuncId} {vs : Array Value} {ρ : Rho} {H : AHeap} {w : World} {K K' : Out → AHeap → Prop} (h : Calls P f vs w fun e w' => ∃ out H' ρ', Out.rel ρ' H'.next out e ∧ K' out H' ∧ Step ρ H w ρ' H' w')
    (hk : ∀ out H', K' out H' → ∃ H'', Ghost H' H'' ∧ K out H'') : Calls P f vs w fun e w' => ∃ out H' ρ', Out.rel ρ' H'.next out e ∧ K out H' ∧ Step ρ H w ρ' H' w' := by
  refine h.mono ?_
  rintro e w' ⟨out, H', ρ', h1, h2, h3⟩
  obtain ⟨H'', hg, h4⟩ := hk out H' h2
  obtain ⟨ρ'', h5⟩ := hg ρ' w' h3.rel
  exact ⟨out, H'', ρ'', Out.rel_mono h5.agree h5.next h1, h4, h3.trans h5⟩

end Go.Proofs.Ytcgnoegejmhgmaa.Ev

