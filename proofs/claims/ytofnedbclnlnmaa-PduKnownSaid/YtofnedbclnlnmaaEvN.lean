/-
  Ev: append.
-/
import Derived.Test.YtofnedbclnlnmaaEvM
namespace Go.Proofs.Ytofnedbclnlnmaa.Ev
set_option linter.unusedVariables false
set_option linter.unusedSimpArgs false
open Go.RowKit

theorem append_room_run {P : Program} {w : World} {t tx ty e : TypeId} {i : TypeInfo} (ht : P.underlying t = some (.slice e)) (hi : P.info? e = some i) {g sLen sCap n : Nat} {x : Value} {news : List Value} (hs : Src P i.size tx x n news w)
    (hroom : sLen + n ≤ sCap) {w' : World} (hst : (storeCells ⟨g, sLen * i.size, none⟩ news).run P w = .ok () w') :
    (Builtin.append_ #[t, tx] ty #[.slice (some ⟨g, 0, none⟩) sLen sCap, x]).run P w = .ok (.slice (some ⟨g, 0, none⟩) (sLen + n) sCap) w' := by
  rcases hs.kind with ⟨e', hk⟩ | hk <;> simp [Builtin.append_, run_underlying ht, run_underlying hk, sizeOf, typeInfo, hi, hs.len, hroom, hs.cells, addr_add, hst]

/-- A block of ours is dropped. -/
theorem Step.drop {ρ : Rho} {H : AHeap} {w : World} (h : Rel ρ H w) (b : Nat) : Step ρ H w ρ (H.put b .dead) w := by
  have hs : ∀ c z, (H.put b .dead).get c = some z → H.get c = some z := by
    intro c z hz
    rw [AHeap.get_put] at hz
    by_cases hb : b = c
    · rw [if_pos hb] at hz; cases hz
    · rwa [if_neg hb] at hz
  refine ⟨.refl _ _, Nat.le_refl _, h.sub fun c z hz => ?_, rfl, rfl, rfl, Nat.le_refl _, fun _ _ _ => rfl, fun g hg => .inr (hg.sub hs)⟩
  have := h.blk c z (hs c z hz)
  exact ⟨hs c z hz, this.1, this.2.1⟩

/-- A block of ours goes on under a new number. -/
theorem Step.move {ρ : Rho} {H : AHeap} {w : World} (h : Rel ρ H w) {b : Nat} {x y : ABlk} (hx : H.get b = some x) (ho : x.own = true) {o' : Obj} {C : Nat} (hy : y.ok (ρ.set H.next (ρ.blk b) C) (setB w (ρ.blk b) o') H.next) (hyo : y.own = true) (hyN : y.under (H.next + 1) = true) :
    Step ρ H w (ρ.set H.next (ρ.blk b) C) ((H.put b .dead).new y) (setB w (ρ.blk b) o') := by
  have hag := Rho.set_agree ρ H.next (ρ.blk b) C
  obtain ⟨s1, s2, s3⟩ := set_self ρ H.next (ρ.blk b) C
  have hsz : (setB w (ρ.blk b) o').heap.size = w.heap.size := by simp [setB]
  obtain ⟨b1, b2, b3, b4⟩ := h.blk b x hx
  have hget : ∀ c z, ((H.put b .dead).new y).get c = some z → (c = H.next ∧ z = y) ∨ (c ≠ b ∧ c < H.next ∧ H.get c = some z) := by
    intro c z hz
    rw [AHeap.get_new] at hz
    by_cases hc : (H.put b .dead).next = c
    · rw [if_pos hc, own_some hyo] at hz
      exact .inl ⟨hc.symm, by injection hz with hz; exact hz.symm⟩
    · rw [if_neg hc, AHeap.get_put] at hz
      by_cases hb : b = c
      · rw [if_pos hb] at hz; cases hz
      · rw [if_neg hb] at hz
        exact .inr ⟨Ne.symm hb, (h.blk c z hz).1, hz⟩
  refine ⟨hag, Nat.le_succ _, ⟨fun c z hz => ?_, fun c c' z z' hz hz' hzo hne => ?_⟩, rfl, rfl, rfl, by rw [hsz]; exact Nat.le_refl _, fun g hg hn => setB_other _ _ _ _ (fun e => hn ⟨b, x, hx, ho, e.symm⟩), ?_⟩
  · rcases hget c z hz with ⟨e1, e2⟩ | ⟨hne, hlt, hq⟩
    · rw [e1, e2]
      exact ⟨Nat.lt_succ_self _, hyN, by rw [s1, hsz]; exact b3, hy⟩
    · obtain ⟨k1, k2, k3, k4⟩ := h.blk c z hq
      have hb : (ρ.set H.next (ρ.blk b) C).blk c = ρ.blk c := (hag c hlt).1
      refine ⟨Nat.lt_succ_of_lt k1, ?_, by rw [hb, hsz]; exact k3, ABlk.ok_keep k4 k2 hag hlt (by rw [hsz]; exact Nat.le_refl _) (setB_other _ _ _ _ (Ne.symm (h.inj b c x z hx hq ho (Ne.symm hne))))⟩
      cases z with
      | cells e l => exact belowL_mono (Nat.le_succ _) l k2
      | row => rfl
      | dead => rfl
  · rcases hget c z hz with ⟨e1, _⟩ | ⟨h1, hl1, hq⟩ <;> rcases hget c' z' hz' with ⟨e2, _⟩ | ⟨h2, hl2, hq'⟩
    · exact absurd (e1.trans e2.symm) hne
    · rw [e1, s1, (hag c' hl2).1]
      exact h.inj b c' x z' hx hq' ho (Ne.symm h2)
    · rw [e2, s1, (hag c hl1).1]
      exact Ne.symm (h.inj b c x z hx hq ho (Ne.symm h1))
    · rw [(hag c hl1).1, (hag c' hl2).1]
      exact h.inj c c' z z' hq hq' hzo hne
  · rintro g ⟨c, z, hz, hzo, rfl⟩
    rcases hget c z hz with ⟨e1, _⟩ | ⟨h1, hl1, hq⟩
    · rw [e1, s1]; exact .inr ⟨b, x, hx, ho, rfl⟩
    · rw [(hag c hl1).1]; exact .inr ⟨c, z, hq, hzo, rfl⟩

theorem size_zeros {z : Value} {k n : Nat} (h : z.cells.size = k) : (Builtin.zeroCells z.cells n).size = n * k := by rw [size_zeroCells, h]

theorem appendA_sound {X : Ctx} {H H' : AHeap} {t u : TypeId} {s x v : AVal} (h : appendA X H t u s x = some (true, v, H')) {ρ : Rho} {w : World} (hR : Rel ρ H w) (ty : TypeId) :
    ∃ ρ' w', (Builtin.append_ #[t, u] ty #[tr ρ s, tr ρ x]).run X.P w = .ok (tr ρ' v) w' ∧ v.under H'.next = true ∧ Step ρ H w ρ' H' w' := by
  have hH : ∀ b y, H.get b = some y → y.under H.next = true ∧ y.ok ρ w b := fun b y hy => ⟨(hR.blk b y hy).2.1, (hR.blk b y hy).2.2.2⟩
  unfold appendA at h
  split at h <;> try cases h
  rename_i e hu
  split at h <;> try cases h
  rename_i i zl hi hzl
  obtain ⟨z, _, ⟨it, hit, hiz⟩, hzc, _, _⟩ := zeroA_run hzl w
  rw [hi] at hit
  cases hit
  have hzs : z.cells.size = zl.length := by rw [← Array.length_toList, ← hzc ρ, trL_length]
  split at h
  · split at h <;> try cases h
    rename_i T hT
    split at h <;> try cases h
    rename_i q news hsrc
    simp only [Option.some.injEq, Prod.mk.injEq, Bool.and_eq_true, decide_eq_true_eq] at h
    obtain ⟨⟨rfl, h0, hsz, hzl2, hpos, h63, hbytes⟩, rfl, rfl⟩ := h
    have hsr := srcA_sound hsrc (ρ := ρ) (w := w) hH
    rw [← hsz] at hsr
    have hrun := run_append_grow_src (P := X.P) w t u ty e i z hu hi hiz none 0 0 [] (by simp [Builtin.firstCells]) (tr ρ x) news.length _ hsr (by omega) (by omega) (growslice_fits (by omega) (by simpa using hbytes))
    simp only [Nat.zero_add, List.nil_append] at hrun
    have hge := grownCap_ge w news.length 0 e
    have hle := grownCap_le_maxLen w news.length 0 e (by unfold maxLen; omega)
    have hlen : (trL ρ (T.flat news)).length = news.length * T.sz := by rw [trL_length, flat_length]
    have hnew : NewTo ρ H.next w (.sl H.next 0 T.sz 0 news.length none) (.row e T news .plain) (.slice (some ⟨w.heap.size, 0, none⟩) news.length (grownCap w news.length 0 e))
        (w.drew.alloc (.cells ((trL ρ (T.flat news)).toArray ++ Builtin.zeroCells z.cells (grownCap w news.length 0 e - news.length)) e)) := by
      refine NewTo.row (w := w) (w' := w.drew.alloc (.cells ((trL ρ (T.flat news)).toArray ++ Builtin.zeroCells z.cells (grownCap w news.length 0 e - news.length)) e)) (md := .plain) (fz := (0, 0)) (cur := (trL ρ (T.flat news)).toArray ++ Builtin.zeroCells z.cells (grownCap w news.length 0 e - news.length)) rfl ⟨rfl, rfl, rfl⟩ (by simp) (.inl rfl) hge hle ?_ ?_
      · rw [Array.size_append, size_zeros (hzs.trans hzl2), List.size_toArray, hlen, ← Nat.add_mul]
        congr 1; omega
      · rw [Array.toList_append]
        simp only
        rw [List.take_append_of_le_length (by rw [hlen]; exact Nat.le_refl _), List.take_of_length_le (by rw [hlen]; exact Nat.le_refl _)]
    obtain ⟨ρ', hst, hv, hvu⟩ := Step.new hR hnew
    exact ⟨ρ', _, by rw [← hv]; exact hrun, hvu, hst⟩
  · rename_i b k sz j n c
    split at h <;> try cases h
    rename_i e' T l md hb
    split at h <;> try cases h
    rename_i hmd
    split at h <;> try cases h
    rename_i q news he hszT hsrc
    have he := nat_beq_eq.1 he
    have hszT := nat_beq_eq.1 hszT
    subst he hszT
    simp only [Option.some.injEq, Prod.mk.injEq, Bool.and_eq_true, decide_eq_true_eq] at h
    obtain ⟨⟨rfl, rfl, hsz, hzl2, hpos, h63, hbytes⟩, rfl, rfl⟩ := h
    have hmd : md ≠ .ro := fun e => hmd e
    obtain ⟨k1, k2, k3, k4⟩ := hR.blk b _ hb
    obtain ⟨c0, c1, c2, cur, fz, c3, c4, c5, c6⟩ := (ABlk.ok_own hmd).1 k4
    have hown : ∀ l : List T.α, (ABlk.row e T l md).own = true := fun l => by cases md <;> simp_all [ABlk.own]
    have hsr := srcA_sound hsrc (ρ := ρ) (w := w) hH
    rw [← hsz] at hsr
    have hlen : (trL ρ (T.flat news)).length = news.length * T.sz := by rw [trL_length, flat_length]
    have hlenl : (trL ρ (T.flat l)).length = l.length * T.sz := by rw [trL_length, flat_length]
    have hfa : ∀ a b : List T.α, T.flat (a ++ b) = T.flat a ++ T.flat b := fun a b => by simp [RowTy.flat]
    have hll : (l ++ news).length = l.length + news.length := List.length_append
    have hsv : tr ρ (.sl b 0 T.sz 0 l.length none) = .slice (some ⟨ρ.blk b, 0, none⟩) l.length (ρ.cap b) := by simp [tr, c0]
    rw [hsv]
    by_cases hroom : l.length + news.length ≤ ρ.cap b
    · have hmul : (l.length + news.length) * T.sz ≤ ρ.cap b * T.sz := Nat.mul_le_mul_right _ hroom
      rw [Nat.add_mul] at hmul
      have hst := storeCells_run0 (P := X.P) (ρ.blk b) (l.length * T.sz) e fz (trL ρ (T.flat news)) cur w c3 (c4.imp (fun h => h) (fun h => h.2)) hsr.one (by rw [hlen, c5]; omega)
      have hrun := append_room_run (P := X.P) (ty := ty) hu hi hsr hroom (by rw [hsz]; exact hst)
      obtain ⟨s1, s2, s3⟩ := set_self ρ H.next (ρ.blk b) (ρ.cap b)
      refine ⟨ρ.set H.next (ρ.blk b) (ρ.cap b), _, ?_, by simp [AVal.under, AHeap.new, AHeap.put], Step.move (o' := .cells (cur.toList.take (l.length * T.sz) ++ trL ρ (T.flat news) ++ cur.toList.drop (l.length * T.sz + (trL ρ (T.flat news)).length)).toArray e fz) hR hb (hown l) ((ABlk.ok_own hmd).2 ⟨s2, by rw [s3, hll]; exact hroom, by rw [s3]; exact c2, _, fz, by rw [s1]; exact setB_get _ _ _ k3, ?_, ?_, ?_⟩) (hown _) rfl⟩
      · rw [hrun]
        simp [tr, Rho.set, hll]
      · rcases c4 with h | h
        · exact .inl h
        · refine .inr ⟨h.1, ?_⟩
          have h := h.2
          simp only [List.size_toArray, List.length_append, List.length_take, List.length_drop, Array.length_toList, hlen]
          omega
      · rw [s3]
        simp only [List.size_toArray, List.length_append, List.length_take, List.length_drop, Array.length_toList, hlen]
        omega
      · have hd : trL (ρ.set H.next (ρ.blk b) (ρ.cap b)) (T.flat (l ++ news)) = trL ρ (T.flat (l ++ news)) := by
          rw [trL_eq, trL_eq]
          apply List.map_congr_left
          intro x hx
          have hd := flat_data T (l ++ news)
          rw [List.all_eq_true] at hd
          exact AVal.data_tr (hd x hx) _ _
        rw [hd, hll, hfa, trL_append, Nat.add_mul]
        simp only
        rw [c6, List.take_append_of_le_length (by rw [List.length_append, hlen, hlenl]; exact Nat.le_refl _), List.take_of_length_le (by rw [List.length_append, hlen, hlenl]; exact Nat.le_refl _)]
    · have hold : (Builtin.firstCells i.size l.length (.slice (some ⟨ρ.blk b, 0, none⟩) l.length (ρ.cap b))).run X.P w.drew = .ok (trL ρ (T.flat l)).toArray w.drew := by
        refine run_firstCells_some w.drew i.size l.length _ _ _ _ (by rw [hlenl, hsz]) (fun y v hv => ?_)
        rw [addr_add, Nat.zero_add]
        rw [trL_get] at hv
        cases hy : (T.flat l)[y]? with
        | none => simp [hy] at hv
        | some q =>
          simp only [hy, Option.map_some, Option.some.injEq] at hv
          subst hv
          have := row_cell k4 hy
          rw [c0, Nat.zero_add] at this
          exact this
      have hrun := run_append_grow_src (P := X.P) w t u ty e i z hu hi hiz (some ⟨ρ.blk b, 0, none⟩) l.length (ρ.cap b) (trL ρ (T.flat l)) hold (tr ρ x) news.length _ hsr (by omega) (by rw [hll] at h63; omega) (growslice_fits (by omega) (by rw [hll] at hbytes; exact hbytes))
      rw [← hll, ← trL_append, ← hfa] at hrun
      have hge := grownCap_ge w (l ++ news).length (ρ.cap b) e
      have hle := grownCap_le_maxLen w (l ++ news).length (ρ.cap b) e (by unfold maxLen; omega)
      have hlen2 : (trL ρ (T.flat (l ++ news))).length = (l ++ news).length * T.sz := by rw [trL_length, flat_length]
      have hnew : NewTo ρ H.next w (.sl H.next 0 T.sz 0 (l ++ news).length none) (.row e T (l ++ news) md) (.slice (some ⟨w.heap.size, 0, none⟩) (l ++ news).length (grownCap w (l ++ news).length (ρ.cap b) e))
          (w.drew.alloc (.cells ((trL ρ (T.flat (l ++ news))).toArray ++ Builtin.zeroCells z.cells (grownCap w (l ++ news).length (ρ.cap b) e - (l ++ news).length)) e)) := by
        refine NewTo.row (w := w) (w' := w.drew.alloc (.cells ((trL ρ (T.flat (l ++ news))).toArray ++ Builtin.zeroCells z.cells (grownCap w (l ++ news).length (ρ.cap b) e - (l ++ news).length)) e)) (fz := (0, 0)) (cur := (trL ρ (T.flat (l ++ news))).toArray ++ Builtin.zeroCells z.cells (grownCap w (l ++ news).length (ρ.cap b) e - (l ++ news).length)) rfl ⟨rfl, rfl, rfl⟩ hmd (.inl rfl) hge hle ?_ ?_
        · rw [Array.size_append, size_zeros (hzs.trans hzl2), List.size_toArray, hlen2, ← Nat.add_mul]
          congr 1; omega
        · rw [Array.toList_append]
          simp only
          rw [List.take_append_of_le_length (by rw [hlen2]; exact Nat.le_refl _), List.take_of_length_le (by rw [hlen2]; exact Nat.le_refl _)]
      have hd := Step.drop hR b
      obtain ⟨ρ', hst, hv, hvu⟩ := Step.new (H := H.put b .dead) hd.rel hnew
      exact ⟨ρ', _, by rw [← hv]; exact hrun, hvu, hd.trans hst⟩
  · cases h

theorem writeA_sound {X : Ctx} {sm : Bool} {o : Oper} {E : Env} {H H' : AHeap} {v : AVal} (h : writeA X sm o E H = some (true, v, H')) {ρ : Rho} {w : World} (hR : Rel ρ H w) {a : Act} (hE : RelE ρ H.next E a) :
    ∃ ρ' w', ((execOp a.eval o).run X.P w = .ok (.value (tr ρ' v)) w' ∨ ((execOp a.eval o).run X.P w = .ok .skip w' ∧ v = .tup [])) ∧ v.under H'.next = true ∧ Step ρ H w ρ' H' w' := by
  unfold writeA at h
  split at h
  · rename_i t x y ho
    split at h <;> try cases h
    rename_i p q hp hq
    obtain ⟨h1, h2⟩ := evalO_tr hE hp
    obtain ⟨k1, k2⟩ := evalO_tr hE hq
    obtain ⟨w', hw, rfl, hst⟩ := storeA_sound h hR k2
    refine ⟨ρ, w', .inr ⟨?_, rfl⟩, rfl, hst⟩
    simp [execOp, ho, h1, k1, hw]
  · rename_i d s t u ho
    split at h <;> try cases h
    rename_i p q hp hq
    obtain ⟨h1, h2⟩ := evalO_tr hE hp
    obtain ⟨k1, k2⟩ := evalO_tr hE hq
    obtain ⟨w', hw, hv, hst⟩ := copyA_sound h hR o.type
    refine ⟨ρ, w', .inl ?_, AVal.data_below hv _, hst⟩
    simp only [execOp, ho, resolve, invoke, builtin, Sem.run_bind, Sem.run_pure, Result.andThen_ok, List.map_toArray, List.map_cons, List.map_nil, h1, k1, hw]
  · rename_i d s t u ho
    split at h <;> try cases h
    rename_i p q hp hq
    obtain ⟨h1, h2⟩ := evalO_tr hE hp
    obtain ⟨k1, k2⟩ := evalO_tr hE hq
    obtain ⟨ρ', w', hw, hv, hst⟩ := appendA_sound h hR o.type
    refine ⟨ρ', w', .inl ?_, hv, hst⟩
    simp only [execOp, ho, resolve, invoke, builtin, Sem.run_bind, Sem.run_pure, Result.andThen_ok, List.map_toArray, List.map_cons, List.map_nil, h1, k1, hw]
  · cases h

end Go.Proofs.Ytofnedbclnlnmaa.Ev
