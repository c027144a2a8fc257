/-
  Ev: regions of open order, whole.
-/
import Derived.Test.YtofnedbclnlnmaaEvT
namespace Go.Proofs.Ytofnedbclnlnmaa.Ev
set_option linter.unusedVariables false
set_option linter.unusedSimpArgs false
open Go.RowKit

/-- What is known of an operation of the tail. -/
structure TailAt (all : List Oper) (es : List Ent) (i : Nat) (o : Oper) (esi : List Ent) : Prop where
  op : all[i]? = some o
  all : ∀ j, j < i → j ∈ predsL esi o.after.toList
  lt : ∀ j ∈ predsL esi o.after.toList, j < i
  old : ∀ x e, esi[x]? = some e → es[x]? = some e ∨ (es.length ≤ x ∧ ∀ j ∈ e.pr, j < x)

theorem okTail_spec {all : List Oper} {es : List Ent} : ∀ (rest : List Oper) (esi : List Ent), okTail esi rest esi.length = true → (∀ j, rest[j]? = all[esi.length + j]?) → (∀ x e, esi[x]? = some e → es[x]? = some e ∨ (es.length ≤ x ∧ ∀ j ∈ e.pr, j < x)) → es.length ≤ esi.length →
    ∀ i, esi.length ≤ i → i < all.length → ∃ o esi', TailAt all es i o esi'
  | [], esi, _, hr, _, _, i, h1, h2 => by
    have := hr (i - esi.length)
    rw [show esi.length + (i - esi.length) = i by omega, List.getElem?_eq_getElem h2] at this
    simp at this
  | o :: rest, esi, h, hr, hold, hle, i, h1, h2 => by
    simp only [okTail, Bool.and_eq_true] at h
    obtain ⟨⟨ha, hb⟩, hc⟩ := h
    rw [List.all_eq_true] at ha hb
    have hlt : ∀ j ∈ predsL esi o.after.toList, j < esi.length := fun j hj => by simpa using hb j hj
    by_cases hi : i = esi.length
    · subst hi
      exact ⟨o, esi, by simpa using (hr 0).symm, fun j hj => memN_iff.1 (ha j (by simpa using hj)), hlt, hold⟩
    · refine okTail_spec rest (esi ++ [⟨.tup [], none, predsL esi o.after.toList⟩]) (by simpa using hc) (fun j => by have := hr (j + 1); simpa [Nat.add_assoc, Nat.add_comm 1 j] using this) (fun x e hx => ?_) (by simp; omega) i (by simp; omega) h2
      by_cases hxl : x < esi.length
      · rw [List.getElem?_append_left hxl] at hx
        exact hold x e hx
      · rw [List.getElem?_append_right (by omega)] at hx
        have hx0 : x - esi.length = 0 := by
          by_cases h0 : x - esi.length = 0
          · exact h0
          · rw [List.getElem?_eq_none (by simp; omega)] at hx; cases hx
        rw [hx0] at hx
        simp only [List.getElem?_cons_zero, Option.some.injEq] at hx
        subst hx
        exact .inr ⟨by omega, fun j hj => by have := hlt j hj; omega⟩

section
variable {X : Ctx} {sm : Bool} {cf : CallF} {all : List Oper} {E0 : Env} {H0 : AHeap} {Q : AExit → Env → AHeap → Prop}

theorem tail_any {es : List Ent} (ht : ∀ i, es.length ≤ i → i < all.length → ∃ o esi, TailAt all es i o esi) (hg : ∀ (x : Nat) (e : Ent), es[x]? = some e → ∀ j ∈ e.pr, j < x) {QQ : Exit → Act → World → Prop} :
    ∀ (fuel m : Nat) (listed : Array Bool) (a : Act) (w : World), es.length ≤ m → m ≤ all.length → listed.size = all.length → (∀ j, j < all.length → listed[j]? = some (decide (j < m))) → all.length - m ≤ fuel →
      wpOps X.P all.toArray QQ (List.range' m (all.length - m)) a w → wpAny X.P .any all.toArray QQ fuel listed a w := by
  intro fuel
  induction fuel with
  | zero =>
    intro m listed a w h1 h2 h3 h4 h5 h
    have hm : m = all.length := by omega
    subst hm
    refine ⟨?_, by simpa [wpOps] using h⟩
    cases hr : Region.ready .any all.toArray listed with
    | nil => rfl
    | cons i r =>
      have hi : i ∈ Region.ready .any all.toArray listed := by rw [hr]; simp
      obtain ⟨hu, o, ho, _⟩ := mem_ready.1 hi
      have hil : i < all.length := by have := (Array.getElem?_eq_some_iff.1 ho).1; simpa using this
      have := h4 i hil
      simp [this, hil] at hu
  | succ fuel ih =>
    intro m listed a w h1 h2 h3 h4 h5 h
    refine ⟨fun hr => ?_, fun i hi => ?_⟩
    · by_cases hm : m = all.length
      · subst hm; simpa [wpOps] using h
      · exfalso
        obtain ⟨o, esi, hT⟩ := ht m h1 (by omega)
        have : m ∈ Region.ready .any all.toArray listed := by
          rw [mem_ready]
          refine ⟨by simp [h4 m (by omega)], o, by simpa using hT.op, fun e he hb => ?_⟩
          have hon := hT.lt e.on (predsL_on (by simpa using he) hb)
          simp [h4 e.on (by omega), hon]
        rw [hr] at this
        cases this
    · obtain ⟨hu, o, ho, hall⟩ := mem_ready.1 hi
      have hil : i < all.length := by have := (Array.getElem?_eq_some_iff.1 ho).1; simpa using this
      have him : m ≤ i := by
        have := h4 i hil
        simp [this] at hu
        exact hu
      have hie : i = m := by
        by_cases hne : i = m
        · exact hne
        · exfalso
          obtain ⟨o', esi, hT⟩ := ht i (by omega) hil
          have hoo : o' = o := by
            have h1 := hT.op
            have h2 : all[i]? = some o := by simpa using ho
            rw [h1] at h2; injection h2
          subst hoo
          obtain ⟨ed, he, hb, hcase⟩ := predsL_mem (hT.all m (by omega))
          have hl := hall ed (by simpa using he) hb
          have hon := hT.lt ed.on (predsL_on he hb)
          have hon2 : ed.on < m := by
            have := h4 ed.on (by omega)
            simp [this] at hl
            exact hl
          rcases hcase with rfl | ⟨x, hx, hin⟩
          · omega
          · rcases hT.old _ _ hx with h | ⟨_, h⟩
            · have := hg _ _ h m hin; omega
            · have := h m hin; omega
      subst hie
      rw [show all.length - i = (all.length - (i + 1)) + 1 by omega, List.range'_succ, wpOps_cons] at h
      refine wpOp_mono (fun a w hk => ih (i + 1) _ a w (by omega) (by omega) (by simpa using h3) (fun j hj => ?_) (by omega) hk) h
      rw [Array.getElem?_setIfInBounds]
      by_cases hij : i = j
      · subst hij
        have hlt : i < listed.size := by omega
        simp [hlt]
      · rw [if_neg hij, h4 j hj]
        congr 1
        simp; omega

theorem draw_any (hX : CtxRows X) (hF : FcOk X) (hC : CallOk X cf) {es : List Ent} {rest : List Oper} (hg : AllGood X sm all E0 H0 es) (hrest : ∀ j, rest[j]? = all[es.length + j]?) (hfin : finishD X sm cf all E0 H0 es rest Q)
    (hE0 : ∀ t v, getE E0 t = some v → v.under H0.next = true) (hH0 : ∀ b x, H0.get b = some x → b < H0.next ∧ x.under H0.next = true) {n : Nat} (hdst : ∀ (j : Nat) (o : Oper) (t : Nat), all[j]? = some o → o.dst = some t → t < n)
    {ρs : Rho} {Hs : AHeap} {ws : World} (hHs : Hs.next ≤ H0.next) :
    ∀ (fuel : Nat) (listed : Array Bool) (ρ : Rho) (a : Act) (w : World), listed.size = all.length → ((List.range all.length).filter fun j => !listed.getD j true).length ≤ fuel → (∀ k, listed.getD k false = true → k < es.length) →
      Inv all E0 H0 es n ρs Hs ws (fun k => listed.getD k false) ρ a w → wpAny X.P .any all.toArray (Lift ρs Hs ws n Q) fuel listed a w := by
  have hlen : es.length ≤ all.length := by
    rcases Nat.lt_or_ge all.length es.length with h | h
    · exfalso
      obtain ⟨o, e, hgd⟩ := hg all.length h
      have := hgd.op
      rw [List.getElem?_eq_none (Nat.le_refl _)] at this
      cases this
    · exact h
  unfold finishD at hfin
  split at hfin
  rotate_left
  · exact hfin.elim
  rename_i hok
  simp only [Bool.and_eq_true] at hok
  have hlte : ∀ (x : Nat) (e : Ent), es[x]? = some e → ∀ j ∈ e.pr, j < x := fun x e he j hj => by
    obtain ⟨o, e', hgd⟩ := hg x (List.getElem?_eq_some_iff.1 he).1
    have : e' = e := by have := hgd.ent; rw [he] at this; injection this with this; exact this.symm
    subst this
    exact hgd.lt j hj
  have hT := okTail_spec (all := all) (es := es) rest es hok.2 hrest (fun x e h => .inl h) (Nat.le_refl _)
  have hrl : rest.length = all.length - es.length := by
    rcases Nat.lt_or_ge rest.length (all.length - es.length) with h | h
    · have := hrest rest.length
      rw [List.getElem?_eq_none (Nat.le_refl _), List.getElem?_eq_getElem (by omega)] at this
      cases this
    · rcases Nat.lt_or_ge (all.length - es.length) rest.length with h2 | h2
      · have := hrest (all.length - es.length)
        rw [List.getElem?_eq_getElem h2, List.getElem?_eq_none (by omega)] at this
        cases this
      · omega
  -- when all that grows is done
  have stage2 : ∀ (fuel : Nat) (listed : Array Bool) (ρ : Rho) (a : Act) (w : World), listed.size = all.length → (∀ k, listed.getD k false = true → k < es.length) → (∀ k, k < es.length → listed.getD k false = true) → ((List.range all.length).filter fun j => !listed.getD j true).length ≤ fuel →
      Inv all E0 H0 es n ρs Hs ws (fun k => listed.getD k false) ρ a w → wpAny X.P .any all.toArray (Lift ρs Hs ws n Q) fuel listed a w := by
    intro fuel listed ρ a w hsz hL hAll hcount hI
    have hget : ∀ j, j < all.length → listed[j]? = some (decide (j < es.length)) := fun j hj => by
      have hjl : j < listed.size := by omega
      rw [Array.getElem?_eq_getElem hjl]
      congr 1
      by_cases hje : j < es.length
      · have := hAll j hje
        simp [hjl] at this
        simp [hje, this]
      · cases hv : listed[j] with
        | false => simp [hje]
        | true =>
          have := hL j (by simp [hjl, hv])
          omega
    refine tail_any hT hlte fuel es.length listed a w (Nat.le_refl _) hlen hsz hget ?_ ?_
    · refine Nat.le_trans ?_ hcount
      have : (List.range' es.length (all.length - es.length)).Sublist ((List.range all.length).filter fun j => !listed.getD j true) := by
        have e1 : List.range all.length = List.range' 0 es.length ++ List.range' es.length (all.length - es.length) := by
          have h := List.range'_append (s := 0) (m := es.length) (n := all.length - es.length) (step := 1)
          rw [show es.length + (all.length - es.length) = all.length by omega] at h
          rw [List.range_eq_range', ← h]
          simp
        rw [e1, List.filter_append]
        have e2 : (List.range' es.length (all.length - es.length)).filter (fun j => !listed.getD j true) = List.range' es.length (all.length - es.length) := by
          rw [List.filter_eq_self]
          intro j hj
          simp only [List.mem_range'_1] at hj
          have := hget j (by omega)
          have hjl : j < listed.size := by omega
          rw [Array.getElem?_eq_getElem hjl] at this
          simp only [Option.some.injEq] at this
          simp [hjl, this]
          omega
        rw [e2]
        exact List.sublist_append_right _ _
      have := this.length_le
      simpa using this
    · rw [← hrl]
      have hheap : ∀ b, (heapS H0 all.length (fun _ => true) es).get b = (heapS H0 all.length (fun k => listed.getD k false) es).get b := by
        intro b
        have : ∀ (es' : List Ent) (m : Nat), m + es'.length ≤ es.length → blkS H0.next (fun _ => true) es' m = blkS H0.next (fun k => listed.getD k false) es' m := by
          intro es'
          induction es' with
          | nil => intro m _; rfl
          | cons e' es' ih =>
            intro m hm
            have ih' := ih (m + 1) (by simp at hm; omega)
            have hm1 := hAll m (by simp at hm; omega)
            simp only [blkS, ih', hm1]
        show getB (blkS _ _ _ _ ++ _) _ = getB (blkS _ _ _ _ ++ _) _
        rw [this es 0 (by omega)]
      refine wpSeq_sound hX hF hC (ops := all.toArray) (by simpa using hdst) rest es.length (by simpa using hrest) (putAll all es E0) (heapS H0 all.length (fun _ => true) es) ρ a w (by simpa using hfin) (hI.step.ext rfl hheap) ⟨fun t v hv => ?_⟩ hI.defers hI.size
      rcases putAll_get hv with ⟨i, o, e, h1, h2, h3, rfl⟩ | ⟨h1, h2⟩
      · have hil : i < es.length := (List.getElem?_eq_some_iff.1 h2).1
        refine ⟨hI.tmps i o e t (hAll i hil) h1 h2 h3, ?_⟩
        obtain ⟨o', e', hgd⟩ := hg i hil
        have : e' = e := by have := hgd.ent; rw [h2] at this; injection this with this; exact this.symm
        subst this
        rw [AVal.under_pB]
        refine (okVal_pB hgd.val (fun b hb => ?_)).1
        rw [allowed_iff] at hb
        show Nat.blt b (H0.next + all.length) = true
        rw [Nat.blt_eq]
        rcases hb with h | ⟨_, h | h⟩
        · omega
        · omega
        · have := hgd.lt _ h; omega
      · exact ⟨hI.old t v h1 (fun k o e hk ho he => h2 k o e ho he), AVal.under_mono (Nat.le_add_right _ _) v (hE0 t v h1)⟩
  intro fuel
  induction fuel with
  | zero =>
    intro listed ρ a w hsz hcount hL hI
    refine stage2 0 listed ρ a w hsz hL (fun k hk => ?_) hcount hI
    cases hv : listed.getD k false with
    | true => rfl
    | false =>
      exfalso
      have hkl : k < listed.size := by omega
      have hnil : ((List.range all.length).filter fun j => !listed.getD j true) = [] := List.eq_nil_of_length_eq_zero (by omega)
      have : k ∈ ((List.range all.length).filter fun j => !listed.getD j true) := by
        rw [List.mem_filter, List.mem_range]
        refine ⟨by omega, ?_⟩
        simp [hkl] at hv ⊢
        exact hv
      rw [hnil] at this
      cases this
  | succ fuel ih =>
    intro listed ρ a w hsz hcount hL hI
    by_cases hAll : ∀ k, k < es.length → listed.getD k false = true
    · exact stage2 (fuel + 1) listed ρ a w hsz hL hAll hcount hI
    · refine ⟨fun hr => ?_, fun i hi => ?_⟩
      · exfalso
        -- the least one that is not listed is ready
        apply hAll
        intro k
        induction k using Nat.strongRecOn with
        | _ k ihk =>
          intro hk
          cases hv : listed.getD k false with
          | true => rfl
          | false =>
            exfalso
            obtain ⟨o, e, hgd⟩ := hg k hk
            have hkl : k < listed.size := by omega
            have : k ∈ Region.ready .any all.toArray listed := by
              rw [mem_ready]
              refine ⟨by simp [hkl] at hv ⊢; exact hv, o, by simpa using hgd.op, fun ed he hb => ?_⟩
              have hin : ed.on ∈ e.pr := by rw [hgd.pr]; exact predsL_on (by simpa using he) hb
              have := hgd.lt _ hin
              exact ihk ed.on this (by omega)
            rw [hr] at this
            cases this
      · obtain ⟨hu, o, ho, hall⟩ := mem_ready.1 hi
        have hil : i < all.length := by have := (Array.getElem?_eq_some_iff.1 ho).1; simpa using this
        have hoo : all[i]? = some o := by simpa using ho
        have hui : listed.getD i false = false := by
          have hkl : i < listed.size := by omega
          simp [hkl] at hu ⊢
          exact hu
        have hie : i < es.length := by
          rcases Nat.lt_or_ge i es.length with h | h
          · exact h
          · exfalso
            obtain ⟨o', esi, hTi⟩ := hT i h hil
            have : o' = o := by have h1 := hTi.op; rw [hoo] at h1; injection h1 with h1; exact h1.symm
            subst this
            apply hAll
            intro k hk
            obtain ⟨ed, he, hb, hcase⟩ := predsL_mem (hTi.all k (by omega))
            have hl := hall ed (by simpa using he) hb
            rcases hcase with rfl | ⟨x, hx, hin⟩
            · exact hl
            · have hxe : es[ed.on]? = some x := by
                have hlt := hL ed.on hl
                rcases hTi.old _ _ hx with h' | ⟨h', _⟩
                · exact h'
                · omega
              exact hI.closed ed.on x hl hxe k hin
        obtain ⟨o', e, hgd⟩ := hg i hie
        have : o' = o := by have h1 := hgd.op; rw [hoo] at h1; injection h1 with h1; exact h1.symm
        subst this
        have hready : ∀ j ∈ e.pr, listed.getD j false = true := by
          intro j hj
          rw [hgd.pr] at hj
          obtain ⟨ed, he, hb, hcase⟩ := predsL_mem hj
          have hl := hall ed (by simpa using he) hb
          rcases hcase with rfl | ⟨x, hx, hin⟩
          · exact hl
          · have hxe : es[ed.on]? = some x := by
              rw [List.getElem?_take] at hx
              split at hx
              · exact hx
              · cases hx
            exact hI.closed ed.on x hl hxe j hin
        have hset : ∀ k, (listed.setIfInBounds i true).getD k false = (listed.getD k false || Nat.beq k i) := by
          intro k
          by_cases hki : k = i
          · subst hki
            have hkl : k < listed.size := by omega
            simp [hkl, Nat.beq_refl]
          · simp [nat_beq_ne.2 hki, Array.getElem?_setIfInBounds, Ne.symm hki]
        have hmv := Inv.move hX hF hg hok.1 hE0 hH0 hlen hHs hI hL hgd hui hready (fun t ht => hdst i o' t hoo ht) (next := wpAny X.P .any all.toArray (Lift ρs Hs ws n Q) fuel (listed.setIfInBounds i true)) (QQ := Lift ρs Hs ws n Q) (fun ρ' a' w' hI' => by
          refine ih (listed.setIfInBounds i true) ρ' a' w' (by simpa using hsz) ?_ (fun k hk => ?_) (by
            have : (fun k => (listed.setIfInBounds i true).getD k false) = (fun j => listed.getD j false || Nat.beq j i) := funext hset
            rw [this]; exact hI')
          · have hlt : ((List.range all.length).filter fun j => !(listed.setIfInBounds i true).getD j true).length < ((List.range all.length).filter fun j => !listed.getD j true).length := by
              have e1 : ((List.range all.length).filter fun j => !(listed.setIfInBounds i true).getD j true) = ((List.range all.length).filter fun j => !listed.getD j true).filter (fun j => !(Nat.beq j i)) := by
                rw [List.filter_filter]
                apply List.filter_congr
                intro j hj
                by_cases hji : j = i
                · subst hji
                  have hkl : j < listed.size := by omega
                  simp [hkl, Nat.beq_refl]
                · simp [nat_beq_ne.2 hji, Array.getElem?_setIfInBounds, Ne.symm hji]
              rw [e1, List.length_filter_lt_length_iff_exists]
              exact ⟨i, by rw [List.mem_filter, List.mem_range]; exact ⟨hil, by simp [hu]⟩, by simp [Nat.beq_refl]⟩
            omega
          · rw [hset, Bool.or_eq_true] at hk
            rcases hk with hk | hk
            · exact hL k hk
            · have := nat_beq_eq.1 hk; omega)
        unfold wpOp
        rw [ho]
        simp only
        rcases hmv with ⟨h1, h2⟩ | ⟨h1, h2⟩
        · rw [if_pos h1]; exact .inl h2
        · rw [if_neg (by rw [h1]; simp)]; exact h2

end

end Go.Proofs.Ytofnedbclnlnmaa.Ev
