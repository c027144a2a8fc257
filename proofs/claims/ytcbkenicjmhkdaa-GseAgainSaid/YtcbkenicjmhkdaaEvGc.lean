/-
  Ev: contracts of functions that write into cells of their caller's, or that may panic: out of walks over little memory.
-/
import Derived.Test.YtcbkenicjmhkdaaEm4
namespace Go.Proofs.Ytcbkenicjmhkdaa.Ev
set_option linter.unusedVariables false
set_option linter.unusedSimpArgs false
open Go.RowKit

/-- An outcome that names no block. -/
def Out.data : Out → Bool
  | .ret v => v.under 0
  | .panic v => v.under 0

/-- A function that is handed a pointer to cells of its caller's, and data. -/
noncomputable def gcCell (e : TypeId) (F : List AVal → List AVal → (Out → List AVal → Prop) → Prop) : GC := fun args H K => match args with
  | .ptr b 0 0 0 :: r => match H.get b with
    | some (.cells e' l) => match Nat.beq e' e && (belowL 0 l && belowL 0 r) with
      | true => F l r (fun out l' => forceH (H.put b (.cells e l')) (K out))
      | false => Stuck 30 []
    | _ => Stuck 31 []
  | _ => Stuck 32 []

/-- A function that is handed data alone, and writes nothing of its caller's. -/
noncomputable def gcData (F : List AVal → (Out → Prop) → Prop) : GC := fun args H K => match belowL 0 args with
  | true => F args (fun out => K out H)
  | false => Stuck 33 []

theorem trL_data {l : List AVal} (h : belowL 0 l = true) (ρ ρ' : Rho) : trL ρ l = trL ρ' l := trL_agree (agree0 ρ' ρ) l h
theorem tr_data {v : AVal} (h : v.under 0 = true) (ρ ρ' : Rho) : tr ρ v = tr ρ' v := tr_agree (agree0 ρ' ρ) v h

theorem Out.rel_data {ρ ρ' : Rho} {N N' : Nat} {out : Out} {e : Ending} (h : Out.rel ρ N out e) (hd : out.data = true) : Out.rel ρ' N' out e := by
  cases out <;> cases e <;> simp only [Out.rel] at h ⊢
  · exact ⟨by rw [h.1]; exact tr_data hd _ _, AVal.under_mono (Nat.zero_le _) _ hd⟩
  · exact ⟨by rw [h.1, tr_data hd ρ ρ'], AVal.under_mono (Nat.zero_le _) _ hd⟩

theorem gc_data {X : Ctx} (hX : CtxOk X) {f n : Nat} {F : List AVal → (Out → Prop) → Prop} (he : ∀ vs w, (callFunc f vs).run X.P w = .ok (.enter f vs) w)
    (h : ∀ r k, F r k → callC X n f r ⟨0, []⟩ (fun out _ => out.data = true ∧ k out)) : GcSound X.P f (gcData F) := by
  intro args H K hK ρ w hR hargs
  refine ⟨he, ?_⟩
  unfold gcData at hK
  split at hK
  · rename_i hd
    refine ((callC_ok hX n) f _ _ _ (h _ _ hK) ρ w (rel_nil ρ w) hd).2.mono ?_
    rintro e w' ⟨out, H', ρ', h1, ⟨h2, h3⟩, h4⟩
    refine ⟨out, H, ρ, Out.rel_data h1 h2, h3, Step.grow hR (h4.below (Nat.le_refl _) (fun g hg => ?_))⟩
    obtain ⟨b, x, hx, _⟩ := hg
    simp [AHeap.get, getB] at hx
  · exact (not_stuck hK).elim

theorem gc_cell {X : Ctx} (hX : CtxOk X) {f n e : Nat} {F : List AVal → List AVal → (Out → List AVal → Prop) → Prop} (he : ∀ vs w, (callFunc f vs).run X.P w = .ok (.enter f vs) w)
    (h : ∀ l r k, F l r k → callC X n f (.ptr 0 0 0 0 :: r) ⟨1, [(0, .cells e l)]⟩ (fun out H' => ∃ l', H'.get 0 = some (.cells e l') ∧ belowL 0 l' = true ∧ out.data = true ∧ k out l')) : GcSound X.P f (gcCell e F) := by
  intro args H K hK ρ w hR hargs
  refine ⟨he, ?_⟩
  unfold gcCell at hK
  split at hK
  · rename_i b r
    split at hK
    · rename_i e' l hb
      split at hK
      · rename_i hd
        simp only [Bool.and_eq_true] at hd
        obtain ⟨hee, hl, hr⟩ := hd
        have hee := nat_beq_eq.1 hee
        subst hee
        obtain ⟨q1, q2, q3, q4⟩ := hR.blk b _ hb
        obtain ⟨c1, c2, fz, c3, c4⟩ := q4
        have hrel : Rel ⟨fun _ => ρ.blk b, fun _ => 0, fun _ => 0⟩ ⟨1, [(0, .cells e' l)]⟩ w := by
          refine ⟨fun c x hx => ?_, fun c c' x x' hx hx' ho hne => ?_⟩
          · obtain ⟨rfl, hx⟩ := get_one hx
            have hx2 : some (ABlk.cells e' l) = some x := hx
            cases hx2
            refine ⟨Nat.one_pos, belowL_mono (Nat.zero_le _) _ hl, q3, rfl, c2, fz, ?_, c4⟩
            show w.heap[ρ.blk b]? = _
            rw [c3, trL_data hl]
          · obtain ⟨rfl, _⟩ := get_one hx
            obtain ⟨rfl, _⟩ := get_one hx'
            exact absurd rfl hne
        have hcall := ((callC_ok hX n) f _ _ _ (h _ _ _ hK) _ w hrel (by
          simp only [belowL, AVal.under, Bool.and_eq_true]
          exact ⟨rfl, belowL_mono (Nat.zero_le _) _ hr⟩)).2
        have hargs' : trL ⟨fun _ => ρ.blk b, fun _ => 0, fun _ => 0⟩ (.ptr 0 0 0 0 :: r) = trL ρ (.ptr b 0 0 0 :: r) := by
          simp only [trL, tr, c1]
          rw [trL_data hr]
        rw [hargs'] at hcall
        refine hcall.mono ?_
        rintro en w' ⟨out, H', ρ', h1, ⟨l', h2, h3, h4, h5⟩, h6⟩
        have h5 : K out (H.put b (.cells e' l')) := by
          have h5' : forceH (H.put b (.cells e' l')) (K out) := h5
          rwa [forceH_eq] at h5'
        have hown1 : ∀ g, Owns ⟨fun _ => ρ.blk b, fun _ => 0, fun _ => 0⟩ ⟨1, [(0, .cells e' l)]⟩ g → g = ρ.blk b := by
          rintro g ⟨c, x, hx, _, rfl⟩
          rfl
        have hownb : Owns ρ H (ρ.blk b) := ⟨b, _, hb, rfl, rfl⟩
        obtain ⟨a1, a2, _⟩ := h6.agree 0 (Nat.one_pos : 0 < 1)
        obtain ⟨_, _, r3, r4⟩ := h6.rel.blk 0 _ h2
        obtain ⟨d1, d2, fz', d3, d4⟩ := r4
        rw [a1] at r3 d3
        have hstep : Step ρ H w ρ (H.put b (.cells e' l')) w' := by
          refine ⟨Rho.agree.refl _ _, Nat.le_refl _, ⟨fun c x hx => ?_, fun c c' x x' hx hx' ho hne => ?_⟩, h6.os, h6.tape, h6.output, h6.size, fun g hg hn => ?_, fun g hg => ?_⟩
          · rw [AHeap.get_put] at hx
            by_cases hc : b = c
            · rw [if_pos hc] at hx
              subst hc
              simp only [ABlk.live, Option.some.injEq] at hx
              subst hx
              refine ⟨q1, belowL_mono (Nat.zero_le _) _ h3, r3, c1, d2, fz', ?_, d4⟩
              rw [d3, trL_data h3]
            · rw [if_neg hc] at hx
              obtain ⟨s1, s2, s3, s4⟩ := hR.blk c x hx
              refine ⟨s1, s2, Nat.lt_of_lt_of_le s3 h6.size, ABlk.ok_keep s4 s2 (Rho.agree.refl _ _) s1 h6.size (h6.old _ s3 fun ho => ?_)⟩
              exact hR.inj b c _ x hb hx rfl hc (hown1 _ ho).symm
          · rw [AHeap.get_put] at hx hx'
            by_cases hc : b = c
            · subst hc
              rw [if_neg hne] at hx'
              exact hR.inj b c' _ x' hb hx' rfl hne
            · rw [if_neg hc] at hx
              by_cases hc' : b = c'
              · subst hc'
                exact hR.inj c b x _ hx hb ho hne
              · rw [if_neg hc'] at hx'
                exact hR.inj c c' x x' hx hx' ho hne
          · exact h6.old g hg fun ho => hn (by rw [hown1 g ho]; exact hownb)
          · obtain ⟨c, x, hx, ho, rfl⟩ := hg
            rw [AHeap.get_put] at hx
            by_cases hc : b = c
            · subst hc
              exact .inr hownb
            · rw [if_neg hc] at hx
              exact .inr ⟨c, x, hx, ho, rfl⟩
        exact ⟨out, H.put b (.cells e' l'), ρ, Out.rel_data h1 h4, h5, hstep⟩
      · exact (not_stuck hK).elim
    · exact (not_stuck hK).elim
  · exact (not_stuck hK).elim

/-- One outcome of two. -/
def out2 (c : Bool) (A B : Prop) : Prop := branch c A B

end Go.Proofs.Ytcbkenicjmhkdaa.Ev
