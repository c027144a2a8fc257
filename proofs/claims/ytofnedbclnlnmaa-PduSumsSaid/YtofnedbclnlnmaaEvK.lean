/-
  Ev: append and copy; steps of memory.
-/
import Derived.Test.YtofnedbclnlnmaaEvJ
import Derived.Deep.AppendSrc
namespace Go.Proofs.Ytofnedbclnlnmaa.Ev
set_option linter.unusedVariables false
set_option linter.unusedSimpArgs false
open Go.RowKit

/-! ### what lies elsewhere stays -/

theorem ABlk.ok_keep {ρ ρ' : Rho} {w w' : World} {b N : Nat} {x : ABlk} (h : x.ok ρ w b) (hN : x.under N = true) (hg : Rho.agree N ρ ρ') (hb : b < N) (hs : w.heap.size ≤ w'.heap.size) (hh : w'.heap[ρ.blk b]? = w.heap[ρ.blk b]?) : x.ok ρ' w' b := by
  obtain ⟨g1, g2, g3⟩ := hg b hb
  have own : ∀ {e : TypeId} {T : RowTy} {l : List T.α} {st : Prop}, OwnRow ρ w b e T l st → OwnRow ρ' w' b e T l st := by
    rintro e T l st ⟨h0, h1, h2, cur, fz, h3, h4, h5, h6⟩
    refine ⟨by rw [g2]; exact h0, by rw [g3]; exact h1, by rw [g3]; exact h2, cur, fz, by rw [g1, hh]; exact h3, h4, by rw [g3]; exact h5, ?_⟩
    rw [h6, trL_eq, trL_eq]
    apply List.map_congr_left
    intro x hx
    have hd := flat_data T l
    rw [List.all_eq_true] at hd
    exact AVal.data_tr (hd x hx) _ _
  cases x with
  | dead => trivial
  | cells e l =>
    obtain ⟨h0, h1, fz, h2, h3⟩ := h
    exact ⟨by rw [g2]; exact h0, h1, fz, by rw [g1, hh, trL_agree hg l hN]; exact h2, h3⟩
  | row e T l md =>
    cases md
    · exact own h
    · exact own h
    · obtain ⟨h1, h2, h3, h4⟩ := h
      refine ⟨by rw [g3]; exact h1, by rw [g3]; exact h2, by rw [g1]; omega, fun i v hv => ?_⟩
      have hd := flat_data T l
      rw [List.all_eq_true] at hd
      rw [g1, g2, World.cell?_of_block (w := w) (w' := w') (a := ⟨ρ.blk b, ρ.off b + i, none⟩) hh, h4 i v hv, AVal.data_tr (hd v (List.mem_of_getElem? hv)) ρ ρ']

theorem getB_mem {l : List (Nat × ABlk)} {b : Nat} {x : ABlk} (h : getB l b = some x) : (b, x) ∈ l := by
  induction l with
  | nil => simp [getB] at h
  | cons p l ih =>
    obtain ⟨c, y⟩ := p
    rw [getB_cons] at h
    by_cases hc : c = b
    · subst hc
      rw [if_pos rfl] at h
      cases y <;> simp only [ABlk.live, reduceCtorEq, Option.some.injEq] at h <;> subst h <;> simp
    · rw [if_neg hc] at h
      exact List.mem_cons_of_mem _ (ih h)

theorem AHeap.get_put (H : AHeap) (b c : Nat) (x : ABlk) : (H.put b x).get c = if b = c then x.live else H.get c := getB_cons b x H.bs c

theorem AHeap.get_new (H : AHeap) (c : Nat) (x : ABlk) : (H.new x).get c = if H.next = c then x.live else H.get c := getB_cons H.next x H.bs c

theorem own_some {x : ABlk} (h : x.own = true) : x.live = some x := by
  cases x <;> first | rfl | cases h

theorem Rel.next_none {ρ : Rho} {H : AHeap} {w : World} (h : Rel ρ H w) : H.get H.next = none := by
  cases hx : H.get H.next with
  | none => rfl
  | some x => have := (h.blk _ x hx).1; omega

/-- The world goes on; nothing that is reckoned with has turned. -/
theorem Step.grow {ρ : Rho} {H : AHeap} {w w' : World} (h : Rel ρ H w) (hb : Below w.heap.size w w') : Step ρ H w ρ H w' := by
  refine ⟨.refl _ _, Nat.le_refl _, ⟨fun b x hx => ?_, h.inj⟩, hb.os, hb.tape, hb.output, hb.size, fun g hg _ => hb.block g hg, fun g hg => .inr hg⟩
  obtain ⟨h1, h2, h3, h4⟩ := h.blk b x hx
  exact ⟨h1, h2, Nat.lt_of_lt_of_le h3 hb.size, ABlk.ok_keep h4 h2 (.refl _ _) h1 hb.size (hb.block _ h3)⟩

/-- A new block. -/
theorem Step.new {ρ : Rho} {H : AHeap} {w w' : World} (h : Rel ρ H w) {v : AVal} {x : ABlk} {u : Value} (hn : NewTo ρ H.next w v x u w') : ∃ ρ', Step ρ H w ρ' (H.new x) w' ∧ u = tr ρ' v ∧ v.under (H.new x).next = true := by
  obtain ⟨⟨g, c, hu, hg1, hg2, hok⟩, hgrow, hown, hv, hx⟩ := hn
  have hag := Rho.set_agree ρ H.next g c
  obtain ⟨s1, s2, s3⟩ := set_self ρ H.next g c
  have hget : ∀ b y, (H.new x).get b = some y → (b = H.next ∧ y = x) ∨ (b < H.next ∧ H.get b = some y) := by
    intro b y hy
    rw [AHeap.get_new] at hy
    by_cases hb : H.next = b
    · rw [if_pos hb, own_some hown] at hy
      exact .inl ⟨hb.symm, by injection hy with hy; exact hy.symm⟩
    · rw [if_neg hb] at hy
      exact .inr ⟨(h.blk b y hy).1, hy⟩
  refine ⟨ρ.set H.next g c, ⟨hag, Nat.le_succ _, ⟨fun b y hy => ?_, fun b b' y y' hy hy' ho hne => ?_⟩, hgrow.os, hgrow.tape, hgrow.output, hgrow.size, fun k hk _ => hgrow.block k hk, ?_⟩, hu, hv⟩
  · rcases hget b y hy with ⟨rfl, rfl⟩ | ⟨hlt, hy⟩
    · exact ⟨Nat.lt_succ_self _, hx, by rw [s1]; exact hg2, hok⟩
    · obtain ⟨k1, k2, k3, k4⟩ := h.blk b y hy
      have hb : (ρ.set H.next g c).blk b = ρ.blk b := (hag b hlt).1
      refine ⟨Nat.lt_succ_of_lt k1, ?_, by rw [hb]; exact Nat.lt_of_lt_of_le k3 hgrow.size, ABlk.ok_keep k4 k2 hag hlt hgrow.size (hgrow.block _ k3)⟩
      cases y with
      | cells e l => exact belowL_mono (Nat.le_succ _) l k2
      | row => rfl
      | dead => rfl
  · rcases hget b y hy with ⟨e1, _⟩ | ⟨hlt, hz⟩ <;> rcases hget b' y' hy' with ⟨e2, _⟩ | ⟨hlt', hz'⟩
    · exact absurd (e1.trans e2.symm) hne
    · rw [e1, s1, (hag b' hlt').1]
      have := (h.blk b' y' hz').2.2.1
      omega
    · rw [e2, s1, (hag b hlt).1]
      have := (h.blk b y hz).2.2.1
      omega
    · rw [(hag b hlt).1, (hag b' hlt').1]
      exact h.inj b b' y y' hz hz' ho hne
  · rintro k ⟨b, y, hy, ho, rfl⟩
    rcases hget b y hy with ⟨rfl, rfl⟩ | ⟨hlt, hy⟩
    · rw [s1]; exact .inl hg1
    · rw [(hag b hlt).1]; exact .inr ⟨b, y, hy, ho, rfl⟩

/-- A block of ours is written. -/
theorem Step.put {ρ : Rho} {H : AHeap} {w : World} (h : Rel ρ H w) {b : Nat} {x y : ABlk} (hx : H.get b = some x) (ho : x.own = true) {o' : Obj} (hy : y.ok ρ (setB w (ρ.blk b) o') b) (hyo : y.own = true) (hyN : y.under H.next = true) : Step ρ H w ρ (H.put b y) (setB w (ρ.blk b) o') := by
  have hget : ∀ c z, (H.put b y).get c = some z → (c = b ∧ z = y) ∨ (c ≠ b ∧ H.get c = some z) := by
    intro c z hz
    rw [AHeap.get_put] at hz
    by_cases hb : b = c
    · rw [if_pos hb, own_some hyo] at hz
      exact .inl ⟨hb.symm, by injection hz with hz; exact hz.symm⟩
    · rw [if_neg hb] at hz
      exact .inr ⟨Ne.symm hb, hz⟩
  have hsz : (setB w (ρ.blk b) o').heap.size = w.heap.size := by simp [setB]
  obtain ⟨b1, b2, b3, b4⟩ := h.blk b x hx
  refine ⟨.refl _ _, Nat.le_refl _, ⟨fun c z hz => ?_, fun c c' z z' hz hz' hzo hne => ?_⟩, rfl, rfl, rfl, by rw [hsz]; exact Nat.le_refl _, fun g hg hn => ?_, ?_⟩
  · rcases hget c z hz with ⟨rfl, rfl⟩ | ⟨hne, hz⟩
    · exact ⟨b1, hyN, by rw [hsz]; exact b3, hy⟩
    · obtain ⟨k1, k2, k3, k4⟩ := h.blk c z hz
      exact ⟨k1, k2, by rw [hsz]; exact k3, ABlk.ok_keep k4 k2 (.refl _ _) k1 (by rw [hsz]; exact Nat.le_refl _) (setB_other _ _ _ _ (Ne.symm (h.inj b c x z hx hz ho (Ne.symm hne))))⟩
  · rcases hget c z hz with ⟨e1, _⟩ | ⟨h1, hq⟩ <;> rcases hget c' z' hz' with ⟨e2, _⟩ | ⟨h2, hq'⟩
    · exact absurd (e1.trans e2.symm) hne
    · rw [e1] at hne ⊢
      exact h.inj b c' x z' hx hq' ho hne
    · rw [e2] at hne ⊢
      exact Ne.symm (h.inj b c x z hx hq ho (Ne.symm hne))
    · exact h.inj c c' z z' hq hq' hzo hne
  · exact setB_other _ _ _ _ (fun e => hn ⟨b, x, hx, ho, e.symm⟩)
  · rintro g ⟨c, z, hz, hzo, rfl⟩
    rcases hget c z hz with ⟨rfl, rfl⟩ | ⟨_, hz⟩
    · exact .inr ⟨c, x, hx, ho, rfl⟩
    · exact .inr ⟨c, z, hz, hzo, rfl⟩

/-- Blocks are forgotten. -/
theorem Rel.sub {ρ : Rho} {H K : AHeap} {w : World} (h : Rel ρ H w) (hs : ∀ b x, K.get b = some x → H.get b = some x ∧ b < K.next ∧ x.under K.next = true) : Rel ρ K w :=
  ⟨fun b x hx => by
    obtain ⟨h1, h2, h3⟩ := hs b x hx
    obtain ⟨_, _, k3, k4⟩ := h.blk b x h1
    exact ⟨h2, h3, k3, k4⟩, fun b b' x x' hx hx' => h.inj b b' x x' (hs b x hx).1 (hs b' x' hx').1⟩

theorem Owns.sub {ρ : Rho} {H K : AHeap} (hs : ∀ b x, K.get b = some x → H.get b = some x) {g : Nat} (h : Owns ρ K g) : Owns ρ H g := by
  obtain ⟨b, x, hx, ho, rfl⟩ := h
  exact ⟨b, x, hs b x hx, ho, rfl⟩

end Go.Proofs.Ytofnedbclnlnmaa.Ev
