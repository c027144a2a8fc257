/-
  Ev: regions of open order: the moves.
-/
import Derived.Test.YtofnedbclnlnmaaEvS
namespace Go.Proofs.Ytofnedbclnlnmaa.Ev
set_option linter.unusedVariables false
set_option linter.unusedSimpArgs false
open Go.RowKit

theorem Step.ext {ρ ρ' : Rho} {H K K' : AHeap} {w w' : World} (h : Step ρ H w ρ' K w') (hn : K'.next = K.next) (hg : ∀ b, K'.get b = K.get b) : Step ρ H w ρ' K' w' := by
  refine ⟨h.agree, by rw [hn]; exact h.next, ⟨fun b x hx => ?_, fun b b' x x' hx hx' => ?_⟩, h.os, h.tape, h.output, h.size, h.old, ?_⟩
  · rw [hg] at hx
    have := h.rel.blk b x hx
    rw [hn]
    exact this
  · rw [hg] at hx hx'
    exact h.rel.inj b b' x x' hx hx'
  · rintro g ⟨b, x, hx, ho, rfl⟩
    rw [hg] at hx
    exact h.owns _ ⟨b, x, hx, ho, rfl⟩

theorem ABlk.ok_same {p : Nat → Bool} {ρ ρ' : Rho} {w w' : World} {b : Nat} {x : ABlk} (h : x.ok ρ w b) (hp : x.pB p = true) (hg : Rho.same p ρ ρ') (hb : p b = true) (hs : w.heap.size ≤ w'.heap.size) (hh : w'.heap[ρ.blk b]? = w.heap[ρ.blk b]?) : x.ok ρ' w' b := by
  obtain ⟨g1, g2, g3⟩ := hg b hb
  have own : ∀ {e : TypeId} {T : RowTy} {l : List T.α} {st : Prop}, OwnRow ρ w b e T l st → OwnRow ρ' w' b e T l st := by
    rintro e T l st ⟨h0, h1, h2, cur, fz, h3, h4, h5, h6⟩
    refine ⟨by rw [g2]; exact h0, by rw [g3]; exact h1, by rw [g3]; exact h2, cur, fz, by rw [g1, hh]; exact h3, h4, by rw [g3]; exact h5, ?_⟩
    rw [h6, trL_eq, trL_eq]
    apply List.map_congr_left
    intro x hx
    have hd := flat_data T l
    rw [List.all_eq_true] at hd
    exact AVal.data_tr (hd x hx) _ _
  cases x with
  | dead => trivial
  | cells e l =>
    obtain ⟨h0, h1, fz, h2, h3⟩ := h
    exact ⟨by rw [g2]; exact h0, h1, fz, by rw [g1, hh, trL_same hg l hp]; exact h2, h3⟩
  | row e T l md =>
    cases md
    · exact own h
    · exact own h
    · obtain ⟨h1, h2, h3, h4⟩ := h
      refine ⟨by rw [g3]; exact h1, by rw [g3]; exact h2, by rw [g1]; omega, fun i v hv => ?_⟩
      have hd := flat_data T l
      rw [List.all_eq_true] at hd
      rw [g1, g2, World.cell?_of_block (w := w) (w' := w') (a := ⟨ρ.blk b, ρ.off b + i, none⟩) hh, h4 i v hv, AVal.data_tr (hd v (List.mem_of_getElem? hv)) ρ ρ']

/-- A new block under a number that was kept free for it. -/
theorem Step.add {ρs ρ : Rho} {Hs H : AHeap} {ws w w' : World} (hS : Step ρs Hs ws ρ H w) {id : Nat} (hid : Hs.next ≤ id) (hlt : id < H.next) (hnone : H.get id = none) {v : AVal} {x : ABlk} {u : Value} {g c : Nat} (hg1 : w.heap.size ≤ g) (hg2 : g < w'.heap.size) (hok : x.ok (ρ.set id g c) w' id) (hgrow : Below w.heap.size w w') (hown : x.own = true) (hx : x.under H.next = true)
    (havoid : ∀ b y, H.get b = some y → y.pB (fun b => !(Nat.beq b id)) = true) {K : AHeap} (hKn : K.next = H.next) (hK : ∀ b, K.get b = if b = id then some x else H.get b) : Step ρs Hs ws (ρ.set id g c) K w' := by
  have h := hS.rel
  obtain ⟨s1, s2, s3⟩ := set_self ρ id g c
  have hsame : Rho.same (fun b => !(Nat.beq b id)) ρ (ρ.set id g c) := fun b hb => by
    have : b ≠ id := by
      intro e; subst e
      simp [Nat.beq_refl] at hb
    simp [Rho.set, this]
  have hne : ∀ {b : Nat}, b ≠ id → (fun b => !(Nat.beq b id)) b = true := fun {b} hb => by simp [nat_beq_ne.2 hb]
  have hblk : ∀ {b : Nat}, b ≠ id → (ρ.set id g c).blk b = ρ.blk b := fun {b} hb => (hsame b (hne hb)).1
  have hget : ∀ b y, K.get b = some y → (b = id ∧ y = x) ∨ (b ≠ id ∧ H.get b = some y) := by
    intro b y hy
    rw [hK] at hy
    by_cases hb : b = id
    · rw [if_pos hb] at hy
      exact .inl ⟨hb, by injection hy with hy; exact hy.symm⟩
    · rw [if_neg hb] at hy
      exact .inr ⟨hb, hy⟩
  refine ⟨hS.agree.trans (Rho.set_agree ρ id g c) hid, by rw [hKn]; exact hS.next, ⟨fun b y hy => ?_, fun b b' y y' hy hy' ho hbb => ?_⟩, hgrow.os.trans hS.os, hgrow.tape.trans hS.tape, hgrow.output.trans hS.output, Nat.le_trans hS.size hgrow.size, fun k hk hn => ?_, ?_⟩
  · rw [hKn]
    rcases hget b y hy with ⟨rfl, rfl⟩ | ⟨hb, hq⟩
    · exact ⟨hlt, hx, by rw [s1]; exact hg2, hok⟩
    · obtain ⟨k1, k2, k3, k4⟩ := h.blk b y hq
      exact ⟨k1, k2, by rw [hblk hb]; exact Nat.lt_of_lt_of_le k3 hgrow.size, ABlk.ok_same k4 (havoid b y hq) hsame (hne hb) hgrow.size (hgrow.block _ k3)⟩
  · rcases hget b y hy with ⟨e1, _⟩ | ⟨h1, hq⟩ <;> rcases hget b' y' hy' with ⟨e2, _⟩ | ⟨h2, hq'⟩
    · exact absurd (e1.trans e2.symm) hbb
    · rw [e1, s1, hblk h2]
      have := (h.blk b' y' hq').2.2.1
      omega
    · rw [e2, s1, hblk h1]
      have := (h.blk b y hq).2.2.1
      omega
    · rw [hblk h1, hblk h2]
      exact h.inj b b' y y' hq hq' ho hbb
  · exact (hgrow.block k (Nat.lt_of_lt_of_le hk hS.size)).trans (hS.old k hk hn)
  · rintro k ⟨b, y, hy, ho, rfl⟩
    rcases hget b y hy with ⟨e1, _⟩ | ⟨h1, hq⟩
    · rw [e1, s1]; exact .inl (Nat.le_trans hS.size hg1)
    · rw [hblk h1]; exact hS.owns _ ⟨b, y, hq, ho, rfl⟩

theorem okVal_pB {next k : Nat} {pr : List Nat} {v : AVal} {nb : Option ABlk} (h : okVal next k pr v nb = true) {p : Nat → Bool} (hp : ∀ b, allowed next k pr b = true → p b = true) : v.pB p = true ∧ ∀ x, nb = some x → x.pB p = true := by
  simp only [okVal, Bool.and_eq_true] at h
  refine ⟨AVal.pB_mono hp v h.1, fun x hx => ?_⟩
  subst hx
  have h2 := h.2
  cases x with
  | cells e l => exact pBL_mono hp l h2
  | row => rfl
  | dead => rfl

theorem allowed_iff {next k : Nat} {pr : List Nat} {b : Nat} : allowed next k pr b = true ↔ b < next ∨ (next ≤ b ∧ (b - next = k ∨ b - next ∈ pr)) := by
  unfold allowed
  split
  · rename_i h; simp at h; simp [h]
  · rename_i h
    have h' : ¬ b < next := fun hb => by rw [show Nat.blt b next = true from by rw [Nat.blt_eq]; exact hb] at h; cases h
    split
    · rename_i h2
      have h2' : next ≤ b := Nat.le_of_ble_eq_true h2
      rw [memN_iff]; simp [h', h2']
    · rename_i h2
      have h3 : ¬ next ≤ b := fun hb => by rw [Nat.ble_eq_true_of_le hb] at h2; cases h2
      simp only [Bool.false_eq_true, false_iff]
      omega

theorem blk_under {N : Nat} {x : ABlk} : x.under N = x.pB (fun b => Nat.blt b N) := by
  cases x with
  | cells e l => exact belowL_pB l
  | row => rfl
  | dead => rfl

section
variable {X : Ctx} {sm : Bool} {all : List Oper} {E0 : Env} {H0 : AHeap} {es : List Ent}

/-- What holds when some operations have been carried out. -/
structure Inv (all : List Oper) (E0 : Env) (H0 : AHeap) (es : List Ent) (n : Nat) (ρs : Rho) (Hs : AHeap) (ws : World) (L : Nat → Bool) (ρ : Rho) (a : Act) (w : World) : Prop where
  step : Step ρs Hs ws ρ (heapS H0 all.length L es) w
  tmps : ∀ k o e t, L k = true → all[k]? = some o → es[k]? = some e → o.dst = some t → a.tmps[t]? = some (tr ρ e.v)
  old : ∀ t v, getE E0 t = some v → (∀ k o e, L k = true → all[k]? = some o → es[k]? = some e → o.dst ≠ some t) → a.tmps[t]? = some (tr ρ v)
  closed : ∀ k e, L k = true → es[k]? = some e → ∀ j ∈ e.pr, L j = true
  defers : a.defers = []
  size : a.tmps.size = n

/-- An operation that has not come up yet, and all of whose predecessors have: what it may name is not its own number. -/
theorem Inv.avoid {n : Nat} {ρs : Rho} {Hs : AHeap} {ws : World} {L : Nat → Bool} {ρ : Rho} {a : Act} {w : World} (h : Inv all E0 H0 es n ρs Hs ws L ρ a w) (hg : AllGood X sm all E0 H0 es) {k : Nat} (hk : L k = false) {j : Nat} {e : Ent} (hj : L j = true) (he : es[j]? = some e) :
    e.v.pB (fun b => !(Nat.beq b (H0.next + k))) = true ∧ ∀ x, e.nb = some x → x.pB (fun b => !(Nat.beq b (H0.next + k))) = true := by
  obtain ⟨o, e', hgd⟩ := hg j (List.getElem?_eq_some_iff.1 he).1
  have : e' = e := by have := hgd.ent; rw [he] at this; injection this with this; exact this.symm
  subst this
  refine okVal_pB hgd.val (fun b hb => ?_)
  rw [allowed_iff] at hb
  have hne : b ≠ H0.next + k := by
    rintro rfl
    rcases hb with h1 | ⟨_, h1 | h1⟩
    · omega
    · rw [Nat.add_sub_cancel_left] at h1; subst h1; rw [hk] at hj; cases hj
    · rw [Nat.add_sub_cancel_left] at h1
      have := h.closed j e' hj he k h1
      rw [hk] at this; cases this
  simp [nat_beq_ne.2 hne]

/-- The move of one operation. -/
theorem Inv.move (hX : CtxRows X) (hF : FcOk X) (hg : AllGood X sm all E0 H0 es) (hok : okTmps all es all es 0 = true) (hE0 : ∀ t v, getE E0 t = some v → v.under H0.next = true) (hH0 : ∀ b x, H0.get b = some x → b < H0.next ∧ x.under H0.next = true) (hlen : es.length ≤ all.length)
    {n : Nat} {ρs : Rho} {Hs : AHeap} {ws : World} (hHs : Hs.next ≤ H0.next) {L : Nat → Bool} {ρ : Rho} {a : Act} {w : World} (h : Inv all E0 H0 es n ρs Hs ws L ρ a w) (hL : ∀ k, L k = true → k < es.length)
    {k : Nat} {o : Oper} {e : Ent} (hG : Good X sm all E0 H0 es k o e) (hk : L k = false) (hready : ∀ j ∈ e.pr, L j = true) (hdst : ∀ t, o.dst = some t → t < n)
    {next : Act → World → Prop} {QQ : Exit → Act → World → Prop} (hn : ∀ ρ' a' w', Inv all E0 H0 es n ρs Hs ws (fun j => L j || Nat.beq j k) ρ' a' w' → next a' w') :
    (Region.wanted o (yielded all.toArray a.tmps) = true ∧ o.wp X.P a w next QQ) ∨ (Region.wanted o (yielded all.toArray a.tmps) = false ∧ next (a.put o.dst undef) w) := by
  have hklt : k < es.length := (List.getElem?_eq_some_iff.1 hG.ent).1
  have htk : ∀ {j : Nat}, j < k → (es.take k)[j]? = es[j]? := fun {j} hj => by rw [List.getElem?_take, if_pos hj]
  -- what is known of another one's temporaries
  have hother : ∀ {m : Nat} {om : Oper} {em : Ent}, all[m]? = some om → es[m]? = some em → m ≠ k → ∀ t, om.dst = some t → (t ∈ tmpsOf o.op.operands.toList → m ∈ e.pr ∨ k ∈ em.pr) ∧ o.dst ≠ some t := by
    intro m om em hm hem hne t ht
    have hp := okTmps_spec hok hG.op hG.ent hm hem hne
    simp only [okPair, ht, Bool.and_eq_true, Bool.or_eq_true, Bool.not_eq_true'] at hp
    refine ⟨fun hin => ?_, fun ho => ?_⟩
    · rcases hp.1 with (h1 | h1) | h1
      · rw [memN_iff.2 hin] at h1; cases h1
      · exact .inl (memN_iff.1 h1)
      · exact .inr (memN_iff.1 h1)
    · rw [ho] at hp
      have := hp.2
      simp [Nat.beq_refl] at this
  -- the relation behind the move
  have after : ∀ (ρ' : Rho) (u : Value) (w' : World), Step ρs Hs ws ρ' (heapS H0 all.length (fun j => L j || Nat.beq j k) es) w' → u = tr ρ' e.v → (∀ j ej, L j = true → es[j]? = some ej → tr ρ' ej.v = tr ρ ej.v) → (∀ t v, getE E0 t = some v → tr ρ' v = tr ρ v) →
      Inv all E0 H0 es n ρs Hs ws (fun j => L j || Nat.beq j k) ρ' (a.put o.dst u) w' := by
    intro ρ' u w' hst hu hv1 hv2
    have hput : ∀ t, o.dst ≠ some t → (a.put o.dst u).tmps[t]? = a.tmps[t]? := fun t ht => by
      cases hd : o.dst with
      | none => rfl
      | some d =>
        have hdt : d ≠ t := fun e => ht (by rw [hd, e])
        simp only [Act.put]
        rw [Array.getElem?_setIfInBounds_ne hdt]
    have hput2 : ∀ t, o.dst = some t → (a.put o.dst u).tmps[t]? = some u := fun t ht => by
      have := hdst t ht
      rw [ht]
      simp only [Act.put]
      rw [Array.getElem?_setIfInBounds_self_of_lt (by rw [h.size]; exact this)]
    refine ⟨hst, fun m om em t hm hom hem ht => ?_, fun t v hv hno => ?_, fun m em hm hem j hj => ?_, by rw [put_defers]; exact h.defers, by rw [put_size]; exact h.size⟩
    · by_cases hmk : m = k
      · subst hmk
        rw [hG.op] at hom
        cases hom
        rw [hG.ent] at hem
        cases hem
        rw [hput2 t ht, hu]
      · have hLm : L m = true := by simpa [nat_beq_ne.2 hmk] using hm
        rw [hput t (hother hom hem hmk t ht).2, h.tmps m om em t hLm hom hem ht, hv1 m em hLm hem]
    · have hno' : o.dst ≠ some t := hno k o e (by simp [Nat.beq_refl]) hG.op hG.ent
      rw [hput t hno', h.old t v hv (fun m om em hm => hno m om em (by simp [hm])), hv2 t v hv]
    · by_cases hmk : m = k
      · subst hmk
        rw [hG.ent] at hem
        cases hem
        simp [hready j hj]
      · have hLm : L m = true := by simpa [nat_beq_ne.2 hmk] using hm
        simp [h.closed m em hLm hem j hj]
  -- heaps that are alike
  have hsame : e.nb = none → ∀ b, (heapS H0 all.length (fun j => L j || Nat.beq j k) es).get b = (heapS H0 all.length L es).get b := by
    intro hnb b
    have : ∀ (es' : List Ent) (m : Nat), (∀ i ei, es'[i]? = some ei → es[m + i]? = some ei) → blkS H0.next (fun j => L j || Nat.beq j k) es' m = blkS H0.next L es' m := by
      intro es'
      induction es' with
      | nil => intro m _; rfl
      | cons e' es' ih =>
        intro m hm
        have h0 := hm 0 e' (by simp)
        have ih' := ih (m + 1) (fun i ei hi => by have := hm (i + 1) ei (by simpa using hi); rw [show m + 1 + i = m + (i + 1) by omega]; exact this)
        simp only [blkS, ih']
        by_cases hmk : m = k
        · subst hmk
          rw [Nat.add_zero] at h0
          rw [hG.ent] at h0
          cases h0
          rw [hnb]
          generalize (L m || m.beq m) = p
          generalize L m = q
          cases p <;> cases q <;> rfl
        · simp [nat_beq_ne.2 hmk]
    show getB (blkS _ _ _ _ ++ _) _ = getB (blkS _ _ _ _ ++ _) _
    rw [this es 0 (fun i ei hi => by rw [Nat.zero_add]; exact hi)]
  have hskip : e.v = .tup [] → e.nb = none → next (a.put o.dst undef) w := by
    intro hv hnb
    refine hn ρ _ _ (after ρ undef w (h.step.ext rfl (hsame hnb)) (by rw [hv]; rfl) (fun _ _ _ _ => rfl) (fun _ _ _ => rfl))
  have hyield : ∀ {j : Nat} {ej : Ent} {oj : Oper} {d : Nat}, j ∈ e.pr → es[j]? = some ej → all[j]? = some oj → oj.dst = some d → yielded all.toArray a.tmps j = boolOf (tr ρ ej.v) := by
    intro j ej oj d hj hej hoj hd
    exact yielded_of (ops := all.toArray) (by simpa using hoj) hd (h.tmps j oj ej d (hready j hj) hoj hej hd)
  rcases hG.does with ⟨j, want, ej, oj, d, g1, g2, g3, g4, g5, g6, g7, g8⟩ | ⟨hw, hgrow⟩
  · refine .inr ⟨?_, hskip g7 g8⟩
    have := hyield g2 g3 g4 g5
    unfold Region.wanted
    rw [g1]
    show (yielded all.toArray a.tmps j == some want) = false
    rw [this]
    rcases g6 with g6 | g6 <;> rw [g6] <;> simp [tr, boolOf]
  · have hwant : Region.wanted o (yielded all.toArray a.tmps) = true := by
      unfold Region.wanted
      rcases hw with hw | ⟨j, want, ej, oj, d, g1, g2, g3, g4, g5, g6⟩
      · rw [hw]
      · rw [g1]
        show (yielded all.toArray a.tmps j == some want) = true
        rw [hyield g2 g3 g4 g5, g6]
        simp [tr, boolOf]
    refine .inl ⟨hwant, ?_⟩
    -- what it reads
    have hE : RelE ρ (H0.next + k) (envK E0 all (es.take k) e.pr (tmpsOf o.op.operands.toList)) a := by
      refine ⟨fun t v hv => ?_⟩
      obtain ⟨hin, hv⟩ := envK_get hv
      rcases hv with hv | ⟨hnone, hv⟩
      · obtain ⟨i, oi, ei, q1, q2, q3, q4, rfl⟩ := findT_some hv
        rw [Nat.zero_add] at q4
        have hik := hG.lt i q4
        rw [htk hik] at q2
        refine ⟨h.tmps i oi ei t (hready i q4) q1 q2 q3, ?_⟩
        obtain ⟨oi', ei', hgi⟩ := hg i (by omega)
        have : ei' = ei := by have := hgi.ent; rw [q2] at this; injection this with this; exact this.symm
        subst this
        rw [AVal.under_pB]
        refine (okVal_pB hgi.val (fun b hb => ?_)).1
        rw [allowed_iff] at hb
        rcases hb with h1 | ⟨_, h1 | h1⟩
        · simp; omega
        · simp; omega
        · have := hgi.lt _ h1
          simp; omega
      · refine ⟨h.old t v hv (fun m om em hm hom hem hd => ?_), AVal.under_mono (Nat.le_add_right _ _) v (hE0 t v hv)⟩
        have hmk : m ≠ k := by rintro rfl; rw [hk] at hm; cases hm
        rcases (hother hom hem hmk t hd).1 hin with h1 | h1
        · have hlt := hG.lt m h1
          have := findT_none hnone m om em hom (by rw [htk hlt]; exact hem) hd
          rw [Nat.zero_add] at this
          exact this h1
        · have := h.closed m em hm hem k h1
          rw [hk] at this; cases this
    have hH : ∀ b y, (heapS H0 k (fun j => memN j e.pr) (es.take k)).get b = some y → y.under (H0.next + k) = true ∧ ρ.blk b < w.heap.size ∧ y.ok ρ w b := by
      intro b y hy
      have hR := h.step.rel
      rcases heapS_some hy with ⟨i, ei, q1, q2, q3, rfl⟩ | hy
      · have hin := memN_iff.1 q2
        have hik := hG.lt i hin
        rw [htk hik] at q1
        obtain ⟨oi', ei', hgi⟩ := hg i (by omega)
        have : ei' = ei := by have := hgi.ent; rw [q1] at this; injection this with this; exact this.symm
        subst this
        have hu : y.under (H0.next + k) = true := by
          rw [blk_under]
          refine (okVal_pB hgi.val (fun b hb => ?_)).2 y q3
          rw [allowed_iff] at hb
          rcases hb with h1 | ⟨_, h1 | h1⟩
          · simp; omega
          · simp; omega
          · have := hgi.lt _ h1
            simp; omega
        have hyo : y.own = true ∨ y.own = false := by cases y.own <;> simp
        have hget : (heapS H0 all.length L es).get (H0.next + i) = some y := by
          -- the same block lies in the greater heap
          have h1 : ∀ (es' : List Ent) (m : Nat) (sel : Nat → Bool), (∀ i' e', es'[i']? = some e' → es[m + i']? = some e') → sel i = true → m ≤ i → i < m + es'.length → getB (blkS H0.next sel es' m ++ H0.bs) (H0.next + i) = y.live := by
            intro es'
            induction es' with
            | nil => intro m sel _ _ h1 h2; simp at h2; omega
            | cons e' es' ih =>
              intro m sel hm hs h1 h2
              have h0 := hm 0 e' (by simp)
              rw [Nat.add_zero] at h0
              by_cases hmi : m = i
              · subst hmi
                rw [q1] at h0
                cases h0
                simp only [blkS, hs, q3]
                rw [List.cons_append, getB_cons, if_pos rfl]
              · have ih' := ih (m + 1) sel (fun i' ei' hi => by have := hm (i' + 1) ei' (by simpa using hi); rw [show m + 1 + i' = m + (i' + 1) by omega]; exact this) hs (by omega) (by simp at h2; omega)
                simp only [blkS]
                split
                · rw [List.cons_append, getB_cons, if_neg (by omega)]; exact ih'
                · exact ih'
          have hlive : y.live = some y := by
            have := h1 (es.take k) 0 (fun j => memN j e.pr) (fun i' e' hi => by
              rw [Nat.zero_add]
              rw [List.getElem?_take] at hi
              split at hi
              · exact hi
              · cases hi) q2 (Nat.zero_le _) (by rw [List.length_take]; omega)
            have hy' : getB (blkS H0.next (fun j => memN j e.pr) (es.take k) 0 ++ H0.bs) (H0.next + i) = some y := hy
            rw [this] at hy'
            exact hy'
          have := h1 es 0 L (fun i' e' hi => by rw [Nat.zero_add]; exact hi) (hready i hin) (Nat.zero_le _) (by omega)
          rw [hlive] at this
          exact this
        obtain ⟨r1, r2, r3, r4⟩ := hR.blk _ _ hget
        exact ⟨hu, r3, r4⟩
      · obtain ⟨hb, hu⟩ := hH0 b y hy
        have hget : (heapS H0 all.length L es).get b = some y := by rw [heapS_get_old hb]; exact hy
        obtain ⟨r1, r2, r3, r4⟩ := hR.blk _ _ hget
        refine ⟨?_, r3, r4⟩
        rw [blk_under] at hu ⊢
        cases y with
        | cells e l => exact pBL_mono (fun b hb => by simp at hb ⊢; omega) l hu
        | row => rfl
        | dead => rfl
    have hout := growA_sound hX hF hgrow hE hH
    refine hout.wp (fun u w' hgr => ?_)
    have hav := fun {j : Nat} {ej : Ent} (hj : L j = true) (hej : es[j]? = some ej) => h.avoid hg hk hj hej
    cases hnb : e.nb with
    | none =>
      rw [hnb] at hgr
      obtain ⟨hu, hb⟩ := hgr
      have hst := h.step.trans (Step.grow h.step.rel hb)
      exact hn ρ _ _ (after ρ u w' (hst.ext rfl (hsame hnb)) hu (fun _ _ _ _ => rfl) (fun _ _ _ => rfl))
    | some x =>
      rw [hnb] at hgr
      obtain ⟨⟨g, c, hu, hg1, hg2, hokx⟩, hb, hown, hvu, hxu⟩ := hgr
      have hsm : Rho.same (fun b => !(Nat.beq b (H0.next + k))) ρ (ρ.set (H0.next + k) g c) := fun b hb => by
        have : b ≠ H0.next + k := by
          intro e; subst e
          simp [Nat.beq_refl] at hb
        simp [Rho.set, this]
      have hnone : (heapS H0 all.length L es).get (H0.next + k) = none := by
        cases hq : (heapS H0 all.length L es).get (H0.next + k) with
        | none => rfl
        | some y =>
          rcases heapS_some hq with ⟨i, ei, q1, q2, q3, q4⟩ | hy
          · have : i = k := by omega
            subst this
            rw [hk] at q2; cases q2
          · have := (hH0 _ _ hy).1; omega
      have hKget : ∀ b, (heapS H0 all.length (fun j => L j || Nat.beq j k) es).get b = if b = H0.next + k then some x else (heapS H0 all.length L es).get b := by
        intro b
        by_cases hbk : b = H0.next + k
        · subst hbk
          rw [if_pos rfl]
          exact heapS_of hown hG.ent (by simp [Nat.beq_refl]) hnb
        · rw [if_neg hbk]
          have : ∀ (es' : List Ent) (m : Nat), (∀ i ei, es'[i]? = some ei → es[m + i]? = some ei) → getB (blkS H0.next (fun j => L j || Nat.beq j k) es' m ++ H0.bs) b = getB (blkS H0.next L es' m ++ H0.bs) b := by
            intro es'
            induction es' with
            | nil => intro m _; rfl
            | cons e' es' ih =>
              intro m hm
              have ih' := ih (m + 1) (fun i ei hi => by have := hm (i + 1) ei (by simpa using hi); rw [show m + 1 + i = m + (i + 1) by omega]; exact this)
              by_cases hmk : m = k
              · subst hmk
                have h0 := hm 0 e' (by simp)
                rw [Nat.add_zero, hG.ent] at h0
                cases h0
                simp only [blkS, Nat.beq_refl, Bool.or_true, hnb, hk]
                rw [List.cons_append, getB_cons, if_neg (Ne.symm hbk)]
                exact ih'
              · simp only [blkS, nat_beq_ne.2 hmk, Bool.or_false]
                split
                · rw [List.cons_append, List.cons_append, getB_cons, getB_cons, ih']
                · exact ih'
          exact this es 0 (fun i ei hi => by rw [Nat.zero_add]; exact hi)
      have hst := Step.add h.step (id := H0.next + k) (by omega) (by show H0.next + k < H0.next + all.length; omega) hnone (v := e.v) (u := u) hg1 hg2 hokx hb hown (by
          rw [blk_under] at hxu ⊢
          cases x with
          | cells e l => exact pBL_mono (fun b hb => by simp [heapS] at hb ⊢; omega) l hxu
          | row => rfl
          | dead => rfl) (fun b y hy => by
          rcases heapS_some hy with ⟨i, ei, q1, q2, q3, q4⟩ | hy
          · exact (hav q2 q1).2 y q3
          · have := (hH0 b y hy).2
            rw [blk_under] at this
            cases y with
            | cells e l => exact pBL_mono (fun b hb => by have : b ≠ H0.next + k := by (simp at hb; omega)
                                                          simp [nat_beq_ne.2 this]) l this
            | row => rfl
            | dead => rfl) (K := heapS H0 all.length (fun j => L j || Nat.beq j k) es) rfl hKget
      refine hn _ _ _ (after _ u w' hst hu (fun j ej hj hej => tr_same hsm _ (hav hj hej).1) (fun t v hv => ?_))
      have := hE0 t v hv
      rw [AVal.under_pB] at this
      exact tr_same hsm v (AVal.pB_mono (fun b hb => by have : b ≠ H0.next + k := by (simp at hb; omega)
                                                        simp [nat_beq_ne.2 this]) v this)

end

end Go.Proofs.Ytofnedbclnlnmaa.Ev
