/-
  Ev: rows of bytes, of strings, of numbers; functions that read one block.
-/
import Derived.Test.YtofnedbclnlnmaaEvW
namespace Go.Proofs.Ytofnedbclnlnmaa.Ev
set_option linter.unusedVariables false
set_option linter.unusedSimpArgs false
open Go.RowKit

abbrev byteRow : RowTy where
  α := UInt8
  sz := 1
  dflt := 0
  enc := fun c => [.int .u8 (c.toNat : Int)]
  dec := fun cs => match cs with
    | [.int .u8 n] => some (decide (0 ≤ n ∧ n < 256), UInt8.ofNat n.toNat)
    | _ => none
  len := fun _ => rfl
  isData := fun _ => rfl
  dec_enc := fun cs a h => by
    split at h
    · simp only [Option.some.injEq, Prod.mk.injEq, decide_eq_true_eq] at h
      obtain ⟨⟨h0, h1⟩, rfl⟩ := h
      rename_i n
      have : (UInt8.ofNat n.toNat).toNat = n.toNat := by rw [UInt8.toNat_ofNat']; omega
      rw [this, Int.toNat_of_nonneg h0]
    · cases h
  bytes := some (fun l => l, fun l => l)
  toB := fun f g h => by
    simp only [Option.some.injEq, Prod.mk.injEq] at h
    obtain ⟨rfl, rfl⟩ := h
    exact ⟨rfl, fun l => by induction l <;> simp_all, fun l => by induction l <;> simp_all⟩

abbrev strRow : RowTy where
  α := List UInt8
  sz := 1
  dflt := []
  enc := fun s => [.str s]
  dec := fun cs => match cs with
    | [.str s] => some (true, s)
    | _ => none
  len := fun _ => rfl
  isData := fun _ => rfl
  dec_enc := fun cs a h => by
    split at h
    · simp only [Option.some.injEq, Prod.mk.injEq, true_and] at h
      subst h; rfl
    · cases h
  bytes := none
  toB := fun f g h => by cases h

abbrev intRow (k : IntKind) : RowTy where
  α := Int
  sz := 1
  dflt := 0
  enc := fun n => [.int k n]
  dec := fun cs => match cs with
    | [.int k' n] => if k' = k then some (true, n) else none
    | _ => none
  len := fun _ => rfl
  isData := fun _ => rfl
  dec_enc := fun cs a h => by
    split at h
    · split at h <;> try cases h
      rename_i hk
      subst hk
      rfl
    · cases h
  bytes := none
  toB := fun f g h => by cases h

theorem get_one {n c : Nat} {x y : ABlk} (h : AHeap.get ⟨n, [(0, x)]⟩ c = some y) : c = 0 ∧ x.live = some y := by
  have h' : getB [(0, x)] c = some y := h
  rw [getB_cons] at h'
  by_cases hc : 0 = c
  · rw [if_pos hc] at h'; exact ⟨hc.symm, h'⟩
  · rw [if_neg hc] at h'; simp [getB] at h'

/-- What lies in a block of ours, read only. -/
theorem ro_of {x : ABlk} {ρ : Rho} {w : World} {b : Nat} (h : x.ok ρ w b) (hlt : ρ.blk b < w.heap.size) {e : TypeId} {T : RowTy} {as : List T.α} (hx : (∃ e', x = .cells e' (T.flat as)) ∨ ∃ e' md, x = .row e' T as md) (hl : as.length ≤ maxLen) :
    Rel ⟨fun _ => ρ.blk b, fun _ => ρ.off b, fun _ => max (ρ.cap b) as.length⟩ ⟨1, [(0, .row e T as .ro)]⟩ w ∨ maxLen < max (ρ.cap b) as.length := by
  by_cases hm : maxLen < max (ρ.cap b) as.length
  · exact .inr hm
  left
  refine ⟨fun c y hy => ?_, fun c c' y y' hy hy' ho hne => ?_⟩
  · have : c = 0 ∧ y = .row e T as .ro := by
      obtain ⟨h1, h2⟩ := get_one hy
      simp only [ABlk.live, Option.some.injEq] at h2
      exact ⟨h1, h2.symm⟩
    clear hy
    obtain ⟨rfl, rfl⟩ := this
    refine ⟨Nat.zero_lt_one, rfl, hlt, by simp only; omega, by simp only; omega, hlt, fun i v hv => ?_⟩
    rcases hx with ⟨e', rfl⟩ | ⟨e', md, rfl⟩
    · obtain ⟨h0, _, fz, hh, _⟩ := h
      have hd := flat_data T as
      rw [List.all_eq_true] at hd
      simp only [h0, Nat.zero_add]
      rw [cell_of_heap hh]
      have : (trL ρ (T.flat as)).toArray[i]? = some (tr ρ v) := by simp [trL_get, hv]
      rw [this, AVal.data_tr (hd v (List.mem_of_getElem? hv)) ρ _]
    · have := row_cell h hv
      have hd := flat_data T as
      rw [List.all_eq_true] at hd
      simp only
      rw [this, AVal.data_tr (hd v (List.mem_of_getElem? hv)) ρ _]
  · have hc : ∀ {c y}, AHeap.get ⟨1, [(0, .row e T as .ro)]⟩ c = some y → c = 0 := by
      intro c y hy
      exact (get_one hy).1
    exact absurd ((hc hy).trans (hc hy').symm) hne

/-- The contract of a function that is handed a slice and reads it, beside what has no memory. -/
theorem fc_reads {X : Ctx} (hX : CtxOk X) {f n : Nat} {c : FC} (he : ∀ vs w, (callFunc f vs).run X.P w = .ok (.enter f vs) w)
    (h : ∀ args H v, c args H = some (true, v) → ∃ b x e T as i sz j m k pre post, args = pre ++ .sl b i sz j m (some k) :: post ∧ belowL 0 pre = true ∧ belowL 0 post = true ∧ H.get b = some x ∧ (∃ e', x = .cells e' (RowTy.flat T as)) ∧ as.length ≤ 1000 ∧ v.under 0 = true ∧
      callC X n f (pre ++ .sl 0 i sz j m (some k) :: post) ⟨1, [(0, .row e T as .ro)]⟩ (fun o _ => o = .ret v)) : FcSound X.P f c := by
  refine ⟨he, fun args H v hv ρ w N hH _ => ?_⟩
  obtain ⟨b, x, e, T, as, i, sz, j, m, k, pre, post, rfl, hpre, hpost, hb, ⟨e', rfl⟩, hl, hvu, hcall⟩ := h args H v hv
  obtain ⟨q1, q2, q3⟩ := hH b _ hb
  refine ⟨?_, under_mono0 hvu⟩
  -- the capacity does not matter
  have hrel : Rel ⟨fun _ => ρ.blk b, fun _ => ρ.off b, fun _ => as.length⟩ ⟨1, [(0, .row e T as .ro)]⟩ w := by
    have hok : (ABlk.cells e' (T.flat as)).ok ⟨ρ.blk, ρ.off, fun _ => 0⟩ w b := by
      obtain ⟨h0, h1, fz, h2, h3⟩ := q3
      refine ⟨h0, h1, fz, ?_, h3⟩
      rw [h2]
      congr 2
      rw [trL_eq, trL_eq]
      congr 1
      apply List.map_congr_left
      intro y hy
      have hd := flat_data T as
      rw [List.all_eq_true] at hd
      exact AVal.data_tr (hd y hy) _ _
    rcases ro_of (e := e) hok q2 (.inl ⟨e', rfl⟩) (by unfold maxLen; omega) with h | h
    · simpa using h
    · simp only at h; unfold maxLen at h; omega
  have htr : trL ⟨fun _ => ρ.blk b, fun _ => ρ.off b, fun _ => as.length⟩ (pre ++ .sl 0 i sz j m (some k) :: post) = trL ρ (pre ++ .sl b i sz j m (some k) :: post) := by
    rw [trL_append, trL_append]
    simp only [trL, tr]
    rw [trL_agree (agree0 ρ _) pre hpre, trL_agree (agree0 ρ _) post hpost]
  have hcl := (callC_ok hX n) f _ _ _ hcall _ w hrel (by
    rw [belowL_eq]
    simp only [List.all_append, List.all_cons, Bool.and_eq_true]
    rw [← belowL_eq, ← belowL_eq]
    exact ⟨belowL_mono (Nat.zero_le _) _ hpre, rfl, belowL_mono (Nat.zero_le _) _ hpost⟩)
  rw [htr] at hcl
  refine hcl.2.mono ?_
  rintro e w' ⟨out, H', ρ', h1, rfl, h3⟩
  cases e <;> simp only [Out.rel] at h1
  obtain ⟨rfl, _⟩ := h1
  refine ⟨by rw [tr_agree (agree0 ρ ρ') v hvu], h3.below (Nat.le_refl _) (fun g hg => ?_)⟩
  obtain ⟨c, y, hy, ho, _⟩ := hg
  have h2 := (get_one hy).2
  simp only [ABlk.live, Option.some.injEq] at h2
  subst h2
  cases ho

/-! ### tables that grow -/

structure TabsOk (T : Tabs) (P : Program) : Prop where
  mixed : P.follows .mixedOrders = true
  fns : ∀ p ∈ T.fns, FnOk P p.1 p.2
  rows : ∀ p ∈ T.rows, RowOk P p.1 p.2
  fcs : ∀ p ∈ T.fcs, FcSound P p.1 p.2
  gcs : ∀ p ∈ T.gcs, GcSound P p.1 p.2
  lcs : ∀ p ∈ T.lcs, LcSound P T.fns p.1 p.2.1 p.2.2

theorem TabsOk.ctx {T : Tabs} {P : Program} (h : TabsOk T P) : CtxOk (T.ctx P) := Tabs.ok h.mixed h.fns h.rows h.fcs h.gcs h.lcs

def Tabs.addFc (T : Tabs) (f : Nat) (c : FC) : Tabs := { T with fcs := (f, c) :: T.fcs }
def Tabs.addGc (T : Tabs) (f : Nat) (c : GC) : Tabs := { T with gcs := (f, c) :: T.gcs }
def Tabs.addLc (T : Tabs) (f id : Nat) (c : LC) : Tabs := { T with lcs := (f, id, c) :: T.lcs }

theorem TabsOk.addFc {T : Tabs} {P : Program} (h : TabsOk T P) {f : Nat} {c : FC} (hc : FcSound P f c) : TabsOk (T.addFc f c) P :=
  ⟨h.mixed, h.fns, h.rows, fun p hp => by rcases List.mem_cons.1 hp with rfl | hp <;> first | exact hc | exact h.fcs p hp, h.gcs, h.lcs⟩
theorem TabsOk.addGc {T : Tabs} {P : Program} (h : TabsOk T P) {f : Nat} {c : GC} (hc : GcSound P f c) : TabsOk (T.addGc f c) P :=
  ⟨h.mixed, h.fns, h.rows, h.fcs, fun p hp => by rcases List.mem_cons.1 hp with rfl | hp <;> first | exact hc | exact h.gcs p hp, h.lcs⟩
theorem TabsOk.addLc {T : Tabs} {P : Program} (h : TabsOk T P) {f id : Nat} {c : LC} (hc : LcSound P T.fns f id c) : TabsOk (T.addLc f id c) P :=
  ⟨h.mixed, h.fns, h.rows, h.fcs, h.gcs, fun p hp => by rcases List.mem_cons.1 hp with rfl | hp <;> first | exact hc | exact h.lcs p hp⟩

/-- The contract of a function out of Lean's old way of contracts: no memory is handed over. -/
theorem fc_of_calls {P : Program} {f : FuncId} {c : FC} (he : ∀ vs w, (callFunc f vs).run P w = .ok (.enter f vs) w)
    (h : ∀ args H v, c args H = some (true, v) → belowL 0 args = true ∧ v.under 0 = true ∧ ∀ ρ w, Calls P f (trL ρ args).toArray w fun e w' => e = .returned (tr ρ v) ∧ Below w.heap.size w w') : FcSound P f c := by
  refine ⟨he, fun args H v hv ρ w N _ _ => ?_⟩
  obtain ⟨h1, h2, h3⟩ := h args H v hv
  exact ⟨h3 ρ w, under_mono0 h2⟩

end Go.Proofs.Ytofnedbclnlnmaa.Ev
