/-
  Two lists of numbers, alike?: the contract.
-/
import Derived.Test.YtcgnoegejmhgmaaMbN1
namespace Go.Proofs.Ytcgnoegejmhgmaa
set_option linter.unusedVariables false
set_option linter.unusedSimpArgs false
open Go.RowKit Ev

theorem nuIn (p : List Bool) : InFn (TM6.ctx Try.prog) 12 (codeAt p nuB) :=
  inFn_at TM6ok.ctx (fn := Try.f12) (by kernel_rfl) (by kernel_rfl) p
theorem nu_seqs : isSeqs 2 nuB = true := by kernel_rfl
theorem nu_body : Try.f12.body = some nuB := by kernel_rfl
theorem nu_fns : (TM6.ctx Try.prog).fns 12 = some Try.f12 := by kernel_rfl
theorem nuB_eq : tailN 2 nuB = .seq (.seq (seqL (seqL (tailN 2 nuB))) (.block 0 (.loop nuR))) (seqR (tailN 2 nuB)) := by kernel_rfl
theorem nuIn_set : InFn (TM6.ctx Try.prog) 12 (seqL (seqL (tailN 2 nuB))) := by
  have e : seqL (seqL (tailN 2 nuB)) = codeAt [true, true, false, false] nuB := by kernel_rfl
  rw [e]; exact nuIn _
theorem nuIn_end : InFn (TM6.ctx Try.prog) 12 (seqR (tailN 2 nuB)) := by
  have e : seqR (tailN 2 nuB) = codeAt [true, true, true] nuB := by kernel_rfl
  rw [e]; exact nuIn _

noncomputable abbrev NuGd (a b : List Int) (c : Code) (Q : AExit → Env → AHeap → Prop) (E : Env) (H : AHeap) : Prop := Gd (TM6.ctx Try.prog) 12 (nuH a b) c Q E H
def nuK (a b : List Int) (o : Out) (_ : AHeap) : Prop := o = .ret (.bool (decide (a = b)))
noncomputable abbrev nuQ (a b : List Int) (ka kb : Nat) : AExit → Env → AHeap → Prop := fun x E H => match x with
  | .exit 0 => a = b ∧ ∃ i : Int, E = nuE a b ka kb i ∧ H = nuH a b
  | .ret => endA (TM6.ctx Try.prog).P Try.f12 (nuK a b) .ret E H
  | _ => False
def nuI (a b : List Int) (ka kb : Nat) (m : Nat) (E : Env) (H : AHeap) : Prop :=
  ∃ i : Nat, m = a.length - i ∧ i ≤ a.length ∧ (∀ j, j < i → a.getD j 0 = b.getD j 0) ∧ E = nuE a b ka kb i ∧ H = nuH a b

theorem getD_ext {a b : List Int} (hl : a.length = b.length) (h : ∀ j, j < a.length → a.getD j 0 = b.getD j 0) : a = b := by
  apply List.ext_getElem hl
  intro i h1 h2
  have := h i h1
  simpa [List.getD, h1, h2] using this

theorem inI (i : Nat) (h : i < 1000000) : inI64 ((i : Int) + 1) = true := by
  unfold inI64
  rw [decide_eq_true_eq]
  omega

set_option maxRecDepth 100000 in
theorem nu_loop (a b : List Int) (ka kb : Nat) (hl : a.length = b.length) (h1000 : a.length ≤ 1000) : ∀ m E H, nuI a b ka kb m E H → NuGd a b (.loop nuR) (nuQ a b ka kb) E H := by
  refine Gd.loop (nuI a b ka kb) (fun m E H hI => ?_)
  obtain ⟨i, hm, hi, hr, rfl, rfl⟩ := hI
  refine Gd.mono (Gd.walkC TM6ok.ctx (Q := fun x E H => match x with
    | .ret => endA (TM6.ctx Try.prog).P Try.f12 (nuK a b) .ret E H
    | .normal => ∃ m', m' < m ∧ nuI a b ka kb m' E H
    | .exit 0 => a = b ∧ ∃ i : Int, E = nuE a b ka kb i ∧ H = nuH a b
    | _ => False) 2 tsN (Nat.le_refl _) (nuIn [true, true, false, true, false, false]) (Eq.mpr (w_nu_round a b ka kb i _) ?_)) (fun x E H h => ?_)
  rotate_left
  · cases x with
    | normal => exact h
    | ret => exact h
    | panic v => exact h.elim
    | exit j => cases j with
      | zero => exact h
      | succ n => exact h.elim
  have idx : 0 + (i : Int).toNat = i := by omega
  rw [idx]
  refine br_dec (fun h => ?_) (fun h => ?_)
  · refine obl_dec (by omega) (obl_dec (by omega) (obl_dec (by omega) (obl_dec (by omega) (branch_iff.2 ⟨fun hb => ?_, fun hb => ?_⟩))))
    · have hb := of_decide_eq_false ((Bool.not_eq_true' _).mp hb)
      show nuK a b (.ret (.bool false)) (nuH a b)
      unfold nuK
      rw [decide_eq_false]
      rintro rfl
      exact hb rfl
    · have hb := of_decide_eq_true ((Bool.not_eq_false' _).mp hb)
      refine obl_mk (inI i (by omega)) ⟨a.length - (i + 1), by omega, i + 1, rfl, by omega, fun j hj => ?_, rfl, rfl⟩
      by_cases hji : j = i
      · rw [hji]; exact hb
      · exact hr j (by omega)
  · exact ⟨getD_ext hl fun j hj => hr j (by omega), (i : Int), rfl, rfl⟩

set_option maxRecDepth 100000 in
theorem nu_good (a b : List Int) (ka kb : Nat) (h1000 : a.length ≤ 1000) : NuGd a b nuB (endA (TM6.ctx Try.prog).P Try.f12 (nuK a b)) (env0 [sl0 a ka, sl1 b kb] 0) (nuH a b) := by
  refine Gd.walkN TM6ok.ctx (base := 2) (Nat.le_refl _) (It := fun E H => canonK 2 [0, 1] E H (fun E H => a.length = b.length ∧ E = [(0, sl0 a ka), (1, sl1 b kb)] ∧ H = nuH a b)) 2 90 _ _ _ nu_seqs (nuIn []) (Eq.mpr (w_nu_ss a b ka kb (fun E H => a.length = b.length ∧ E = [(0, sl0 a ka), (1, sl1 b kb)] ∧ H = nuH a b) (nuK a b)) ?_) (fun E H h => ?_)
  · refine branch_iff.2 ⟨fun h => ?_, fun h => ?_⟩
    · have h := of_decide_eq_false ((Bool.not_eq_true' _).mp h)
      unfold nuK
      rw [decide_eq_false]
      rintro rfl
      exact h rfl
    · have h := of_decide_eq_true ((Bool.not_eq_false' _).mp h)
      exact ⟨by omega, rfl, rfl⟩
  obtain ⟨E', H', σ, ⟨hl, rfl, rfl⟩, g2, g3, g4, g5, g6⟩ := canonK_ok h
  refine Gd.sub (base := 2) (Nat.le_refl _) g6 ?_ g2 g3 g4 g5
  rw [nuB_eq]
  refine Gd.seq (Gd.seq (Gd.walkC TM6ok.ctx 2 tsN (Nat.le_refl _) nuIn_set (Eq.mpr (w_nu_set a b ka kb _) ?_)))
  refine Gd.block (Gd.mono (nu_loop a b ka kb hl h1000 a.length _ _ ⟨0, rfl, Nat.zero_le _, fun j hj => absurd hj (Nat.not_lt_zero _), rfl, rfl⟩) (fun x E H h => ?_))
  unfold nuQ at h
  split at h
  · obtain ⟨h1, i, rfl, rfl⟩ := h
    refine Gd.walkC TM6ok.ctx 2 tsN (Nat.le_refl _) nuIn_end (Eq.mpr (w_nu_end a b ka kb i _) ?_)
    unfold nuK
    rw [decide_eq_true h1]
  · exact h
  · exact h.elim

/-! ### the contract -/

def okI (T : RowTy) (a : T.α) : Bool := match T.enc a with
  | [.int .i64 _] => true
  | _ => false
def toI (T : RowTy) (a : T.α) : Int := match T.enc a with
  | [.int .i64 n] => n
  | _ => 0
/-- The numbers of a block. -/
def numB : ABlk → Option (Bool × List Int)
  | .cells _ l => match intsOf .i64 l with
    | some r => some (true, r)
    | none => none
  | .row _ T l .plain => some (Nat.beq T.sz 1 && l.all (okI T), l.map (toI T))
  | _ => none
/-- The numbers of a slice. -/
def numS (H : AHeap) : AVal → Option (Bool × List Int)
  | .nils => some (true, [])
  | .sl b 0 1 0 n _ => match H.get b with
    | some x => match numB x with
      | some (c, l) => some (c && (decide (n = l.length) && decide (l.length ≤ 1000)), l)
      | none => none
    | none => none
  | _ => none

def fcNum : FC := fun args H => match args with
  | [x, y] => match numS H x, numS H y with
    | some (c, a), some (d, b) => some (c && d, .bool (decide (a = b)))
    | _, _ => none
  | _ => none

/-- Numbers in memory. -/
def CellsI (w : World) (g o : Nat) (l : List Int) : Prop := g < w.heap.size ∧ l.length ≤ 1000 ∧ ∀ i v, l[i]? = some v → w.cell? ⟨g, o + i, none⟩ = some (.int .i64 v)

theorem cells_nil {w : World} (g o : Nat) (h : g < w.heap.size) : CellsI w g o [] := ⟨h, by simp, fun i v h => by cases h⟩

theorem numS_ok {H : AHeap} {x : AVal} {l : List Int} (h : numS H x = some (true, l)) {ρ : Rho} {w : World} {N : Nat} (hH : ∀ b y, H.get b = some y → y.under N = true ∧ ρ.blk b < w.heap.size ∧ y.ok ρ w b) :
    (x = .nils ∧ l = []) ∨ ∃ g o k, tr ρ x = .slice (some ⟨g, o, none⟩) l.length k ∧ CellsI w g o l := by
  unfold numS at h
  split at h
  · cases h; exact .inl ⟨rfl, rfl⟩
  · rename_i b n c
    right
    split at h <;> try cases h
    rename_i y hb
    split at h <;> try cases h
    rename_i cc l' hn
    simp only [Option.some.injEq, Prod.mk.injEq, Bool.and_eq_true, decide_eq_true_eq] at h
    obtain ⟨⟨rfl, rfl, h1000⟩, rfl⟩ := h
    obtain ⟨q1, q2, q3⟩ := hH b y hb
    refine ⟨ρ.blk b, ρ.off b, _, by simp only [tr, Nat.zero_mul, Nat.add_zero, Nat.zero_add]; rfl, q2, h1000, fun i v hv => ?_⟩
    unfold numB at hn
    split at hn
    · rename_i e cs
      split at hn <;> try cases hn
      rename_i hi
      have := intsOf_spec hi
      subst this
      obtain ⟨h0, h1, fz, h2, h3⟩ := q3
      rw [cell_of_heap h2, h0, Nat.zero_add, trL_ints]
      simp [hv]
    · rename_i e T r
      simp only [Option.some.injEq, Prod.mk.injEq, Bool.and_eq_true] at hn
      obtain ⟨⟨hs, hall⟩, rfl⟩ := hn
      have hs := nat_beq_eq.1 hs
      have hi : i < r.length := by
        have := (List.getElem?_eq_some_iff.1 hv).1
        simpa using this
      have hv' : toI T r[i] = v := by
        rw [List.getElem?_map, List.getElem?_eq_getElem hi] at hv
        simpa using hv
      have hok := (List.all_eq_true.1 hall) r[i] (List.getElem_mem hi)
      have henc : T.enc r[i] = [.int .i64 v] := by
        unfold okI at hok
        unfold toI at hv'
        split at hok
        · rename_i m hm
          rw [hm] at hv'
          simp only at hv'
          rw [hm, hv']
        · cases hok
      have hf : (T.flat r)[i]? = some (.int .i64 v) := by
        have := flat_get T r i r[i] 0 (List.getElem?_eq_getElem hi) (by omega)
        rw [hs, Nat.mul_one, Nat.add_zero] at this
        rw [this, henc]; rfl
      have := row_cell q3 hf
      rw [this]; rfl
    · cases hn
  · cases h

theorem nuRel {w : World} {g o g' o' : Nat} {a b : List Int} (ha : CellsI w g o a) (hb : CellsI w g' o' b) : ∃ ρ : Rho, Rel ρ (nuH a b) w ∧ (∀ k, tr ρ (sl0 a k) = .slice (some ⟨g, o, none⟩) a.length k) ∧ ∀ k, tr ρ (sl1 b k) = .slice (some ⟨g', o', none⟩) b.length k := by
  let ρ : Rho := ⟨fun x => if x = 0 then g else g', fun x => if x = 0 then o else o', fun x => if x = 0 then a.length else b.length, fun _ _ => False⟩
  have cells : ∀ (l : List Int) (g o : Nat), CellsI w g o l → ∀ i v, ((intRow .i64).flat l)[i]? = some v → w.cell? ⟨g, o + i, none⟩ = some (tr ρ v) := by
    intro l g o h i v hv
    rw [flat_int, List.getElem?_map] at hv
    cases hq : l[i]? with
    | none => rw [hq] at hv; cases hv
    | some n =>
      rw [hq] at hv
      cases hv
      exact h.2.2 i n hq
  refine ⟨ρ, ⟨fun c x hx => ?_, fun c c' x x' hx hx' ho hne => ?_⟩, fun k => ?_, fun k => ?_⟩
  · unfold nuH AHeap.get at hx
    rw [getB_cons] at hx
    by_cases h0 : 0 = c
    · subst h0
      rw [if_pos rfl] at hx
      cases hx
      exact ⟨by show 0 < 2; omega, rfl, ha.1, Nat.le_refl _, by show a.length ≤ maxLen; have := ha.2.1; unfold maxLen; omega, ha.1, cells a g o ha⟩
    · rw [if_neg h0, getB_cons] at hx
      by_cases h1 : 1 = c
      · subst h1
        rw [if_pos rfl] at hx
        cases hx
        exact ⟨by show 1 < 2; omega, rfl, hb.1, Nat.le_refl _, by show b.length ≤ maxLen; have := hb.2.1; unfold maxLen; omega, hb.1, cells b g' o' hb⟩
      · rw [if_neg h1] at hx; cases hx
  · unfold nuH AHeap.get at hx
    rw [getB_cons] at hx
    by_cases h0 : 0 = c
    · rw [if_pos h0] at hx; cases hx; cases ho
    · rw [if_neg h0, getB_cons] at hx
      by_cases h1 : 1 = c
      · rw [if_pos h1] at hx; cases hx; cases ho
      · rw [if_neg h1] at hx; cases hx
  · show Value.slice (some ⟨g, o + (0 * 1 + 0), none⟩) a.length k = _
    simp
  · show Value.slice (some ⟨g', o' + (0 * 1 + 0), none⟩) b.length k = _
    simp

theorem below_of {ρ : Rho} {a b : List Int} {w w' : World} {ρ' : Rho} {H' : AHeap} (h : Step ρ (nuH a b) w ρ' H' w') : Below w.heap.size w w' :=
  h.below (Nat.le_refl _) (by
    rintro g ⟨c, x, hx, ho, _⟩
    unfold nuH AHeap.get at hx
    rw [getB_cons] at hx
    by_cases h0 : 0 = c
    · rw [if_pos h0] at hx; cases hx; cases ho
    · rw [if_neg h0, getB_cons] at hx
      by_cases h1 : 1 = c
      · rw [if_pos h1] at hx; cases hx; cases ho
      · rw [if_neg h1] at hx; cases hx)

set_option maxRecDepth 100000 in
theorem num_sound : FcSound Try.prog 12 fcNum := by
  refine ⟨Try.call12, fun args H v hv ρ w N hH hb0 => ?_⟩
  unfold fcNum at hv
  split at hv <;> try cases hv
  rename_i x y
  split at hv <;> try cases hv
  rename_i c a d b hx hy
  simp only [Option.some.injEq, Prod.mk.injEq, Bool.and_eq_true] at hv
  obtain ⟨⟨rfl, rfl⟩, rfl⟩ := hv
  refine ⟨?_, rfl⟩
  have fin : ∀ {vs : Array Value} {ρ1 : Rho} {a' b' : List Int} (h : Calls Try.prog 12 vs w fun e w' => ∃ out H' ρ', Out.rel ρ' H'.next out e ∧ out = .ret (.bool (decide (a = b))) ∧ Step ρ1 (nuH a' b') w ρ' H' w'), Calls Try.prog 12 vs w fun e w' => e = .returned (tr ρ (.bool (decide (a = b)))) ∧ Below w.heap.size w w' := by
    intro vs ρ1 a' b' h
    refine h.mono ?_
    rintro e w' ⟨out, H', ρ', h1, rfl, h3⟩
    cases e <;> simp only [Out.rel] at h1
    exact ⟨by rw [h1.1]; rfl, below_of h3⟩
  rcases numS_ok hx hH with ⟨rfl, rfl⟩ | ⟨g, o, k, e1, hca⟩ <;> rcases numS_ok hy hH with ⟨rfl, rfl⟩ | ⟨g', o', k', e2, hcb⟩
  · refine (call_pure TM6ok.ctx (n := 90) (K := fun o => o = .ret (.bool true)) (Eq.mpr (w_nu_n0 _) rfl) rfl ρ w).mono ?_
    rintro e w' ⟨out, ρ', N', h1, rfl, h3⟩
    cases e <;> simp only [Out.rel] at h1
    exact ⟨by rw [h1.1]; rfl, h3⟩
  · obtain ⟨ρ1, hR, _, hs⟩ := nuRel (a := []) (cells_nil g' o' hcb.1) hcb
    have := fin (((callC_ok TM6ok.ctx 90) 12 _ _ (fun o _ => o = .ret (.bool (decide (([] : List Int) = b)))) (Eq.mpr (w_nu_ns [] b 0 k' (fun o => o = .ret (.bool (decide (([] : List Int) = b))))) ?_) ρ1 w hR rfl).2)
    · have e : (trL ρ1 [.nils, sl1 b k']).toArray = (trL ρ [.nils, y]).toArray := by simp only [trL, hs, e2]; rfl
      rw [e] at this
      exact this
    · refine branch_iff.2 ⟨fun h => ?_, fun h => ?_⟩
      · have h := of_decide_eq_false ((Bool.not_eq_true' _).mp h)
        rw [decide_eq_false]
        rintro rfl
        exact h rfl
      · have h := of_decide_eq_true ((Bool.not_eq_false' _).mp h)
        rw [decide_eq_true]
        exact (List.eq_nil_of_length_eq_zero (by omega)).symm
  · obtain ⟨ρ1, hR, hs, _⟩ := nuRel (b := []) hca (cells_nil g o hca.1)
    have e : (trL ρ1 [sl0 a k, .nils]).toArray = (trL ρ [x, .nils]).toArray := by simp only [trL, hs, e1]; rfl
    cases a with
    | nil =>
      have := fin (((callC_ok TM6ok.ctx 90) 12 _ _ (fun o _ => o = .ret (.bool (decide (([] : List Int) = [])))) (Eq.mpr (w_nu_s0 [] k (fun o => o = .ret (.bool (decide (([] : List Int) = []))))) rfl) ρ1 w hR rfl).2)
      rw [e] at this
      exact this
    | cons n a =>
      have := fin (fn_good (K := fun o _ => o = .ret (.bool (decide (n :: a = [])))) TM6ok.ctx (fn := Try.f12) (c := nuB) nu_fns nu_body (Gd.walkN TM6ok.ctx (base := 2) (Nat.le_refl _) (It := fun _ _ => False) 2 90 _ _ _ nu_seqs (nuIn []) (Eq.mpr (w_nu_sn n a [] k 0 (fun _ _ => False) (fun o _ => o = .ret (.bool (decide (n :: a = []))))) rfl) (fun E H h => h.elim)) hR rfl)
      rw [e] at this
      exact this
  · obtain ⟨ρ1, hR, hs, hs'⟩ := nuRel hca hcb
    have e : (trL ρ1 [sl0 a k, sl1 b k']).toArray = (trL ρ [x, y]).toArray := by simp only [trL, hs, hs', e1, e2]
    have := fin (fn_good (K := nuK a b) TM6ok.ctx (fn := Try.f12) (c := nuB) nu_fns nu_body (nu_good a b k k' hca.2.1) hR rfl)
    rw [e] at this
    exact this

noncomputable def TM7 : Tabs := TM6.addFc 12 fcNum
theorem TM7ok : TabsOk TM7 Try.prog := TM6ok.addFc num_sound

end Go.Proofs.Ytcgnoegejmhgmaa
