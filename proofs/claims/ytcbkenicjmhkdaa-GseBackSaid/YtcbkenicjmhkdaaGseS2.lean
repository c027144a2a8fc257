/-
  Two lists alike: the contract.
-/
import Derived.Test.YtcbkenicjmhkdaaGseS1
namespace Go.Proofs.Ytcbkenicjmhkdaa
set_option linter.unusedVariables false
set_option linter.unusedSimpArgs false
open Go.RowKit Ev

/-- Cells, read as pieces. -/
def decP : List AVal → Option (List PieceR)
  | [] => some []
  | .bool st :: .bool en :: .int .i64 id :: .int .i64 total :: .int .i64 typ :: .int .i64 k :: .str lb :: .str data :: .str sum :: r => (decP r).map (⟨st, en, id, total, typ, k, lb, data, sum⟩ :: ·)
  | _ => none

theorem decP_flat : ∀ l : List PieceR, decP (pieceRow.flat l) = some l
  | [] => rfl
  | p :: l => by
    have e : pieceRow.flat (p :: l) = .bool p.st :: .bool p.en :: .int .i64 p.id :: .int .i64 p.total :: .int .i64 p.typ :: .int .i64 p.k :: .str p.lb :: .str p.data :: .str p.sum :: pieceRow.flat l := rfl
    rw [e, decP, decP_flat l]
    rfl

theorem decP_eq : ∀ (n : Nat) (cs : List AVal) (l : List PieceR), cs.length ≤ n → decP cs = some l → cs = pieceRow.flat l
  | 0, cs, l, hn, h => by
    have : cs = [] := List.length_eq_zero_iff.1 (by omega)
    subst this
    simp only [decP, Option.some.injEq] at h
    subst h; rfl
  | n + 1, cs, l, hn, h => by
    unfold decP at h
    split at h
    · simp only [Option.some.injEq] at h; subst h; rfl
    · rename_i st en id total typ k lb data sum r
      cases hr : decP r with
      | none => rw [hr] at h; cases h
      | some l' =>
        rw [hr] at h
        simp only [Option.map_some, Option.some.injEq] at h
        subst h
        have := decP_eq n r l' (by simp only [List.length_cons] at hn; omega) hr
        rw [this]; rfl
    · cases h

/-- Two rows, compared. -/
def sameOk (T : RowTy) (l : List T.α) (T' : RowTy) (l' : List T'.α) (n n' : Nat) : Bool := match decP (T.flat l), decP (T'.flat l') with
  | some x, some y => Nat.beq T.sz 9 && Nat.beq T'.sz 9 && Nat.beq n x.length && Nat.beq n' y.length
  | _, _ => false
def sameV (T : RowTy) (l : List T.α) (T' : RowTy) (l' : List T'.α) : Bool := decide (decP (T.flat l) = decP (T'.flat l'))

theorem sameOk_rows (x y : List PieceR) : sameOk pieceRow x pieceRow y x.length y.length = true := by
  unfold sameOk
  rw [decP_flat, decP_flat]
  simp
theorem sameV_rows (x y : List PieceR) : sameV pieceRow x pieceRow y = decide (x = y) := by
  unfold sameV
  rw [decP_flat, decP_flat]
  simp

noncomputable def fcSame : FC := fun args H => match args with
  | [.nils, .nils] => some (true, .bool true)
  | [.nils, .sl _ _ _ _ n none] => some (decide (0 < n), .bool false)
  | [.sl _ _ _ _ n none, .nils] => some (decide (0 < n), .bool false)
  | [.sl b i sz j n none, .sl b' i' sz' j' n' none] => match H.get b, H.get b' with
    | some (.row _ T l _), some (.row _ T' l' _) => some (Nat.beq i 0 && Nat.beq sz 9 && Nat.beq j 0 && Nat.beq i' 0 && Nat.beq sz' 9 && Nat.beq j' 0 && sameOk T l T' l' n n', .bool (sameV T l T' l'))
    | _, _ => none
  | _ => none

def stSame (x y : List PieceR) (i : Nat) : Env × AHeap := ([(5, .int .i64 i), (1, .sl 1 0 9 0 y.length none), (0, .sl 0 0 9 0 x.length none)], ⟨2, [(1, .row 27 pieceRow y .ro), (0, .row 27 pieceRow x .ro)]⟩)

theorem piece_ext (p q : PieceR) : (p = q) ↔ (p.st = q.st ∧ p.en = q.en ∧ p.id = q.id ∧ p.total = q.total ∧ p.typ = q.typ ∧ p.k = q.k ∧ p.lb = q.lb ∧ p.data = q.data ∧ p.sum = q.sum) := by
  cases p; cases q; simp [PieceR.mk.injEq]

theorem same_code : tailN 2 (bodyC Try.f19) = .seq (.seq (seqL (seqL (tailN 2 (bodyC Try.f19)))) (.block 0 (.loop (lpC (blkC (seqR (seqL (tailN 2 (bodyC Try.f19))))))))) (seqR (tailN 2 (bodyC Try.f19))) := by kernel_rfl

theorem same_round (x y : List PieceR) (hl : x.length = y.length) (hm : x.length ≤ 9223372036854775807) (i : Nat) (hi : i ≤ x.length ∧ x.take i = y.take i) :
    wpC (TB.ctx Try.prog) 60 19 2 (lpC (blkC (seqR (seqL (tailN 2 (bodyC Try.f19)))))) (stSame x y i).1 (stSame x y i).2 (RoundC 2 (stSame x y) (fun i => x.length - i) (fun i => i ≤ x.length ∧ x.take i = y.take i) i (fun X E H => match X with
      | .exit i => i = 0 ∧ wpC (TB.ctx Try.prog) 60 19 2 (seqR (tailN 2 (bodyC Try.f19))) E H (endA (TB.ctx Try.prog).P Try.f19 (fun o _ => o = .ret (.bool (decide (x = y)))))
      | .ret => endA (TB.ctx Try.prog).P Try.f19 (fun o _ => o = .ret (.bool (decide (x = y)))) .ret E H
      | _ => False)) := by
  obtain ⟨h1, h2⟩ := hi
  refine Eq.mpr (w_same_round x y i _) ?_
  simp only [Int.toNat_natCast, Nat.zero_add]
  have hp := piece_ext (x.getD i ⟨false, false, 0, 0, 0, 0, [], [], []⟩) (y.getD i ⟨false, false, 0, 0, 0, 0, [], [], []⟩)
  generalize hb : (!((x.getD i ⟨false, false, 0, 0, 0, 0, [], [], []⟩).st == (y.getD i ⟨false, false, 0, 0, 0, 0, [], [], []⟩).st && _)) = B
  have hB : B = false ↔ x.getD i ⟨false, false, 0, 0, 0, 0, [], [], []⟩ = y.getD i ⟨false, false, 0, 0, 0, 0, [], [], []⟩ := by
    rw [hp, ← hb]
    simp only [Bool.not_eq_false', Bool.and_eq_true, beq_iff_eq, decide_eq_true_eq, and_true]
    constructor
    · rintro ⟨a, b, c, d, e, ⟨f, g⟩, h, k⟩; exact ⟨a, b, c, d, e, f, g, h, k⟩
    · rintro ⟨a, b, c, d, e, f, g, h, k⟩; exact ⟨a, b, c, d, e, ⟨f, g⟩, h, k⟩
  clear hb hp
  have tk : i < x.length → (x.take (i + 1) = y.take (i + 1) ↔ x.getD i ⟨false, false, 0, 0, 0, 0, [], [], []⟩ = y.getD i ⟨false, false, 0, 0, 0, 0, [], [], []⟩) := fun h => by
    have h' : i < y.length := hl ▸ h
    rw [List.take_succ_eq_append_getElem h, List.take_succ_eq_append_getElem h', h2, show x.getD i ⟨false, false, 0, 0, 0, 0, [], [], []⟩ = x[i] by simp [h], show y.getD i ⟨false, false, 0, 0, 0, 0, [], [], []⟩ = y[i] by simp [h']]
    constructor
    · intro e; have := List.append_cancel_left e; simpa using this
    · intro e; rw [e]
  rw [branch_iff]
  refine ⟨fun hlt => ?_, fun hlt => ?_⟩
  · have hlt := of_decide_eq_true hlt
    have hlt : i < x.length := by omega
    rw [obl_iff, decide_eq_true_eq, obl_iff, decide_eq_true_eq, obl_iff, decide_eq_true_eq, obl_iff, decide_eq_true_eq]
    refine ⟨by omega, by omega, by omega, by omega, ?_⟩
    rw [branch_iff]
    refine ⟨fun hB1 => ?_, fun hB0 => ?_⟩
    · show Out.ret (.bool false) = Out.ret (.bool (decide (x = y)))
      have : ¬ x = y := fun hxy => by
        have := hB.2 (by rw [hxy])
        rw [this] at hB1; cases hB1
      rw [decide_eq_false this]
    · rw [obl_iff, inI64_iff]
      refine ⟨by omega, i + 1, [], by show x.length - (i + 1) < x.length - i; omega, ⟨by omega, (tk hlt).2 (hB.1 hB0)⟩, by kernel_rfl, by kernel_rfl, ?_, ?_⟩
      · exact subER_cons rfl rfl rfl (subER_cons rfl rfl rfl (subER_cons rfl rfl rfl subER_nil))
      · exact subHR_cons rfl rfl rfl rfl (subHR_cons rfl rfl rfl rfl subHR_nil)
  · have hlt := of_decide_eq_false hlt
    have hxy : x = y := by
      have : i = x.length := by omega
      rw [this, List.take_length, hl, List.take_length] at h2
      exact h2
    refine ⟨rfl, ?_⟩
    refine Eq.mpr (w_same_tail x y _ _) ?_
    show Out.ret (.bool true) = Out.ret (.bool (decide (x = y)))
    rw [decide_eq_true hxy]

theorem same_rows (x y : List PieceR) (hm : x.length ≤ 9223372036854775807) (ρ : Rho) (w : World) (hR : Rel ρ ⟨2, [(1, .row 27 pieceRow y .ro), (0, .row 27 pieceRow x .ro)]⟩ w) :
    Calls Try.prog 19 (trL ρ [.sl 0 0 9 0 x.length none, .sl 1 0 9 0 y.length none]).toArray w fun e w' => ∃ out H' ρ', Out.rel ρ' H'.next out e ∧ out = .ret (.bool (decide (x = y))) ∧ Step ρ ⟨2, [(1, .row 27 pieceRow y .ro), (0, .row 27 pieceRow x .ro)]⟩ w ρ' H' w' := by
  refine fn_cutN TBok.ctx (k := 2) (n := 60) (fn := Try.f19) (c := bodyC Try.f19) (by kernel_rfl) (by kernel_rfl) (by kernel_rfl) (K := fun o _ => o = .ret (.bool (decide (x = y)))) (It := fun E H => x.length = y.length ∧ H = (stSame x y 0).2 ∧ subER 2 [] [(1, .sl 1 0 9 0 y.length none), (0, .sl 0 0 9 0 x.length none)] E) (Eq.mpr (w_same_pre x y _ _) ?_) ?_ hR rfl
  · rw [branch_iff]
    refine ⟨fun h => ?_, fun h => ?_⟩
    · show Out.ret (.bool false) = Out.ret (.bool (decide (x = y)))
      simp only [Bool.not_eq_true', decide_eq_false_iff_not] at h
      have : ¬ x = y := fun e => h (by rw [e])
      rw [decide_eq_false this]
    · simp only [Bool.not_eq_false', decide_eq_true_eq] at h
      refine ⟨by omega, rfl, subER_cons rfl rfl rfl (subER_cons rfl rfl rfl subER_nil)⟩
  · rintro E H ⟨hl, rfl, hsub⟩ ρ0 w0 N ρ' a w' hN hS hE hd hn
    rw [same_code]
    refine @seqloop_sound ⟨[]⟩ _ TBok.ctx ρ0 _ w0 N 19 60 2 0 Try.f19 (bodyC Try.f19) _ _ _ (by kernel_rfl) (by kernel_rfl) ?_ (by kernel_rfl) hN _ (stSame x y) (Nat.le_refl _) (fun _ => Nat.le_refl _) (fun i => x.length - i) (fun i => i ≤ x.length ∧ x.take i = y.take i) _ E _ ?_ (fun i hi => ⟨_, fun _ _ _ h => h, same_round x y hl hm i hi⟩) _ _ _ hS hE hd hn
    · have : blocksC (bodyC Try.f19) = blocksC (tailN 2 (bodyC Try.f19)) := by kernel_rfl
      rw [this, ← same_code]; exact fun p hp => hp
    · refine Eq.mpr (w_same_start x y E _) ?_
      exact ⟨0, [], ⟨Nat.zero_le _, rfl⟩, by kernel_rfl, by kernel_rfl, subER_cons rfl rfl rfl (subER_cons (subER_get hsub 1 _ rfl).1 rfl rfl (subER_cons (subER_get hsub 0 _ rfl).1 rfl rfl subER_nil)), subHR_cons rfl rfl rfl rfl (subHR_cons rfl rfl rfl rfl subHR_nil)⟩

def rho2 (ρ : Rho) (b b' : Nat) : Rho := ⟨fun i => ρ.blk (if i = 0 then b else b'), fun i => ρ.off (if i = 0 then b else b'), fun i => ρ.cap (if i = 0 then b else b')⟩

theorem row_ro {ρ ρ' : Rho} {w : World} {b c : Nat} {e : TypeId} {T : RowTy} {l : List T.α} {md : RowMd} {x : List PieceR} (h : (ABlk.row e T l md).ok ρ w b) (hlt : ρ.blk b < w.heap.size) (hx : decP (T.flat l) = some x) (hz : T.sz = 9) (h1 : ρ'.blk c = ρ.blk b) (h2 : ρ'.off c = ρ.off b) (h3 : ρ'.cap c = ρ.cap b) : (ABlk.row 27 pieceRow x .ro).ok ρ' w c ∧ x.length ≤ 9223372036854775807 := by
  have hf := decP_eq _ _ _ (Nat.le_refl _) hx
  have hlen : l.length = x.length := by
    have a := flat_length T l
    have b := flat_length pieceRow x
    rw [hf, b, hz, show pieceRow.sz = 9 from rfl] at a
    omega
  obtain ⟨g1, g2⟩ := ABlk.ok_row h
  refine ⟨⟨by rw [h3]; omega, by rw [h3]; exact g2, by rw [h1]; exact hlt, fun i v hv => ?_⟩, ?_⟩
  · rw [h1, h2, row_cell h (by rw [hf]; exact hv)]
    have hd := flat_data pieceRow x
    rw [List.all_eq_true] at hd
    exact congrArg some (AVal.data_tr (hd v (List.mem_of_getElem? hv)) _ _)
  · have : maxLen ≤ 9223372036854775807 := by decide
    omega

theorem same_sound : FcSound Try.prog 19 fcSame := by
  refine ⟨Try.call19, ?_⟩
  intro args H v h ρ w N hH hargs
  have plain : ∀ {args' : List AVal} {H0 : AHeap} {ρ' : Rho} {b : Bool}, trL ρ args = trL ρ' args' → Rel ρ' H0 w → (∀ g, ¬ Owns ρ' H0 g) → (Calls Try.prog 19 (trL ρ' args').toArray w fun e w' => ∃ out H' ρ'', Out.rel ρ'' H'.next out e ∧ out = .ret (.bool b) ∧ Step ρ' H0 w ρ'' H' w') → Calls Try.prog 19 (trL ρ args).toArray w (fun e w' => e = .returned (tr ρ (.bool b)) ∧ Below w.heap.size w w') ∧ (AVal.bool b).under N = true := by
    intro args' H0 ρ' b ha hR ho hc
    refine ⟨?_, rfl⟩
    rw [ha]
    refine hc.mono ?_
    rintro e w' ⟨out, H', ρ'', h1, rfl, h3⟩
    cases e <;> simp only [Out.rel] at h1
    obtain ⟨rfl, _⟩ := h1
    exact ⟨rfl, h3.below (Nat.le_refl _) (fun g hg => absurd hg (ho g))⟩
  unfold fcSame at h
  split at h
  · simp only [Option.some.injEq, Prod.mk.injEq, true_and] at h
    subst h
    have hR : Rel ρ ⟨0, []⟩ w := rel_nil ρ w
    refine plain rfl hR (fun g hg => by obtain ⟨b, x, hx, _⟩ := hg; cases hx) ?_
    refine ((callC_ok TBok.ctx 60) _ _ _ _ (Eq.mpr (w_same_nn fun o => o = .ret (.bool true)) rfl) ρ w hR rfl).2
  · rename_i b i sz j n
    simp only [Option.some.injEq, Prod.mk.injEq, decide_eq_true_eq] at h
    obtain ⟨hn, rfl⟩ := h
    have hR : Rel ⟨fun _ => ρ.blk b, fun _ => ρ.off b + (i * sz + j), fun _ => ρ.cap b - i⟩ ⟨1, []⟩ w := ⟨fun b x hx => by simp [AHeap.get, getB] at hx, fun b b' x x' hx => by simp [AHeap.get, getB] at hx⟩
    refine plain (args' := [.nils, .sl 0 0 9 0 n none]) (by simp [trL, tr]) hR (fun g hg => by obtain ⟨b, x, hx, _⟩ := hg; cases hx) ?_
    refine ((callC_ok TBok.ctx 60) _ _ _ _ (Eq.mpr (w_same_ns n fun o => o = .ret (.bool false)) ?_) _ w hR rfl).2
    rw [branch_iff]
    refine ⟨fun _ => rfl, fun h => ?_⟩
    simp only [Bool.not_eq_false', decide_eq_true_eq] at h
    omega
  · rename_i b i sz j n
    simp only [Option.some.injEq, Prod.mk.injEq, decide_eq_true_eq] at h
    obtain ⟨hn, rfl⟩ := h
    have hR : Rel ⟨fun _ => ρ.blk b, fun _ => ρ.off b + (i * sz + j), fun _ => ρ.cap b - i⟩ ⟨1, []⟩ w := ⟨fun b x hx => by simp [AHeap.get, getB] at hx, fun b b' x x' hx => by simp [AHeap.get, getB] at hx⟩
    refine plain (args' := [.sl 0 0 9 0 n none, .nils]) (by simp [trL, tr]) hR (fun g hg => by obtain ⟨b, x, hx, _⟩ := hg; cases hx) ?_
    refine fn_cutN TBok.ctx (k := 2) (n := 60) (fn := Try.f19) (c := bodyC Try.f19) (by kernel_rfl) (by kernel_rfl) (by kernel_rfl) (K := fun o _ => o = .ret (.bool false)) (It := fun E H => False) (Eq.mpr (w_same_sn n _ _) ?_) (fun _ _ h => h.elim) hR rfl
    rw [branch_iff]
    refine ⟨fun _ => rfl, fun h => ?_⟩
    simp only [Bool.not_eq_false', decide_eq_true_eq] at h
    omega
  · rename_i b i sz j n b' i' sz' j' n'
    split at h
    · rename_i e T l md e' T' l' md' hb hb'
      simp only [Option.some.injEq, Prod.mk.injEq, Bool.and_eq_true, nat_beq_eq] at h
      obtain ⟨⟨⟨⟨⟨⟨⟨rfl, rfl⟩, rfl⟩, rfl⟩, rfl⟩, rfl⟩, hok⟩, rfl⟩ := h
      unfold sameOk at hok
      split at hok
      · rename_i x y hx hy
        simp only [Bool.and_eq_true, nat_beq_eq] at hok
        obtain ⟨⟨⟨z1, z2⟩, rfl⟩, rfl⟩ := hok
        obtain ⟨_, k1, k2⟩ := hH b _ hb
        obtain ⟨_, k3, k4⟩ := hH b' _ hb'
        obtain ⟨r1, hm⟩ := row_ro (c := 0) (ρ' := rho2 ρ b b') k2 k1 hx z1 rfl rfl rfl
        obtain ⟨r2, _⟩ := row_ro (c := 1) (ρ' := rho2 ρ b b') k4 k3 hy z2 rfl rfl rfl
        have get : ∀ c q, AHeap.get ⟨2, [(1, .row 27 pieceRow y .ro), (0, .row 27 pieceRow x .ro)]⟩ c = some q → (c = 1 ∧ q = .row 27 pieceRow y .ro) ∨ (c = 0 ∧ q = .row 27 pieceRow x .ro) := by
          intro c q hq
          unfold AHeap.get getB getB getB at hq
          split at hq
          · rename_i hc; exact .inl ⟨(nat_beq_eq.1 hc).symm, by cases hq; rfl⟩
          · split at hq
            · rename_i hc; exact .inr ⟨(nat_beq_eq.1 hc).symm, by cases hq; rfl⟩
            · cases hq
        have hR : Rel (rho2 ρ b b') ⟨2, [(1, .row 27 pieceRow y .ro), (0, .row 27 pieceRow x .ro)]⟩ w := by
          refine ⟨fun c q hq => ?_, fun c c' q q' hq hq' ho => ?_⟩
          · rcases get c q hq with ⟨rfl, rfl⟩ | ⟨rfl, rfl⟩
            · exact ⟨Nat.lt_succ_self 1, rfl, k3, r2⟩
            · exact ⟨Nat.succ_pos 1, rfl, k1, r1⟩
          · rcases get c q hq with ⟨rfl, rfl⟩ | ⟨rfl, rfl⟩ <;> cases ho
        have hv : sameV T l T' l' = decide (x = y) := by
          unfold sameV
          rw [hx, hy]
          simp
        rw [hv]
        refine plain (args' := [.sl 0 0 9 0 x.length none, .sl 1 0 9 0 y.length none]) (by simp [trL, tr, rho2]) hR ?_ (same_rows x y hm _ w hR)
        rintro g ⟨c, q, hq, ho, _⟩
        rcases get c q hq with ⟨rfl, rfl⟩ | ⟨rfl, rfl⟩ <;> cases ho
      · cases hok
    · cases h
  · cases h

noncomputable def TS : Tabs := (TB.addFc 19 fcSame)
theorem TSok : TabsOk TS Try.prog := (TBok.addFc same_sound)

end Go.Proofs.Ytcbkenicjmhkdaa
