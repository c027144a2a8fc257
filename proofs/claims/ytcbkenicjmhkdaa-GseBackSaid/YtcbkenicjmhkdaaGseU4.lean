/-
  Pieces come back: the rounds.
-/
import Derived.Test.YtcbkenicjmhkdaaGseU3
namespace Go.Proofs.Ytcbkenicjmhkdaa
set_option linter.unusedVariables false
set_option linter.unusedSimpArgs false
open Go.RowKit Ev

noncomputable abbrev backLoop : Code := lpC (blkC (seqR (seqL (tailN 4 (bodyC Try.f6)))))
noncomputable abbrev backRest : Code := seqR (tailN 4 (bodyC Try.f6))
def backK : Out → Prop := fun o => o = .ret (.bool true)

noncomputable abbrev qBl : AExit → Env → AHeap → Prop := fun X E H => match X with
  | .exit i => i = 0 ∧ ∃ E1 H1 σ, 1 ≤ H1.next ∧ sigOk 1 σ = true ∧ sigInj σ H1.bs = true ∧ subER H1.next σ E1 E ∧ subHR H1.next σ H1.bs H ∧ wpC (TS.ctx Try.prog) 100 6 1 backRest E1 H1 (qBk backK)
  | .ret => qBk backK .ret E H
  | _ => False

set_option maxRecDepth 100000 in
theorem bround (hs : List PieceR) (zeros : Int) (z0 : 0 ≤ zeros) (z1 : zeros ≤ 255) (x : SBk) (hT : tBk hs x) :
    wpC (TS.ctx Try.prog) 100 6 1 backLoop (stBk hs zeros x).1 (stBk hs zeros x).2 (RoundC 1 (stBk hs zeros) (fun x => 40 - x.1) (tBk hs) x qBl) := by
  obtain ⟨i, S, G⟩ := x
  have rest := brest_true hT zeros z0 z1
  have hT' := hT
  obtain ⟨t1, t2, t3, t4⟩ := hT'
  simp only at t1 t2 t3 t4
  cases G with
  | nil =>
    have ex : ∀ E : Env, getE E 6 = some .nils → getE E 5 = some (.str S) → getE E 1 = some (.int .u8 zeros) → RoundC 1 (stBk hs zeros) (fun x => 40 - x.1) (tBk hs) (i, S, []) qBl (.exit 0) E ⟨2, [(0, .row 27 pieceRow hs .ro)]⟩ := fun E e6 e5 e1 =>
      ⟨rfl, _, _, [], Nat.le_succ 1, rfl, rfl, subER_cons e6 rfl rfl (subER_cons e5 rfl rfl (subER_cons e1 rfl rfl subER_nil)), subHR_nil, rest⟩
    refine Eq.mpr (w_bround_nil hs zeros S i _) ?_
    generalize hq : hs.getD (0 + (i : Int).toNat) ⟨false, false, 0, 0, 0, 0, [], [], []⟩ = q
    rw [branch_iff]
    refine ⟨fun hlt => ?_, fun hlt => ex _ rfl rfl rfl⟩
    rw [branch_iff]
    refine ⟨fun h40 => ?_, fun hlt => ex _ rfl rfl rfl⟩
    have hlt := of_decide_eq_true hlt
    have h40 := of_decide_eq_true h40
    obtain ⟨n1, n2, n3, n4⟩ := tBk_next hT (by omega) (by omega) hq
    have b1 : (q.lb.take 20).length ≤ 20 := by simp; omega
    have b2 : (q.data.take 4500).length ≤ 4500 := by simp; omega
    have b3 : (q.sum.take 20).length ≤ 20 := by simp; omega
    rw [obl_iff, decide_eq_true_eq, obl_iff, decide_eq_true_eq, obl_iff, decide_eq_true_eq]
    refine ⟨by omega, by omega, by omega, ?_⟩
    rw [branch_iff]
    refine ⟨fun hE => ?_, fun hE => ?_⟩
    · have hE : errP (cutP q) = 0 := of_decide_eq_true hE
      have le := encP_len hE
      rw [obl_iff, decide_eq_true_eq, obl_iff, decide_eq_true_eq, obl_iff, decide_eq_true_eq, obl_iff, inI64_iff]
      refine ⟨?_, by omega, by omega, by omega, (i + 1, S ++ encP (cutP q), [cutP q]), [(1, 3)], by show 40 - (i + 1) < 40 - i; omega, n3 hE, by kernel_rfl, by kernel_rfl, ?_, ?_⟩
      · show ((S.length + (encP (cutP q)).length : Nat) : Int) ≤ 9223372036854775807
        omega
      · exact subER_cons rfl rfl rfl (subER_cons rfl rfl rfl (subER_cons rfl rfl rfl (subER_cons rfl rfl rfl (subER_cons rfl rfl rfl subER_nil))))
      · exact subHR_cons rfl rfl rfl rfl (subHR_cons rfl rfl rfl rfl subHR_nil)
    · have hE : errP (cutP q) ≠ 0 := of_decide_eq_false hE
      have hnil : encP (cutP q) = [] := by unfold encP gEnc; exact if_neg hE
      rw [branch_iff]
      refine ⟨fun h => ?_, fun _ => ?_⟩
      · have h' : (!decide (encP (cutP q) = [])) = true := h
        rw [decide_eq_true hnil] at h'; cases h'
      rw [obl_iff, decide_eq_true_eq, obl_iff, decide_eq_true_eq, obl_iff, decide_eq_true_eq]
      refine ⟨by omega, by omega, by omega, ?_⟩
      rw [branch_iff]
      refine ⟨fun h => ?_, fun _ => ?_⟩
      · have h' : (!decide (errP (cutP q) = errP (cutP q))) = true := h
        rw [decide_eq_true rfl] at h'; cases h'
      rw [obl_iff, inI64_iff]
      refine ⟨by omega, (i + 1, S, []), [], by show 40 - (i + 1) < 40 - i; omega, n4 hE, by kernel_rfl, by kernel_rfl, ?_, ?_⟩
      · exact subER_cons rfl rfl rfl (subER_cons rfl rfl rfl (subER_cons rfl rfl rfl (subER_cons rfl rfl rfl (subER_cons rfl rfl rfl subER_nil))))
      · exact subHR_cons rfl rfl rfl rfl subHR_nil
  | cons p G =>
    have ex : ∀ E : Env, getE E 6 = some (.sl 1 0 9 0 (p :: G).length none) → getE E 5 = some (.str S) → getE E 1 = some (.int .u8 zeros) → RoundC 1 (stBk hs zeros) (fun x => 40 - x.1) (tBk hs) (i, S, p :: G) qBl (.exit 0) E ⟨2, [(1, .row 27 pieceRow (p :: G) .plain), (0, .row 27 pieceRow hs .ro)]⟩ := fun E e6 e5 e1 =>
      ⟨rfl, _, _, [], Nat.le_succ 1, rfl, rfl, subER_cons e6 rfl rfl (subER_cons e5 rfl rfl (subER_cons e1 rfl rfl subER_nil)), subHR_cons rfl rfl rfl rfl subHR_nil, rest⟩
    refine Eq.mpr (w_bround_cons hs zeros S i (p :: G) _) ?_
    generalize hq : hs.getD (0 + (i : Int).toNat) ⟨false, false, 0, 0, 0, 0, [], [], []⟩ = q
    rw [branch_iff]
    refine ⟨fun hlt => ?_, fun hlt => ex _ rfl rfl rfl⟩
    rw [branch_iff]
    refine ⟨fun h40 => ?_, fun hlt => ex _ rfl rfl rfl⟩
    have hlt := of_decide_eq_true hlt
    have h40 := of_decide_eq_true h40
    obtain ⟨n1, n2, n3, n4⟩ := tBk_next hT (by omega) (by omega) hq
    have b1 : (q.lb.take 20).length ≤ 20 := by simp; omega
    have b2 : (q.data.take 4500).length ≤ 4500 := by simp; omega
    have b3 : (q.sum.take 20).length ≤ 20 := by simp; omega
    rw [obl_iff, decide_eq_true_eq, obl_iff, decide_eq_true_eq, obl_iff, decide_eq_true_eq]
    refine ⟨by omega, by omega, by omega, ?_⟩
    rw [branch_iff]
    refine ⟨fun hE => ?_, fun hE => ?_⟩
    · have hE : errP (cutP q) = 0 := of_decide_eq_true hE
      have le := encP_len hE
      rw [obl_iff, decide_eq_true_eq, obl_iff, decide_eq_true_eq, obl_iff, decide_eq_true_eq, obl_iff, Bool.true_and, decide_eq_true_eq, obl_iff, inI64_iff]
      refine ⟨?_, by omega, by omega, ?_, by omega, (i + 1, S ++ encP (cutP q), p :: (G ++ [cutP q])), [(1, 3)], by show 40 - (i + 1) < 40 - i; omega, n3 hE, by kernel_rfl, by kernel_rfl, ?_, ?_⟩
      · show ((S.length + (encP (cutP q)).length : Nat) : Int) ≤ 9223372036854775807
        omega
      · simp only [List.length_cons, List.length_append, List.length_nil] at n1 ⊢
        (repeat' apply And.intro) <;> first | omega | rfl | decide
      · exact subER_cons rfl rfl rfl (subER_cons rfl rfl rfl (subER_cons rfl rfl rfl (subER_cons rfl rfl rfl (subER_cons rfl rfl rfl subER_nil))))
      · exact subHR_cons rfl rfl rfl rfl (subHR_cons rfl rfl rfl rfl subHR_nil)
    · have hE : errP (cutP q) ≠ 0 := of_decide_eq_false hE
      have hnil : encP (cutP q) = [] := by unfold encP gEnc; exact if_neg hE
      rw [branch_iff]
      refine ⟨fun h => ?_, fun _ => ?_⟩
      · have h' : (!decide (encP (cutP q) = [])) = true := h
        rw [decide_eq_true hnil] at h'; cases h'
      rw [obl_iff, decide_eq_true_eq, obl_iff, decide_eq_true_eq, obl_iff, decide_eq_true_eq]
      refine ⟨by omega, by omega, by omega, ?_⟩
      rw [branch_iff]
      refine ⟨fun h => ?_, fun _ => ?_⟩
      · have h' : (!decide (errP (cutP q) = errP (cutP q))) = true := h
        rw [decide_eq_true rfl] at h'; cases h'
      rw [obl_iff, inI64_iff]
      refine ⟨by omega, (i + 1, S, p :: G), [], by show 40 - (i + 1) < 40 - i; omega, n4 hE, by kernel_rfl, by kernel_rfl, ?_, ?_⟩
      · exact subER_cons rfl rfl rfl (subER_cons rfl rfl rfl (subER_cons rfl rfl rfl (subER_cons rfl rfl rfl (subER_cons rfl rfl rfl subER_nil))))
      · exact subHR_cons rfl rfl rfl rfl (subHR_cons rfl rfl rfl rfl subHR_nil)

theorem back_code : tailN 4 (bodyC Try.f6) = .seq (.seq (seqL (seqL (tailN 4 (bodyC Try.f6)))) (.block 0 (.loop backLoop))) backRest := by kernel_rfl

theorem back_true (hs : List PieceR) (zeros : Int) (z0 : 0 ≤ zeros) (z1 : zeros ≤ 255) (ρ : Rho) (w : World) (hR : Rel ρ ⟨1, [(0, .row 27 pieceRow hs .ro)]⟩ w) :
    Calls Try.prog 6 (trL ρ [.sl 0 0 9 0 hs.length none, .int .u8 zeros]).toArray w fun e w' => e = .returned (.bool true) ∧ Below w.heap.size w w' := by
  have main : Calls Try.prog 6 (trL ρ [.sl 0 0 9 0 hs.length none, .int .u8 zeros]).toArray w fun e w' => ∃ out H' ρ', Out.rel ρ' H'.next out e ∧ backK out ∧ Step ρ ⟨1, [(0, .row 27 pieceRow hs .ro)]⟩ w ρ' H' w' := by
    refine fn_cutN TSok.ctx (k := 4) (n := 100) (fn := Try.f6) (c := bodyC Try.f6) (by kernel_rfl) (by kernel_rfl) (by kernel_rfl) (K := fun o _ => backK o) (It := fun E H => H = ⟨1, [(0, .row 27 pieceRow hs .ro)]⟩ ∧ subER 1 [] [(6, .nils), (5, .str []), (1, .int .u8 zeros), (0, .sl 0 0 9 0 hs.length none)] E) (Eq.mpr (w_bpre hs zeros _ _) ?_) ?_ hR rfl
    · exact ⟨rfl, subER_cons rfl rfl rfl (subER_cons rfl rfl rfl (subER_cons rfl rfl rfl (subER_cons rfl rfl rfl subER_nil)))⟩
    · rintro E H ⟨rfl, hsub⟩ ρ0 w0 N ρ' a w' hN hS hE hd hn
      rw [back_code]
      refine @seqloopR_sound ⟨[]⟩ _ TSok.ctx ρ0 _ w0 N 6 100 1 0 Try.f6 (bodyC Try.f6) _ _ _ (by kernel_rfl) (by kernel_rfl) ?_ (by kernel_rfl) hN _ (stBk hs zeros) (Nat.le_refl _) (fun x => by obtain ⟨i, S, G⟩ := x; cases G <;> exact (by decide : 1 ≤ 2)) (fun x => 40 - x.1) (tBk hs) _ E _ ?_ (fun x hx => ⟨_, fun _ _ _ h => h, bround hs zeros z0 z1 x hx⟩) _ _ _ hS hE hd hn
      · have : ∃ l, blocksC (bodyC Try.f6) = l ++ blocksC (tailN 4 (bodyC Try.f6)) := ⟨[], by kernel_rfl⟩
        obtain ⟨l, hl⟩ := this
        rw [hl, ← back_code]; exact fun p hp => List.mem_append_right _ hp
      · refine Eq.mpr (w_bstart hs E _) ?_
        exact ⟨(0, [], []), [], ⟨Nat.zero_le _, Nat.zero_le _, rfl, rfl⟩, by kernel_rfl, by kernel_rfl, subER_cons rfl rfl rfl (subER_cons (subER_get hsub 6 _ rfl).1 rfl rfl (subER_cons (subER_get hsub 5 _ rfl).1 rfl rfl (subER_cons (subER_get hsub 1 _ rfl).1 rfl rfl (subER_cons (subER_get hsub 0 _ rfl).1 rfl rfl subER_nil)))), subHR_cons rfl rfl rfl rfl subHR_nil⟩
  refine main.mono ?_
  rintro e w' ⟨out, H', ρ', h1, rfl, h3⟩
  cases e <;> simp only [Out.rel] at h1
  obtain ⟨rfl, _⟩ := h1
  refine ⟨rfl, h3.below (Nat.le_refl _) (fun g hg => ?_)⟩
  obtain ⟨b, x, hx, ho, _⟩ := hg
  obtain ⟨rfl, hx⟩ := get_one hx
  cases (show some (ABlk.row 27 pieceRow hs .ro) = some x from hx)
  cases ho

end Go.Proofs.Ytcbkenicjmhkdaa
