/-
  Pieces come back: the loop, and what stands behind it.
-/
import Derived.Test.YtcbkenicjmhkdaaGseU2
import Derived.Test.YtcbkenicjmhkdaaGseUMath
namespace Go.Proofs.Ytcbkenicjmhkdaa
set_option linter.unusedVariables false
set_option linter.unusedSimpArgs false
open Go.RowKit Ev

def cutP (p : PieceR) : PieceR := ⟨p.st, p.en, p.id, p.total, p.typ, p.k, p.lb.take 20, p.data.take 4500, p.sum.take 20⟩
def goodL (l : List PieceR) : List PieceR := (l.map cutP).filter fun p => decide (errP p = 0)

theorem goodL_all (l : List PieceR) : ∀ p ∈ goodL l, errP p = 0 := by
  intro p hp
  have := (List.mem_filter.1 hp).2
  exact of_decide_eq_true this
theorem goodL_len (l : List PieceR) : (goodL l).length ≤ l.length := by
  unfold goodL
  exact Nat.le_trans (List.length_filter_le _ _) (by rw [List.length_map]; exact Nat.le_refl _)
theorem goodL_snoc (l : List PieceR) (q : PieceR) : goodL (l ++ [q]) = goodL l ++ (if errP (cutP q) = 0 then [cutP q] else []) := by
  unfold goodL
  rw [List.map_append, List.filter_append]
  congr 1
  by_cases h : errP (cutP q) = 0
  · simp [h]
  · simp [h]
theorem enc_len : ∀ G : List PieceR, (∀ p ∈ G, errP p = 0) → (G.flatMap encP).length ≤ 4097 * G.length
  | [], _ => Nat.zero_le _
  | p :: G, h => by
    have h1 := encP_len (h p (List.mem_cons_self ..))
    have h2 := enc_len G (fun q hq => h q (List.mem_cons_of_mem _ hq))
    rw [List.flatMap_cons, List.length_append, List.length_cons]
    omega

abbrev SBk := Nat × List UInt8 × List PieceR
def stBk (hs : List PieceR) (zeros : Int) (x : SBk) : Env × AHeap := match x.2.2 with
  | [] => ([(7, .int .i64 x.1), (6, .nils), (5, .str x.2.1), (1, .int .u8 zeros), (0, .sl 0 0 9 0 hs.length none)], ⟨2, [(0, .row 27 pieceRow hs .ro)]⟩)
  | p :: G => ([(7, .int .i64 x.1), (6, .sl 1 0 9 0 (p :: G).length none), (5, .str x.2.1), (1, .int .u8 zeros), (0, .sl 0 0 9 0 hs.length none)], ⟨2, [(1, .row 27 pieceRow (p :: G) .plain), (0, .row 27 pieceRow hs .ro)]⟩)
def tBk (hs : List PieceR) (x : SBk) : Prop := x.1 ≤ hs.length ∧ x.1 ≤ 40 ∧ x.2.2 = goodL (hs.take x.1) ∧ x.2.1 = x.2.2.flatMap encP

theorem tBk_next {hs : List PieceR} {i : Nat} {S : List UInt8} {G : List PieceR} (h : tBk hs (i, S, G)) (h1 : i < hs.length) (h2 : i < 40) {q : PieceR} (hq : hs.getD (0 + (i : Int).toNat) ⟨false, false, 0, 0, 0, 0, [], [], []⟩ = q) :
    G.length ≤ i ∧ S.length ≤ 4097 * i ∧ (errP (cutP q) = 0 → tBk hs (i + 1, S ++ encP (cutP q), G ++ [cutP q])) ∧ (errP (cutP q) ≠ 0 → tBk hs (i + 1, S, G)) := by
  obtain ⟨t1, t2, t3, t4⟩ := h
  simp only at t1 t2 t3 t4
  have hq' : hs[i] = q := by rw [← hq]; simp [h1]
  have g := goodL_len (hs.take i)
  have e := enc_len _ (goodL_all (hs.take i))
  rw [List.length_take] at g
  rw [← t3] at g e
  rw [← t4] at e
  refine ⟨by omega, by omega, fun h0 => ⟨h1, h2, ?_, ?_⟩, fun h0 => ⟨h1, h2, ?_, t4⟩⟩
  · simp only
    rw [List.take_succ_eq_append_getElem h1, goodL_snoc, hq', if_pos h0, ← t3]
  · simp only
    rw [t4, List.flatMap_append]; simp
  · simp only
    rw [List.take_succ_eq_append_getElem h1, goodL_snoc, hq', if_neg h0, List.append_nil, t3]

noncomputable abbrev qBk (K : Out → Prop) : AExit → Env → AHeap → Prop := endA (TS.ctx Try.prog).P Try.f6 (fun o _ => K o)

theorem brest_true {hs : List PieceR} {i : Nat} {S : List UInt8} {G : List PieceR} (h : tBk hs (i, S, G)) (zeros : Int) (z0 : 0 ≤ zeros) (z1 : zeros ≤ 255) : wpC (TS.ctx Try.prog) 100 6 1 (seqR (tailN 4 (bodyC Try.f6)))
    [(6, match G with | [] => .nils | _ => .sl 1 0 9 0 G.length none), (5, .str S), (1, .int .u8 zeros)] ⟨2, match G with | [] => [] | _ => [(1, .row 27 pieceRow G .plain)]⟩ (qBk (fun o => o = .ret (.bool true))) := by
  obtain ⟨t1, t2, t3, t4⟩ := h
  simp only at t1 t2 t3 t4
  have hg : ∀ p ∈ G, errP p = 0 := by rw [t3]; exact goodL_all _
  have g := goodL_len (hs.take i)
  have e := enc_len G hg
  rw [List.length_take, ← t3] at g
  rw [← t4] at e
  have r : (repN zeros.toNat (0 : UInt8)).length = zeros.toNat := by rw [repN_eq, List.length_replicate]
  have hx : List.take zeros.toNat (List.drop (0 : Nat) (repN zeros.toNat (0 : UInt8))) = repN zeros.toNat (0 : UInt8) := by
    rw [List.drop_zero, List.take_of_length_le (by omega)]
  obtain ⟨a1, a2⟩ := all_back (rest := repN zeros.toNat (0 : UInt8)) G hg
  obtain ⟨a3, a4⟩ := all_back (rest := [16]) G hg
  rw [(all_zeros _).1, List.append_nil] at a1
  rw [(all_zeros _).2] at a2
  rw [all_tail.1, List.append_nil] at a3
  rw [all_tail.2] at a4
  rw [← t4] at a1 a2 a3 a4
  have l1 : (S ++ repN zeros.toNat (0 : UInt8)).length ≤ 1000000 := by rw [List.length_append, r]; omega
  have l2 : (S ++ [16]).length ≤ 1000000 := by rw [List.length_append]; simp; omega
  cases G with
  | nil =>
    refine Eq.mpr (w_brest_nil zeros S _) ?_
    rw [hx, a1, a2, a3, a4]
    generalize S ++ repN zeros.toNat (0 : UInt8) = A at l1
    generalize S ++ [16] = B at l2
    simp only [obl_iff, branch_iff, inI64_iff, decide_eq_true_eq, decide_eq_false_iff_not, List.isEmpty_nil, r]
    (repeat' (first | apply And.intro | intro _)) <;> first | omega | trivial | (rename_i h; exact absurd rfl h) | simp_all
  | cons p G =>
    refine Eq.mpr (w_brest_cons zeros S (p :: G) _) ?_
    rw [hx, a1, a2, a3, a4, sameOk_rows, sameV_rows, decide_eq_true rfl]
    generalize S ++ repN zeros.toNat (0 : UInt8) = A at l1
    generalize S ++ [16] = B at l2
    simp only [obl_iff, branch_iff, inI64_iff, decide_eq_true_eq, decide_eq_false_iff_not, List.isEmpty_cons, r]
    (repeat' (first | apply And.intro | intro _)) <;> first | omega | trivial | (rename_i h; exact absurd rfl h) | simp_all

theorem bnil_true (zeros : Int) (z0 : 0 ≤ zeros) (z1 : zeros ≤ 255) : LawT (TS.ctx Try.prog) 6 [.nils, .int .u8 zeros] := by
  refine ⟨?_⟩
  rw [w_bnil]
  have r : (repN zeros.toNat (0 : UInt8)).length = zeros.toNat := by rw [repN_eq, List.length_replicate]
  have hx : List.take zeros.toNat (List.drop (0 : Nat) (repN zeros.toNat (0 : UInt8))) = repN zeros.toNat (0 : UInt8) := by
    rw [List.drop_zero, List.take_of_length_le (by omega)]
  rw [hx, List.nil_append, (all_zeros _).1, (all_zeros _).2]
  simp only [obl_iff, branch_iff, inI64_iff, decide_eq_true_eq, decide_eq_false_iff_not, List.isEmpty_nil, r]
  (repeat' (first | apply And.intro | intro _)) <;> first | omega | trivial | (rename_i h; exact absurd rfl h) | simp_all

end Go.Proofs.Ytcbkenicjmhkdaa
