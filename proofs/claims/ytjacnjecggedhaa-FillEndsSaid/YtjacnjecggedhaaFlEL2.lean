/-
  Fields of a source that answers what it likes: the contract.
-/
import Derived.Test.YtjacnjecggedhaaFlEL
namespace Go.Proofs.Ytjacnjecggedhaa
set_option linter.unusedVariables false
set_option linter.unusedSimpArgs false
open Go.RowKit Ev

/-- Ahead of a round of the outer loop. -/
def oOut (o : OddS) (m : Nat) (E : Env) (H : AHeap) : Prop :=
  (m = 8000 ∧ E = (o00 o 1 (o14 true)).1 ∧ H = (o00 o 1 (o14 true)).2) ∨
  (∃ k beg sm, m = 8000 - k ∧ o.last = true ∧ OddJ o k ∧ (sm = true → o.again = true) ∧ (sm = false → o.again = false ∧ k = 1) ∧ E = (o11 o (k + 1) k beg (repL k (oT o)) (List.replicate k 9) (o14 sm)).1 ∧ H = (o11 o (k + 1) k beg (repL k (oT o)) (List.replicate k 9) (o14 sm)).2)
def oQo (o : OddS) : AExit → Env → AHeap → Prop := fun x E H => match x with
  | .exit 0 => oFin o E H
  | _ => False

theorem fillO_eq : fillO = .seq (seqL fillO) (.seq (.block 1 (.block 2 (.loop fillL))) (seqR (seqR fillO))) := by kernel_rfl

set_option maxRecDepth 100000 in
/-- From the inner loop to the outer one's next round. -/
theorem o_rest (o : OddS) (hb : OddB o) (hsp : 1 ≤ o.sp) (k0 m m0 : Nat) (hm0 : m0 = 8000 - k0) (E : Env) (H : AHeap) (hI : oIn o k0 m E H) :
    FGd o (.seq (.block 1 (.block 2 (.loop fillL))) (seqR (seqR fillO))) (fun x E H => match x with
      | .normal => ∃ m', m' < m0 ∧ oOut o m' E H
      | x => oQo o x E H) E H := by
  refine Gd.seq (Gd.block (Gd.block (Gd.mono (o_inner o hb hsp k0 m E H hI) (fun x E H h => ?_))))
  unfold oQi at h
  split at h
  · exact h
  · obtain ⟨k, beg, hk, hl, hJ, hone, rfl, rfl⟩ := h
    have hsm := hJ.small hb
    refine Gd.walkC TFok.ctx 1 ts14 (Nat.le_refl _) (fIn [true, false, true, true, true, true, true, false, true, false, false, true, true]) (Eq.mpr (w_o8_11 o k k beg _ _ _) ?_)
    rw [obl_iff, inI64_iff, branch_iff]
    refine ⟨by omega, fun ha => ⟨8000 - k, by omega, .inr ⟨k, beg, true, rfl, hl, hJ, fun _ => ha, fun h => (by cases h), rfl, rfl⟩⟩, fun ha => ?_⟩
    have e : decide ((k : Int) + 1 = 1) = false := decide_eq_false (by have := hJ.k1; omega)
    rw [e]
    exact ⟨8000 - k, by omega, .inr ⟨k, beg, false, rfl, hl, hJ, fun h => (by cases h), fun _ => ⟨ha, hone ha⟩, rfl, rfl⟩⟩
  · exact h.elim

set_option maxRecDepth 100000 in
theorem o_outer (o : OddS) (hb : OddB o) (hsp : 1 ≤ o.sp) : ∀ m E H, oOut o m E H → FGd o (.loop fillO) (oQo o) E H := by
  refine Gd.loop (oOut o) (fun m E H hI => ?_)
  rw [fillO_eq]
  rcases hI with ⟨hm, rfl, rfl⟩ | ⟨k, beg, sm, hm, hl, hJ, h1, h2, rfl, rfl⟩
  · refine Gd.seq (Gd.walkC TFok.ctx 1 ts13 (Nat.le_refl _) (fIn [true, false, true, true, true, true, true, false, true, false, false, false]) (Eq.mpr (w_o7_00 o 1 true _) ?_))
    rw [branch_iff]
    exact ⟨fun _ => o_rest o hb hsp 0 8000 m (by omega) _ _ (.inl ⟨rfl, rfl, rfl, rfl⟩), fun h => by cases h⟩
  · refine Gd.seq (Gd.walkC TFok.ctx 1 ts13 (Nat.le_refl _) (fIn [true, false, true, true, true, true, true, false, true, false, false, false]) (Eq.mpr (w_o7_11 o (k + 1) k beg _ _ sm _) ?_))
    have hsm := hJ.small hb
    rw [branch_iff]
    refine ⟨fun h => o_rest o hb hsp k (8000 - k) m hm _ _ (.inr (.inr ⟨k, beg, Nat.le_refl _, rfl, hl, h1 h, hJ, rfl, rfl⟩)), fun h => .inr (.inr ?_)⟩
    obtain ⟨ha, rfl⟩ := h2 h
    exact ⟨1, beg, hl, hJ, hJ.once ⟨hl, ha⟩, rfl, rfl⟩

/-- What comes of it. -/
def oRes (o : OddS) (K : Out → AHeap → Prop) : Prop :=
  branch (decide (oddSent o = 0)) (K (.ret (.tup [.str (repL (oddK o) (oT o)), .nils])) ⟨1, [(0, oddB o.p o.last o.again (oddN o))]⟩)
    (K (.ret (.tup [.str (repL (oddK o) (oT o)), .sl 1 0 1 0 (oddSent o) none])) ⟨2, [(0, oddB o.p o.last o.again (oddN o)), (1, sRow (List.replicate (oddSent o) 9))]⟩)

theorem oRes_nil {o : OddS} {K : Out → AHeap → Prop} (h : oRes o K) (hs : oddSent o = 0) : K (.ret (.tup [.str (repL (oddK o) (oT o)), .nils])) ⟨1, [(0, oddB o.p o.last o.again (oddN o))]⟩ := (branch_iff.1 h).1 (decide_eq_true hs)
theorem oRes_cons {o : OddS} {K : Out → AHeap → Prop} (h : oRes o K) (hs : oddSent o ≠ 0) : K (.ret (.tup [.str (repL (oddK o) (oT o)), .sl 1 0 1 0 (oddSent o) none])) ⟨2, [(0, oddB o.p o.last o.again (oddN o)), (1, sRow (List.replicate (oddSent o) 9))]⟩ := (branch_iff.1 h).2 (decide_eq_false hs)

theorem fillB_eq : fillB = .seq (codeAt [false] fillB) (.scope fillI) := by kernel_rfl
theorem fillI_eq : fillI = .seq (seqL fillI) (seqR fillI) := by kernel_rfl
theorem fillT_eq : tailN 4 (seqR fillI) = .seq (.seq (seqL (seqL (tailN 5 fillI))) (.block 0 (.loop fillO))) (seqR (tailN 5 fillI)) := by kernel_rfl

set_option maxRecDepth 100000 in
theorem o_end (o : OddS) (hb : OddB o) (hsp : 1 ≤ o.sp) (K : Out → AHeap → Prop) (hK : oRes o K) (E : Env) (H : AHeap) (h : oFin o E H) : FGd o (seqR (tailN 5 fillI)) (endA (TF.ctx Try.prog).P Try.f9 K) E H := by
  have hn1 : oddSent o = 0 → oddN o = 1 := fun h => by unfold oddN; rw [if_neg (by omega), h]; rfl
  rcases h with ⟨hk, rfl, rfl⟩ | ⟨k, beg, hl, hJ, hk, rfl, rfl⟩ | ⟨k, beg, hl, hJ, hk, rfl, rfl⟩
  · refine Gd.walkC TFok.ctx 1 ts89 (Nat.le_refl _) (fIn [true, false, true, true, true, true, true, true]) (Eq.mpr (w_o9_00 o 1 K) ?_)
    have hs : oddSent o = 0 := by unfold oddSent; rw [hk]; split <;> rfl
    have := oRes_nil hK hs
    rw [hn1 hs, hk] at this
    exact this
  · refine Gd.walkC TFok.ctx 1 ts89 (Nat.le_refl _) (fIn [true, false, true, true, true, true, true, true]) (Eq.mpr (w_o9_10 o 1 k beg _ K) ?_)
    have hs : oddSent o = 0 := by unfold oddSent; rw [hl]; rfl
    have := oRes_nil hK hs
    rw [hn1 hs, hk] at this
    rw [obl_iff, decide_eq_true_eq, List.drop_zero, List.take_length]
    exact ⟨by omega, this⟩
  · refine Gd.walkC TFok.ctx 1 ts89 (Nat.le_refl _) (fIn [true, false, true, true, true, true, true, true]) (Eq.mpr (w_o9_11 o (k + 1) k beg _ _ K) ?_)
    have hs : oddSent o = k := by unfold oddSent; rw [hl, hk]; rfl
    have hk1 := hJ.k1
    have hn : oddN o = (k : Int) + 1 := by unfold oddN; rw [if_neg (by omega), hs]
    have := oRes_cons hK (by omega)
    rw [hn, hk, hs] at this
    rw [obl_iff, decide_eq_true_eq, List.drop_zero, List.take_length, List.length_replicate]
    exact ⟨by omega, this⟩

set_option maxRecDepth 100000 in
theorem o_fill (o : OddS) (hb : OddB o) (K : Out → AHeap → Prop) (hK : oRes o K) : FGd o fillB (endA (TF.ctx Try.prog).P Try.f9 K) (env0 (oddA o.sp) 0) ⟨1, [(0, oddB o.p o.last o.again 0)]⟩ := by
  rw [fillB_eq]
  refine Gd.seq (Gd.walkC TFok.ctx 1 ts0 (Nat.le_refl _) (fIn [false]) (Eq.mpr (w_oe0 o.p o.last o.again o.sp _) ?_))
  refine Gd.scope ?_
  rw [fillI_eq]
  refine Gd.seq (Gd.mono (Gd.walkC TFok.ctx (Q := qRet (endA (TF.ctx Try.prog).P Try.f9 K) (fun x E H => match x with
    | .normal => FGd o (seqR fillI) (endA (TF.ctx Try.prog).P Try.f9 K) E H
    | _ => False)) 1 tsA (Nat.le_refl _) (fIn [true, false, false]) (Eq.mpr (w_oe1 o.p o.last o.again o.sp K _) ?_)) (fun x E H h => ?_))
  rotate_left
  · cases x <;> first | exact h | exact h.elim
  rw [branch_iff]
  refine ⟨fun h => ?_, fun h => ?_⟩
  · have hsp : o.sp < 1 := of_decide_eq_true h
    have hk0 : oddK o = 0 := by
      unfold oddK
      by_cases he : oErr o ≠ 0
      · rw [if_pos (.inl he)]
      · have he : oErr o = 0 := by omega
        have := oT_len he
        rw [if_pos (.inr (by omega))]
    have hs : oddSent o = 0 := by unfold oddSent; rw [hk0]; split <;> rfl
    have hn : oddN o = 0 := by unfold oddN; rw [if_pos hsp]
    have := oRes_nil hK hs
    rw [hn, hk0] at this
    exact this
  · have hsp : ¬ o.sp < 1 := of_decide_eq_false h
    refine Gd.walkN TFok.ctx (base := 1) (Nat.le_refl _) (It := fun E H => canonK 1 [4, 5, 6, 10, 11, 12] E H (fun E H => E = (o00 o 0 []).1 ∧ H = (o00 o 0 []).2)) 4 400 _ _ _ (by kernel_rfl) (fIn [true, false, true]) (Eq.mpr (w_oe1b o _ _) ⟨rfl, rfl⟩) (fun E H h => ?_)
    obtain ⟨E', H', σ, ⟨rfl, rfl⟩, g2, g3, g4, g5, g6⟩ := canonK_ok h
    refine Gd.sub (base := 1) (Nat.le_refl _) g6 ?_ g2 g3 g4 g5
    rw [fillT_eq]
    refine Gd.seq (Gd.seq (Gd.walkC TFok.ctx 1 ts14 (Nat.le_refl _) (fIn [true, false, true, true, true, true, true, false, false]) (Eq.mpr (w_oe2 o _) ?_)))
    rw [same_iff]
    refine Gd.block (Gd.mono (o_outer o hb (by omega) 8000 _ _ (.inl ⟨rfl, rfl, rfl⟩)) (fun x E H h => ?_))
    unfold oQo at h
    split at h
    · exact o_end o hb (by omega) K hK E H h
    · exact h.elim

/-- The source in its caller's memory. -/
def decOdd (args : List AVal) (H : AHeap) : Option (List (Nat × Nat) × OddS) := match args with
  | [.iface t (.ptr b 0 0 0), .int .u64 (.ofNat 0), .int .i64 (.ofNat 7), .int .i64 sp] => match H.get b with
    | some (.cells e [.bool st, .bool en, .int .i64 id, .int .i64 total, .int .i64 typ, .int .i64 k, .str lb, .str data, .str sum, .bool last, .bool again, .int .i64 (.ofNat 0)]) =>
      match Nat.beq t 55 && Nat.beq e 57 with
      | true => some ([(0, b)], ⟨⟨st, en, id, total, typ, k, lb, data, sum⟩, last, again, sp⟩)
      | false => none
    | _ => none
  | _ => none

def fOdd (o : OddS) (K : Out → AHeap → Prop) : Prop := obl (decide (o.p.data.length ≤ 4500 ∧ o.p.lb.length ≤ 20 ∧ o.p.sum.length ≤ 20 ∧ o.sp ≤ 7300)) (oRes o K)
def cOdd (o : OddS) : AHeap := ⟨1, [(0, oddB o.p o.last o.again 0)]⟩

theorem decOdd_ok : DecOk decOdd (fun o => oddA o.sp) cOdd := by
  refine ⟨fun args H σ s h hb hH => ?_⟩
  unfold decOdd at h
  split at h
  · rename_i t b sp
    split at h
    · rename_i e st en id total typ k lb data sum last again hg
      split at h
      · rename_i hc
        simp only [Bool.and_eq_true] at hc
        obtain ⟨rfl, rfl⟩ := And.intro (nat_beq_eq.1 hc.1) (nat_beq_eq.1 hc.2)
        simp only [Option.some.injEq, Prod.mk.injEq] at h
        obtain ⟨rfl, rfl⟩ := h
        refine ⟨rfl, rfl, fun c x hx => ?_, fun c c' hc hc' hne => ?_, fun c hc => ?_⟩
        · obtain ⟨rfl, hx⟩ := get_one hx
          cases hx
          exact ⟨Nat.one_pos, rfl, hg⟩
        · have h1 : c < 1 := hc
          have h2 : c' < 1 := hc'
          omega
        · have h1 : c < 1 := hc
          obtain rfl : c = 0 := by omega
          exact (hH b _ hg).1
      · cases h
    · cases h
  · cases h

theorem gcOdd_sound : GcSound Try.prog 9 (gcSub decOdd cOdd fOdd) := by
  refine gc_sub Try.call9 decOdd_ok (fun o k hk ρ w hR hb => ?_)
  unfold fOdd at hk
  rw [obl_iff, decide_eq_true_eq] at hk
  obtain ⟨⟨h1, h2, h3, h4⟩, hk⟩ := hk
  exact fn_good TFok.ctx (fn := Try.f9) (by kernel_rfl) (by kernel_rfl) (o_fill o ⟨h1, h2, h3, h4⟩ k hk) hR hb

noncomputable def TO : Tabs := TF.addGc 9 (gcSub decOdd cOdd fOdd)
theorem TOok : TabsOk TO Try.prog := TFok.addGc gcOdd_sound

end Go.Proofs.Ytjacnjecggedhaa
