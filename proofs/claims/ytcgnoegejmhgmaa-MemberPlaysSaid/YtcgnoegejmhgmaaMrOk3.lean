/-
  The document's members: All: the contract. MemberPlays: states.
-/
import Derived.Test.YtcgnoegejmhgmaaMrW3
namespace Go.Proofs.Ytcgnoegejmhgmaa
set_option linter.unusedVariables false
set_option linter.unusedSimpArgs false
open Go.RowKit Ev

theorem rAll_succ (R : RefS) (m : Nat) : rAllTo R (m + 1) = if rOf R ((m : Int) + 1) = [] then rAllTo R m else rAllTo R m ++ [(m : Int) + 1] := by
  unfold rAllTo
  rw [List.range_succ, List.map_append, List.filter_append]
  by_cases h : rOf R ((m : Int) + 1) = []
  · rw [if_pos h]; simp [h]
  · rw [if_neg h]; simp [h]
theorem rAll_len (R : RefS) (m : Nat) : (rAllTo R m).length ≤ m := by
  unfold rAllTo
  exact Nat.le_trans (List.length_filter_le _ _) (by simp)

noncomputable abbrev RaGd (R : RefS) (c : Code) (Q : AExit → Env → AHeap → Prop) (E : Env) (H : AHeap) : Prop := Gd (TR2.ctx Try.prog) 17 (roH R) c Q E H
theorem raIn (p : List Bool) : InFn (TR2.ctx Try.prog) 17 (codeAt p raB) :=
  inFn_at TR2ok.ctx (fn := Try.f17) (by kernel_rfl) (by kernel_rfl) p
theorem ra_eq2 : tailN 2 raB = .seq (.seq ra2 (.block 0 (.loop raR))) ra7 := by kernel_rfl
theorem ra_seqs2 : isSeqs 2 raB = true := by kernel_rfl
theorem ra_body : Try.f17.body = some raB := by kernel_rfl
theorem ra_fns : (TR2.ctx Try.prog).fns 17 = some Try.f17 := by kernel_rfl

def raI (R : RefS) (N : Nat) (E : Env) (H : AHeap) : Prop :=
  ∃ (m : Nat) (v : AVal), N = 28 - m ∧ m ≤ 28 ∧ roOut R (rAllTo R m) v H ∧ E = raE1 v ((m : Int) + 1)
def raQ (R : RefS) : AExit → Env → AHeap → Prop := fun x E H => match x with
  | .exit 0 => ∃ v, roOut R (rAll R) v H ∧ E = [(3, v)]
  | _ => False
def raP (R : RefS) (N : Nat) : AExit → Env → AHeap → Prop := fun x E H => match x with
  | .normal => ∃ m', m' < N ∧ raI R m' E H
  | x => raQ R x E H

set_option maxRecDepth 100000 in
theorem ra_loop (R : RefS) (hW : WfR R) : ∀ N E H, raI R N E H → RaGd R (.loop raR) (raQ R) E H := by
  refine Gd.loop (raI R) (fun N E H hI => ?_)
  show RaGd R raR (raP R N) E H
  obtain ⟨m, v, hm, hi, hout, rfl⟩ := hI
  have hs := rAll_succ R m
  have hl := rAll_len R m
  have next : ∀ v H, roOut R (rAllTo R (m + 1)) v H → m < 28 → raP R N .normal (raE1 v ((m : Int) + 1 + 1)) H := fun v H h hi => ⟨28 - (m + 1), by omega, m + 1, v, rfl, by omega, h, rfl⟩
  have fin : ¬ ((m : Int) + 1 ≤ 28) → rAll R = rAllTo R m := fun h => by unfold rAll; rw [show m = 28 by omega]
  have ix : m ≤ 28 → inI64 ((m : Int) + 1 + 1) = true := fun h => inI64_small (by omega)
  rcases hout with ⟨h0, rfl, rfl⟩ | ⟨o, h0, hne, rfl, rfl⟩
  · refine Gd.walkC TR2ok.ctx 3 (tsA2 [0, 3, 4] [3]) (Nat.le_refl _) (raIn _) (Eq.mpr (w_ra_rn R m _) ?_)
    refine br_dec (fun h => ⟨rfl, rfl, ⟨rfl, rfl⟩, hW, br_dec (fun he => ?_) (fun he => ?_)⟩) (fun h => ⟨.nils, .inl ⟨by rw [fin h]; exact h0, rfl, rfl⟩, rfl⟩)
    · have he : rOf R ((m : Int) + 1) = [] := he
      rw [if_pos he] at hs
      exact obl_mk (ix hi) (next _ _ (.inl ⟨by rw [hs]; exact h0, rfl, rfl⟩) (by omega))
    · have he : ¬ rOf R ((m : Int) + 1) = [] := he
      rw [if_neg he, h0] at hs
      refine br_dec (fun _ => obl_mk (ix hi) (next _ _ (.inr ⟨_, hs, by simp, rfl, rfl⟩) (by omega))) (fun hn => ?_)
      have hn : ¬ (0 : Int) < ((rOf R ((m : Int) + 1)).length : Int) := hn
      exact absurd (List.length_eq_zero_iff.1 (by omega)) he
  · refine Gd.walkC TR2ok.ctx 3 (tsA2 [0, 3, 4] [3]) (Nat.le_refl _) (raIn _) (Eq.mpr (w_ra_rs R o m _) ?_)
    refine br_dec (fun h => ⟨rfl, rfl, ⟨rfl, rfl⟩, hW, br_dec (fun he => ?_) (fun he => ?_)⟩) (fun h => ⟨slI 3 o, .inr ⟨o, by rw [fin h]; exact h0, hne, rfl, rfl⟩, rfl⟩)
    · have he : rOf R ((m : Int) + 1) = [] := he
      rw [if_pos he] at hs
      exact obl_mk (ix hi) (next _ _ (.inr ⟨o, by rw [hs]; exact h0, hne, rfl, rfl⟩) (by omega))
    · have he : ¬ rOf R ((m : Int) + 1) = [] := he
      rw [h0] at hl
      rw [if_neg he, h0] at hs
      refine br_dec (fun _ => obl_mk (by rw [Bool.true_and, decide_eq_true_eq, List.length_append, List.length_singleton]; omega) (obl_mk (ix hi) (next _ _ (.inr ⟨_, hs, by simp, rfl, rfl⟩) (by omega)))) (fun hn => ?_)
      have hn : ¬ (0 : Int) < ((rOf R ((m : Int) + 1)).length : Int) := hn
      exact absurd (List.length_eq_zero_iff.1 (by omega)) he

def raK (R : RefS) (out : Out) (H' : AHeap) : Prop := ∃ v, out = .ret v ∧ roOut R (rAll R) v H'

set_option maxRecDepth 100000 in
theorem ra_good (R : RefS) (hW : WfR R) : RaGd R raB (endA (TR2.ctx Try.prog).P Try.f17 (raK R)) (env0 [.ptr 0 0 0 0] 0) (roH R) := by
  refine Gd.walkN TR2ok.ctx (base := 3) (Nat.le_refl _) (It := fun E H => canonK 3 [0, 3] E H (fun E H => E = raE .nils ∧ H = roH R)) 2 200 _ _ _ ra_seqs2 (raIn []) (Eq.mpr (w_ra_a R (fun E H => E = raE .nils ∧ H = roH R) _) ⟨rfl, rfl⟩) (fun E H h => ?_)
  obtain ⟨E', H', σ, ⟨rfl, rfl⟩, g2, g3, g4, g5, g6⟩ := canonK_ok h
  refine Gd.sub (base := 3) (Nat.le_refl _) g6 ?_ g2 g3 g4 g5
  rw [ra_eq2]
  refine Gd.seq (Gd.seq (Gd.walkC TR2ok.ctx 3 (tsA2 [0, 3, 4] []) (Nat.le_refl _) (raIn _) (Eq.mpr (w_ra_2 R _) ?_)))
  refine Gd.block (Gd.mono (ra_loop R hW 28 _ _ ⟨0, .nils, rfl, Nat.zero_le _, .inl ⟨rfl, rfl, rfl⟩, rfl⟩) (fun x E H h => ?_))
  unfold raQ at h
  split at h
  · obtain ⟨v, hv, rfl⟩ := h
    rcases hv with ⟨h0, rfl, rfl⟩ | ⟨o, h0, hne, rfl, rfl⟩
    · exact Gd.walkC TR2ok.ctx 3 (tsA2 [2] []) (Nat.le_refl _) (raIn _) (Eq.mpr (w_ra_7n R (raK R)) ⟨_, rfl, .inl ⟨h0, rfl, rfl⟩⟩)
    · exact Gd.walkC TR2ok.ctx 3 (tsA2 [2] []) (Nat.le_refl _) (raIn _) (Eq.mpr (w_ra_7s R o (raK R)) ⟨_, rfl, .inr ⟨o, h0, hne, rfl, rfl⟩⟩)
  · exact h.elim

theorem rall_sound : GcSound Try.prog 17 (gcSub decRef refC (fRef qAll)) := by
  refine ref_gc Try.call17 (fun R rest K hW hC ρ w hR hb => ?_)
  unfold qAll at hC
  split at hC
  rotate_left
  · exact (not_stuck hC).elim
  rw [forceH_eq, forceH_eq] at hC
  refine (fn_good TR2ok.ctx (fn := Try.f17) (c := raB) ra_fns ra_body (ra_good R hW) hR hb).mono ?_
  rintro e w' ⟨out, H', ρ', h1, ⟨v, rfl, hv⟩, h3⟩
  refine ⟨_, _, ρ', h1, ?_, h3⟩
  rcases hv with ⟨h0, rfl, rfl⟩ | ⟨o, rfl, hne, rfl, rfl⟩
  · exact (branch_iff.1 hC).1 (decide_eq_true h0)
  · exact (branch_iff.1 hC).2 (decide_eq_false hne)

noncomputable def TR3 : Tabs := TR2.addGc 17 (gcSub decRef refC (fRef qAll))
theorem TR3ok : TabsOk TR3 Try.prog := TR2ok.addGc rall_sound

/-! ### MemberPlays: states -/

noncomputable abbrev mpB : Code := bodyC Try.f4
abbrev pP : List Bool := [true, true, true, false, true, false, false]
abbrev pP1 : List Bool := [true, true, true, false, true, false, false, true, false, false]
noncomputable abbrev mp4 : Code := codeAt [true, true, true, false, false] mpB
noncomputable abbrev mpR : Code := codeAt pP mpB
noncomputable abbrev mp5 : Code := codeAt (pP ++ [false]) mpB
noncomputable abbrev mp6 : Code := codeAt (pP ++ [true, true]) mpB
noncomputable abbrev mp7 : Code := codeAt (pP1 ++ [false]) mpB
noncomputable abbrev mp9 : Code := codeAt (pP1 ++ [true, false, false]) mpB
noncomputable abbrev mpR2 : Code := codeAt (pP1 ++ [true, false, true, false, false]) mpB
noncomputable abbrev mp14 : Code := codeAt (pP1 ++ [true, true]) mpB
noncomputable abbrev mp15 : Code := codeAt (pP1 ++ [true, true, true, false]) mpB
noncomputable abbrev mpR4 : Code := codeAt (pP1 ++ [true, true, true, true, false, false]) mpB
noncomputable abbrev mp19 : Code := codeAt [true, true, true, true] mpB

/-- The document's members under other numbers. -/
def refAt (R : RefS) (b c : Nat) : ABlk := refB (.sl b 0 1 0 R.modes.length none) (.sl c 0 1 0 R.came.length none) R.last
def mpE0 (v : AVal) : Env := [(2, v), (7, .ptr 1 0 0 0), (8, .ptr 2 0 0 0)]
def mpE1 (v : AVal) (i : Int) : Env := [(2, v), (7, .ptr 1 0 0 0), (8, .ptr 2 0 0 0), (9, .int .i64 i)]
def mpE2 (v : AVal) (i n : Int) : Env := [(2, v), (7, .ptr 1 0 0 0), (8, .ptr 2 0 0 0), (9, .int .i64 i), (10, .int .i64 n)]
def mpE3 (v : AVal) (i : Int) (o : AVal) : Env := [(2, v), (7, .ptr 1 0 0 0), (8, .ptr 2 0 0 0), (9, .int .i64 i), (11, o)]
def mpE4 (v : AVal) (i : Int) (o : AVal) (k : Int) : Env := [(2, v), (7, .ptr 1 0 0 0), (8, .ptr 2 0 0 0), (9, .int .i64 i), (11, o), (12, .int .i64 k)]
def mpE5 : Env := [(7, .ptr 1 0 0 0), (8, .ptr 2 0 0 0)]
def pRow (hs : List PairR) : ABlk := .row 37 (pairRow .i64) hs .ro
def mpHn (S : MemS) (R : RefS) : AHeap := ⟨7, [(1, memAt S 3 4), (2, refAt R 5 6), (3, rowI S.modes), (4, objL S), (5, rowI R.modes), (6, rowI R.came)]⟩
def mpH (hs : List PairR) (S : MemS) (R : RefS) : AHeap := ⟨7, [(0, pRow hs), (1, memAt S 3 4), (2, refAt R 5 6), (3, rowI S.modes), (4, objL S), (5, rowI R.modes), (6, rowI R.came)]⟩
def mpH1 (hs : List PairR) (S : MemS) (R : RefS) (o : List Int) : AHeap := ⟨8, [(0, pRow hs), (1, memAt S 4 5), (2, refAt R 6 7), (3, rowI o), (4, rowI S.modes), (5, objL S), (6, rowI R.modes), (7, rowI R.came)]⟩
def tsP0 : List Nat := [2, 7, 8]
def tsP1 : List Nat := [2, 7, 8, 9]
def tsP (a b : List Nat) : AExit → List Nat := fun x => match x with
  | .ret => [6]
  | .normal => a
  | _ => b

end Go.Proofs.Ytcgnoegejmhgmaa
