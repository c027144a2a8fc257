/-
  MemberPlays: the whole; its arguments, opened.
-/
import Derived.Test.YtcgnoegejmhgmaaMpL
namespace Go.Proofs.Ytcgnoegejmhgmaa
set_option linter.unusedVariables false
set_option linter.unusedSimpArgs false
open Go.RowKit Ev

theorem numP0 {l : List Int} {A B : Prop} {hd : Decidable (l.map (toI (intRow .i64)) = [])} (hl : l.length ≤ 1000) (h : l = []) (hA : A) :
    obl (true && l.all (okI (intRow .i64)) && (decide (l.length = (l.map (toI (intRow .i64))).length) && decide ((l.map (toI (intRow .i64))).length ≤ 1000)) && true) (branch (@decide _ hd) A B) :=
  obl_mk (Bool.and_eq_true_iff.2 ⟨okNum l hl, rfl⟩) (br_dec (fun _ => hA) (fun hn => absurd (by rw [h]; rfl) hn))
theorem numP2 {l l' : List Int} {A B : Prop} {hd : Decidable (l.map (toI (intRow .i64)) = l'.map (toI (intRow .i64)))} (hl : l.length ≤ 1000) (h : l = l') (hA : A) :
    obl (true && l.all (okI (intRow .i64)) && (decide (l.length = (l.map (toI (intRow .i64))).length) && decide ((l.map (toI (intRow .i64))).length ≤ 1000)) && (true && l'.all (okI (intRow .i64)) && (decide (l'.length = (l'.map (toI (intRow .i64))).length) && decide ((l'.map (toI (intRow .i64))).length ≤ 1000)))) (branch (@decide _ hd) A B) := by
  subst h
  exact obl_mk (Bool.and_eq_true_iff.2 ⟨okNum l hl, okNum l hl⟩) (br_dec (fun _ => hA) (fun hn => absurd rfl hn))

noncomputable abbrev mpK : AExit → Env → AHeap → Prop := endA (TR3.ctx Try.prog).P Try.f4 (fun o _ => o = .ret (.bool true))

theorem newBad_in {t m : Int} (h : newBad t m = false) : (1 ≤ t ∧ t ≤ 8) ∧ isM m = true := by
  have h := of_decide_eq_false h
  exact ⟨by omega, decide_eq_true (by omega)⟩

set_option maxRecDepth 100000 in
theorem mp_end (H0 : AHeap) (hH : H0.next ≤ 1) (hs : List PairR) (S : MemS) (R : RefS) (hJ : JR S R 100) : MpGd H0 mp19 mpK mpE5 (mpH hs S R) := by
  refine Gd.walk TR3ok.ctx (base := 1) hH (mpIn _) (Eq.mpr (w_mp_19 hs S R (fun o => o = .ret (.bool true))) ?_)
  exact ⟨rfl, rfl, ⟨rfl, rfl⟩, hJ.wf, rfl, rfl, ⟨rfl, rfl⟩, hJ.wfR (by omega), br_dec (fun h0 => numP0 (all_len hJ.wf) (hJ.all.symm.trans h0) rfl) (fun h0 => numP2 (all_len hJ.wf) hJ.all.symm rfl)⟩
set_option maxRecDepth 100000 in
theorem mp_endn (H0 : AHeap) (hH : H0.next ≤ 1) (S : MemS) (R : RefS) (hJ : JR S R 100) : MpGd H0 mp19 mpK mpE5 (mpHn S R) := by
  refine Gd.walk TR3ok.ctx (base := 1) hH (mpIn _) (Eq.mpr (w_mp_19n S R (fun o => o = .ret (.bool true))) ?_)
  exact ⟨rfl, rfl, ⟨rfl, rfl⟩, hJ.wf, rfl, rfl, ⟨rfl, rfl⟩, hJ.wfR (by omega), br_dec (fun h0 => numP0 (all_len hJ.wf) (hJ.all.symm.trans h0) rfl) (fun h0 => numP2 (all_len hJ.wf) hJ.all.symm rfl)⟩

set_option maxRecDepth 100000 in
theorem mp_good (hs : List PairR) (t m : Int) : MpGd ⟨1, [(0, pRow hs)]⟩ mpB mpK (env0 [.int .i64 t, .int .i64 m, mlV hs] 0) ⟨1, [(0, pRow hs)]⟩ := by
  refine Gd.walkN TR3ok.ctx (base := 1) (Nat.le_refl _) (It := fun E H => canonK 1 tsP0 E H (fun E H => newBad t m = false ∧ E = mpE0 (mlV hs) ∧ H = mpH hs (newS t m) (rNew t m))) 3 200 _ _ _ mp_seqs3 (mpIn []) (Eq.mpr (w_mp_a hs t m (fun E H => newBad t m = false ∧ E = mpE0 (mlV hs) ∧ H = mpH hs (newS t m) (rNew t m)) (fun o => o = .ret (.bool true))) ?_) (fun E H h => ?_)
  · exact br_mk (fun h => br_mk (fun _ => rfl) (fun h2 => by rw [h] at h2; cases h2)) (fun h => br_mk (fun h2 => by rw [h] at h2; cases h2) (fun _ => ⟨h, rfl, rfl⟩))
  obtain ⟨E', H', σ, ⟨hb, rfl, rfl⟩, g2, g3, g4, g5, g6⟩ := canonK_ok h
  refine Gd.sub (base := 1) (Nat.le_refl _) g6 ?_ g2 g3 g4 g5
  obtain ⟨h1, h2⟩ := newBad_in hb
  have hJ := JR.new h1 h2
  generalize newS t m = S at *
  generalize rNew t m = R at *
  rw [mp_eq3]
  refine Gd.seq (Gd.seq (Gd.walkC TR3ok.ctx 1 (tsP tsP1 []) (Nat.le_refl _) (mpIn _) (Eq.mpr (w_mp_4 hs S R _) ?_)))
  refine Gd.block (Gd.mono (p1_loop _ (Nat.le_refl _) hs hs.length _ _ ⟨0, S, R, rfl, Nat.zero_le _, by omega, hJ.le (by omega), rfl, rfl⟩) (fun z E H h => ?_))
  unfold p1Q at h
  split at h
  · obtain ⟨S', R', hJ', rfl, rfl⟩ := h
    exact mp_end _ (Nat.le_refl _) hs S' R' hJ'
  · exact h.elim

set_option maxRecDepth 100000 in
theorem mp_goodn (t m : Int) : MpGd ⟨0, []⟩ mpB mpK (env0 [.int .i64 t, .int .i64 m, .nils] 0) ⟨0, []⟩ := by
  refine Gd.ghost (Ghost.more 0 []) ?_
  refine Gd.walkN TR3ok.ctx (base := 1) (Nat.zero_le _) (It := fun E H => canonK 1 tsP0 E H (fun E H => newBad t m = false ∧ E = mpE0 .nils ∧ H = mpHn (newS t m) (rNew t m))) 3 200 _ _ _ mp_seqs3 (mpIn []) (Eq.mpr (w_mp_an t m (fun E H => newBad t m = false ∧ E = mpE0 .nils ∧ H = mpHn (newS t m) (rNew t m)) (fun o => o = .ret (.bool true))) ?_) (fun E H h => ?_)
  · exact br_mk (fun h => br_mk (fun _ => rfl) (fun h2 => by rw [h] at h2; cases h2)) (fun h => br_mk (fun h2 => by rw [h] at h2; cases h2) (fun _ => ⟨h, rfl, rfl⟩))
  obtain ⟨E', H', σ, ⟨hb, rfl, rfl⟩, g2, g3, g4, g5, g6⟩ := canonK_ok h
  refine Gd.sub (base := 1) (Nat.zero_le _) (Nat.zero_le _) ?_ g2 g3 g4 g5
  obtain ⟨h1, h2⟩ := newBad_in hb
  have hJ := JR.new h1 h2
  generalize newS t m = S at *
  generalize rNew t m = R at *
  rw [mp_eq3]
  refine Gd.seq (Gd.seq (Gd.walkC TR3ok.ctx 1 (tsP tsP1 []) (Nat.zero_le _) (mpIn _) (Eq.mpr (w_mp_4n S R _) ?_)))
  refine Gd.block (Gd.mono (Gd.loop (fun _ E H => E = mpE1 .nils 0 ∧ H = mpHn S R) (fun k E H hI => ?_) 0 _ _ ⟨rfl, rfl⟩ : MpGd ⟨0, []⟩ (.loop mpR) (fun x E H => match x with
    | .exit 0 => E = mpE5 ∧ H = mpHn S R
    | _ => False) _ _) (fun z E H h => ?_))
  · obtain ⟨rfl, rfl⟩ := hI
    rw [mp_r]
    refine Gd.seq (Gd.walkC TR3ok.ctx 1 (tsP tsP1 [7, 8]) (Nat.zero_le _) (mpIn _) (Eq.mpr (w_mp_5n S R _) ?_))
    exact ⟨rfl, rfl⟩
  · split at h
    · obtain ⟨rfl, rfl⟩ := h
      exact mp_endn _ (Nat.zero_le _) S R (hJ.le (by omega))
    · exact h.elim

theorem flat_pair64 : flat Try.prog 8 37 = some [.int .i64, .int .i64] := by kernel_rfl
theorem cells_pair64 : Try.prog.cellsOf 37 = 2 := by kernel_rfl

set_option maxRecDepth 100000 in
theorem memberPlays_raw {H : Type} {enc : TypeId × Value → H} {b0 b1 b2 : Nat} {d0 d1 d2 : DataW H} {p0 p1 p2 : List MemPlace} (v0 v1 v2 : Value) (W : World)
    (hv0 : Value.okWide Try.prog W .any b0 3 v0) (h0 : DataW.Trod enc Try.prog W 0 (fun _ => true) true 3 v0 d0 p0) (_ : ∀ x ∈ p0, x.block < W.heap.size)
    (hv1 : Value.okWide Try.prog W .any b1 3 v1) (h1 : DataW.Trod enc Try.prog W 0 (fun _ => true) true 3 v1 d1 p1) (_ : ∀ x ∈ p1, x.block < W.heap.size)
    (hv2 : Value.okWide Try.prog W .any b2 34 v2) (h2 : DataW.Trod enc Try.prog W 0 (fun _ => true) true 34 v2 d2 p2) (_ : ∀ x ∈ p2, x.block < W.heap.size) :
    Calls Try.prog 4 #[v0, v1, v2] W fun e w' => e = .returned (.bool true) ∧ Below W.heap.size W w' := by
  obtain ⟨_, e0, ⟨t, rfl, _⟩⟩ := open_any (K := .one (.int .i64)) (by kernel_rfl) hv0 h0
  obtain ⟨_, e1, ⟨m, rfl, _⟩⟩ := open_any (K := .one (.int .i64)) (by kernel_rfl) hv1 h1
  rcases open_row (T := pairRow .i64) Try.underlying34 flat_pair64 cells_pair64 (by decide) open_pairs hv2 h2 with e2 | ⟨ρ, hs, e2, _, hb, hR⟩
  · rw [e0 rho0, e1 rho0, e2 rho0]
    exact fn_law TR3ok.ctx mp_fns mp_body (fun b x h => by cases h) (mp_goodn t m) (rel_nil rho0 W) rfl
  · rw [e0 ρ, e1 ρ, e2]
    refine fn_law TR3ok.ctx mp_fns mp_body (fun b x h => ?_) (mp_good hs t m) hR rfl
    · obtain ⟨rfl, h⟩ := get_one h
      cases h; rfl

end Go.Proofs.Ytcgnoegejmhgmaa
