/-
  MemberLast: the whole; its arguments, opened.
-/
import Derived.Test.YtcgnoegejmhgmaaMbL2
namespace Go.Proofs.Ytcgnoegejmhgmaa
set_option linter.unusedVariables false
set_option linter.unusedSimpArgs false
open Go.RowKit Ev

theorem newBad_no {c m : Int} (hc : 0 ≤ c ∧ c ≤ 255) (hm : isM m = true) : newBad (1 + c % 8) m = false := by
  unfold newBad
  rw [decide_eq_false_iff_not]
  have := of_decide_eq_true hm
  omega
theorem new_len (n m : Int) (hn : 0 ≤ n) : n = (newS n m).modes.length := by
  simp only [newS, List.length_replicate]
  omega

set_option maxRecDepth 100000 in
theorem ml_good (hs : List PairR) (hb : ∀ p ∈ hs, Byte2 p) (c x y : Int) (hc : 0 ≤ c ∧ c ≤ 255) (hx : 0 ≤ x ∧ x ≤ 255) (hy : 0 ≤ y ∧ y ≤ 255) :
    MlGd ⟨1, [(0, mlRow hs)]⟩ mlB mlK (env0 [.int .u8 c, mlV hs, .agg [.int .u8 x, .int .u8 y]] 0) ⟨1, [(0, mlRow hs)]⟩ := by
  have hn := new_len (1 + c % 8) 7 (by omega)
  have hW : WfM (newS (1 + c % 8) 7) := wf_new (by omega) rfl
  refine Gd.walkN TM8ok.ctx (base := 1) (Nat.le_refl _) (It := fun E H => canonK 1 tsL0 E H (fun E H => E = mlE0 (mlV hs) (1 + c % 8) ∧ H = ⟨5, (0, mlRow hs) :: mlHs x y (newS (1 + c % 8) 7)⟩)) 4 200 _ _ _ ml_seqs4 (mlIn []) (Eq.mpr (w_ml_a hs c x y (fun E H => E = mlE0 (mlV hs) (1 + c % 8) ∧ H = ⟨5, (0, mlRow hs) :: mlHs x y (newS (1 + c % 8) 7)⟩) (fun o => o = .ret (.bool true))) ?_) (fun E H h => ?_)
  · exact obl_dec (by omega) (obl_mk (inI64_small (by omega)) (obl_mk (inI64_small (by omega)) (branch_iff.2 ⟨(fun h => by rw [newBad_no hc rfl] at h; cases h), fun _ => ⟨rfl, rfl⟩⟩)))
  obtain ⟨E', H', σ, ⟨rfl, rfl⟩, g2, g3, g4, g5, g6⟩ := canonK_ok h
  refine Gd.sub (base := 1) (Nat.le_refl _) g6 ?_ g2 g3 g4 g5
  generalize hN : newS (1 + c % 8) 7 = S at *
  generalize 1 + c % 8 = n at *
  rw [ml_eq4]
  refine Gd.seq (Gd.seq (Gd.walkC TM8ok.ctx 1 tsL (Nat.le_refl _) mlIn_set (Eq.mpr (w_ml_set hs n x y S _) ?_)))
  refine Gd.block (Gd.mono (l1_loop _ (Nat.le_refl _) hs hb n x y hs.length _ _ ⟨0, S, rfl, Nat.zero_le _, hW, hn, rfl, rfl⟩) (fun z E H h => ?_))
  unfold l1Q at h
  split at h
  · obtain ⟨S', hW', hn', rfl, hg⟩ := h
    exact Gd.ghost hg (ml_rest _ (Nat.le_refl _) n x y S' hW' hn' hx hy)
  · exact h.elim

set_option maxRecDepth 100000 in
theorem ml_goodn (c x y : Int) (hc : 0 ≤ c ∧ c ≤ 255) (hx : 0 ≤ x ∧ x ≤ 255) (hy : 0 ≤ y ∧ y ≤ 255) :
    MlGd ⟨0, []⟩ mlB mlK (env0 [.int .u8 c, .nils, .agg [.int .u8 x, .int .u8 y]] 0) ⟨0, []⟩ := by
  have hn := new_len (1 + c % 8) 7 (by omega)
  have hW : WfM (newS (1 + c % 8) 7) := wf_new (by omega) rfl
  refine Gd.ghost (Ghost.more 0 []) ?_
  refine Gd.walkN TM8ok.ctx (base := 1) (Nat.zero_le _) (It := fun E H => canonK 1 tsL0 E H (fun E H => E = mlE0 .nils (1 + c % 8) ∧ H = ⟨5, mlHs x y (newS (1 + c % 8) 7)⟩)) 4 200 _ _ _ ml_seqs4 (mlIn []) (Eq.mpr (w_ml_an c x y (fun E H => E = mlE0 .nils (1 + c % 8) ∧ H = ⟨5, mlHs x y (newS (1 + c % 8) 7)⟩) (fun o => o = .ret (.bool true))) ?_) (fun E H h => ?_)
  · exact obl_dec (by omega) (obl_mk (inI64_small (by omega)) (obl_mk (inI64_small (by omega)) (branch_iff.2 ⟨(fun h => by rw [newBad_no hc rfl] at h; cases h), fun _ => ⟨rfl, rfl⟩⟩)))
  obtain ⟨E', H', σ, ⟨rfl, rfl⟩, g2, g3, g4, g5, g6⟩ := canonK_ok h
  refine Gd.sub (base := 1) (Nat.zero_le _) (Nat.zero_le _) ?_ g2 g3 g4 g5
  generalize hN : newS (1 + c % 8) 7 = S at *
  generalize 1 + c % 8 = n at *
  rw [ml_eq4]
  refine Gd.seq (Gd.seq (Gd.walkC TM8ok.ctx 1 tsL (Nat.zero_le _) mlIn_set (Eq.mpr (w_ml_setn n x y S _) ?_)))
  refine Gd.block (Gd.mono (Gd.loop (fun _ E H => E = mlE1 .nils n 0 ∧ H = ⟨5, mlHs x y S⟩) (fun m E H hI => ?_) 0 _ _ ⟨rfl, rfl⟩ : MlGd ⟨0, []⟩ (.loop mlR) (l1Q n x y) _ _) (fun z E H h => ?_))
  · obtain ⟨rfl, rfl⟩ := hI
    refine Gd.walkC TM8ok.ctx 1 tsL (Nat.zero_le _) (mlIn _) (Eq.mpr (w_ml_rn n x y S _) ?_)
    exact ⟨S, hW, hn, rfl, Ghost.refl _⟩
  · unfold l1Q at h
    split at h
    · obtain ⟨S', hW', hn', rfl, hg⟩ := h
      exact Gd.ghost hg (ml_rest _ (Nat.zero_le _) n x y S' hW' hn' hx hy)
    · exact h.elim

theorem flat_pair8 : flat Try.prog 8 23 = some [.int .u8, .int .u8] := by kernel_rfl
theorem cells_pair8 : Try.prog.cellsOf 23 = 2 := by kernel_rfl

theorem fn_law {X : Ctx} (hX : CtxOk X) {f : FuncId} {fn : Func} {c : Code} (hf : X.fns f = some fn) (hb : fn.body = some c) {args : List AVal} {H0 : AHeap} (ho : ∀ b x, H0.get b = some x → x.own = false)
    (h : Gd X f H0 c (endA X.P fn (fun o _ => o = .ret (.bool true))) (env0 args 0) H0) {ρ : Rho} {w : World} (hR : Rel ρ H0 w) (ha : belowL H0.next args = true) :
    Calls X.P f (trL ρ args).toArray w fun e w' => e = .returned (.bool true) ∧ Below w.heap.size w w' := by
  refine (fn_good hX hf hb h hR ha).mono ?_
  rintro e w' ⟨out, H', ρ', q1, rfl, q3⟩
  cases e <;> simp only [Out.rel] at q1
  exact ⟨by rw [q1.1]; rfl, q3.below (Nat.le_refl _) (fun g hg => by obtain ⟨b, x, hx, hxo, _⟩ := hg; rw [ho b x hx] at hxo; cases hxo)⟩

theorem open_pairs {k : IntKind} (avs : List AVal) (h : OfL [.int k, .int k] avs) : ∃ a, (pairRow k).enc a = avs := by
  obtain ⟨_, _, rfl, ⟨a, rfl, _⟩, _, _, rfl, ⟨b, rfl, _⟩, rfl⟩ := h
  exact ⟨⟨a, b⟩, rfl⟩

set_option maxRecDepth 100000 in
theorem memberLast_raw {H : Type} {enc : TypeId × Value → H} {b0 b1 b2 : Nat} {d0 d1 d2 : DataW H} {p0 p1 p2 : List MemPlace} (v0 v1 v2 : Value) (W : World)
    (hv0 : Value.okWide Try.prog W .any b0 5 v0) (h0 : DataW.Trod enc Try.prog W 0 (fun _ => true) true 5 v0 d0 p0) (_ : ∀ x ∈ p0, x.block < W.heap.size)
    (hv1 : Value.okWide Try.prog W .any b1 22 v1) (h1 : DataW.Trod enc Try.prog W 0 (fun _ => true) true 22 v1 d1 p1) (_ : ∀ x ∈ p1, x.block < W.heap.size)
    (hv2 : Value.okWide Try.prog W .any b2 23 v2) (h2 : DataW.Trod enc Try.prog W 0 (fun _ => true) true 23 v2 d2 p2) (_ : ∀ x ∈ p2, x.block < W.heap.size) :
    Calls Try.prog 3 #[v0, v1, v2] W fun e w' => e = .returned (.bool true) ∧ Below W.heap.size W w' := by
  obtain ⟨_, e0, ⟨c, rfl, w_c⟩⟩ := open_any (K := .one (.int .u8)) (by kernel_rfl) hv0 h0
  obtain ⟨_, e2, ⟨_, rfl, _, _, rfl, ⟨x, rfl, w_x⟩, _, _, rfl, ⟨y, rfl, w_y⟩, rfl⟩⟩ := open_any (K := .agg [.int .u8, .int .u8]) (by kernel_rfl) hv2 h2
  have w_c : 0 ≤ c ∧ c ≤ 255 := by simpa [Lit.wf, IntKind.min, IntKind.max, IntKind.signed, IntKind.bits] using w_c
  have w_x : 0 ≤ x ∧ x ≤ 255 := by simpa [Lit.wf, IntKind.min, IntKind.max, IntKind.signed, IntKind.bits] using w_x
  have w_y : 0 ≤ y ∧ y ≤ 255 := by simpa [Lit.wf, IntKind.min, IntKind.max, IntKind.signed, IntKind.bits] using w_y
  rcases open_row (T := pairRow .u8) Try.underlying22 flat_pair8 cells_pair8 (by decide) open_pairs hv1 h1 with e1 | ⟨ρ, hs, e1, _, hb, hR⟩
  · rw [e0 rho0, e1 rho0, e2 rho0]
    exact fn_law TM8ok.ctx ml_fns ml_body (fun b x h => by cases h) (ml_goodn c x y w_c w_x w_y) (rel_nil rho0 W) rfl
  · rw [e0 ρ, e1, e2 ρ]
    refine fn_law TM8ok.ctx ml_fns ml_body (fun b x h => ?_) (ml_good hs (fun p hp => ?_) c x y w_c w_x w_y) hR rfl
    · obtain ⟨rfl, h⟩ := get_one h
      cases h; rfl
    · obtain ⟨_, _, q1, ⟨a, rfl, wa⟩, _, _, rfl, ⟨b, rfl, wb⟩, rfl⟩ := hb p hp
      injection q1 with q1 q2
      injection q1 with _ q1
      injection q2 with q2 _
      injection q2 with _ q2
      rw [← q1] at wa
      rw [← q2] at wb
      have wa : 0 ≤ p.a ∧ p.a ≤ 255 := by simpa [Lit.wf, IntKind.min, IntKind.max, IntKind.signed, IntKind.bits] using wa
      have wb : 0 ≤ p.b ∧ p.b ≤ 255 := by simpa [Lit.wf, IntKind.min, IntKind.max, IntKind.signed, IntKind.bits] using wb
      exact ⟨wa, wb⟩

end Go.Proofs.Ytcgnoegejmhgmaa
