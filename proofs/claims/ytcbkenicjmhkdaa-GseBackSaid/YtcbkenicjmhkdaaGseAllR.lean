/-
  The document's pieces of bytes: the contract.
-/
import Derived.Test.YtcbkenicjmhkdaaGseB1
namespace Go.Proofs.Ytcbkenicjmhkdaa
set_option linter.unusedVariables false
set_option linter.unusedSimpArgs false
open Go.RowKit Ev

def stRAll (x : List UInt8 × List PieceR) : Env × AHeap := match x.2 with
  | [] => ([(0, .str x.1), (4, .nils)], ⟨1, []⟩)
  | p :: l => ([(0, .str x.1), (4, .sl 0 0 9 0 (p :: l).length none)], ⟨1, [(0, .row 27 pieceRow (p :: l) .plain)]⟩)

theorem rall_code : tailN 2 (bodyC Try.f18) = .block 0 (.loop (lpC (blkC (tailN 2 (bodyC Try.f18))))) := by kernel_rfl

set_option maxRecDepth 100000 in
theorem rall_round (s0 : List UInt8) : ∀ x, tAll s0 x → wpC (TA.ctx Try.prog) 60 18 0 (lpC (blkC (tailN 2 (bodyC Try.f18)))) (stRAll x).1 (stRAll x).2 (RoundC 0 stRAll (fun x => x.1.length) (tAll s0) x (endA (TA.ctx Try.prog).P Try.f18 (kAll s0))) := by
  rintro ⟨s, acc⟩ hT
  have hT' := hT
  obtain ⟨t0, t1, t2, t3⟩ := hT'
  simp only at t1 t2 t3
  have next : (dec s).e = 0 → tAll s0 (s.drop (dec s).n.toNat, acc ++ [(dec s).p]) ∧ (s.drop (dec s).n.toNat).length < s.length := by
    intro h0
    obtain ⟨_, g2, g3, _⟩ := dec_again h0
    obtain ⟨a1, a2⟩ := all_0 h0
    refine ⟨⟨t0, ?_, ?_, ?_⟩, ?_⟩
    · simp only; rw [← t1, a1]; simp
    · simp only; rw [← t2, a2]
    · simp only [List.length_drop, List.length_append, List.length_cons, List.length_nil]; omega
    · rw [List.length_drop]; omega
  cases acc with
  | nil =>
    refine Eq.mpr (w_rallround_nil s _) ?_
    simp only [obl_iff, branch_iff, decide_eq_true_eq, decide_eq_false_iff_not, Bool.not_eq_true', Bool.not_eq_false', Bool.and_eq_true, true_and]
    simp only [List.length_nil] at t3
    refine ⟨by omega, fun h5 => ?_, fun h5 => ⟨fun h4 => ?_, fun h4 => ?_⟩⟩
    · obtain ⟨a1, a2⟩ := all_5 h5
      show kAll s0 (.ret (.tup [.nils, .int .i64 0])) _
      exact kAll_nil (all_done hT a1) (t2.symm.trans a2)
    · obtain ⟨a1, a2⟩ := all_4 h5 h4
      show kAll s0 (.ret (.tup [.nils, .int .i64 (dec s).e])) _
      exact kAll_nil (all_done hT a1) (t2.symm.trans a2)
    · obtain ⟨n1, n2⟩ := next h4
      obtain ⟨_, g2, g3, _⟩ := dec_again h4
      refine ⟨⟨by omega, by omega⟩, (_, [(dec s).p]), [(0, 3)], n2, n1, by decide, by kernel_rfl, ?_, ?_⟩
      · exact subER_cons rfl rfl rfl (subER_cons rfl rfl rfl subER_nil)
      · exact subHR_cons rfl rfl rfl rfl subHR_nil
  | cons p l =>
    refine Eq.mpr (w_rallround_cons s (p :: l) _) ?_
    simp only [obl_iff, branch_iff, decide_eq_true_eq, decide_eq_false_iff_not, Bool.not_eq_true', Bool.not_eq_false', Bool.and_eq_true, true_and]
    simp only [List.length_cons] at t3
    refine ⟨by omega, fun h5 => ?_, fun h5 => ⟨fun h4 => ?_, fun h4 => ?_⟩⟩
    · obtain ⟨a1, a2⟩ := all_5 h5
      show kAll s0 (.ret (.tup [.sl 0 0 9 0 (p :: l).length none, .int .i64 0])) _
      exact kAll_cons (r := 0) (all_done hT a1) (t2.symm.trans a2) rfl
    · obtain ⟨a1, a2⟩ := all_4 h5 h4
      show kAll s0 (.ret (.tup [.sl 0 0 9 0 (p :: l).length none, .int .i64 (dec s).e])) _
      exact kAll_cons (r := 0) (all_done hT a1) (t2.symm.trans a2) rfl
    · obtain ⟨n1, n2⟩ := next h4
      obtain ⟨_, g2, g3, _⟩ := dec_again h4
      refine ⟨?_, ⟨by omega, by omega⟩, (_, p :: (l ++ [(dec s).p])), [(0, 3)], n2, n1, by decide, by kernel_rfl, ?_, ?_⟩
      · simp only [List.length_cons, List.length_append, List.length_nil]
        (repeat' apply And.intro) <;> first | omega | rfl | decide
      · exact subER_cons rfl rfl rfl (subER_cons rfl rfl rfl subER_nil)
      · exact subHR_cons rfl rfl rfl rfl subHR_nil

theorem rall_calls (s0 : List UInt8) (hl : s0.length ≤ 1000000000) (ρ : Rho) (w : World) : Calls Try.prog 18 (trL ρ [.str s0]).toArray w fun e w' => ∃ out H' ρ', Out.rel ρ' H'.next out e ∧ kAll s0 out H' ∧ Step ρ ⟨0, []⟩ w ρ' H' w' := by
  refine fn_cutN TAok.ctx (k := 2) (n := 60) (fn := Try.f18) (c := bodyC Try.f18) (by kernel_rfl) (by kernel_rfl) (by kernel_rfl) (It := fun E H => H = ⟨0, []⟩ ∧ E = [(4, .nils), (3, .int .i64 0), (2, .nils), (0, .str s0)]) (Eq.mpr (w_rallpre s0 _ _) ⟨rfl, rfl⟩) ?_ (rel_nil ρ w) rfl
  rintro E H ⟨rfl, rfl⟩ ρ0 w0 N ρ a w hN hS hE hd hn
  have hT : tAll s0 (s0, []) := ⟨hl, by simp, rfl, by simp⟩
  rw [rall_code]
  have hE' : RelE ρ 0 [(0, .str s0), (4, .nils)] a := ⟨fun t v hv => by
    rw [getE_cons, getE_cons] at hv
    split at hv
    · rename_i h; subst h; cases hv; exact hE.get _ _ rfl
    · split at hv
      · rename_i h; subst h; cases hv; exact hE.get _ _ rfl
      · cases hv⟩
  have hrun := @loopC_sound ⟨[]⟩ _ TAok.ctx ρ0 ⟨0, []⟩ w0 N 18 60 0 Try.f18 (bodyC Try.f18) (lpC (blkC (tailN 2 (bodyC Try.f18)))) (by kernel_rfl) (by kernel_rfl) (by
      have : blocksC (bodyC Try.f18) = (0, .loop (lpC (blkC (tailN 2 (bodyC Try.f18))))) :: blocksC (lpC (blkC (tailN 2 (bodyC Try.f18)))) := by kernel_rfl
      rw [this]; intro p hp; exact List.mem_cons_of_mem _ hp) (by kernel_rfl) hN _ stRAll (Nat.le_refl _) (fun _ => Nat.zero_le _) (fun x => x.1.length) (tAll s0) (endA (TA.ctx Try.prog).P Try.f18 (kAll s0))
    (fun x hx => ⟨_, fun _ _ _ h => h, rall_round s0 x hx⟩) (s0, []) hT _ a w hS.more hE'.more hd hn
  refine wp_block (wp_mono hrun ?_)
  rintro e a' w' ⟨x', E', H', ρ', q1, q2, q3, q4, q5, q6⟩
  cases x' with
  | normal => cases e <;> simp only [AExit.rel] at q1; exact ⟨.normal, E', H', ρ', trivial, q2, q3, q4, q5, q6⟩
  | ret => cases e <;> simp only [AExit.rel] at q1; exact ⟨.ret, E', H', ρ', trivial, q2, q3, q4, q5, q6⟩
  | exit i => exact q2.elim
  | panic v => cases e <;> simp only [AExit.rel] at q1; exact ⟨.panic v, E', H', ρ', q1, q2, q3, q4, q5, q6⟩

noncomputable def TB : Tabs := TA.addGc 18 gcAll
theorem TBok : TabsOk TB Try.prog := TAok.addGc (gcAll_of Try.call18 rall_calls)

end Go.Proofs.Ytcbkenicjmhkdaa
