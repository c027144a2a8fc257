/-
  The pieces of bytes: the contract.
-/
import Derived.Test.YtjacnjecggedhaaGseAll
namespace Go.Proofs.Ytjacnjecggedhaa
set_option linter.unusedVariables false
set_option linter.unusedSimpArgs false
open Go.RowKit Ev

theorem pieces_code : bodyC Try.f27 = .block 0 (.loop (lpC (blkC (bodyC Try.f27)))) := by kernel_rfl

def itAll (s0 : List UInt8) : Env → AHeap → List AVal → Prop := fun E H cs => s0.length ≤ 1000000000 ∧ E = envAll s0 ∧ cs = [.ptr 3 0 0 0] ∧ H = ⟨4, [(3, .cells 9 [.str s0]), (2, .cells 39 [.nils]), (1, .cells 40 [.int .i64 0]), (0, .cells 39 [.nils])]⟩

theorem all_it (s0 : List UInt8) : ∀ E H cs, itAll s0 E H cs → ∀ ρ0 w0 At ρ a w, YOk (TE.ctx Try.prog) H.next (roundA (TE.ctx Try.prog) 60 13 E [9, 10] (rfAssign rfAll) (rfBody rfAll)) ρ0 ⟨H.next + 1, H.bs⟩ w0 At → AtKeeps At → Step ρ0 ⟨H.next + 1, H.bs⟩ w0 ρ ⟨H.next + 1, H.bs⟩ w → RelE ρ (H.next + 1) (env0 (.yld H.next :: cs) 0) a → a.defers = [] → Try.f27.ntmps ≤ a.tmps.size → At none w →
      (bodyC Try.f27).wp (TE.ctx Try.prog).P (LiftY ρ0 ⟨H.next + 1, H.bs⟩ w0 a.tmps.size At (fun x _ H' pd => (x = .normal ∨ x = .ret) ∧ behindRF (TE.ctx Try.prog) 60 13 Try.f13 postAll E (kAll s0) H' pd)) a w := by
  rintro E H cs ⟨hl, rfl, rfl, rfl⟩ ρ0 w0 At ρ a w hY hAt hS hE hd hN hat
  have hT : tAll s0 (s0, []) := ⟨hl, by simp, rfl, by simp⟩
  have hS6 : Step ρ0 ⟨5, [(3, .cells 9 [.str s0]), (2, .cells 39 [.nils]), (1, .cells 40 [.int .i64 0]), (0, .cells 39 [.nils])]⟩ w0 (ρ.set 5 0 0) (stAll (s0, [])).2 w := by
    have h1 := hS.rel.more 0 0
    refine ⟨hS.agree.trans (Rho.set_agree ρ 5 0 0) (Nat.le_refl _), Nat.le_succ _, h1, hS.os, hS.tape, hS.output, hS.size, hS.old, fun g hg => ?_⟩
    obtain ⟨b, x, hx, ho, rfl⟩ := hg
    have hb := (hS.rel.blk b x hx).1
    have e : (ρ.set 5 0 0).blk b = ρ.blk b := (Rho.set_agree ρ 5 0 0 b hb).1
    rw [e]
    exact hS.owns _ ⟨b, x, hx, ho, rfl⟩
  have hE6 : RelE (ρ.set 5 0 0) (stAll (s0, [])).2.next (stAll (s0, [])).1 a := hE.step (Rho.set_agree ρ 5 0 0) (Nat.le_succ _)
  rw [pieces_code]
  have hrun := loopY_sound TEok.ctx hY hAt hN (g := 27) (n := 60) (c := lpC (blkC (bodyC Try.f27))) (by kernel_rfl) (by kernel_rfl) (base := 5) stAll (Nat.le_refl _) (fun x => by obtain ⟨s, acc⟩ := x; cases acc <;> exact (by decide : 5 ≤ 6)) (fun x => x.1.length) (tAll s0) (qAll s0)
    (fun x hx => ⟨_, fun _ _ _ _ h => h, all_round s0 x hx⟩) (s0, []) hT _ a w hS6 hE6 hd rfl hat
  refine wp_block (wp_mono hrun ?_)
  rintro e a' w' ⟨x', E', H', ρ', pd, q1, q2, q3, q4, q5, q6, q7⟩
  have q2' := q2
  obtain ⟨q8, q9⟩ := q2
  cases x' with
  | normal => cases e <;> simp only [AExit.rel] at q1; exact ⟨.normal, E', H', ρ', pd, trivial, q2', q3, q4, q5, q6, q7⟩
  | ret => cases e <;> simp only [AExit.rel] at q1; exact ⟨.ret, E', H', ρ', pd, trivial, q2', q3, q4, q5, q6, q7⟩
  | exit i => rcases q8 with h | h <;> cases h
  | panic v => rcases q8 with h | h <;> cases h

set_option maxRecDepth 100000 in
theorem all_walk (s0 : List UInt8) (hl : s0.length ≤ 1000000000) : wpRF (TE.ctx Try.prog) 60 13 27 8 (seqL (bodyC Try.f13)) (seqL (seqR (bodyC Try.f13))) (seqL (seqL (seqR (seqR (bodyC Try.f13))))) (itAll s0) [.str s0] ⟨0, []⟩ := by
  refine Eq.mpr (w_allpre s0 (fun E H => match getE E 8 with
    | some (.func g' [] cs) => match Nat.beq g' 27 with
      | true => forceH H fun H => itAll s0 E H cs
      | false => False
    | _ => False)) ?_
  exact ⟨hl, rfl, rfl, rfl⟩

set_option maxRecDepth 100000 in
theorem all_calls (s0 : List UInt8) (hl : s0.length ≤ 1000000000) (ρ : Rho) (w : World) : Calls Try.prog 13 (trL ρ [.str s0]).toArray w fun e w' => ∃ out H' ρ', Out.rel ρ' H'.next out e ∧ kAll s0 out H' ∧ Step ρ ⟨0, []⟩ w ρ' H' w' :=
  wpRF_sound TEok.ctx (bid := 0) (ps := [9, 10]) (fn := Try.f13) (gn := Try.f27) (assign := rfAssign rfAll) (body := rfBody rfAll) (post := postAll) (by kernel_rfl) (by kernel_rfl) (by kernel_rfl) rfl
    ⟨by simp [show (TE.ctx Try.prog).lcs = fun _ _ => none from rfl], by simp [show (TE.ctx Try.prog).lcs = fun _ _ => none from rfl], by kernel_rfl, by kernel_rfl, by kernel_rfl, by kernel_rfl, by decide⟩ (by kernel_rfl) (all_it s0) (all_walk s0 hl) (rel_nil ρ w) rfl

theorem gcAll_of {f : Nat} (he : ∀ vs w, (callFunc f vs).run Try.prog w = .ok (.enter f vs) w) (hc : ∀ s : List UInt8, s.length ≤ 1000000000 → ∀ ρ w, Calls Try.prog f (trL ρ [.str s]).toArray w fun e w' => ∃ out H' ρ', Out.rel ρ' H'.next out e ∧ kAll s out H' ∧ Step ρ ⟨0, []⟩ w ρ' H' w') : GcSound Try.prog f gcAll := by
  intro args H K hK ρ w hR hargs
  refine ⟨he, ?_⟩
  unfold gcAll at hK
  split at hK
  · rename_i s
    simp only [obl_iff, branch_iff, decide_eq_true_eq, forceK_eq, forceH_eq] at hK
    obtain ⟨hl, hnil, hcons⟩ := hK
    refine (hc s hl ρ w).mono ?_
    rintro e w' ⟨out, H', ρ', h1, h2, h3⟩
    have hno : ∀ g, ¬ Owns ρ ⟨0, []⟩ g := by
      rintro g ⟨b, x, hx, _⟩
      simp [AHeap.get, getB] at hx
    have hbelow : Below w.heap.size w w' := h3.below (Nat.le_refl _) (fun g hg => absurd hg (hno g))
    unfold kAll at h2
    split at h2
    · rename_i hp
      subst h2
      cases e <;> simp only [Out.rel] at h1
      obtain ⟨rfl, _⟩ := h1
      refine ⟨.ret (.tup [.nils, .int .i64 (allE s)]), H, ρ, ⟨rfl, rfl⟩, hnil (by rw [hp]; rfl), Step.grow hR hbelow⟩
    · rename_i hp
      obtain ⟨r, rfl, hr⟩ := h2
      cases e <;> simp only [Out.rel] at h1
      obtain ⟨rfl, _⟩ := h1
      obtain ⟨r1, r2, r3, r4⟩ := h3.rel.blk r _ hr
      obtain ⟨o1, o2, o3, cur, fz, o4, o5, o6, o7⟩ := r4
      have hge : w.heap.size ≤ ρ'.blk r := by
        rcases h3.owns _ ⟨r, _, hr, rfl, rfl⟩ with h | h
        · exact h
        · exact absurd h (hno _)
      have hne : (allP s).isEmpty = false := by
        cases hq : allP s with
        | nil => exact absurd hq hp
        | cons p l => rfl
      have hnew : NewTo ρ H.next w (.tup [.sl H.next 0 9 0 (allP s).length none, .int .i64 (allE s)]) (.row 46 pieceRow (allP s) .plain) (tr ρ' (.tup [.sl r 0 9 0 (allP s).length none, .int .i64 (allE s)])) w' := by
        refine ⟨⟨ρ'.blk r, ρ'.cap r, ?_, hge, r3, ⟨?_, ?_, ?_, cur, fz, ?_, o5, ?_, ?_⟩⟩, hbelow, rfl, ?_⟩
        · simp only [tr, trL, o1, (set_self ρ H.next (ρ'.blk r) (ρ'.cap r)).1, (set_self ρ H.next (ρ'.blk r) (ρ'.cap r)).2.1, (set_self ρ H.next (ρ'.blk r) (ρ'.cap r)).2.2]
        · exact (set_self ρ H.next _ _).2.1
        · rw [(set_self ρ H.next _ _).2.2]; exact o2
        · rw [(set_self ρ H.next _ _).2.2]; exact o3
        · rw [(set_self ρ H.next _ _).1]; exact o4
        · rw [(set_self ρ H.next _ _).2.2]; exact o6
        · rw [o7, trL_eq, trL_eq]
          apply List.map_congr_left
          intro y hy
          have hd := flat_data pieceRow (allP s)
          rw [List.all_eq_true] at hd
          exact AVal.data_tr (hd y hy) _ _
        · constructor
          · simp [AVal.under, belowL]
          · rfl
      obtain ⟨ρ'', s1, s2, s3⟩ := Step.new hR hnew
      rw [s2]
      exact ⟨.ret (.tup [.sl H.next 0 9 0 (allP s).length none, .int .i64 (allE s)]), _, ρ'', ⟨rfl, s3⟩, hcons hne, s1⟩
  · exact (not_stuck hK).elim

theorem all_sound : GcSound Try.prog 13 gcAll := gcAll_of Try.call13 all_calls

noncomputable def TA : Tabs := TE.addGc 13 gcAll
theorem TAok : TabsOk TA Try.prog := TEok.addGc all_sound

end Go.Proofs.Ytjacnjecggedhaa
