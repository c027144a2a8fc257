/-
  Texts for RowFillWhole: of the reckoner, walks, contracts and plain laws that its row stands on.
-/
import Derived.Test.YtjacnjecggedhaaFb12
namespace Go.Proofs.Ytjacnjecggedhaa
set_option linter.unusedVariables false
set_option linter.unusedSimpArgs false
open Go.RowKit Ev
set_option maxRecDepth 100000 in
theorem g_10 (H0 : AHeap) (hH0 : H0.next ≤ 3) (n : Nat) (sp : Int) (cs : List CutR) (ds : List BoolR) (fv : Int) (F : FSt) (i : Nat) (Q : AExit → Env → AHeap → Prop)
    (hn : i < n) (hcs : cs.length = n) (hds : ds.length = n) (hn30 : n ≤ 30) (hd : (ds.getD i ⟨false⟩).b = false) (hsp : sp ≤ 7300) (hL : (F.L.length : Int) ≤ sp) (hk : 2 * F.k ≤ F.L.length) (hc : CSm (cs.getD i noCut))
    (hfail : ∀ (cs' : List CutR) (ds' : List BoolR) (F' : FSt), F'.L = F.L → ¬ OkR sp F (stepR sp F (cs.getD i noCut)) → Q (.exit 0) (g10 n sp cs' ds' fv F' (f13 i)).1 (g10 n sp cs' ds' fv F' (f13 i)).2)
    (hlast : ∀ (R : NextR) (F' : FSt), stepR sp F (cs.getD i noCut) = R → OkR sp F R → R.en = true → F' = stepF F (cs.getD i noCut) R → Q (.exit 2) (g11 n sp (cs.set i (stepC (cs.getD i noCut) R)) (ds.set i ⟨R.en⟩) fv F' [(i : Int) + 1] (f13 i)).1 (g11 n sp (cs.set i (stepC (cs.getD i noCut) R)) (ds.set i ⟨R.en⟩) fv F' [(i : Int) + 1] (f13 i)).2)
    (hnorm : ∀ (R : NextR) (F' : FSt), stepR sp F (cs.getD i noCut) = R → OkR sp F R → R.en = false → F' = stepF F (cs.getD i noCut) R → Q .normal (g10 n sp (cs.set i (stepC (cs.getD i noCut) R)) (ds.set i ⟨R.en⟩) fv F' (f13 i)).1 (g10 n sp (cs.set i (stepC (cs.getD i noCut) R)) (ds.set i ⟨R.en⟩) fv F' (f13 i)).2) :
    Gd (TX2.ctx Try.prog) 9 H0 fillL Q (g10 n sp cs ds fv F (f13 i)).1 (g10 n sp cs ds fv F (f13 i)).2 := by
  refine Gd.walkC TX2ok.ctx 3 ts13 hH0 (inFn_at TX2ok.ctx (fn := Try.f9) (by kernel_rfl) (by kernel_rfl) [true, false, true, true, true, true, true, false, true, false, false, true, false, false, false, false]) (Eq.mpr (w_fl_10 n sp cs ds fv F i _) ?_)
  have idx : 0 + (i : Int).toNat = i := by omega
  have hi6 : i < 1000000 := by omega
  rw [idJ_eq hi6, idx, cutI_eq hi6, idI_eq hi6]
  refine obl_int (by omega) ((twice_iff _).2 ?_)
  refine br_dec (fun h => absurd h (by omega)) (fun _ => ?_)
  refine obl_dec (by omega) (obl_dec (by omega) ?_)
  refine br_mk (fun h => by rw [hd] at h; cases h) (fun _ => ?_)
  refine obl_dec (by omega) (obl_dec (by omega) ?_)
  generalize hce : cs.getD i noCut = c
  have hce' : cs.getD i noCut = c := hce
  rw [hce'] at hc
  simp only [hce'] at hlast hnorm hfail
  refine br_dec (fun hp => ?_) (fun hp => ?_)
  · refine br_mk (fun hb0 => ?_) (fun hb0 => ?_)
    · have hb0 : F.lb ≠ [] := by simpa using hb0
      refine br_mk (fun hq => ?_) (fun hq => ?_)
      · have hq : F.lk = c.k ∧ F.lb = c.lb := by simpa using hq
        intro R hR
        have q : labOf F c = (3, []) := by unfold labOf memL; rw [if_pos hp, if_pos ⟨hb0, hq.1, hq.2⟩]
        have hM : memOf F c = (F.lk, F.lb) := by unfold memOf memK; rw [if_pos hp, if_pos ⟨hb0, hq.1, hq.2⟩]
        have hR' : stepR sp F c = R := by unfold stepR; rw [q]; exact hR
        have hsm := stepR_small hR' hc
        refine br_mk (fun he => br_mk (fun _ => hfail cs ds ⟨F.L, F.beg, F.k, F.lk, F.lb⟩ rfl (fun hk => by rw [hR'] at hk; rw [hk.err] at he; cases he)) (fun h2 => by rw [he] at h2; cases h2)) (fun he => ?_)
        have he : R.err = 0 := by simpa using he
        refine obl_dec (by omega) (obl_and (by omega) rfl (obl_dec (by omega) (obl_and (by omega) rfl (obl_dec hsm.1 ?_))))
        refine br_mk (fun hg => hfail (cs.set i (stepC c R)) (ds.set i ⟨R.en⟩) ⟨F.L, F.beg, F.k, F.lk, F.lb⟩ rfl (fun hk => by rw [hR'] at hk; have h0 : (!decide (errR R = 0)) = true := hg; rw [hk.enc] at h0; cases h0)) (fun hg => ?_)
        have hg : errR R = 0 := by simpa [errR] using hg
        refine br_dec (fun hs => hfail (cs.set i (stepC c R)) (ds.set i ⟨R.en⟩) ⟨F.L, F.beg, F.k, F.lk, F.lb⟩ rfl (fun hk => by rw [hR'] at hk; have h0 : sp - (F.L.length : Int) < ((encR R).length : Int) := hs; have h1 := hk.len; omega)) (fun hs => ?_)
        have hs : ¬ (sp - (F.L.length : Int) < ((encR R).length : Int)) := by exact hs
        have hok : OkR sp F R := ⟨he, hg, by omega⟩
        have t2 := encR_len hg
        refine br_dec (fun h => absurd h (by omega)) (fun _ => ?_)
        have q0 : (F.L ++ encR R).length = F.L.length + (encR R).length := List.length_append
        have q1 : (F.L ++ encR R).length ≤ 9223372036854775807 := by omega
        have q2 : (F.L ++ encR R).length * 1 ≤ 140737488355328 := by omega
        refine obl_int (by omega) (obl_tt (decide_eq_true ⟨rfl, rfl, rfl, Nat.one_pos, q1, q2⟩) ?_)
        refine br_mk (fun hb => br_mk (fun h => hlast R ⟨F.L ++ encR R, true, F.k + 1, F.lk, F.lb⟩ hR' hok h (by unfold stepF; rw [hM, hb]; rfl)) (fun h => hnorm R ⟨F.L ++ encR R, true, F.k + 1, F.lk, F.lb⟩ hR' hok h (by unfold stepF; rw [hM, hb]; rfl))) (fun hb => br_mk (fun hst => br_mk (fun h => hlast R ⟨F.L ++ encR R, !R.en, F.k + 1, F.lk, F.lb⟩ hR' hok h (by unfold stepF; rw [hM, hb, hst]; rfl)) (fun h => hnorm R ⟨F.L ++ encR R, !R.en, F.k + 1, F.lk, F.lb⟩ hR' hok h (by unfold stepF; rw [hM, hb, hst]; rfl))) (fun hst => br_mk (fun h => hlast R ⟨F.L ++ encR R, false, F.k + 1, F.lk, F.lb⟩ hR' hok h (by unfold stepF; rw [hM, hb, hst]; rfl)) (fun h => hnorm R ⟨F.L ++ encR R, false, F.k + 1, F.lk, F.lb⟩ hR' hok h (by unfold stepF; rw [hM, hb, hst]; rfl))))
      · have hne : ¬ (F.lb ≠ [] ∧ F.lk = c.k ∧ F.lb = c.lb) := by rintro ⟨_, h1, h2⟩; rw [decide_eq_true h1, decide_eq_true h2] at hq; cases hq
        refine br_dec (fun hs0 => br_dec (fun ho => ?_) (fun ho => ?_)) (fun hs0 => ?_)
        · have ho : lOk c.k c.lb = true := by by_cases h : lOk c.k c.lb = true; exact h; rw [if_neg h] at ho; exact absurd ho (by decide)
          intro R hR
          have q : labOf F c = (c.k, c.lb) := by unfold labOf memL; rw [if_pos hp, if_neg hne]
          have hM : memOf F c = (c.k, c.lb) := by unfold memOf memK; rw [if_pos hp, if_neg hne, if_pos ⟨hs0, ho⟩]
          have hR' : stepR sp F c = R := by unfold stepR; rw [q]; exact hR
          have hsm := stepR_small hR' hc
          refine br_mk (fun he => br_mk (fun _ => hfail cs ds ⟨F.L, F.beg, F.k, c.k, c.lb⟩ rfl (fun hk => by rw [hR'] at hk; rw [hk.err] at he; cases he)) (fun h2 => by rw [he] at h2; cases h2)) (fun he => ?_)
          have he : R.err = 0 := by simpa using he
          refine obl_dec (by omega) (obl_and (by omega) rfl (obl_dec (by omega) (obl_and (by omega) rfl (obl_dec hsm.1 ?_))))
          refine br_mk (fun hg => hfail (cs.set i (stepC c R)) (ds.set i ⟨R.en⟩) ⟨F.L, F.beg, F.k, c.k, c.lb⟩ rfl (fun hk => by rw [hR'] at hk; have h0 : (!decide (errR R = 0)) = true := hg; rw [hk.enc] at h0; cases h0)) (fun hg => ?_)
          have hg : errR R = 0 := by simpa [errR] using hg
          refine br_dec (fun hs => hfail (cs.set i (stepC c R)) (ds.set i ⟨R.en⟩) ⟨F.L, F.beg, F.k, c.k, c.lb⟩ rfl (fun hk => by rw [hR'] at hk; have h0 : sp - (F.L.length : Int) < ((encR R).length : Int) := hs; have h1 := hk.len; omega)) (fun hs => ?_)
          have hs : ¬ (sp - (F.L.length : Int) < ((encR R).length : Int)) := by exact hs
          have hok : OkR sp F R := ⟨he, hg, by omega⟩
          have t2 := encR_len hg
          refine br_dec (fun h => absurd h (by omega)) (fun _ => ?_)
          have q0 : (F.L ++ encR R).length = F.L.length + (encR R).length := List.length_append
          have q1 : (F.L ++ encR R).length ≤ 9223372036854775807 := by omega
          have q2 : (F.L ++ encR R).length * 1 ≤ 140737488355328 := by omega
          refine obl_int (by omega) (obl_tt (decide_eq_true ⟨rfl, rfl, rfl, Nat.one_pos, q1, q2⟩) ?_)
          refine br_mk (fun hb => br_mk (fun h => hlast R ⟨F.L ++ encR R, true, F.k + 1, c.k, c.lb⟩ hR' hok h (by unfold stepF; rw [hM, hb]; rfl)) (fun h => hnorm R ⟨F.L ++ encR R, true, F.k + 1, c.k, c.lb⟩ hR' hok h (by unfold stepF; rw [hM, hb]; rfl))) (fun hb => br_mk (fun hst => br_mk (fun h => hlast R ⟨F.L ++ encR R, !R.en, F.k + 1, c.k, c.lb⟩ hR' hok h (by unfold stepF; rw [hM, hb, hst]; rfl)) (fun h => hnorm R ⟨F.L ++ encR R, !R.en, F.k + 1, c.k, c.lb⟩ hR' hok h (by unfold stepF; rw [hM, hb, hst]; rfl))) (fun hst => br_mk (fun h => hlast R ⟨F.L ++ encR R, false, F.k + 1, c.k, c.lb⟩ hR' hok h (by unfold stepF; rw [hM, hb, hst]; rfl)) (fun h => hnorm R ⟨F.L ++ encR R, false, F.k + 1, c.k, c.lb⟩ hR' hok h (by unfold stepF; rw [hM, hb, hst]; rfl))))
        · have ho : ¬ lOk c.k c.lb = true := fun h => by rw [if_pos h] at ho; exact ho rfl
          intro R hR
          have q : labOf F c = (c.k, c.lb) := by unfold labOf memL; rw [if_pos hp, if_neg hne]
          have hM : memOf F c = (F.lk, F.lb) := by unfold memOf memK; rw [if_pos hp, if_neg hne, if_neg (fun h => ho h.2)]
          have hR' : stepR sp F c = R := by unfold stepR; rw [q]; exact hR
          have hsm := stepR_small hR' hc
          refine br_mk (fun he => br_mk (fun _ => hfail cs ds ⟨F.L, F.beg, F.k, F.lk, F.lb⟩ rfl (fun hk => by rw [hR'] at hk; rw [hk.err] at he; cases he)) (fun h2 => by rw [he] at h2; cases h2)) (fun he => ?_)
          have he : R.err = 0 := by simpa using he
          refine obl_dec (by omega) (obl_and (by omega) rfl (obl_dec (by omega) (obl_and (by omega) rfl (obl_dec hsm.1 ?_))))
          refine br_mk (fun hg => hfail (cs.set i (stepC c R)) (ds.set i ⟨R.en⟩) ⟨F.L, F.beg, F.k, F.lk, F.lb⟩ rfl (fun hk => by rw [hR'] at hk; have h0 : (!decide (errR R = 0)) = true := hg; rw [hk.enc] at h0; cases h0)) (fun hg => ?_)
          have hg : errR R = 0 := by simpa [errR] using hg
          refine br_dec (fun hs => hfail (cs.set i (stepC c R)) (ds.set i ⟨R.en⟩) ⟨F.L, F.beg, F.k, F.lk, F.lb⟩ rfl (fun hk => by rw [hR'] at hk; have h0 : sp - (F.L.length : Int) < ((encR R).length : Int) := hs; have h1 := hk.len; omega)) (fun hs => ?_)
          have hs : ¬ (sp - (F.L.length : Int) < ((encR R).length : Int)) := by exact hs
          have hok : OkR sp F R := ⟨he, hg, by omega⟩
          have t2 := encR_len hg
          refine br_dec (fun h => absurd h (by omega)) (fun _ => ?_)
          have q0 : (F.L ++ encR R).length = F.L.length + (encR R).length := List.length_append
          have q1 : (F.L ++ encR R).length ≤ 9223372036854775807 := by omega
          have q2 : (F.L ++ encR R).length * 1 ≤ 140737488355328 := by omega
          refine obl_int (by omega) (obl_tt (decide_eq_true ⟨rfl, rfl, rfl, Nat.one_pos, q1, q2⟩) ?_)
          refine br_mk (fun hb => br_mk (fun h => hlast R ⟨F.L ++ encR R, true, F.k + 1, F.lk, F.lb⟩ hR' hok h (by unfold stepF; rw [hM, hb]; rfl)) (fun h => hnorm R ⟨F.L ++ encR R, true, F.k + 1, F.lk, F.lb⟩ hR' hok h (by unfold stepF; rw [hM, hb]; rfl))) (fun hb => br_mk (fun hst => br_mk (fun h => hlast R ⟨F.L ++ encR R, !R.en, F.k + 1, F.lk, F.lb⟩ hR' hok h (by unfold stepF; rw [hM, hb, hst]; rfl)) (fun h => hnorm R ⟨F.L ++ encR R, !R.en, F.k + 1, F.lk, F.lb⟩ hR' hok h (by unfold stepF; rw [hM, hb, hst]; rfl))) (fun hst => br_mk (fun h => hlast R ⟨F.L ++ encR R, false, F.k + 1, F.lk, F.lb⟩ hR' hok h (by unfold stepF; rw [hM, hb, hst]; rfl)) (fun h => hnorm R ⟨F.L ++ encR R, false, F.k + 1, F.lk, F.lb⟩ hR' hok h (by unfold stepF; rw [hM, hb, hst]; rfl))))
        · skip
          intro R hR
          have q : labOf F c = (c.k, c.lb) := by unfold labOf memL; rw [if_pos hp, if_neg hne]
          have hM : memOf F c = (F.lk, F.lb) := by unfold memOf memK; rw [if_pos hp, if_neg hne, if_neg (fun h => hs0 h.1)]
          have hR' : stepR sp F c = R := by unfold stepR; rw [q]; exact hR
          have hsm := stepR_small hR' hc
          refine br_mk (fun he => br_mk (fun _ => hfail cs ds ⟨F.L, F.beg, F.k, F.lk, F.lb⟩ rfl (fun hk => by rw [hR'] at hk; rw [hk.err] at he; cases he)) (fun h2 => by rw [he] at h2; cases h2)) (fun he => ?_)
          have he : R.err = 0 := by simpa using he
          refine obl_dec (by omega) (obl_and (by omega) rfl (obl_dec (by omega) (obl_and (by omega) rfl (obl_dec hsm.1 ?_))))
          refine br_mk (fun hg => hfail (cs.set i (stepC c R)) (ds.set i ⟨R.en⟩) ⟨F.L, F.beg, F.k, F.lk, F.lb⟩ rfl (fun hk => by rw [hR'] at hk; have h0 : (!decide (errR R = 0)) = true := hg; rw [hk.enc] at h0; cases h0)) (fun hg => ?_)
          have hg : errR R = 0 := by simpa [errR] using hg
          refine br_dec (fun hs => hfail (cs.set i (stepC c R)) (ds.set i ⟨R.en⟩) ⟨F.L, F.beg, F.k, F.lk, F.lb⟩ rfl (fun hk => by rw [hR'] at hk; have h0 : sp - (F.L.length : Int) < ((encR R).length : Int) := hs; have h1 := hk.len; omega)) (fun hs => ?_)
          have hs : ¬ (sp - (F.L.length : Int) < ((encR R).length : Int)) := by exact hs
          have hok : OkR sp F R := ⟨he, hg, by omega⟩
          have t2 := encR_len hg
          refine br_dec (fun h => absurd h (by omega)) (fun _ => ?_)
          have q0 : (F.L ++ encR R).length = F.L.length + (encR R).length := List.length_append
          have q1 : (F.L ++ encR R).length ≤ 9223372036854775807 := by omega
          have q2 : (F.L ++ encR R).length * 1 ≤ 140737488355328 := by omega
          refine obl_int (by omega) (obl_tt (decide_eq_true ⟨rfl, rfl, rfl, Nat.one_pos, q1, q2⟩) ?_)
          refine br_mk (fun hb => br_mk (fun h => hlast R ⟨F.L ++ encR R, true, F.k + 1, F.lk, F.lb⟩ hR' hok h (by unfold stepF; rw [hM, hb]; rfl)) (fun h => hnorm R ⟨F.L ++ encR R, true, F.k + 1, F.lk, F.lb⟩ hR' hok h (by unfold stepF; rw [hM, hb]; rfl))) (fun hb => br_mk (fun hst => br_mk (fun h => hlast R ⟨F.L ++ encR R, !R.en, F.k + 1, F.lk, F.lb⟩ hR' hok h (by unfold stepF; rw [hM, hb, hst]; rfl)) (fun h => hnorm R ⟨F.L ++ encR R, !R.en, F.k + 1, F.lk, F.lb⟩ hR' hok h (by unfold stepF; rw [hM, hb, hst]; rfl))) (fun hst => br_mk (fun h => hlast R ⟨F.L ++ encR R, false, F.k + 1, F.lk, F.lb⟩ hR' hok h (by unfold stepF; rw [hM, hb, hst]; rfl)) (fun h => hnorm R ⟨F.L ++ encR R, false, F.k + 1, F.lk, F.lb⟩ hR' hok h (by unfold stepF; rw [hM, hb, hst]; rfl))))
    · have hb0 : F.lb = [] := by simpa using hb0
      have hne : ¬ (F.lb ≠ [] ∧ F.lk = c.k ∧ F.lb = c.lb) := fun h => h.1 hb0
      refine br_dec (fun hs0 => br_dec (fun ho => ?_) (fun ho => ?_)) (fun hs0 => ?_)
      · have ho : lOk c.k c.lb = true := by by_cases h : lOk c.k c.lb = true; exact h; rw [if_neg h] at ho; exact absurd ho (by decide)
        intro R hR
        have q : labOf F c = (c.k, c.lb) := by unfold labOf memL; rw [if_pos hp, if_neg hne]
        have hM : memOf F c = (c.k, c.lb) := by unfold memOf memK; rw [if_pos hp, if_neg hne, if_pos ⟨hs0, ho⟩]
        have hR' : stepR sp F c = R := by unfold stepR; rw [q]; exact hR
        have hsm := stepR_small hR' hc
        refine br_mk (fun he => br_mk (fun _ => hfail cs ds ⟨F.L, F.beg, F.k, c.k, c.lb⟩ rfl (fun hk => by rw [hR'] at hk; rw [hk.err] at he; cases he)) (fun h2 => by rw [he] at h2; cases h2)) (fun he => ?_)
        have he : R.err = 0 := by simpa using he
        refine obl_dec (by omega) (obl_and (by omega) rfl (obl_dec (by omega) (obl_and (by omega) rfl (obl_dec hsm.1 ?_))))
        refine br_mk (fun hg => hfail (cs.set i (stepC c R)) (ds.set i ⟨R.en⟩) ⟨F.L, F.beg, F.k, c.k, c.lb⟩ rfl (fun hk => by rw [hR'] at hk; have h0 : (!decide (errR R = 0)) = true := hg; rw [hk.enc] at h0; cases h0)) (fun hg => ?_)
        have hg : errR R = 0 := by simpa [errR] using hg
        refine br_dec (fun hs => hfail (cs.set i (stepC c R)) (ds.set i ⟨R.en⟩) ⟨F.L, F.beg, F.k, c.k, c.lb⟩ rfl (fun hk => by rw [hR'] at hk; have h0 : sp - (F.L.length : Int) < ((encR R).length : Int) := hs; have h1 := hk.len; omega)) (fun hs => ?_)
        have hs : ¬ (sp - (F.L.length : Int) < ((encR R).length : Int)) := by exact hs
        have hok : OkR sp F R := ⟨he, hg, by omega⟩
        have t2 := encR_len hg
        refine br_dec (fun h => absurd h (by omega)) (fun _ => ?_)
        have q0 : (F.L ++ encR R).length = F.L.length + (encR R).length := List.length_append
        have q1 : (F.L ++ encR R).length ≤ 9223372036854775807 := by omega
        have q2 : (F.L ++ encR R).length * 1 ≤ 140737488355328 := by omega
        refine obl_int (by omega) (obl_tt (decide_eq_true ⟨rfl, rfl, rfl, Nat.one_pos, q1, q2⟩) ?_)
        refine br_mk (fun hb => br_mk (fun h => hlast R ⟨F.L ++ encR R, true, F.k + 1, c.k, c.lb⟩ hR' hok h (by unfold stepF; rw [hM, hb]; rfl)) (fun h => hnorm R ⟨F.L ++ encR R, true, F.k + 1, c.k, c.lb⟩ hR' hok h (by unfold stepF; rw [hM, hb]; rfl))) (fun hb => br_mk (fun hst => br_mk (fun h => hlast R ⟨F.L ++ encR R, !R.en, F.k + 1, c.k, c.lb⟩ hR' hok h (by unfold stepF; rw [hM, hb, hst]; rfl)) (fun h => hnorm R ⟨F.L ++ encR R, !R.en, F.k + 1, c.k, c.lb⟩ hR' hok h (by unfold stepF; rw [hM, hb, hst]; rfl))) (fun hst => br_mk (fun h => hlast R ⟨F.L ++ encR R, false, F.k + 1, c.k, c.lb⟩ hR' hok h (by unfold stepF; rw [hM, hb, hst]; rfl)) (fun h => hnorm R ⟨F.L ++ encR R, false, F.k + 1, c.k, c.lb⟩ hR' hok h (by unfold stepF; rw [hM, hb, hst]; rfl))))
      · have ho : ¬ lOk c.k c.lb = true := fun h => by rw [if_pos h] at ho; exact ho rfl
        intro R hR
        have q : labOf F c = (c.k, c.lb) := by unfold labOf memL; rw [if_pos hp, if_neg hne]
        have hM : memOf F c = (F.lk, F.lb) := by unfold memOf memK; rw [if_pos hp, if_neg hne, if_neg (fun h => ho h.2)]
        have hR' : stepR sp F c = R := by unfold stepR; rw [q]; exact hR
        have hsm := stepR_small hR' hc
        refine br_mk (fun he => br_mk (fun _ => hfail cs ds ⟨F.L, F.beg, F.k, F.lk, F.lb⟩ rfl (fun hk => by rw [hR'] at hk; rw [hk.err] at he; cases he)) (fun h2 => by rw [he] at h2; cases h2)) (fun he => ?_)
        have he : R.err = 0 := by simpa using he
        refine obl_dec (by omega) (obl_and (by omega) rfl (obl_dec (by omega) (obl_and (by omega) rfl (obl_dec hsm.1 ?_))))
        refine br_mk (fun hg => hfail (cs.set i (stepC c R)) (ds.set i ⟨R.en⟩) ⟨F.L, F.beg, F.k, F.lk, F.lb⟩ rfl (fun hk => by rw [hR'] at hk; have h0 : (!decide (errR R = 0)) = true := hg; rw [hk.enc] at h0; cases h0)) (fun hg => ?_)
        have hg : errR R = 0 := by simpa [errR] using hg
        refine br_dec (fun hs => hfail (cs.set i (stepC c R)) (ds.set i ⟨R.en⟩) ⟨F.L, F.beg, F.k, F.lk, F.lb⟩ rfl (fun hk => by rw [hR'] at hk; have h0 : sp - (F.L.length : Int) < ((encR R).length : Int) := hs; have h1 := hk.len; omega)) (fun hs => ?_)
        have hs : ¬ (sp - (F.L.length : Int) < ((encR R).length : Int)) := by exact hs
        have hok : OkR sp F R := ⟨he, hg, by omega⟩
        have t2 := encR_len hg
        refine br_dec (fun h => absurd h (by omega)) (fun _ => ?_)
        have q0 : (F.L ++ encR R).length = F.L.length + (encR R).length := List.length_append
        have q1 : (F.L ++ encR R).length ≤ 9223372036854775807 := by omega
        have q2 : (F.L ++ encR R).length * 1 ≤ 140737488355328 := by omega
        refine obl_int (by omega) (obl_tt (decide_eq_true ⟨rfl, rfl, rfl, Nat.one_pos, q1, q2⟩) ?_)
        refine br_mk (fun hb => br_mk (fun h => hlast R ⟨F.L ++ encR R, true, F.k + 1, F.lk, F.lb⟩ hR' hok h (by unfold stepF; rw [hM, hb]; rfl)) (fun h => hnorm R ⟨F.L ++ encR R, true, F.k + 1, F.lk, F.lb⟩ hR' hok h (by unfold stepF; rw [hM, hb]; rfl))) (fun hb => br_mk (fun hst => br_mk (fun h => hlast R ⟨F.L ++ encR R, !R.en, F.k + 1, F.lk, F.lb⟩ hR' hok h (by unfold stepF; rw [hM, hb, hst]; rfl)) (fun h => hnorm R ⟨F.L ++ encR R, !R.en, F.k + 1, F.lk, F.lb⟩ hR' hok h (by unfold stepF; rw [hM, hb, hst]; rfl))) (fun hst => br_mk (fun h => hlast R ⟨F.L ++ encR R, false, F.k + 1, F.lk, F.lb⟩ hR' hok h (by unfold stepF; rw [hM, hb, hst]; rfl)) (fun h => hnorm R ⟨F.L ++ encR R, false, F.k + 1, F.lk, F.lb⟩ hR' hok h (by unfold stepF; rw [hM, hb, hst]; rfl))))
      · skip
        intro R hR
        have q : labOf F c = (c.k, c.lb) := by unfold labOf memL; rw [if_pos hp, if_neg hne]
        have hM : memOf F c = (F.lk, F.lb) := by unfold memOf memK; rw [if_pos hp, if_neg hne, if_neg (fun h => hs0 h.1)]
        have hR' : stepR sp F c = R := by unfold stepR; rw [q]; exact hR
        have hsm := stepR_small hR' hc
        refine br_mk (fun he => br_mk (fun _ => hfail cs ds ⟨F.L, F.beg, F.k, F.lk, F.lb⟩ rfl (fun hk => by rw [hR'] at hk; rw [hk.err] at he; cases he)) (fun h2 => by rw [he] at h2; cases h2)) (fun he => ?_)
        have he : R.err = 0 := by simpa using he
        refine obl_dec (by omega) (obl_and (by omega) rfl (obl_dec (by omega) (obl_and (by omega) rfl (obl_dec hsm.1 ?_))))
        refine br_mk (fun hg => hfail (cs.set i (stepC c R)) (ds.set i ⟨R.en⟩) ⟨F.L, F.beg, F.k, F.lk, F.lb⟩ rfl (fun hk => by rw [hR'] at hk; have h0 : (!decide (errR R = 0)) = true := hg; rw [hk.enc] at h0; cases h0)) (fun hg => ?_)
        have hg : errR R = 0 := by simpa [errR] using hg
        refine br_dec (fun hs => hfail (cs.set i (stepC c R)) (ds.set i ⟨R.en⟩) ⟨F.L, F.beg, F.k, F.lk, F.lb⟩ rfl (fun hk => by rw [hR'] at hk; have h0 : sp - (F.L.length : Int) < ((encR R).length : Int) := hs; have h1 := hk.len; omega)) (fun hs => ?_)
        have hs : ¬ (sp - (F.L.length : Int) < ((encR R).length : Int)) := by exact hs
        have hok : OkR sp F R := ⟨he, hg, by omega⟩
        have t2 := encR_len hg
        refine br_dec (fun h => absurd h (by omega)) (fun _ => ?_)
        have q0 : (F.L ++ encR R).length = F.L.length + (encR R).length := List.length_append
        have q1 : (F.L ++ encR R).length ≤ 9223372036854775807 := by omega
        have q2 : (F.L ++ encR R).length * 1 ≤ 140737488355328 := by omega
        refine obl_int (by omega) (obl_tt (decide_eq_true ⟨rfl, rfl, rfl, Nat.one_pos, q1, q2⟩) ?_)
        refine br_mk (fun hb => br_mk (fun h => hlast R ⟨F.L ++ encR R, true, F.k + 1, F.lk, F.lb⟩ hR' hok h (by unfold stepF; rw [hM, hb]; rfl)) (fun h => hnorm R ⟨F.L ++ encR R, true, F.k + 1, F.lk, F.lb⟩ hR' hok h (by unfold stepF; rw [hM, hb]; rfl))) (fun hb => br_mk (fun hst => br_mk (fun h => hlast R ⟨F.L ++ encR R, !R.en, F.k + 1, F.lk, F.lb⟩ hR' hok h (by unfold stepF; rw [hM, hb, hst]; rfl)) (fun h => hnorm R ⟨F.L ++ encR R, !R.en, F.k + 1, F.lk, F.lb⟩ hR' hok h (by unfold stepF; rw [hM, hb, hst]; rfl))) (fun hst => br_mk (fun h => hlast R ⟨F.L ++ encR R, false, F.k + 1, F.lk, F.lb⟩ hR' hok h (by unfold stepF; rw [hM, hb, hst]; rfl)) (fun h => hnorm R ⟨F.L ++ encR R, false, F.k + 1, F.lk, F.lb⟩ hR' hok h (by unfold stepF; rw [hM, hb, hst]; rfl))))
  · skip
    intro R hR
    have q : labOf F c = (c.k, c.lb) := by unfold labOf; rw [if_neg hp]
    have hM : memOf F c = (F.lk, F.lb) := by unfold memOf; rw [if_neg hp]
    have hR' : stepR sp F c = R := by unfold stepR; rw [q]; exact hR
    have hsm := stepR_small hR' hc
    refine br_mk (fun he => br_mk (fun _ => hfail cs ds ⟨F.L, F.beg, F.k, F.lk, F.lb⟩ rfl (fun hk => by rw [hR'] at hk; rw [hk.err] at he; cases he)) (fun h2 => by rw [he] at h2; cases h2)) (fun he => ?_)
    have he : R.err = 0 := by simpa using he
    refine obl_dec (by omega) (obl_and (by omega) rfl (obl_dec (by omega) (obl_and (by omega) rfl (obl_dec hsm.1 ?_))))
    refine br_mk (fun hg => hfail (cs.set i (stepC c R)) (ds.set i ⟨R.en⟩) ⟨F.L, F.beg, F.k, F.lk, F.lb⟩ rfl (fun hk => by rw [hR'] at hk; have h0 : (!decide (errR R = 0)) = true := hg; rw [hk.enc] at h0; cases h0)) (fun hg => ?_)
    have hg : errR R = 0 := by simpa [errR] using hg
    refine br_dec (fun hs => hfail (cs.set i (stepC c R)) (ds.set i ⟨R.en⟩) ⟨F.L, F.beg, F.k, F.lk, F.lb⟩ rfl (fun hk => by rw [hR'] at hk; have h0 : sp - (F.L.length : Int) < ((encR R).length : Int) := hs; have h1 := hk.len; omega)) (fun hs => ?_)
    have hs : ¬ (sp - (F.L.length : Int) < ((encR R).length : Int)) := by exact hs
    have hok : OkR sp F R := ⟨he, hg, by omega⟩
    have t2 := encR_len hg
    refine br_dec (fun h => absurd h (by omega)) (fun _ => ?_)
    have q0 : (F.L ++ encR R).length = F.L.length + (encR R).length := List.length_append
    have q1 : (F.L ++ encR R).length ≤ 9223372036854775807 := by omega
    have q2 : (F.L ++ encR R).length * 1 ≤ 140737488355328 := by omega
    refine obl_int (by omega) (obl_tt (decide_eq_true ⟨rfl, rfl, rfl, Nat.one_pos, q1, q2⟩) ?_)
    refine br_mk (fun hb => br_mk (fun h => hlast R ⟨F.L ++ encR R, true, F.k + 1, F.lk, F.lb⟩ hR' hok h (by unfold stepF; rw [hM, hb]; rfl)) (fun h => hnorm R ⟨F.L ++ encR R, true, F.k + 1, F.lk, F.lb⟩ hR' hok h (by unfold stepF; rw [hM, hb]; rfl))) (fun hb => br_mk (fun hst => br_mk (fun h => hlast R ⟨F.L ++ encR R, !R.en, F.k + 1, F.lk, F.lb⟩ hR' hok h (by unfold stepF; rw [hM, hb, hst]; rfl)) (fun h => hnorm R ⟨F.L ++ encR R, !R.en, F.k + 1, F.lk, F.lb⟩ hR' hok h (by unfold stepF; rw [hM, hb, hst]; rfl))) (fun hst => br_mk (fun h => hlast R ⟨F.L ++ encR R, false, F.k + 1, F.lk, F.lb⟩ hR' hok h (by unfold stepF; rw [hM, hb, hst]; rfl)) (fun h => hnorm R ⟨F.L ++ encR R, false, F.k + 1, F.lk, F.lb⟩ hR' hok h (by unfold stepF; rw [hM, hb, hst]; rfl))))
end Go.Proofs.Ytjacnjecggedhaa
namespace Go.Proofs.Ytjacnjecggedhaa
set_option linter.unusedVariables false
set_option linter.unusedSimpArgs false
open Go.RowKit Ev
set_option maxRecDepth 100000 in
set_option maxHeartbeats 1000000 in
theorem w_fl_11 (n : Nat) (sp : Int) (cs : List CutR) (ds : List BoolR) (fv : Int) (F : FSt) (S : List Int) (i : Nat) (Q : AExit → Env → AHeap → Prop) : (wpC (TX2.ctx Try.prog) 400 9 3 fillL (g11 n sp cs ds fv F S (f13 i)).1 (g11 n sp cs ds fv F S (f13 i)).2 (canQ 3 ts13 Q)
) = (obl (inI64 (sp - (↑F.L.length : Int))) (twice (branch (decide ((↑n : Int) % (18446744073709551616 : Int) < (↑i : Int) + (1 : Int))) (Q (AExit.exit 0) (fE (AVal.sl 7 0 1 0 S.length none) (f13 i))
 (AHeap.mk 9 (fHx n cs ds fv [(6, ABlk.cells 70 [AVal.sl 8 0 1 0 F.L.length none, AVal.int IntKind.i64 sp, AVal.bool F.beg, AVal.int IntKind.i64 (↑F.k : Int), AVal.int IntKind.i64 F.lk, AVal.str
 F.lb]), (7, ABlk.row 33 (intRow IntKind.u64) S RowMd.plain), (8, ABlk.row 5 byteRow F.L RowMd.plain)]))) (obl (decide ((0 : Int) ≤ idJ i ∧ idJ i < (↑n : Int))) (obl (decide (0 + (idJ i).toNat <
 ds.length)) (branch (ds.getD (idI i) (BoolR.mk false)).b (Q (AExit.exit 0) (fE (AVal.sl 7 0 1 0 S.length none) (f13 i)) (AHeap.mk 9 (fHx n cs ds fv [(6, ABlk.cells 70 [AVal.sl 8 0 1 0 F.L.length none,
 AVal.int IntKind.i64 sp, AVal.bool F.beg, AVal.int IntKind.i64 (↑F.k : Int), AVal.int IntKind.i64 F.lk, AVal.str F.lb]), (7, ABlk.row 33 (intRow IntKind.u64) S RowMd.plain), (8, ABlk.row 5 byteRow F.L
 RowMd.plain)]))) (obl (decide ((0 : Int) ≤ idJ i ∧ idJ i < (↑n : Int))) (obl (decide (0 + (idJ i).toNat < cs.length)) (branch (decide ((cutI cs i).pos = (0 : Int))) (branch (!decide (F.lb = []))
 (branch (decide (F.lk = (cutI cs i).k) && (decide (F.lb = (cutI cs i).lb) && true)) (∀ (R : NextR), nextR (cutI cs i).typ (cutI cs i).k (cutI cs i).lb (cutI cs i).data (cutI cs i).pos (cutI cs i).id
 (3 : Int) [] (sp - (↑F.L.length : Int)) F.beg = R → branch (!decide (R.err = (0 : Int))) (branch (!decide (R.err = (0 : Int))) (Q (AExit.exit 0) (fE (AVal.sl 7 0 1 0 S.length none) (f13 i)) (AHeap.mk
 9 (fHx n cs ds fv [(6, ABlk.cells 70 [AVal.sl 8 0 1 0 F.L.length none, AVal.int IntKind.i64 sp, AVal.bool F.beg, AVal.int IntKind.i64 (↑F.k : Int), AVal.int IntKind.i64 F.lk, AVal.str F.lb]), (7,
 ABlk.row 33 (intRow IntKind.u64) S RowMd.plain), (8, ABlk.row 5 byteRow F.L RowMd.plain)]))) (branch (decide (sp - (↑F.L.length : Int) < (3 : Int))) (Q (AExit.exit 0) (fE (AVal.sl 7 0 1 0 S.length
 none) (f13 i)) (AHeap.mk 9 (fHx n cs ds fv [(6, ABlk.cells 70 [AVal.sl 8 0 1 0 F.L.length none, AVal.int IntKind.i64 sp, AVal.bool F.beg, AVal.int IntKind.i64 (↑F.k : Int), AVal.int IntKind.i64 F.lk,
 AVal.str F.lb]), (7, ABlk.row 33 (intRow IntKind.u64) S RowMd.plain), (8, ABlk.row 5 byteRow F.L RowMd.plain)]))) (branch (decide ((70000 : Int) ≤ (↑F.k : Int))) (Q (AExit.exit 0) (fE (AVal.sl 7 0 1 0
 S.length none) (f13 i)) (AHeap.mk 9 (fHx n cs ds fv [(6, ABlk.cells 70 [AVal.sl 8 0 1 0 F.L.length none, AVal.int IntKind.i64 sp, AVal.bool F.beg, AVal.int IntKind.i64 (↑F.k : Int), AVal.int
 IntKind.i64 F.lk, AVal.str F.lb]), (7, ABlk.row 33 (intRow IntKind.u64) S RowMd.plain), (8, ABlk.row 5 byteRow F.L RowMd.plain)]))) (obl (inI64 ((↑F.k : Int) + (1 : Int))) (obl (true && decide
 (F.L.length = F.L.length ∧ 1 = 1 ∧ 1 = 1 ∧ 0 < 1 ∧ (F.L ++ [(48 : UInt8), (1 : UInt8), (0 : UInt8)]).length ≤ 9223372036854775807 ∧ (F.L ++ [(48 : UInt8), (1 : UInt8), (0 : UInt8)]).length * 1 ≤
 140737488355328)) (branch F.beg (Q AExit.normal (fE (AVal.sl 7 0 1 0 S.length none) (f13 i)) (AHeap.mk 9 (fHx n cs ds fv [(6, ABlk.cells 70 [AVal.sl 8 0 1 0 (F.L ++ [(48 : UInt8), (1 : UInt8), (0 :
 UInt8)]).length none, AVal.int IntKind.i64 sp, AVal.bool true, AVal.int IntKind.i64 ((↑F.k : Int) + (1 : Int)), AVal.int IntKind.i64 F.lk, AVal.str F.lb]), (7, ABlk.row 33 (intRow IntKind.u64) S
 RowMd.plain), (8, ABlk.row 5 byteRow (F.L ++ [(48 : UInt8), (1 : UInt8), (0 : UInt8)]) RowMd.plain)]))) (Q AExit.normal (fE (AVal.sl 7 0 1 0 S.length none) (f13 i)) (AHeap.mk 9 (fHx n cs ds fv [(6,
 ABlk.cells 70 [AVal.sl 8 0 1 0 (F.L ++ [(48 : UInt8), (1 : UInt8), (0 : UInt8)]).length none, AVal.int IntKind.i64 sp, AVal.bool false, AVal.int IntKind.i64 ((↑F.k : Int) + (1 : Int)), AVal.int
 IntKind.i64 F.lk, AVal.str F.lb]), (7, ABlk.row 33 (intRow IntKind.u64) S RowMd.plain), (8, ABlk.row 5 byteRow (F.L ++ [(48 : UInt8), (1 : UInt8), (0 : UInt8)]) RowMd.plain)]))))))))) (obl (decide ((0
 : Int) ≤ idJ i ∧ idJ i < (↑n : Int))) (obl (decide (0 + (idJ i).toNat < cs.length) && true) (obl (decide ((0 : Int) ≤ idJ i ∧ idJ i < (↑n : Int))) (obl (decide (0 + (idJ i).toNat < ds.length) && true)
 (obl (decide (R.lb.length + R.data.length + R.sum.length ≤ 9223372036854775000)) (branch (!decide (gErr R.st R.en R.id R.total R.typ R.k R.lb R.data R.sum = (0 : Int))) (Q (AExit.exit 0) (fE (AVal.sl
 7 0 1 0 S.length none) (f13 i)) (AHeap.mk 9 (fHx n (cs.set (idI i) (CutR.mk (cutI cs i).typ R.k2 R.b2 (cutI cs i).data R.at2 (cutI cs i).id)) (ds.set (idI i) (BoolR.mk R.en)) fv [(6, ABlk.cells 70
 [AVal.sl 8 0 1 0 F.L.length none, AVal.int IntKind.i64 sp, AVal.bool F.beg, AVal.int IntKind.i64 (↑F.k : Int), AVal.int IntKind.i64 F.lk, AVal.str F.lb]), (7, ABlk.row 33 (intRow IntKind.u64) S
 RowMd.plain), (8, ABlk.row 5 byteRow F.L RowMd.plain)]))) (branch (decide (sp - (↑F.L.length : Int) < (↑(gEnc R.st R.en R.id R.total R.typ R.k R.lb R.data R.sum).length : Int))) (Q (AExit.exit 0) (fE
 (AVal.sl 7 0 1 0 S.length none) (f13 i)) (AHeap.mk 9 (fHx n (cs.set (idI i) (CutR.mk (cutI cs i).typ R.k2 R.b2 (cutI cs i).data R.at2 (cutI cs i).id)) (ds.set (idI i) (BoolR.mk R.en)) fv [(6,
 ABlk.cells 70 [AVal.sl 8 0 1 0 F.L.length none, AVal.int IntKind.i64 sp, AVal.bool F.beg, AVal.int IntKind.i64 (↑F.k : Int), AVal.int IntKind.i64 F.lk, AVal.str F.lb]), (7, ABlk.row 33 (intRow
 IntKind.u64) S RowMd.plain), (8, ABlk.row 5 byteRow F.L RowMd.plain)]))) (branch (decide ((70000 : Int) ≤ (↑F.k : Int))) (Q (AExit.exit 0) (fE (AVal.sl 7 0 1 0 S.length none) (f13 i)) (AHeap.mk 9 (fHx
 n (cs.set (idI i) (CutR.mk (cutI cs i).typ R.k2 R.b2 (cutI cs i).data R.at2 (cutI cs i).id)) (ds.set (idI i) (BoolR.mk R.en)) fv [(6, ABlk.cells 70 [AVal.sl 8 0 1 0 F.L.length none, AVal.int
 IntKind.i64 sp, AVal.bool F.beg, AVal.int IntKind.i64 (↑F.k : Int), AVal.int IntKind.i64 F.lk, AVal.str F.lb]), (7, ABlk.row 33 (intRow IntKind.u64) S RowMd.plain), (8, ABlk.row 5 byteRow F.L
 RowMd.plain)]))) (obl (inI64 ((↑F.k : Int) + (1 : Int))) (obl (true && decide (F.L.length = F.L.length ∧ 1 = 1 ∧ 1 = 1 ∧ 0 < 1 ∧ (F.L ++ gEnc R.st R.en R.id R.total R.typ R.k R.lb R.data R.sum).length
 ≤ 9223372036854775807 ∧ (F.L ++ gEnc R.st R.en R.id R.total R.typ R.k R.lb R.data R.sum).length * 1 ≤ 140737488355328)) (branch F.beg (branch R.en (obl (true && decide (S.length = S.length ∧ 1 = 1 ∧ 1
 = 1 ∧ 0 < 1 ∧ (S ++ [(↑i : Int) + (1 : Int)]).length ≤ 9223372036854775807 ∧ (S ++ [(↑i : Int) + (1 : Int)]).length * 8 ≤ 140737488355328)) (Q (AExit.exit 2) [(4, AVal.ptr 3 0 0 0), (5, AVal.ptr 4 0 0
 0), (6, AVal.ptr 5 0 0 0), (10, AVal.ptr 6 0 0 0), (11, AVal.sl 7 0 1 0 (S ++ [(↑i : Int) + (1 : Int)]).length none), (12, AVal.func 16 [] [AVal.ptr 3 0 0 0, AVal.ptr 4 0 0 0, AVal.ptr 5 0 0 0]), (13,
 AVal.int IntKind.u64 ((↑i : Int) + (1 : Int)))] (AHeap.mk 9 (fHx n (cs.set (idI i) (CutR.mk (cutI cs i).typ R.k2 R.b2 (cutI cs i).data R.at2 (cutI cs i).id)) (ds.set (idI i) (BoolR.mk R.en)) fv [(6,
 ABlk.cells 70 [AVal.sl 8 0 1 0 (F.L ++ gEnc R.st R.en R.id R.total R.typ R.k R.lb R.data R.sum).length none, AVal.int IntKind.i64 sp, AVal.bool true, AVal.int IntKind.i64 ((↑F.k : Int) + (1 : Int)),
 AVal.int IntKind.i64 F.lk, AVal.str F.lb]), (7, ABlk.row 33 (intRow IntKind.u64) (S ++ [(↑i : Int) + (1 : Int)]) RowMd.plain), (8, ABlk.row 5 byteRow (F.L ++ gEnc R.st R.en R.id R.total R.typ R.k R.lb
 R.data R.sum) RowMd.plain)])))) (Q AExit.normal (fE (AVal.sl 7 0 1 0 S.length none) (f13 i)) (AHeap.mk 9 (fHx n (cs.set (idI i) (CutR.mk (cutI cs i).typ R.k2 R.b2 (cutI cs i).data R.at2 (cutI cs
 i).id)) (ds.set (idI i) (BoolR.mk R.en)) fv [(6, ABlk.cells 70 [AVal.sl 8 0 1 0 (F.L ++ gEnc R.st R.en R.id R.total R.typ R.k R.lb R.data R.sum).length none, AVal.int IntKind.i64 sp, AVal.bool true,
 AVal.int IntKind.i64 ((↑F.k : Int) + (1 : Int)), AVal.int IntKind.i64 F.lk, AVal.str F.lb]), (7, ABlk.row 33 (intRow IntKind.u64) S RowMd.plain), (8, ABlk.row 5 byteRow (F.L ++ gEnc R.st R.en R.id
 R.total R.typ R.k R.lb R.data R.sum) RowMd.plain)])))) (branch R.st (branch R.en (obl (true && decide (S.length = S.length ∧ 1 = 1 ∧ 1 = 1 ∧ 0 < 1 ∧ (S ++ [(↑i : Int) + (1 : Int)]).length ≤
 9223372036854775807 ∧ (S ++ [(↑i : Int) + (1 : Int)]).length * 8 ≤ 140737488355328)) (Q (AExit.exit 2) [(4, AVal.ptr 3 0 0 0), (5, AVal.ptr 4 0 0 0), (6, AVal.ptr 5 0 0 0), (10, AVal.ptr 6 0 0 0),
 (11, AVal.sl 7 0 1 0 (S ++ [(↑i : Int) + (1 : Int)]).length none), (12, AVal.func 16 [] [AVal.ptr 3 0 0 0, AVal.ptr 4 0 0 0, AVal.ptr 5 0 0 0]), (13, AVal.int IntKind.u64 ((↑i : Int) + (1 : Int)))]
 (AHeap.mk 9 (fHx n (cs.set (idI i) (CutR.mk (cutI cs i).typ R.k2 R.b2 (cutI cs i).data R.at2 (cutI cs i).id)) (ds.set (idI i) (BoolR.mk R.en)) fv [(6, ABlk.cells 70 [AVal.sl 8 0 1 0 (F.L ++ gEnc R.st
 R.en R.id R.total R.typ R.k R.lb R.data R.sum).length none, AVal.int IntKind.i64 sp, AVal.bool !R.en, AVal.int IntKind.i64 ((↑F.k : Int) + (1 : Int)), AVal.int IntKind.i64 F.lk, AVal.str F.lb]), (7,
 ABlk.row 33 (intRow IntKind.u64) (S ++ [(↑i : Int) + (1 : Int)]) RowMd.plain), (8, ABlk.row 5 byteRow (F.L ++ gEnc R.st R.en R.id R.total R.typ R.k R.lb R.data R.sum) RowMd.plain)])))) (Q AExit.normal
 (fE (AVal.sl 7 0 1 0 S.length none) (f13 i)) (AHeap.mk 9 (fHx n (cs.set (idI i) (CutR.mk (cutI cs i).typ R.k2 R.b2 (cutI cs i).data R.at2 (cutI cs i).id)) (ds.set (idI i) (BoolR.mk R.en)) fv [(6,
 ABlk.cells 70 [AVal.sl 8 0 1 0 (F.L ++ gEnc R.st R.en R.id R.total R.typ R.k R.lb R.data R.sum).length none, AVal.int IntKind.i64 sp, AVal.bool !R.en, AVal.int IntKind.i64 ((↑F.k : Int) + (1 : Int)),
 AVal.int IntKind.i64 F.lk, AVal.str F.lb]), (7, ABlk.row 33 (intRow IntKind.u64) S RowMd.plain), (8, ABlk.row 5 byteRow (F.L ++ gEnc R.st R.en R.id R.total R.typ R.k R.lb R.data R.sum)
 RowMd.plain)])))) (branch R.en (obl (true && decide (S.length = S.length ∧ 1 = 1 ∧ 1 = 1 ∧ 0 < 1 ∧ (S ++ [(↑i : Int) + (1 : Int)]).length ≤ 9223372036854775807 ∧ (S ++ [(↑i : Int) + (1 : Int)]).length
 * 8 ≤ 140737488355328)) (Q (AExit.exit 2) [(4, AVal.ptr 3 0 0 0), (5, AVal.ptr 4 0 0 0), (6, AVal.ptr 5 0 0 0), (10, AVal.ptr 6 0 0 0), (11, AVal.sl 7 0 1 0 (S ++ [(↑i : Int) + (1 : Int)]).length
 none), (12, AVal.func 16 [] [AVal.ptr 3 0 0 0, AVal.ptr 4 0 0 0, AVal.ptr 5 0 0 0]), (13, AVal.int IntKind.u64 ((↑i : Int) + (1 : Int)))] (AHeap.mk 9 (fHx n (cs.set (idI i) (CutR.mk (cutI cs i).typ
 R.k2 R.b2 (cutI cs i).data R.at2 (cutI cs i).id)) (ds.set (idI i) (BoolR.mk R.en)) fv [(6, ABlk.cells 70 [AVal.sl 8 0 1 0 (F.L ++ gEnc R.st R.en R.id R.total R.typ R.k R.lb R.data R.sum).length none,
 AVal.int IntKind.i64 sp, AVal.bool false, AVal.int IntKind.i64 ((↑F.k : Int) + (1 : Int)), AVal.int IntKind.i64 F.lk, AVal.str F.lb]), (7, ABlk.row 33 (intRow IntKind.u64) (S ++ [(↑i : Int) + (1 :
 Int)]) RowMd.plain), (8, ABlk.row 5 byteRow (F.L ++ gEnc R.st R.en R.id R.total R.typ R.k R.lb R.data R.sum) RowMd.plain)])))) (Q AExit.normal (fE (AVal.sl 7 0 1 0 S.length none) (f13 i)) (AHeap.mk 9
 (fHx n (cs.set (idI i) (CutR.mk (cutI cs i).typ R.k2 R.b2 (cutI cs i).data R.at2 (cutI cs i).id)) (ds.set (idI i) (BoolR.mk R.en)) fv [(6, ABlk.cells 70 [AVal.sl 8 0 1 0 (F.L ++ gEnc R.st R.en R.id
 R.total R.typ R.k R.lb R.data R.sum).length none, AVal.int IntKind.i64 sp, AVal.bool false, AVal.int IntKind.i64 ((↑F.k : Int) + (1 : Int)), AVal.int IntKind.i64 F.lk, AVal.str F.lb]), (7, ABlk.row 33
 (intRow IntKind.u64) S RowMd.plain), (8, ABlk.row 5 byteRow (F.L ++ gEnc R.st R.en R.id R.total R.typ R.k R.lb R.data R.sum) RowMd.plain)]))))))))))))))))) (branch (decide ((0 : Int) < lSize (cutI cs
 i).k)) (branch (decide ((if lOk (cutI cs i).k (cutI cs i).lb = true then (0 : Int) else (2 : Int)) = (0 : Int))) (∀ (R : NextR), nextR (cutI cs i).typ (cutI cs i).k (cutI cs i).lb (cutI cs i).data
 (cutI cs i).pos (cutI cs i).id (cutI cs i).k (cutI cs i).lb (sp - (↑F.L.length : Int)) F.beg = R → branch (!decide (R.err = (0 : Int))) (branch (!decide (R.err = (0 : Int))) (Q (AExit.exit 0) (fE
 (AVal.sl 7 0 1 0 S.length none) (f13 i)) (AHeap.mk 9 (fHx n cs ds fv [(6, ABlk.cells 70 [AVal.sl 8 0 1 0 F.L.length none, AVal.int IntKind.i64 sp, AVal.bool F.beg, AVal.int IntKind.i64 (↑F.k : Int),
 AVal.int IntKind.i64 (cutI cs i).k, AVal.str (cutI cs i).lb]), (7, ABlk.row 33 (intRow IntKind.u64) S RowMd.plain), (8, ABlk.row 5 byteRow F.L RowMd.plain)]))) (branch (decide (sp - (↑F.L.length :
 Int) < (3 : Int))) (Q (AExit.exit 0) (fE (AVal.sl 7 0 1 0 S.length none) (f13 i)) (AHeap.mk 9 (fHx n cs ds fv [(6, ABlk.cells 70 [AVal.sl 8 0 1 0 F.L.length none, AVal.int IntKind.i64 sp, AVal.bool
 F.beg, AVal.int IntKind.i64 (↑F.k : Int), AVal.int IntKind.i64 (cutI cs i).k, AVal.str (cutI cs i).lb]), (7, ABlk.row 33 (intRow IntKind.u64) S RowMd.plain), (8, ABlk.row 5 byteRow F.L
 RowMd.plain)]))) (branch (decide ((70000 : Int) ≤ (↑F.k : Int))) (Q (AExit.exit 0) (fE (AVal.sl 7 0 1 0 S.length none) (f13 i)) (AHeap.mk 9 (fHx n cs ds fv [(6, ABlk.cells 70 [AVal.sl 8 0 1 0
 F.L.length none, AVal.int IntKind.i64 sp, AVal.bool F.beg, AVal.int IntKind.i64 (↑F.k : Int), AVal.int IntKind.i64 (cutI cs i).k, AVal.str (cutI cs i).lb]), (7, ABlk.row 33 (intRow IntKind.u64) S
 RowMd.plain), (8, ABlk.row 5 byteRow F.L RowMd.plain)]))) (obl (inI64 ((↑F.k : Int) + (1 : Int))) (obl (true && decide (F.L.length = F.L.length ∧ 1 = 1 ∧ 1 = 1 ∧ 0 < 1 ∧ (F.L ++ [(48 : UInt8), (1 :
 UInt8), (0 : UInt8)]).length ≤ 9223372036854775807 ∧ (F.L ++ [(48 : UInt8), (1 : UInt8), (0 : UInt8)]).length * 1 ≤ 140737488355328)) (branch F.beg (Q AExit.normal (fE (AVal.sl 7 0 1 0 S.length none)
 (f13 i)) (AHeap.mk 9 (fHx n cs ds fv [(6, ABlk.cells 70 [AVal.sl 8 0 1 0 (F.L ++ [(48 : UInt8), (1 : UInt8), (0 : UInt8)]).length none, AVal.int IntKind.i64 sp, AVal.bool true, AVal.int IntKind.i64
 ((↑F.k : Int) + (1 : Int)), AVal.int IntKind.i64 (cutI cs i).k, AVal.str (cutI cs i).lb]), (7, ABlk.row 33 (intRow IntKind.u64) S RowMd.plain), (8, ABlk.row 5 byteRow (F.L ++ [(48 : UInt8), (1 :
 UInt8), (0 : UInt8)]) RowMd.plain)]))) (Q AExit.normal (fE (AVal.sl 7 0 1 0 S.length none) (f13 i)) (AHeap.mk 9 (fHx n cs ds fv [(6, ABlk.cells 70 [AVal.sl 8 0 1 0 (F.L ++ [(48 : UInt8), (1 : UInt8),
 (0 : UInt8)]).length none, AVal.int IntKind.i64 sp, AVal.bool false, AVal.int IntKind.i64 ((↑F.k : Int) + (1 : Int)), AVal.int IntKind.i64 (cutI cs i).k, AVal.str (cutI cs i).lb]), (7, ABlk.row 33
 (intRow IntKind.u64) S RowMd.plain), (8, ABlk.row 5 byteRow (F.L ++ [(48 : UInt8), (1 : UInt8), (0 : UInt8)]) RowMd.plain)]))))))))) (obl (decide ((0 : Int) ≤ idJ i ∧ idJ i < (↑n : Int))) (obl (decide
 (0 + (idJ i).toNat < cs.length) && true) (obl (decide ((0 : Int) ≤ idJ i ∧ idJ i < (↑n : Int))) (obl (decide (0 + (idJ i).toNat < ds.length) && true) (obl (decide (R.lb.length + R.data.length +
 R.sum.length ≤ 9223372036854775000)) (branch (!decide (gErr R.st R.en R.id R.total R.typ R.k R.lb R.data R.sum = (0 : Int))) (Q (AExit.exit 0) (fE (AVal.sl 7 0 1 0 S.length none) (f13 i)) (AHeap.mk 9
 (fHx n (cs.set (idI i) (CutR.mk (cutI cs i).typ R.k2 R.b2 (cutI cs i).data R.at2 (cutI cs i).id)) (ds.set (idI i) (BoolR.mk R.en)) fv [(6, ABlk.cells 70 [AVal.sl 8 0 1 0 F.L.length none, AVal.int
 IntKind.i64 sp, AVal.bool F.beg, AVal.int IntKind.i64 (↑F.k : Int), AVal.int IntKind.i64 (cutI cs i).k, AVal.str (cutI cs i).lb]), (7, ABlk.row 33 (intRow IntKind.u64) S RowMd.plain), (8, ABlk.row 5
 byteRow F.L RowMd.plain)]))) (branch (decide (sp - (↑F.L.length : Int) < (↑(gEnc R.st R.en R.id R.total R.typ R.k R.lb R.data R.sum).length : Int))) (Q (AExit.exit 0) (fE (AVal.sl 7 0 1 0 S.length
 none) (f13 i)) (AHeap.mk 9 (fHx n (cs.set (idI i) (CutR.mk (cutI cs i).typ R.k2 R.b2 (cutI cs i).data R.at2 (cutI cs i).id)) (ds.set (idI i) (BoolR.mk R.en)) fv [(6, ABlk.cells 70 [AVal.sl 8 0 1 0
 F.L.length none, AVal.int IntKind.i64 sp, AVal.bool F.beg, AVal.int IntKind.i64 (↑F.k : Int), AVal.int IntKind.i64 (cutI cs i).k, AVal.str (cutI cs i).lb]), (7, ABlk.row 33 (intRow IntKind.u64) S
 RowMd.plain), (8, ABlk.row 5 byteRow F.L RowMd.plain)]))) (branch (decide ((70000 : Int) ≤ (↑F.k : Int))) (Q (AExit.exit 0) (fE (AVal.sl 7 0 1 0 S.length none) (f13 i)) (AHeap.mk 9 (fHx n (cs.set (idI
 i) (CutR.mk (cutI cs i).typ R.k2 R.b2 (cutI cs i).data R.at2 (cutI cs i).id)) (ds.set (idI i) (BoolR.mk R.en)) fv [(6, ABlk.cells 70 [AVal.sl 8 0 1 0 F.L.length none, AVal.int IntKind.i64 sp,
 AVal.bool F.beg, AVal.int IntKind.i64 (↑F.k : Int), AVal.int IntKind.i64 (cutI cs i).k, AVal.str (cutI cs i).lb]), (7, ABlk.row 33 (intRow IntKind.u64) S RowMd.plain), (8, ABlk.row 5 byteRow F.L
 RowMd.plain)]))) (obl (inI64 ((↑F.k : Int) + (1 : Int))) (obl (true && decide (F.L.length = F.L.length ∧ 1 = 1 ∧ 1 = 1 ∧ 0 < 1 ∧ (F.L ++ gEnc R.st R.en R.id R.total R.typ R.k R.lb R.data R.sum).length
 ≤ 9223372036854775807 ∧ (F.L ++ gEnc R.st R.en R.id R.total R.typ R.k R.lb R.data R.sum).length * 1 ≤ 140737488355328)) (branch F.beg (branch R.en (obl (true && decide (S.length = S.length ∧ 1 = 1 ∧ 1
 = 1 ∧ 0 < 1 ∧ (S ++ [(↑i : Int) + (1 : Int)]).length ≤ 9223372036854775807 ∧ (S ++ [(↑i : Int) + (1 : Int)]).length * 8 ≤ 140737488355328)) (Q (AExit.exit 2) [(4, AVal.ptr 3 0 0 0), (5, AVal.ptr 4 0 0
 0), (6, AVal.ptr 5 0 0 0), (10, AVal.ptr 6 0 0 0), (11, AVal.sl 7 0 1 0 (S ++ [(↑i : Int) + (1 : Int)]).length none), (12, AVal.func 16 [] [AVal.ptr 3 0 0 0, AVal.ptr 4 0 0 0, AVal.ptr 5 0 0 0]), (13,
 AVal.int IntKind.u64 ((↑i : Int) + (1 : Int)))] (AHeap.mk 9 (fHx n (cs.set (idI i) (CutR.mk (cutI cs i).typ R.k2 R.b2 (cutI cs i).data R.at2 (cutI cs i).id)) (ds.set (idI i) (BoolR.mk R.en)) fv [(6,
 ABlk.cells 70 [AVal.sl 8 0 1 0 (F.L ++ gEnc R.st R.en R.id R.total R.typ R.k R.lb R.data R.sum).length none, AVal.int IntKind.i64 sp, AVal.bool true, AVal.int IntKind.i64 ((↑F.k : Int) + (1 : Int)),
 AVal.int IntKind.i64 (cutI cs i).k, AVal.str (cutI cs i).lb]), (7, ABlk.row 33 (intRow IntKind.u64) (S ++ [(↑i : Int) + (1 : Int)]) RowMd.plain), (8, ABlk.row 5 byteRow (F.L ++ gEnc R.st R.en R.id
 R.total R.typ R.k R.lb R.data R.sum) RowMd.plain)])))) (Q AExit.normal (fE (AVal.sl 7 0 1 0 S.length none) (f13 i)) (AHeap.mk 9 (fHx n (cs.set (idI i) (CutR.mk (cutI cs i).typ R.k2 R.b2 (cutI cs
 i).data R.at2 (cutI cs i).id)) (ds.set (idI i) (BoolR.mk R.en)) fv [(6, ABlk.cells 70 [AVal.sl 8 0 1 0 (F.L ++ gEnc R.st R.en R.id R.total R.typ R.k R.lb R.data R.sum).length none, AVal.int
 IntKind.i64 sp, AVal.bool true, AVal.int IntKind.i64 ((↑F.k : Int) + (1 : Int)), AVal.int IntKind.i64 (cutI cs i).k, AVal.str (cutI cs i).lb]), (7, ABlk.row 33 (intRow IntKind.u64) S RowMd.plain), (8,
 ABlk.row 5 byteRow (F.L ++ gEnc R.st R.en R.id R.total R.typ R.k R.lb R.data R.sum) RowMd.plain)])))) (branch R.st (branch R.en (obl (true && decide (S.length = S.length ∧ 1 = 1 ∧ 1 = 1 ∧ 0 < 1 ∧ (S
 ++ [(↑i : Int) + (1 : Int)]).length ≤ 9223372036854775807 ∧ (S ++ [(↑i : Int) + (1 : Int)]).length * 8 ≤ 140737488355328)) (Q (AExit.exit 2) [(4, AVal.ptr 3 0 0 0), (5, AVal.ptr 4 0 0 0), (6, AVal.ptr
 5 0 0 0), (10, AVal.ptr 6 0 0 0), (11, AVal.sl 7 0 1 0 (S ++ [(↑i : Int) + (1 : Int)]).length none), (12, AVal.func 16 [] [AVal.ptr 3 0 0 0, AVal.ptr 4 0 0 0, AVal.ptr 5 0 0 0]), (13, AVal.int
 IntKind.u64 ((↑i : Int) + (1 : Int)))] (AHeap.mk 9 (fHx n (cs.set (idI i) (CutR.mk (cutI cs i).typ R.k2 R.b2 (cutI cs i).data R.at2 (cutI cs i).id)) (ds.set (idI i) (BoolR.mk R.en)) fv [(6, ABlk.cells
 70 [AVal.sl 8 0 1 0 (F.L ++ gEnc R.st R.en R.id R.total R.typ R.k R.lb R.data R.sum).length none, AVal.int IntKind.i64 sp, AVal.bool !R.en, AVal.int IntKind.i64 ((↑F.k : Int) + (1 : Int)), AVal.int
 IntKind.i64 (cutI cs i).k, AVal.str (cutI cs i).lb]), (7, ABlk.row 33 (intRow IntKind.u64) (S ++ [(↑i : Int) + (1 : Int)]) RowMd.plain), (8, ABlk.row 5 byteRow (F.L ++ gEnc R.st R.en R.id R.total
 R.typ R.k R.lb R.data R.sum) RowMd.plain)])))) (Q AExit.normal (fE (AVal.sl 7 0 1 0 S.length none) (f13 i)) (AHeap.mk 9 (fHx n (cs.set (idI i) (CutR.mk (cutI cs i).typ R.k2 R.b2 (cutI cs i).data R.at2
 (cutI cs i).id)) (ds.set (idI i) (BoolR.mk R.en)) fv [(6, ABlk.cells 70 [AVal.sl 8 0 1 0 (F.L ++ gEnc R.st R.en R.id R.total R.typ R.k R.lb R.data R.sum).length none, AVal.int IntKind.i64 sp,
 AVal.bool !R.en, AVal.int IntKind.i64 ((↑F.k : Int) + (1 : Int)), AVal.int IntKind.i64 (cutI cs i).k, AVal.str (cutI cs i).lb]), (7, ABlk.row 33 (intRow IntKind.u64) S RowMd.plain), (8, ABlk.row 5
 byteRow (F.L ++ gEnc R.st R.en R.id R.total R.typ R.k R.lb R.data R.sum) RowMd.plain)])))) (branch R.en (obl (true && decide (S.length = S.length ∧ 1 = 1 ∧ 1 = 1 ∧ 0 < 1 ∧ (S ++ [(↑i : Int) + (1 :
 Int)]).length ≤ 9223372036854775807 ∧ (S ++ [(↑i : Int) + (1 : Int)]).length * 8 ≤ 140737488355328)) (Q (AExit.exit 2) [(4, AVal.ptr 3 0 0 0), (5, AVal.ptr 4 0 0 0), (6, AVal.ptr 5 0 0 0), (10,
 AVal.ptr 6 0 0 0), (11, AVal.sl 7 0 1 0 (S ++ [(↑i : Int) + (1 : Int)]).length none), (12, AVal.func 16 [] [AVal.ptr 3 0 0 0, AVal.ptr 4 0 0 0, AVal.ptr 5 0 0 0]), (13, AVal.int IntKind.u64 ((↑i :
 Int) + (1 : Int)))] (AHeap.mk 9 (fHx n (cs.set (idI i) (CutR.mk (cutI cs i).typ R.k2 R.b2 (cutI cs i).data R.at2 (cutI cs i).id)) (ds.set (idI i) (BoolR.mk R.en)) fv [(6, ABlk.cells 70 [AVal.sl 8 0 1
 0 (F.L ++ gEnc R.st R.en R.id R.total R.typ R.k R.lb R.data R.sum).length none, AVal.int IntKind.i64 sp, AVal.bool false, AVal.int IntKind.i64 ((↑F.k : Int) + (1 : Int)), AVal.int IntKind.i64 (cutI cs
 i).k, AVal.str (cutI cs i).lb]), (7, ABlk.row 33 (intRow IntKind.u64) (S ++ [(↑i : Int) + (1 : Int)]) RowMd.plain), (8, ABlk.row 5 byteRow (F.L ++ gEnc R.st R.en R.id R.total R.typ R.k R.lb R.data
 R.sum) RowMd.plain)])))) (Q AExit.normal (fE (AVal.sl 7 0 1 0 S.length none) (f13 i)) (AHeap.mk 9 (fHx n (cs.set (idI i) (CutR.mk (cutI cs i).typ R.k2 R.b2 (cutI cs i).data R.at2 (cutI cs i).id))
 (ds.set (idI i) (BoolR.mk R.en)) fv [(6, ABlk.cells 70 [AVal.sl 8 0 1 0 (F.L ++ gEnc R.st R.en R.id R.total R.typ R.k R.lb R.data R.sum).length none, AVal.int IntKind.i64 sp, AVal.bool false, AVal.int
 IntKind.i64 ((↑F.k : Int) + (1 : Int)), AVal.int IntKind.i64 (cutI cs i).k, AVal.str (cutI cs i).lb]), (7, ABlk.row 33 (intRow IntKind.u64) S RowMd.plain), (8, ABlk.row 5 byteRow (F.L ++ gEnc R.st
 R.en R.id R.total R.typ R.k R.lb R.data R.sum) RowMd.plain)]))))))))))))))))) (∀ (R : NextR), nextR (cutI cs i).typ (cutI cs i).k (cutI cs i).lb (cutI cs i).data (cutI cs i).pos (cutI cs i).id (cutI
 cs i).k (cutI cs i).lb (sp - (↑F.L.length : Int)) F.beg = R → branch (!decide (R.err = (0 : Int))) (branch (!decide (R.err = (0 : Int))) (Q (AExit.exit 0) (fE (AVal.sl 7 0 1 0 S.length none) (f13 i))
 (AHeap.mk 9 (fHx n cs ds fv [(6, ABlk.cells 70 [AVal.sl 8 0 1 0 F.L.length none, AVal.int IntKind.i64 sp, AVal.bool F.beg, AVal.int IntKind.i64 (↑F.k : Int), AVal.int IntKind.i64 F.lk, AVal.str
 F.lb]), (7, ABlk.row 33 (intRow IntKind.u64) S RowMd.plain), (8, ABlk.row 5 byteRow F.L RowMd.plain)]))) (branch (decide (sp - (↑F.L.length : Int) < (3 : Int))) (Q (AExit.exit 0) (fE (AVal.sl 7 0 1 0
 S.length none) (f13 i)) (AHeap.mk 9 (fHx n cs ds fv [(6, ABlk.cells 70 [AVal.sl 8 0 1 0 F.L.length none, AVal.int IntKind.i64 sp, AVal.bool F.beg, AVal.int IntKind.i64 (↑F.k : Int), AVal.int
 IntKind.i64 F.lk, AVal.str F.lb]), (7, ABlk.row 33 (intRow IntKind.u64) S RowMd.plain), (8, ABlk.row 5 byteRow F.L RowMd.plain)]))) (branch (decide ((70000 : Int) ≤ (↑F.k : Int))) (Q (AExit.exit 0)
 (fE (AVal.sl 7 0 1 0 S.length none) (f13 i)) (AHeap.mk 9 (fHx n cs ds fv [(6, ABlk.cells 70 [AVal.sl 8 0 1 0 F.L.length none, AVal.int IntKind.i64 sp, AVal.bool F.beg, AVal.int IntKind.i64 (↑F.k :
 Int), AVal.int IntKind.i64 F.lk, AVal.str F.lb]), (7, ABlk.row 33 (intRow IntKind.u64) S RowMd.plain), (8, ABlk.row 5 byteRow F.L RowMd.plain)]))) (obl (inI64 ((↑F.k : Int) + (1 : Int))) (obl (true &&
 decide (F.L.length = F.L.length ∧ 1 = 1 ∧ 1 = 1 ∧ 0 < 1 ∧ (F.L ++ [(48 : UInt8), (1 : UInt8), (0 : UInt8)]).length ≤ 9223372036854775807 ∧ (F.L ++ [(48 : UInt8), (1 : UInt8), (0 : UInt8)]).length * 1
 ≤ 140737488355328)) (branch F.beg (Q AExit.normal (fE (AVal.sl 7 0 1 0 S.length none) (f13 i)) (AHeap.mk 9 (fHx n cs ds fv [(6, ABlk.cells 70 [AVal.sl 8 0 1 0 (F.L ++ [(48 : UInt8), (1 : UInt8), (0 :
 UInt8)]).length none, AVal.int IntKind.i64 sp, AVal.bool true, AVal.int IntKind.i64 ((↑F.k : Int) + (1 : Int)), AVal.int IntKind.i64 F.lk, AVal.str F.lb]), (7, ABlk.row 33 (intRow IntKind.u64) S
 RowMd.plain), (8, ABlk.row 5 byteRow (F.L ++ [(48 : UInt8), (1 : UInt8), (0 : UInt8)]) RowMd.plain)]))) (Q AExit.normal (fE (AVal.sl 7 0 1 0 S.length none) (f13 i)) (AHeap.mk 9 (fHx n cs ds fv [(6,
 ABlk.cells 70 [AVal.sl 8 0 1 0 (F.L ++ [(48 : UInt8), (1 : UInt8), (0 : UInt8)]).length none, AVal.int IntKind.i64 sp, AVal.bool false, AVal.int IntKind.i64 ((↑F.k : Int) + (1 : Int)), AVal.int
 IntKind.i64 F.lk, AVal.str F.lb]), (7, ABlk.row 33 (intRow IntKind.u64) S RowMd.plain), (8, ABlk.row 5 byteRow (F.L ++ [(48 : UInt8), (1 : UInt8), (0 : UInt8)]) RowMd.plain)]))))))))) (obl (decide ((0
 : Int) ≤ idJ i ∧ idJ i < (↑n : Int))) (obl (decide (0 + (idJ i).toNat < cs.length) && true) (obl (decide ((0 : Int) ≤ idJ i ∧ idJ i < (↑n : Int))) (obl (decide (0 + (idJ i).toNat < ds.length) && true)
 (obl (decide (R.lb.length + R.data.length + R.sum.length ≤ 9223372036854775000)) (branch (!decide (gErr R.st R.en R.id R.total R.typ R.k R.lb R.data R.sum = (0 : Int))) (Q (AExit.exit 0) (fE (AVal.sl
 7 0 1 0 S.length none) (f13 i)) (AHeap.mk 9 (fHx n (cs.set (idI i) (CutR.mk (cutI cs i).typ R.k2 R.b2 (cutI cs i).data R.at2 (cutI cs i).id)) (ds.set (idI i) (BoolR.mk R.en)) fv [(6, ABlk.cells 70
 [AVal.sl 8 0 1 0 F.L.length none, AVal.int IntKind.i64 sp, AVal.bool F.beg, AVal.int IntKind.i64 (↑F.k : Int), AVal.int IntKind.i64 F.lk, AVal.str F.lb]), (7, ABlk.row 33 (intRow IntKind.u64) S
 RowMd.plain), (8, ABlk.row 5 byteRow F.L RowMd.plain)]))) (branch (decide (sp - (↑F.L.length : Int) < (↑(gEnc R.st R.en R.id R.total R.typ R.k R.lb R.data R.sum).length : Int))) (Q (AExit.exit 0) (fE
 (AVal.sl 7 0 1 0 S.length none) (f13 i)) (AHeap.mk 9 (fHx n (cs.set (idI i) (CutR.mk (cutI cs i).typ R.k2 R.b2 (cutI cs i).data R.at2 (cutI cs i).id)) (ds.set (idI i) (BoolR.mk R.en)) fv [(6,
 ABlk.cells 70 [AVal.sl 8 0 1 0 F.L.length none, AVal.int IntKind.i64 sp, AVal.bool F.beg, AVal.int IntKind.i64 (↑F.k : Int), AVal.int IntKind.i64 F.lk, AVal.str F.lb]), (7, ABlk.row 33 (intRow
 IntKind.u64) S RowMd.plain), (8, ABlk.row 5 byteRow F.L RowMd.plain)]))) (branch (decide ((70000 : Int) ≤ (↑F.k : Int))) (Q (AExit.exit 0) (fE (AVal.sl 7 0 1 0 S.length none) (f13 i)) (AHeap.mk 9 (fHx
 n (cs.set (idI i) (CutR.mk (cutI cs i).typ R.k2 R.b2 (cutI cs i).data R.at2 (cutI cs i).id)) (ds.set (idI i) (BoolR.mk R.en)) fv [(6, ABlk.cells 70 [AVal.sl 8 0 1 0 F.L.length none, AVal.int
 IntKind.i64 sp, AVal.bool F.beg, AVal.int IntKind.i64 (↑F.k : Int), AVal.int IntKind.i64 F.lk, AVal.str F.lb]), (7, ABlk.row 33 (intRow IntKind.u64) S RowMd.plain), (8, ABlk.row 5 byteRow F.L
 RowMd.plain)]))) (obl (inI64 ((↑F.k : Int) + (1 : Int))) (obl (true && decide (F.L.length = F.L.length ∧ 1 = 1 ∧ 1 = 1 ∧ 0 < 1 ∧ (F.L ++ gEnc R.st R.en R.id R.total R.typ R.k R.lb R.data R.sum).length
 ≤ 9223372036854775807 ∧ (F.L ++ gEnc R.st R.en R.id R.total R.typ R.k R.lb R.data R.sum).length * 1 ≤ 140737488355328)) (branch F.beg (branch R.en (obl (true && decide (S.length = S.length ∧ 1 = 1 ∧ 1
 = 1 ∧ 0 < 1 ∧ (S ++ [(↑i : Int) + (1 : Int)]).length ≤ 9223372036854775807 ∧ (S ++ [(↑i : Int) + (1 : Int)]).length * 8 ≤ 140737488355328)) (Q (AExit.exit 2) [(4, AVal.ptr 3 0 0 0), (5, AVal.ptr 4 0 0
 0), (6, AVal.ptr 5 0 0 0), (10, AVal.ptr 6 0 0 0), (11, AVal.sl 7 0 1 0 (S ++ [(↑i : Int) + (1 : Int)]).length none), (12, AVal.func 16 [] [AVal.ptr 3 0 0 0, AVal.ptr 4 0 0 0, AVal.ptr 5 0 0 0]), (13,
 AVal.int IntKind.u64 ((↑i : Int) + (1 : Int)))] (AHeap.mk 9 (fHx n (cs.set (idI i) (CutR.mk (cutI cs i).typ R.k2 R.b2 (cutI cs i).data R.at2 (cutI cs i).id)) (ds.set (idI i) (BoolR.mk R.en)) fv [(6,
 ABlk.cells 70 [AVal.sl 8 0 1 0 (F.L ++ gEnc R.st R.en R.id R.total R.typ R.k R.lb R.data R.sum).length none, AVal.int IntKind.i64 sp, AVal.bool true, AVal.int IntKind.i64 ((↑F.k : Int) + (1 : Int)),
 AVal.int IntKind.i64 F.lk, AVal.str F.lb]), (7, ABlk.row 33 (intRow IntKind.u64) (S ++ [(↑i : Int) + (1 : Int)]) RowMd.plain), (8, ABlk.row 5 byteRow (F.L ++ gEnc R.st R.en R.id R.total R.typ R.k R.lb
 R.data R.sum) RowMd.plain)])))) (Q AExit.normal (fE (AVal.sl 7 0 1 0 S.length none) (f13 i)) (AHeap.mk 9 (fHx n (cs.set (idI i) (CutR.mk (cutI cs i).typ R.k2 R.b2 (cutI cs i).data R.at2 (cutI cs
 i).id)) (ds.set (idI i) (BoolR.mk R.en)) fv [(6, ABlk.cells 70 [AVal.sl 8 0 1 0 (F.L ++ gEnc R.st R.en R.id R.total R.typ R.k R.lb R.data R.sum).length none, AVal.int IntKind.i64 sp, AVal.bool true,
 AVal.int IntKind.i64 ((↑F.k : Int) + (1 : Int)), AVal.int IntKind.i64 F.lk, AVal.str F.lb]), (7, ABlk.row 33 (intRow IntKind.u64) S RowMd.plain), (8, ABlk.row 5 byteRow (F.L ++ gEnc R.st R.en R.id
 R.total R.typ R.k R.lb R.data R.sum) RowMd.plain)])))) (branch R.st (branch R.en (obl (true && decide (S.length = S.length ∧ 1 = 1 ∧ 1 = 1 ∧ 0 < 1 ∧ (S ++ [(↑i : Int) + (1 : Int)]).length ≤
 9223372036854775807 ∧ (S ++ [(↑i : Int) + (1 : Int)]).length * 8 ≤ 140737488355328)) (Q (AExit.exit 2) [(4, AVal.ptr 3 0 0 0), (5, AVal.ptr 4 0 0 0), (6, AVal.ptr 5 0 0 0), (10, AVal.ptr 6 0 0 0),
 (11, AVal.sl 7 0 1 0 (S ++ [(↑i : Int) + (1 : Int)]).length none), (12, AVal.func 16 [] [AVal.ptr 3 0 0 0, AVal.ptr 4 0 0 0, AVal.ptr 5 0 0 0]), (13, AVal.int IntKind.u64 ((↑i : Int) + (1 : Int)))]
 (AHeap.mk 9 (fHx n (cs.set (idI i) (CutR.mk (cutI cs i).typ R.k2 R.b2 (cutI cs i).data R.at2 (cutI cs i).id)) (ds.set (idI i) (BoolR.mk R.en)) fv [(6, ABlk.cells 70 [AVal.sl 8 0 1 0 (F.L ++ gEnc R.st
 R.en R.id R.total R.typ R.k R.lb R.data R.sum).length none, AVal.int IntKind.i64 sp, AVal.bool !R.en, AVal.int IntKind.i64 ((↑F.k : Int) + (1 : Int)), AVal.int IntKind.i64 F.lk, AVal.str F.lb]), (7,
 ABlk.row 33 (intRow IntKind.u64) (S ++ [(↑i : Int) + (1 : Int)]) RowMd.plain), (8, ABlk.row 5 byteRow (F.L ++ gEnc R.st R.en R.id R.total R.typ R.k R.lb R.data R.sum) RowMd.plain)])))) (Q AExit.normal
 (fE (AVal.sl 7 0 1 0 S.length none) (f13 i)) (AHeap.mk 9 (fHx n (cs.set (idI i) (CutR.mk (cutI cs i).typ R.k2 R.b2 (cutI cs i).data R.at2 (cutI cs i).id)) (ds.set (idI i) (BoolR.mk R.en)) fv [(6,
 ABlk.cells 70 [AVal.sl 8 0 1 0 (F.L ++ gEnc R.st R.en R.id R.total R.typ R.k R.lb R.data R.sum).length none, AVal.int IntKind.i64 sp, AVal.bool !R.en, AVal.int IntKind.i64 ((↑F.k : Int) + (1 : Int)),
 AVal.int IntKind.i64 F.lk, AVal.str F.lb]), (7, ABlk.row 33 (intRow IntKind.u64) S RowMd.plain), (8, ABlk.row 5 byteRow (F.L ++ gEnc R.st R.en R.id R.total R.typ R.k R.lb R.data R.sum)
 RowMd.plain)])))) (branch R.en (obl (true && decide (S.length = S.length ∧ 1 = 1 ∧ 1 = 1 ∧ 0 < 1 ∧ (S ++ [(↑i : Int) + (1 : Int)]).length ≤ 9223372036854775807 ∧ (S ++ [(↑i : Int) + (1 : Int)]).length
 * 8 ≤ 140737488355328)) (Q (AExit.exit 2) [(4, AVal.ptr 3 0 0 0), (5, AVal.ptr 4 0 0 0), (6, AVal.ptr 5 0 0 0), (10, AVal.ptr 6 0 0 0), (11, AVal.sl 7 0 1 0 (S ++ [(↑i : Int) + (1 : Int)]).length
 none), (12, AVal.func 16 [] [AVal.ptr 3 0 0 0, AVal.ptr 4 0 0 0, AVal.ptr 5 0 0 0]), (13, AVal.int IntKind.u64 ((↑i : Int) + (1 : Int)))] (AHeap.mk 9 (fHx n (cs.set (idI i) (CutR.mk (cutI cs i).typ
 R.k2 R.b2 (cutI cs i).data R.at2 (cutI cs i).id)) (ds.set (idI i) (BoolR.mk R.en)) fv [(6, ABlk.cells 70 [AVal.sl 8 0 1 0 (F.L ++ gEnc R.st R.en R.id R.total R.typ R.k R.lb R.data R.sum).length none,
 AVal.int IntKind.i64 sp, AVal.bool false, AVal.int IntKind.i64 ((↑F.k : Int) + (1 : Int)), AVal.int IntKind.i64 F.lk, AVal.str F.lb]), (7, ABlk.row 33 (intRow IntKind.u64) (S ++ [(↑i : Int) + (1 :
 Int)]) RowMd.plain), (8, ABlk.row 5 byteRow (F.L ++ gEnc R.st R.en R.id R.total R.typ R.k R.lb R.data R.sum) RowMd.plain)])))) (Q AExit.normal (fE (AVal.sl 7 0 1 0 S.length none) (f13 i)) (AHeap.mk 9
 (fHx n (cs.set (idI i) (CutR.mk (cutI cs i).typ R.k2 R.b2 (cutI cs i).data R.at2 (cutI cs i).id)) (ds.set (idI i) (BoolR.mk R.en)) fv [(6, ABlk.cells 70 [AVal.sl 8 0 1 0 (F.L ++ gEnc R.st R.en R.id
 R.total R.typ R.k R.lb R.data R.sum).length none, AVal.int IntKind.i64 sp, AVal.bool false, AVal.int IntKind.i64 ((↑F.k : Int) + (1 : Int)), AVal.int IntKind.i64 F.lk, AVal.str F.lb]), (7, ABlk.row 33
 (intRow IntKind.u64) S RowMd.plain), (8, ABlk.row 5 byteRow (F.L ++ gEnc R.st R.en R.id R.total R.typ R.k R.lb R.data R.sum) RowMd.plain)])))))))))))))))))) (∀ (R : NextR), nextR (cutI cs i).typ (cutI
 cs i).k (cutI cs i).lb (cutI cs i).data (cutI cs i).pos (cutI cs i).id (cutI cs i).k (cutI cs i).lb (sp - (↑F.L.length : Int)) F.beg = R → branch (!decide (R.err = (0 : Int))) (branch (!decide (R.err
 = (0 : Int))) (Q (AExit.exit 0) (fE (AVal.sl 7 0 1 0 S.length none) (f13 i)) (AHeap.mk 9 (fHx n cs ds fv [(6, ABlk.cells 70 [AVal.sl 8 0 1 0 F.L.length none, AVal.int IntKind.i64 sp, AVal.bool F.beg,
 AVal.int IntKind.i64 (↑F.k : Int), AVal.int IntKind.i64 F.lk, AVal.str F.lb]), (7, ABlk.row 33 (intRow IntKind.u64) S RowMd.plain), (8, ABlk.row 5 byteRow F.L RowMd.plain)]))) (branch (decide (sp -
 (↑F.L.length : Int) < (3 : Int))) (Q (AExit.exit 0) (fE (AVal.sl 7 0 1 0 S.length none) (f13 i)) (AHeap.mk 9 (fHx n cs ds fv [(6, ABlk.cells 70 [AVal.sl 8 0 1 0 F.L.length none, AVal.int IntKind.i64
 sp, AVal.bool F.beg, AVal.int IntKind.i64 (↑F.k : Int), AVal.int IntKind.i64 F.lk, AVal.str F.lb]), (7, ABlk.row 33 (intRow IntKind.u64) S RowMd.plain), (8, ABlk.row 5 byteRow F.L RowMd.plain)])))
 (branch (decide ((70000 : Int) ≤ (↑F.k : Int))) (Q (AExit.exit 0) (fE (AVal.sl 7 0 1 0 S.length none) (f13 i)) (AHeap.mk 9 (fHx n cs ds fv [(6, ABlk.cells 70 [AVal.sl 8 0 1 0 F.L.length none, AVal.int
 IntKind.i64 sp, AVal.bool F.beg, AVal.int IntKind.i64 (↑F.k : Int), AVal.int IntKind.i64 F.lk, AVal.str F.lb]), (7, ABlk.row 33 (intRow IntKind.u64) S RowMd.plain), (8, ABlk.row 5 byteRow F.L
 RowMd.plain)]))) (obl (inI64 ((↑F.k : Int) + (1 : Int))) (obl (true && decide (F.L.length = F.L.length ∧ 1 = 1 ∧ 1 = 1 ∧ 0 < 1 ∧ (F.L ++ [(48 : UInt8), (1 : UInt8), (0 : UInt8)]).length ≤
 9223372036854775807 ∧ (F.L ++ [(48 : UInt8), (1 : UInt8), (0 : UInt8)]).length * 1 ≤ 140737488355328)) (branch F.beg (Q AExit.normal (fE (AVal.sl 7 0 1 0 S.length none) (f13 i)) (AHeap.mk 9 (fHx n cs
 ds fv [(6, ABlk.cells 70 [AVal.sl 8 0 1 0 (F.L ++ [(48 : UInt8), (1 : UInt8), (0 : UInt8)]).length none, AVal.int IntKind.i64 sp, AVal.bool true, AVal.int IntKind.i64 ((↑F.k : Int) + (1 : Int)),
 AVal.int IntKind.i64 F.lk, AVal.str F.lb]), (7, ABlk.row 33 (intRow IntKind.u64) S RowMd.plain), (8, ABlk.row 5 byteRow (F.L ++ [(48 : UInt8), (1 : UInt8), (0 : UInt8)]) RowMd.plain)]))) (Q
 AExit.normal (fE (AVal.sl 7 0 1 0 S.length none) (f13 i)) (AHeap.mk 9 (fHx n cs ds fv [(6, ABlk.cells 70 [AVal.sl 8 0 1 0 (F.L ++ [(48 : UInt8), (1 : UInt8), (0 : UInt8)]).length none, AVal.int
 IntKind.i64 sp, AVal.bool false, AVal.int IntKind.i64 ((↑F.k : Int) + (1 : Int)), AVal.int IntKind.i64 F.lk, AVal.str F.lb]), (7, ABlk.row 33 (intRow IntKind.u64) S RowMd.plain), (8, ABlk.row 5
 byteRow (F.L ++ [(48 : UInt8), (1 : UInt8), (0 : UInt8)]) RowMd.plain)]))))))))) (obl (decide ((0 : Int) ≤ idJ i ∧ idJ i < (↑n : Int))) (obl (decide (0 + (idJ i).toNat < cs.length) && true) (obl
 (decide ((0 : Int) ≤ idJ i ∧ idJ i < (↑n : Int))) (obl (decide (0 + (idJ i).toNat < ds.length) && true) (obl (decide (R.lb.length + R.data.length + R.sum.length ≤ 9223372036854775000)) (branch
 (!decide (gErr R.st R.en R.id R.total R.typ R.k R.lb R.data R.sum = (0 : Int))) (Q (AExit.exit 0) (fE (AVal.sl 7 0 1 0 S.length none) (f13 i)) (AHeap.mk 9 (fHx n (cs.set (idI i) (CutR.mk (cutI cs
 i).typ R.k2 R.b2 (cutI cs i).data R.at2 (cutI cs i).id)) (ds.set (idI i) (BoolR.mk R.en)) fv [(6, ABlk.cells 70 [AVal.sl 8 0 1 0 F.L.length none, AVal.int IntKind.i64 sp, AVal.bool F.beg, AVal.int
 IntKind.i64 (↑F.k : Int), AVal.int IntKind.i64 F.lk, AVal.str F.lb]), (7, ABlk.row 33 (intRow IntKind.u64) S RowMd.plain), (8, ABlk.row 5 byteRow F.L RowMd.plain)]))) (branch (decide (sp -
 (↑F.L.length : Int) < (↑(gEnc R.st R.en R.id R.total R.typ R.k R.lb R.data R.sum).length : Int))) (Q (AExit.exit 0) (fE (AVal.sl 7 0 1 0 S.length none) (f13 i)) (AHeap.mk 9 (fHx n (cs.set (idI i)
 (CutR.mk (cutI cs i).typ R.k2 R.b2 (cutI cs i).data R.at2 (cutI cs i).id)) (ds.set (idI i) (BoolR.mk R.en)) fv [(6, ABlk.cells 70 [AVal.sl 8 0 1 0 F.L.length none, AVal.int IntKind.i64 sp, AVal.bool
 F.beg, AVal.int IntKind.i64 (↑F.k : Int), AVal.int IntKind.i64 F.lk, AVal.str F.lb]), (7, ABlk.row 33 (intRow IntKind.u64) S RowMd.plain), (8, ABlk.row 5 byteRow F.L RowMd.plain)]))) (branch (decide
 ((70000 : Int) ≤ (↑F.k : Int))) (Q (AExit.exit 0) (fE (AVal.sl 7 0 1 0 S.length none) (f13 i)) (AHeap.mk 9 (fHx n (cs.set (idI i) (CutR.mk (cutI cs i).typ R.k2 R.b2 (cutI cs i).data R.at2 (cutI cs
 i).id)) (ds.set (idI i) (BoolR.mk R.en)) fv [(6, ABlk.cells 70 [AVal.sl 8 0 1 0 F.L.length none, AVal.int IntKind.i64 sp, AVal.bool F.beg, AVal.int IntKind.i64 (↑F.k : Int), AVal.int IntKind.i64 F.lk,
 AVal.str F.lb]), (7, ABlk.row 33 (intRow IntKind.u64) S RowMd.plain), (8, ABlk.row 5 byteRow F.L RowMd.plain)]))) (obl (inI64 ((↑F.k : Int) + (1 : Int))) (obl (true && decide (F.L.length = F.L.length
 ∧ 1 = 1 ∧ 1 = 1 ∧ 0 < 1 ∧ (F.L ++ gEnc R.st R.en R.id R.total R.typ R.k R.lb R.data R.sum).length ≤ 9223372036854775807 ∧ (F.L ++ gEnc R.st R.en R.id R.total R.typ R.k R.lb R.data R.sum).length * 1 ≤
 140737488355328)) (branch F.beg (branch R.en (obl (true && decide (S.length = S.length ∧ 1 = 1 ∧ 1 = 1 ∧ 0 < 1 ∧ (S ++ [(↑i : Int) + (1 : Int)]).length ≤ 9223372036854775807 ∧ (S ++ [(↑i : Int) + (1 :
 Int)]).length * 8 ≤ 140737488355328)) (Q (AExit.exit 2) [(4, AVal.ptr 3 0 0 0), (5, AVal.ptr 4 0 0 0), (6, AVal.ptr 5 0 0 0), (10, AVal.ptr 6 0 0 0), (11, AVal.sl 7 0 1 0 (S ++ [(↑i : Int) + (1 :
 Int)]).length none), (12, AVal.func 16 [] [AVal.ptr 3 0 0 0, AVal.ptr 4 0 0 0, AVal.ptr 5 0 0 0]), (13, AVal.int IntKind.u64 ((↑i : Int) + (1 : Int)))] (AHeap.mk 9 (fHx n (cs.set (idI i) (CutR.mk
 (cutI cs i).typ R.k2 R.b2 (cutI cs i).data R.at2 (cutI cs i).id)) (ds.set (idI i) (BoolR.mk R.en)) fv [(6, ABlk.cells 70 [AVal.sl 8 0 1 0 (F.L ++ gEnc R.st R.en R.id R.total R.typ R.k R.lb R.data
 R.sum).length none, AVal.int IntKind.i64 sp, AVal.bool true, AVal.int IntKind.i64 ((↑F.k : Int) + (1 : Int)), AVal.int IntKind.i64 F.lk, AVal.str F.lb]), (7, ABlk.row 33 (intRow IntKind.u64) (S ++
 [(↑i : Int) + (1 : Int)]) RowMd.plain), (8, ABlk.row 5 byteRow (F.L ++ gEnc R.st R.en R.id R.total R.typ R.k R.lb R.data R.sum) RowMd.plain)])))) (Q AExit.normal (fE (AVal.sl 7 0 1 0 S.length none)
 (f13 i)) (AHeap.mk 9 (fHx n (cs.set (idI i) (CutR.mk (cutI cs i).typ R.k2 R.b2 (cutI cs i).data R.at2 (cutI cs i).id)) (ds.set (idI i) (BoolR.mk R.en)) fv [(6, ABlk.cells 70 [AVal.sl 8 0 1 0 (F.L ++
 gEnc R.st R.en R.id R.total R.typ R.k R.lb R.data R.sum).length none, AVal.int IntKind.i64 sp, AVal.bool true, AVal.int IntKind.i64 ((↑F.k : Int) + (1 : Int)), AVal.int IntKind.i64 F.lk, AVal.str
 F.lb]), (7, ABlk.row 33 (intRow IntKind.u64) S RowMd.plain), (8, ABlk.row 5 byteRow (F.L ++ gEnc R.st R.en R.id R.total R.typ R.k R.lb R.data R.sum) RowMd.plain)])))) (branch R.st (branch R.en (obl
 (true && decide (S.length = S.length ∧ 1 = 1 ∧ 1 = 1 ∧ 0 < 1 ∧ (S ++ [(↑i : Int) + (1 : Int)]).length ≤ 9223372036854775807 ∧ (S ++ [(↑i : Int) + (1 : Int)]).length * 8 ≤ 140737488355328)) (Q
 (AExit.exit 2) [(4, AVal.ptr 3 0 0 0), (5, AVal.ptr 4 0 0 0), (6, AVal.ptr 5 0 0 0), (10, AVal.ptr 6 0 0 0), (11, AVal.sl 7 0 1 0 (S ++ [(↑i : Int) + (1 : Int)]).length none), (12, AVal.func 16 []
 [AVal.ptr 3 0 0 0, AVal.ptr 4 0 0 0, AVal.ptr 5 0 0 0]), (13, AVal.int IntKind.u64 ((↑i : Int) + (1 : Int)))] (AHeap.mk 9 (fHx n (cs.set (idI i) (CutR.mk (cutI cs i).typ R.k2 R.b2 (cutI cs i).data
 R.at2 (cutI cs i).id)) (ds.set (idI i) (BoolR.mk R.en)) fv [(6, ABlk.cells 70 [AVal.sl 8 0 1 0 (F.L ++ gEnc R.st R.en R.id R.total R.typ R.k R.lb R.data R.sum).length none, AVal.int IntKind.i64 sp,
 AVal.bool !R.en, AVal.int IntKind.i64 ((↑F.k : Int) + (1 : Int)), AVal.int IntKind.i64 F.lk, AVal.str F.lb]), (7, ABlk.row 33 (intRow IntKind.u64) (S ++ [(↑i : Int) + (1 : Int)]) RowMd.plain), (8,
 ABlk.row 5 byteRow (F.L ++ gEnc R.st R.en R.id R.total R.typ R.k R.lb R.data R.sum) RowMd.plain)])))) (Q AExit.normal (fE (AVal.sl 7 0 1 0 S.length none) (f13 i)) (AHeap.mk 9 (fHx n (cs.set (idI i)
 (CutR.mk (cutI cs i).typ R.k2 R.b2 (cutI cs i).data R.at2 (cutI cs i).id)) (ds.set (idI i) (BoolR.mk R.en)) fv [(6, ABlk.cells 70 [AVal.sl 8 0 1 0 (F.L ++ gEnc R.st R.en R.id R.total R.typ R.k R.lb
 R.data R.sum).length none, AVal.int IntKind.i64 sp, AVal.bool !R.en, AVal.int IntKind.i64 ((↑F.k : Int) + (1 : Int)), AVal.int IntKind.i64 F.lk, AVal.str F.lb]), (7, ABlk.row 33 (intRow IntKind.u64) S
 RowMd.plain), (8, ABlk.row 5 byteRow (F.L ++ gEnc R.st R.en R.id R.total R.typ R.k R.lb R.data R.sum) RowMd.plain)])))) (branch R.en (obl (true && decide (S.length = S.length ∧ 1 = 1 ∧ 1 = 1 ∧ 0 < 1 ∧
 (S ++ [(↑i : Int) + (1 : Int)]).length ≤ 9223372036854775807 ∧ (S ++ [(↑i : Int) + (1 : Int)]).length * 8 ≤ 140737488355328)) (Q (AExit.exit 2) [(4, AVal.ptr 3 0 0 0), (5, AVal.ptr 4 0 0 0), (6,
 AVal.ptr 5 0 0 0), (10, AVal.ptr 6 0 0 0), (11, AVal.sl 7 0 1 0 (S ++ [(↑i : Int) + (1 : Int)]).length none), (12, AVal.func 16 [] [AVal.ptr 3 0 0 0, AVal.ptr 4 0 0 0, AVal.ptr 5 0 0 0]), (13,
 AVal.int IntKind.u64 ((↑i : Int) + (1 : Int)))] (AHeap.mk 9 (fHx n (cs.set (idI i) (CutR.mk (cutI cs i).typ R.k2 R.b2 (cutI cs i).data R.at2 (cutI cs i).id)) (ds.set (idI i) (BoolR.mk R.en)) fv [(6,
 ABlk.cells 70 [AVal.sl 8 0 1 0 (F.L ++ gEnc R.st R.en R.id R.total R.typ R.k R.lb R.data R.sum).length none, AVal.int IntKind.i64 sp, AVal.bool false, AVal.int IntKind.i64 ((↑F.k : Int) + (1 : Int)),
 AVal.int IntKind.i64 F.lk, AVal.str F.lb]), (7, ABlk.row 33 (intRow IntKind.u64) (S ++ [(↑i : Int) + (1 : Int)]) RowMd.plain), (8, ABlk.row 5 byteRow (F.L ++ gEnc R.st R.en R.id R.total R.typ R.k R.lb
 R.data R.sum) RowMd.plain)])))) (Q AExit.normal (fE (AVal.sl 7 0 1 0 S.length none) (f13 i)) (AHeap.mk 9 (fHx n (cs.set (idI i) (CutR.mk (cutI cs i).typ R.k2 R.b2 (cutI cs i).data R.at2 (cutI cs
 i).id)) (ds.set (idI i) (BoolR.mk R.en)) fv [(6, ABlk.cells 70 [AVal.sl 8 0 1 0 (F.L ++ gEnc R.st R.en R.id R.total R.typ R.k R.lb R.data R.sum).length none, AVal.int IntKind.i64 sp, AVal.bool false,
 AVal.int IntKind.i64 ((↑F.k : Int) + (1 : Int)), AVal.int IntKind.i64 F.lk, AVal.str F.lb]), (7, ABlk.row 33 (intRow IntKind.u64) S RowMd.plain), (8, ABlk.row 5 byteRow (F.L ++ gEnc R.st R.en R.id
 R.total R.typ R.k R.lb R.data R.sum) RowMd.plain)]))))))))))))))))))) (branch (decide ((0 : Int) < lSize (cutI cs i).k)) (branch (decide ((if lOk (cutI cs i).k (cutI cs i).lb = true then (0 : Int)
 else (2 : Int)) = (0 : Int))) (∀ (R : NextR), nextR (cutI cs i).typ (cutI cs i).k (cutI cs i).lb (cutI cs i).data (cutI cs i).pos (cutI cs i).id (cutI cs i).k (cutI cs i).lb (sp - (↑F.L.length : Int))
 F.beg = R → branch (!decide (R.err = (0 : Int))) (branch (!decide (R.err = (0 : Int))) (Q (AExit.exit 0) (fE (AVal.sl 7 0 1 0 S.length none) (f13 i)) (AHeap.mk 9 (fHx n cs ds fv [(6, ABlk.cells 70
 [AVal.sl 8 0 1 0 F.L.length none, AVal.int IntKind.i64 sp, AVal.bool F.beg, AVal.int IntKind.i64 (↑F.k : Int), AVal.int IntKind.i64 (cutI cs i).k, AVal.str (cutI cs i).lb]), (7, ABlk.row 33 (intRow
 IntKind.u64) S RowMd.plain), (8, ABlk.row 5 byteRow F.L RowMd.plain)]))) (branch (decide (sp - (↑F.L.length : Int) < (3 : Int))) (Q (AExit.exit 0) (fE (AVal.sl 7 0 1 0 S.length none) (f13 i))
 (AHeap.mk 9 (fHx n cs ds fv [(6, ABlk.cells 70 [AVal.sl 8 0 1 0 F.L.length none, AVal.int IntKind.i64 sp, AVal.bool F.beg, AVal.int IntKind.i64 (↑F.k : Int), AVal.int IntKind.i64 (cutI cs i).k,
 AVal.str (cutI cs i).lb]), (7, ABlk.row 33 (intRow IntKind.u64) S RowMd.plain), (8, ABlk.row 5 byteRow F.L RowMd.plain)]))) (branch (decide ((70000 : Int) ≤ (↑F.k : Int))) (Q (AExit.exit 0) (fE
 (AVal.sl 7 0 1 0 S.length none) (f13 i)) (AHeap.mk 9 (fHx n cs ds fv [(6, ABlk.cells 70 [AVal.sl 8 0 1 0 F.L.length none, AVal.int IntKind.i64 sp, AVal.bool F.beg, AVal.int IntKind.i64 (↑F.k : Int),
 AVal.int IntKind.i64 (cutI cs i).k, AVal.str (cutI cs i).lb]), (7, ABlk.row 33 (intRow IntKind.u64) S RowMd.plain), (8, ABlk.row 5 byteRow F.L RowMd.plain)]))) (obl (inI64 ((↑F.k : Int) + (1 : Int)))
 (obl (true && decide (F.L.length = F.L.length ∧ 1 = 1 ∧ 1 = 1 ∧ 0 < 1 ∧ (F.L ++ [(48 : UInt8), (1 : UInt8), (0 : UInt8)]).length ≤ 9223372036854775807 ∧ (F.L ++ [(48 : UInt8), (1 : UInt8), (0 :
 UInt8)]).length * 1 ≤ 140737488355328)) (branch F.beg (Q AExit.normal (fE (AVal.sl 7 0 1 0 S.length none) (f13 i)) (AHeap.mk 9 (fHx n cs ds fv [(6, ABlk.cells 70 [AVal.sl 8 0 1 0 (F.L ++ [(48 :
 UInt8), (1 : UInt8), (0 : UInt8)]).length none, AVal.int IntKind.i64 sp, AVal.bool true, AVal.int IntKind.i64 ((↑F.k : Int) + (1 : Int)), AVal.int IntKind.i64 (cutI cs i).k, AVal.str (cutI cs i).lb]),
 (7, ABlk.row 33 (intRow IntKind.u64) S RowMd.plain), (8, ABlk.row 5 byteRow (F.L ++ [(48 : UInt8), (1 : UInt8), (0 : UInt8)]) RowMd.plain)]))) (Q AExit.normal (fE (AVal.sl 7 0 1 0 S.length none) (f13
 i)) (AHeap.mk 9 (fHx n cs ds fv [(6, ABlk.cells 70 [AVal.sl 8 0 1 0 (F.L ++ [(48 : UInt8), (1 : UInt8), (0 : UInt8)]).length none, AVal.int IntKind.i64 sp, AVal.bool false, AVal.int IntKind.i64 ((↑F.k
 : Int) + (1 : Int)), AVal.int IntKind.i64 (cutI cs i).k, AVal.str (cutI cs i).lb]), (7, ABlk.row 33 (intRow IntKind.u64) S RowMd.plain), (8, ABlk.row 5 byteRow (F.L ++ [(48 : UInt8), (1 : UInt8), (0 :
 UInt8)]) RowMd.plain)]))))))))) (obl (decide ((0 : Int) ≤ idJ i ∧ idJ i < (↑n : Int))) (obl (decide (0 + (idJ i).toNat < cs.length) && true) (obl (decide ((0 : Int) ≤ idJ i ∧ idJ i < (↑n : Int))) (obl
 (decide (0 + (idJ i).toNat < ds.length) && true) (obl (decide (R.lb.length + R.data.length + R.sum.length ≤ 9223372036854775000)) (branch (!decide (gErr R.st R.en R.id R.total R.typ R.k R.lb R.data
 R.sum = (0 : Int))) (Q (AExit.exit 0) (fE (AVal.sl 7 0 1 0 S.length none) (f13 i)) (AHeap.mk 9 (fHx n (cs.set (idI i) (CutR.mk (cutI cs i).typ R.k2 R.b2 (cutI cs i).data R.at2 (cutI cs i).id)) (ds.set
 (idI i) (BoolR.mk R.en)) fv [(6, ABlk.cells 70 [AVal.sl 8 0 1 0 F.L.length none, AVal.int IntKind.i64 sp, AVal.bool F.beg, AVal.int IntKind.i64 (↑F.k : Int), AVal.int IntKind.i64 (cutI cs i).k,
 AVal.str (cutI cs i).lb]), (7, ABlk.row 33 (intRow IntKind.u64) S RowMd.plain), (8, ABlk.row 5 byteRow F.L RowMd.plain)]))) (branch (decide (sp - (↑F.L.length : Int) < (↑(gEnc R.st R.en R.id R.total
 R.typ R.k R.lb R.data R.sum).length : Int))) (Q (AExit.exit 0) (fE (AVal.sl 7 0 1 0 S.length none) (f13 i)) (AHeap.mk 9 (fHx n (cs.set (idI i) (CutR.mk (cutI cs i).typ R.k2 R.b2 (cutI cs i).data R.at2
 (cutI cs i).id)) (ds.set (idI i) (BoolR.mk R.en)) fv [(6, ABlk.cells 70 [AVal.sl 8 0 1 0 F.L.length none, AVal.int IntKind.i64 sp, AVal.bool F.beg, AVal.int IntKind.i64 (↑F.k : Int), AVal.int
 IntKind.i64 (cutI cs i).k, AVal.str (cutI cs i).lb]), (7, ABlk.row 33 (intRow IntKind.u64) S RowMd.plain), (8, ABlk.row 5 byteRow F.L RowMd.plain)]))) (branch (decide ((70000 : Int) ≤ (↑F.k : Int)))
 (Q (AExit.exit 0) (fE (AVal.sl 7 0 1 0 S.length none) (f13 i)) (AHeap.mk 9 (fHx n (cs.set (idI i) (CutR.mk (cutI cs i).typ R.k2 R.b2 (cutI cs i).data R.at2 (cutI cs i).id)) (ds.set (idI i) (BoolR.mk
 R.en)) fv [(6, ABlk.cells 70 [AVal.sl 8 0 1 0 F.L.length none, AVal.int IntKind.i64 sp, AVal.bool F.beg, AVal.int IntKind.i64 (↑F.k : Int), AVal.int IntKind.i64 (cutI cs i).k, AVal.str (cutI cs
 i).lb]), (7, ABlk.row 33 (intRow IntKind.u64) S RowMd.plain), (8, ABlk.row 5 byteRow F.L RowMd.plain)]))) (obl (inI64 ((↑F.k : Int) + (1 : Int))) (obl (true && decide (F.L.length = F.L.length ∧ 1 = 1
 ∧ 1 = 1 ∧ 0 < 1 ∧ (F.L ++ gEnc R.st R.en R.id R.total R.typ R.k R.lb R.data R.sum).length ≤ 9223372036854775807 ∧ (F.L ++ gEnc R.st R.en R.id R.total R.typ R.k R.lb R.data R.sum).length * 1 ≤
 140737488355328)) (branch F.beg (branch R.en (obl (true && decide (S.length = S.length ∧ 1 = 1 ∧ 1 = 1 ∧ 0 < 1 ∧ (S ++ [(↑i : Int) + (1 : Int)]).length ≤ 9223372036854775807 ∧ (S ++ [(↑i : Int) + (1 :
 Int)]).length * 8 ≤ 140737488355328)) (Q (AExit.exit 2) [(4, AVal.ptr 3 0 0 0), (5, AVal.ptr 4 0 0 0), (6, AVal.ptr 5 0 0 0), (10, AVal.ptr 6 0 0 0), (11, AVal.sl 7 0 1 0 (S ++ [(↑i : Int) + (1 :
 Int)]).length none), (12, AVal.func 16 [] [AVal.ptr 3 0 0 0, AVal.ptr 4 0 0 0, AVal.ptr 5 0 0 0]), (13, AVal.int IntKind.u64 ((↑i : Int) + (1 : Int)))] (AHeap.mk 9 (fHx n (cs.set (idI i) (CutR.mk
 (cutI cs i).typ R.k2 R.b2 (cutI cs i).data R.at2 (cutI cs i).id)) (ds.set (idI i) (BoolR.mk R.en)) fv [(6, ABlk.cells 70 [AVal.sl 8 0 1 0 (F.L ++ gEnc R.st R.en R.id R.total R.typ R.k R.lb R.data
 R.sum).length none, AVal.int IntKind.i64 sp, AVal.bool true, AVal.int IntKind.i64 ((↑F.k : Int) + (1 : Int)), AVal.int IntKind.i64 (cutI cs i).k, AVal.str (cutI cs i).lb]), (7, ABlk.row 33 (intRow
 IntKind.u64) (S ++ [(↑i : Int) + (1 : Int)]) RowMd.plain), (8, ABlk.row 5 byteRow (F.L ++ gEnc R.st R.en R.id R.total R.typ R.k R.lb R.data R.sum) RowMd.plain)])))) (Q AExit.normal (fE (AVal.sl 7 0 1
 0 S.length none) (f13 i)) (AHeap.mk 9 (fHx n (cs.set (idI i) (CutR.mk (cutI cs i).typ R.k2 R.b2 (cutI cs i).data R.at2 (cutI cs i).id)) (ds.set (idI i) (BoolR.mk R.en)) fv [(6, ABlk.cells 70 [AVal.sl
 8 0 1 0 (F.L ++ gEnc R.st R.en R.id R.total R.typ R.k R.lb R.data R.sum).length none, AVal.int IntKind.i64 sp, AVal.bool true, AVal.int IntKind.i64 ((↑F.k : Int) + (1 : Int)), AVal.int IntKind.i64
 (cutI cs i).k, AVal.str (cutI cs i).lb]), (7, ABlk.row 33 (intRow IntKind.u64) S RowMd.plain), (8, ABlk.row 5 byteRow (F.L ++ gEnc R.st R.en R.id R.total R.typ R.k R.lb R.data R.sum) RowMd.plain)]))))
 (branch R.st (branch R.en (obl (true && decide (S.length = S.length ∧ 1 = 1 ∧ 1 = 1 ∧ 0 < 1 ∧ (S ++ [(↑i : Int) + (1 : Int)]).length ≤ 9223372036854775807 ∧ (S ++ [(↑i : Int) + (1 : Int)]).length * 8
 ≤ 140737488355328)) (Q (AExit.exit 2) [(4, AVal.ptr 3 0 0 0), (5, AVal.ptr 4 0 0 0), (6, AVal.ptr 5 0 0 0), (10, AVal.ptr 6 0 0 0), (11, AVal.sl 7 0 1 0 (S ++ [(↑i : Int) + (1 : Int)]).length none),
 (12, AVal.func 16 [] [AVal.ptr 3 0 0 0, AVal.ptr 4 0 0 0, AVal.ptr 5 0 0 0]), (13, AVal.int IntKind.u64 ((↑i : Int) + (1 : Int)))] (AHeap.mk 9 (fHx n (cs.set (idI i) (CutR.mk (cutI cs i).typ R.k2 R.b2
 (cutI cs i).data R.at2 (cutI cs i).id)) (ds.set (idI i) (BoolR.mk R.en)) fv [(6, ABlk.cells 70 [AVal.sl 8 0 1 0 (F.L ++ gEnc R.st R.en R.id R.total R.typ R.k R.lb R.data R.sum).length none, AVal.int
 IntKind.i64 sp, AVal.bool !R.en, AVal.int IntKind.i64 ((↑F.k : Int) + (1 : Int)), AVal.int IntKind.i64 (cutI cs i).k, AVal.str (cutI cs i).lb]), (7, ABlk.row 33 (intRow IntKind.u64) (S ++ [(↑i : Int)
 + (1 : Int)]) RowMd.plain), (8, ABlk.row 5 byteRow (F.L ++ gEnc R.st R.en R.id R.total R.typ R.k R.lb R.data R.sum) RowMd.plain)])))) (Q AExit.normal (fE (AVal.sl 7 0 1 0 S.length none) (f13 i))
 (AHeap.mk 9 (fHx n (cs.set (idI i) (CutR.mk (cutI cs i).typ R.k2 R.b2 (cutI cs i).data R.at2 (cutI cs i).id)) (ds.set (idI i) (BoolR.mk R.en)) fv [(6, ABlk.cells 70 [AVal.sl 8 0 1 0 (F.L ++ gEnc R.st
 R.en R.id R.total R.typ R.k R.lb R.data R.sum).length none, AVal.int IntKind.i64 sp, AVal.bool !R.en, AVal.int IntKind.i64 ((↑F.k : Int) + (1 : Int)), AVal.int IntKind.i64 (cutI cs i).k, AVal.str
 (cutI cs i).lb]), (7, ABlk.row 33 (intRow IntKind.u64) S RowMd.plain), (8, ABlk.row 5 byteRow (F.L ++ gEnc R.st R.en R.id R.total R.typ R.k R.lb R.data R.sum) RowMd.plain)])))) (branch R.en (obl (true
 && decide (S.length = S.length ∧ 1 = 1 ∧ 1 = 1 ∧ 0 < 1 ∧ (S ++ [(↑i : Int) + (1 : Int)]).length ≤ 9223372036854775807 ∧ (S ++ [(↑i : Int) + (1 : Int)]).length * 8 ≤ 140737488355328)) (Q (AExit.exit 2)
 [(4, AVal.ptr 3 0 0 0), (5, AVal.ptr 4 0 0 0), (6, AVal.ptr 5 0 0 0), (10, AVal.ptr 6 0 0 0), (11, AVal.sl 7 0 1 0 (S ++ [(↑i : Int) + (1 : Int)]).length none), (12, AVal.func 16 [] [AVal.ptr 3 0 0 0,
 AVal.ptr 4 0 0 0, AVal.ptr 5 0 0 0]), (13, AVal.int IntKind.u64 ((↑i : Int) + (1 : Int)))] (AHeap.mk 9 (fHx n (cs.set (idI i) (CutR.mk (cutI cs i).typ R.k2 R.b2 (cutI cs i).data R.at2 (cutI cs i).id))
 (ds.set (idI i) (BoolR.mk R.en)) fv [(6, ABlk.cells 70 [AVal.sl 8 0 1 0 (F.L ++ gEnc R.st R.en R.id R.total R.typ R.k R.lb R.data R.sum).length none, AVal.int IntKind.i64 sp, AVal.bool false, AVal.int
 IntKind.i64 ((↑F.k : Int) + (1 : Int)), AVal.int IntKind.i64 (cutI cs i).k, AVal.str (cutI cs i).lb]), (7, ABlk.row 33 (intRow IntKind.u64) (S ++ [(↑i : Int) + (1 : Int)]) RowMd.plain), (8, ABlk.row 5
 byteRow (F.L ++ gEnc R.st R.en R.id R.total R.typ R.k R.lb R.data R.sum) RowMd.plain)])))) (Q AExit.normal (fE (AVal.sl 7 0 1 0 S.length none) (f13 i)) (AHeap.mk 9 (fHx n (cs.set (idI i) (CutR.mk
 (cutI cs i).typ R.k2 R.b2 (cutI cs i).data R.at2 (cutI cs i).id)) (ds.set (idI i) (BoolR.mk R.en)) fv [(6, ABlk.cells 70 [AVal.sl 8 0 1 0 (F.L ++ gEnc R.st R.en R.id R.total R.typ R.k R.lb R.data
 R.sum).length none, AVal.int IntKind.i64 sp, AVal.bool false, AVal.int IntKind.i64 ((↑F.k : Int) + (1 : Int)), AVal.int IntKind.i64 (cutI cs i).k, AVal.str (cutI cs i).lb]), (7, ABlk.row 33 (intRow
 IntKind.u64) S RowMd.plain), (8, ABlk.row 5 byteRow (F.L ++ gEnc R.st R.en R.id R.total R.typ R.k R.lb R.data R.sum) RowMd.plain)]))))))))))))))))) (∀ (R : NextR), nextR (cutI cs i).typ (cutI cs i).k
 (cutI cs i).lb (cutI cs i).data (cutI cs i).pos (cutI cs i).id (cutI cs i).k (cutI cs i).lb (sp - (↑F.L.length : Int)) F.beg = R → branch (!decide (R.err = (0 : Int))) (branch (!decide (R.err = (0 :
 Int))) (Q (AExit.exit 0) (fE (AVal.sl 7 0 1 0 S.length none) (f13 i)) (AHeap.mk 9 (fHx n cs ds fv [(6, ABlk.cells 70 [AVal.sl 8 0 1 0 F.L.length none, AVal.int IntKind.i64 sp, AVal.bool F.beg,
 AVal.int IntKind.i64 (↑F.k : Int), AVal.int IntKind.i64 F.lk, AVal.str F.lb]), (7, ABlk.row 33 (intRow IntKind.u64) S RowMd.plain), (8, ABlk.row 5 byteRow F.L RowMd.plain)]))) (branch (decide (sp -
 (↑F.L.length : Int) < (3 : Int))) (Q (AExit.exit 0) (fE (AVal.sl 7 0 1 0 S.length none) (f13 i)) (AHeap.mk 9 (fHx n cs ds fv [(6, ABlk.cells 70 [AVal.sl 8 0 1 0 F.L.length none, AVal.int IntKind.i64
 sp, AVal.bool F.beg, AVal.int IntKind.i64 (↑F.k : Int), AVal.int IntKind.i64 F.lk, AVal.str F.lb]), (7, ABlk.row 33 (intRow IntKind.u64) S RowMd.plain), (8, ABlk.row 5 byteRow F.L RowMd.plain)])))
 (branch (decide ((70000 : Int) ≤ (↑F.k : Int))) (Q (AExit.exit 0) (fE (AVal.sl 7 0 1 0 S.length none) (f13 i)) (AHeap.mk 9 (fHx n cs ds fv [(6, ABlk.cells 70 [AVal.sl 8 0 1 0 F.L.length none, AVal.int
 IntKind.i64 sp, AVal.bool F.beg, AVal.int IntKind.i64 (↑F.k : Int), AVal.int IntKind.i64 F.lk, AVal.str F.lb]), (7, ABlk.row 33 (intRow IntKind.u64) S RowMd.plain), (8, ABlk.row 5 byteRow F.L
 RowMd.plain)]))) (obl (inI64 ((↑F.k : Int) + (1 : Int))) (obl (true && decide (F.L.length = F.L.length ∧ 1 = 1 ∧ 1 = 1 ∧ 0 < 1 ∧ (F.L ++ [(48 : UInt8), (1 : UInt8), (0 : UInt8)]).length ≤
 9223372036854775807 ∧ (F.L ++ [(48 : UInt8), (1 : UInt8), (0 : UInt8)]).length * 1 ≤ 140737488355328)) (branch F.beg (Q AExit.normal (fE (AVal.sl 7 0 1 0 S.length none) (f13 i)) (AHeap.mk 9 (fHx n cs
 ds fv [(6, ABlk.cells 70 [AVal.sl 8 0 1 0 (F.L ++ [(48 : UInt8), (1 : UInt8), (0 : UInt8)]).length none, AVal.int IntKind.i64 sp, AVal.bool true, AVal.int IntKind.i64 ((↑F.k : Int) + (1 : Int)),
 AVal.int IntKind.i64 F.lk, AVal.str F.lb]), (7, ABlk.row 33 (intRow IntKind.u64) S RowMd.plain), (8, ABlk.row 5 byteRow (F.L ++ [(48 : UInt8), (1 : UInt8), (0 : UInt8)]) RowMd.plain)]))) (Q
 AExit.normal (fE (AVal.sl 7 0 1 0 S.length none) (f13 i)) (AHeap.mk 9 (fHx n cs ds fv [(6, ABlk.cells 70 [AVal.sl 8 0 1 0 (F.L ++ [(48 : UInt8), (1 : UInt8), (0 : UInt8)]).length none, AVal.int
 IntKind.i64 sp, AVal.bool false, AVal.int IntKind.i64 ((↑F.k : Int) + (1 : Int)), AVal.int IntKind.i64 F.lk, AVal.str F.lb]), (7, ABlk.row 33 (intRow IntKind.u64) S RowMd.plain), (8, ABlk.row 5
 byteRow (F.L ++ [(48 : UInt8), (1 : UInt8), (0 : UInt8)]) RowMd.plain)]))))))))) (obl (decide ((0 : Int) ≤ idJ i ∧ idJ i < (↑n : Int))) (obl (decide (0 + (idJ i).toNat < cs.length) && true) (obl
 (decide ((0 : Int) ≤ idJ i ∧ idJ i < (↑n : Int))) (obl (decide (0 + (idJ i).toNat < ds.length) && true) (obl (decide (R.lb.length + R.data.length + R.sum.length ≤ 9223372036854775000)) (branch
 (!decide (gErr R.st R.en R.id R.total R.typ R.k R.lb R.data R.sum = (0 : Int))) (Q (AExit.exit 0) (fE (AVal.sl 7 0 1 0 S.length none) (f13 i)) (AHeap.mk 9 (fHx n (cs.set (idI i) (CutR.mk (cutI cs
 i).typ R.k2 R.b2 (cutI cs i).data R.at2 (cutI cs i).id)) (ds.set (idI i) (BoolR.mk R.en)) fv [(6, ABlk.cells 70 [AVal.sl 8 0 1 0 F.L.length none, AVal.int IntKind.i64 sp, AVal.bool F.beg, AVal.int
 IntKind.i64 (↑F.k : Int), AVal.int IntKind.i64 F.lk, AVal.str F.lb]), (7, ABlk.row 33 (intRow IntKind.u64) S RowMd.plain), (8, ABlk.row 5 byteRow F.L RowMd.plain)]))) (branch (decide (sp -
 (↑F.L.length : Int) < (↑(gEnc R.st R.en R.id R.total R.typ R.k R.lb R.data R.sum).length : Int))) (Q (AExit.exit 0) (fE (AVal.sl 7 0 1 0 S.length none) (f13 i)) (AHeap.mk 9 (fHx n (cs.set (idI i)
 (CutR.mk (cutI cs i).typ R.k2 R.b2 (cutI cs i).data R.at2 (cutI cs i).id)) (ds.set (idI i) (BoolR.mk R.en)) fv [(6, ABlk.cells 70 [AVal.sl 8 0 1 0 F.L.length none, AVal.int IntKind.i64 sp, AVal.bool
 F.beg, AVal.int IntKind.i64 (↑F.k : Int), AVal.int IntKind.i64 F.lk, AVal.str F.lb]), (7, ABlk.row 33 (intRow IntKind.u64) S RowMd.plain), (8, ABlk.row 5 byteRow F.L RowMd.plain)]))) (branch (decide
 ((70000 : Int) ≤ (↑F.k : Int))) (Q (AExit.exit 0) (fE (AVal.sl 7 0 1 0 S.length none) (f13 i)) (AHeap.mk 9 (fHx n (cs.set (idI i) (CutR.mk (cutI cs i).typ R.k2 R.b2 (cutI cs i).data R.at2 (cutI cs
 i).id)) (ds.set (idI i) (BoolR.mk R.en)) fv [(6, ABlk.cells 70 [AVal.sl 8 0 1 0 F.L.length none, AVal.int IntKind.i64 sp, AVal.bool F.beg, AVal.int IntKind.i64 (↑F.k : Int), AVal.int IntKind.i64 F.lk,
 AVal.str F.lb]), (7, ABlk.row 33 (intRow IntKind.u64) S RowMd.plain), (8, ABlk.row 5 byteRow F.L RowMd.plain)]))) (obl (inI64 ((↑F.k : Int) + (1 : Int))) (obl (true && decide (F.L.length = F.L.length
 ∧ 1 = 1 ∧ 1 = 1 ∧ 0 < 1 ∧ (F.L ++ gEnc R.st R.en R.id R.total R.typ R.k R.lb R.data R.sum).length ≤ 9223372036854775807 ∧ (F.L ++ gEnc R.st R.en R.id R.total R.typ R.k R.lb R.data R.sum).length * 1 ≤
 140737488355328)) (branch F.beg (branch R.en (obl (true && decide (S.length = S.length ∧ 1 = 1 ∧ 1 = 1 ∧ 0 < 1 ∧ (S ++ [(↑i : Int) + (1 : Int)]).length ≤ 9223372036854775807 ∧ (S ++ [(↑i : Int) + (1 :
 Int)]).length * 8 ≤ 140737488355328)) (Q (AExit.exit 2) [(4, AVal.ptr 3 0 0 0), (5, AVal.ptr 4 0 0 0), (6, AVal.ptr 5 0 0 0), (10, AVal.ptr 6 0 0 0), (11, AVal.sl 7 0 1 0 (S ++ [(↑i : Int) + (1 :
 Int)]).length none), (12, AVal.func 16 [] [AVal.ptr 3 0 0 0, AVal.ptr 4 0 0 0, AVal.ptr 5 0 0 0]), (13, AVal.int IntKind.u64 ((↑i : Int) + (1 : Int)))] (AHeap.mk 9 (fHx n (cs.set (idI i) (CutR.mk
 (cutI cs i).typ R.k2 R.b2 (cutI cs i).data R.at2 (cutI cs i).id)) (ds.set (idI i) (BoolR.mk R.en)) fv [(6, ABlk.cells 70 [AVal.sl 8 0 1 0 (F.L ++ gEnc R.st R.en R.id R.total R.typ R.k R.lb R.data
 R.sum).length none, AVal.int IntKind.i64 sp, AVal.bool true, AVal.int IntKind.i64 ((↑F.k : Int) + (1 : Int)), AVal.int IntKind.i64 F.lk, AVal.str F.lb]), (7, ABlk.row 33 (intRow IntKind.u64) (S ++
 [(↑i : Int) + (1 : Int)]) RowMd.plain), (8, ABlk.row 5 byteRow (F.L ++ gEnc R.st R.en R.id R.total R.typ R.k R.lb R.data R.sum) RowMd.plain)])))) (Q AExit.normal (fE (AVal.sl 7 0 1 0 S.length none)
 (f13 i)) (AHeap.mk 9 (fHx n (cs.set (idI i) (CutR.mk (cutI cs i).typ R.k2 R.b2 (cutI cs i).data R.at2 (cutI cs i).id)) (ds.set (idI i) (BoolR.mk R.en)) fv [(6, ABlk.cells 70 [AVal.sl 8 0 1 0 (F.L ++
 gEnc R.st R.en R.id R.total R.typ R.k R.lb R.data R.sum).length none, AVal.int IntKind.i64 sp, AVal.bool true, AVal.int IntKind.i64 ((↑F.k : Int) + (1 : Int)), AVal.int IntKind.i64 F.lk, AVal.str
 F.lb]), (7, ABlk.row 33 (intRow IntKind.u64) S RowMd.plain), (8, ABlk.row 5 byteRow (F.L ++ gEnc R.st R.en R.id R.total R.typ R.k R.lb R.data R.sum) RowMd.plain)])))) (branch R.st (branch R.en (obl
 (true && decide (S.length = S.length ∧ 1 = 1 ∧ 1 = 1 ∧ 0 < 1 ∧ (S ++ [(↑i : Int) + (1 : Int)]).length ≤ 9223372036854775807 ∧ (S ++ [(↑i : Int) + (1 : Int)]).length * 8 ≤ 140737488355328)) (Q
 (AExit.exit 2) [(4, AVal.ptr 3 0 0 0), (5, AVal.ptr 4 0 0 0), (6, AVal.ptr 5 0 0 0), (10, AVal.ptr 6 0 0 0), (11, AVal.sl 7 0 1 0 (S ++ [(↑i : Int) + (1 : Int)]).length none), (12, AVal.func 16 []
 [AVal.ptr 3 0 0 0, AVal.ptr 4 0 0 0, AVal.ptr 5 0 0 0]), (13, AVal.int IntKind.u64 ((↑i : Int) + (1 : Int)))] (AHeap.mk 9 (fHx n (cs.set (idI i) (CutR.mk (cutI cs i).typ R.k2 R.b2 (cutI cs i).data
 R.at2 (cutI cs i).id)) (ds.set (idI i) (BoolR.mk R.en)) fv [(6, ABlk.cells 70 [AVal.sl 8 0 1 0 (F.L ++ gEnc R.st R.en R.id R.total R.typ R.k R.lb R.data R.sum).length none, AVal.int IntKind.i64 sp,
 AVal.bool !R.en, AVal.int IntKind.i64 ((↑F.k : Int) + (1 : Int)), AVal.int IntKind.i64 F.lk, AVal.str F.lb]), (7, ABlk.row 33 (intRow IntKind.u64) (S ++ [(↑i : Int) + (1 : Int)]) RowMd.plain), (8,
 ABlk.row 5 byteRow (F.L ++ gEnc R.st R.en R.id R.total R.typ R.k R.lb R.data R.sum) RowMd.plain)])))) (Q AExit.normal (fE (AVal.sl 7 0 1 0 S.length none) (f13 i)) (AHeap.mk 9 (fHx n (cs.set (idI i)
 (CutR.mk (cutI cs i).typ R.k2 R.b2 (cutI cs i).data R.at2 (cutI cs i).id)) (ds.set (idI i) (BoolR.mk R.en)) fv [(6, ABlk.cells 70 [AVal.sl 8 0 1 0 (F.L ++ gEnc R.st R.en R.id R.total R.typ R.k R.lb
 R.data R.sum).length none, AVal.int IntKind.i64 sp, AVal.bool !R.en, AVal.int IntKind.i64 ((↑F.k : Int) + (1 : Int)), AVal.int IntKind.i64 F.lk, AVal.str F.lb]), (7, ABlk.row 33 (intRow IntKind.u64) S
 RowMd.plain), (8, ABlk.row 5 byteRow (F.L ++ gEnc R.st R.en R.id R.total R.typ R.k R.lb R.data R.sum) RowMd.plain)])))) (branch R.en (obl (true && decide (S.length = S.length ∧ 1 = 1 ∧ 1 = 1 ∧ 0 < 1 ∧
 (S ++ [(↑i : Int) + (1 : Int)]).length ≤ 9223372036854775807 ∧ (S ++ [(↑i : Int) + (1 : Int)]).length * 8 ≤ 140737488355328)) (Q (AExit.exit 2) [(4, AVal.ptr 3 0 0 0), (5, AVal.ptr 4 0 0 0), (6,
 AVal.ptr 5 0 0 0), (10, AVal.ptr 6 0 0 0), (11, AVal.sl 7 0 1 0 (S ++ [(↑i : Int) + (1 : Int)]).length none), (12, AVal.func 16 [] [AVal.ptr 3 0 0 0, AVal.ptr 4 0 0 0, AVal.ptr 5 0 0 0]), (13,
 AVal.int IntKind.u64 ((↑i : Int) + (1 : Int)))] (AHeap.mk 9 (fHx n (cs.set (idI i) (CutR.mk (cutI cs i).typ R.k2 R.b2 (cutI cs i).data R.at2 (cutI cs i).id)) (ds.set (idI i) (BoolR.mk R.en)) fv [(6,
 ABlk.cells 70 [AVal.sl 8 0 1 0 (F.L ++ gEnc R.st R.en R.id R.total R.typ R.k R.lb R.data R.sum).length none, AVal.int IntKind.i64 sp, AVal.bool false, AVal.int IntKind.i64 ((↑F.k : Int) + (1 : Int)),
 AVal.int IntKind.i64 F.lk, AVal.str F.lb]), (7, ABlk.row 33 (intRow IntKind.u64) (S ++ [(↑i : Int) + (1 : Int)]) RowMd.plain), (8, ABlk.row 5 byteRow (F.L ++ gEnc R.st R.en R.id R.total R.typ R.k R.lb
 R.data R.sum) RowMd.plain)])))) (Q AExit.normal (fE (AVal.sl 7 0 1 0 S.length none) (f13 i)) (AHeap.mk 9 (fHx n (cs.set (idI i) (CutR.mk (cutI cs i).typ R.k2 R.b2 (cutI cs i).data R.at2 (cutI cs
 i).id)) (ds.set (idI i) (BoolR.mk R.en)) fv [(6, ABlk.cells 70 [AVal.sl 8 0 1 0 (F.L ++ gEnc R.st R.en R.id R.total R.typ R.k R.lb R.data R.sum).length none, AVal.int IntKind.i64 sp, AVal.bool false,
 AVal.int IntKind.i64 ((↑F.k : Int) + (1 : Int)), AVal.int IntKind.i64 F.lk, AVal.str F.lb]), (7, ABlk.row 33 (intRow IntKind.u64) S RowMd.plain), (8, ABlk.row 5 byteRow (F.L ++ gEnc R.st R.en R.id
 R.total R.typ R.k R.lb R.data R.sum) RowMd.plain)])))))))))))))))))) (∀ (R : NextR), nextR (cutI cs i).typ (cutI cs i).k (cutI cs i).lb (cutI cs i).data (cutI cs i).pos (cutI cs i).id (cutI cs i).k
 (cutI cs i).lb (sp - (↑F.L.length : Int)) F.beg = R → branch (!decide (R.err = (0 : Int))) (branch (!decide (R.err = (0 : Int))) (Q (AExit.exit 0) (fE (AVal.sl 7 0 1 0 S.length none) (f13 i))
 (AHeap.mk 9 (fHx n cs ds fv [(6, ABlk.cells 70 [AVal.sl 8 0 1 0 F.L.length none, AVal.int IntKind.i64 sp, AVal.bool F.beg, AVal.int IntKind.i64 (↑F.k : Int), AVal.int IntKind.i64 F.lk, AVal.str
 F.lb]), (7, ABlk.row 33 (intRow IntKind.u64) S RowMd.plain), (8, ABlk.row 5 byteRow F.L RowMd.plain)]))) (branch (decide (sp - (↑F.L.length : Int) < (3 : Int))) (Q (AExit.exit 0) (fE (AVal.sl 7 0 1 0
 S.length none) (f13 i)) (AHeap.mk 9 (fHx n cs ds fv [(6, ABlk.cells 70 [AVal.sl 8 0 1 0 F.L.length none, AVal.int IntKind.i64 sp, AVal.bool F.beg, AVal.int IntKind.i64 (↑F.k : Int), AVal.int
 IntKind.i64 F.lk, AVal.str F.lb]), (7, ABlk.row 33 (intRow IntKind.u64) S RowMd.plain), (8, ABlk.row 5 byteRow F.L RowMd.plain)]))) (branch (decide ((70000 : Int) ≤ (↑F.k : Int))) (Q (AExit.exit 0)
 (fE (AVal.sl 7 0 1 0 S.length none) (f13 i)) (AHeap.mk 9 (fHx n cs ds fv [(6, ABlk.cells 70 [AVal.sl 8 0 1 0 F.L.length none, AVal.int IntKind.i64 sp, AVal.bool F.beg, AVal.int IntKind.i64 (↑F.k :
 Int), AVal.int IntKind.i64 F.lk, AVal.str F.lb]), (7, ABlk.row 33 (intRow IntKind.u64) S RowMd.plain), (8, ABlk.row 5 byteRow F.L RowMd.plain)]))) (obl (inI64 ((↑F.k : Int) + (1 : Int))) (obl (true &&
 decide (F.L.length = F.L.length ∧ 1 = 1 ∧ 1 = 1 ∧ 0 < 1 ∧ (F.L ++ [(48 : UInt8), (1 : UInt8), (0 : UInt8)]).length ≤ 9223372036854775807 ∧ (F.L ++ [(48 : UInt8), (1 : UInt8), (0 : UInt8)]).length * 1
 ≤ 140737488355328)) (branch F.beg (Q AExit.normal (fE (AVal.sl 7 0 1 0 S.length none) (f13 i)) (AHeap.mk 9 (fHx n cs ds fv [(6, ABlk.cells 70 [AVal.sl 8 0 1 0 (F.L ++ [(48 : UInt8), (1 : UInt8), (0 :
 UInt8)]).length none, AVal.int IntKind.i64 sp, AVal.bool true, AVal.int IntKind.i64 ((↑F.k : Int) + (1 : Int)), AVal.int IntKind.i64 F.lk, AVal.str F.lb]), (7, ABlk.row 33 (intRow IntKind.u64) S
 RowMd.plain), (8, ABlk.row 5 byteRow (F.L ++ [(48 : UInt8), (1 : UInt8), (0 : UInt8)]) RowMd.plain)]))) (Q AExit.normal (fE (AVal.sl 7 0 1 0 S.length none) (f13 i)) (AHeap.mk 9 (fHx n cs ds fv [(6,
 ABlk.cells 70 [AVal.sl 8 0 1 0 (F.L ++ [(48 : UInt8), (1 : UInt8), (0 : UInt8)]).length none, AVal.int IntKind.i64 sp, AVal.bool false, AVal.int IntKind.i64 ((↑F.k : Int) + (1 : Int)), AVal.int
 IntKind.i64 F.lk, AVal.str F.lb]), (7, ABlk.row 33 (intRow IntKind.u64) S RowMd.plain), (8, ABlk.row 5 byteRow (F.L ++ [(48 : UInt8), (1 : UInt8), (0 : UInt8)]) RowMd.plain)]))))))))) (obl (decide ((0
 : Int) ≤ idJ i ∧ idJ i < (↑n : Int))) (obl (decide (0 + (idJ i).toNat < cs.length) && true) (obl (decide ((0 : Int) ≤ idJ i ∧ idJ i < (↑n : Int))) (obl (decide (0 + (idJ i).toNat < ds.length) && true)
 (obl (decide (R.lb.length + R.data.length + R.sum.length ≤ 9223372036854775000)) (branch (!decide (gErr R.st R.en R.id R.total R.typ R.k R.lb R.data R.sum = (0 : Int))) (Q (AExit.exit 0) (fE (AVal.sl
 7 0 1 0 S.length none) (f13 i)) (AHeap.mk 9 (fHx n (cs.set (idI i) (CutR.mk (cutI cs i).typ R.k2 R.b2 (cutI cs i).data R.at2 (cutI cs i).id)) (ds.set (idI i) (BoolR.mk R.en)) fv [(6, ABlk.cells 70
 [AVal.sl 8 0 1 0 F.L.length none, AVal.int IntKind.i64 sp, AVal.bool F.beg, AVal.int IntKind.i64 (↑F.k : Int), AVal.int IntKind.i64 F.lk, AVal.str F.lb]), (7, ABlk.row 33 (intRow IntKind.u64) S
 RowMd.plain), (8, ABlk.row 5 byteRow F.L RowMd.plain)]))) (branch (decide (sp - (↑F.L.length : Int) < (↑(gEnc R.st R.en R.id R.total R.typ R.k R.lb R.data R.sum).length : Int))) (Q (AExit.exit 0) (fE
 (AVal.sl 7 0 1 0 S.length none) (f13 i)) (AHeap.mk 9 (fHx n (cs.set (idI i) (CutR.mk (cutI cs i).typ R.k2 R.b2 (cutI cs i).data R.at2 (cutI cs i).id)) (ds.set (idI i) (BoolR.mk R.en)) fv [(6,
 ABlk.cells 70 [AVal.sl 8 0 1 0 F.L.length none, AVal.int IntKind.i64 sp, AVal.bool F.beg, AVal.int IntKind.i64 (↑F.k : Int), AVal.int IntKind.i64 F.lk, AVal.str F.lb]), (7, ABlk.row 33 (intRow
 IntKind.u64) S RowMd.plain), (8, ABlk.row 5 byteRow F.L RowMd.plain)]))) (branch (decide ((70000 : Int) ≤ (↑F.k : Int))) (Q (AExit.exit 0) (fE (AVal.sl 7 0 1 0 S.length none) (f13 i)) (AHeap.mk 9 (fHx
 n (cs.set (idI i) (CutR.mk (cutI cs i).typ R.k2 R.b2 (cutI cs i).data R.at2 (cutI cs i).id)) (ds.set (idI i) (BoolR.mk R.en)) fv [(6, ABlk.cells 70 [AVal.sl 8 0 1 0 F.L.length none, AVal.int
 IntKind.i64 sp, AVal.bool F.beg, AVal.int IntKind.i64 (↑F.k : Int), AVal.int IntKind.i64 F.lk, AVal.str F.lb]), (7, ABlk.row 33 (intRow IntKind.u64) S RowMd.plain), (8, ABlk.row 5 byteRow F.L
 RowMd.plain)]))) (obl (inI64 ((↑F.k : Int) + (1 : Int))) (obl (true && decide (F.L.length = F.L.length ∧ 1 = 1 ∧ 1 = 1 ∧ 0 < 1 ∧ (F.L ++ gEnc R.st R.en R.id R.total R.typ R.k R.lb R.data R.sum).length
 ≤ 9223372036854775807 ∧ (F.L ++ gEnc R.st R.en R.id R.total R.typ R.k R.lb R.data R.sum).length * 1 ≤ 140737488355328)) (branch F.beg (branch R.en (obl (true && decide (S.length = S.length ∧ 1 = 1 ∧ 1
 = 1 ∧ 0 < 1 ∧ (S ++ [(↑i : Int) + (1 : Int)]).length ≤ 9223372036854775807 ∧ (S ++ [(↑i : Int) + (1 : Int)]).length * 8 ≤ 140737488355328)) (Q (AExit.exit 2) [(4, AVal.ptr 3 0 0 0), (5, AVal.ptr 4 0 0
 0), (6, AVal.ptr 5 0 0 0), (10, AVal.ptr 6 0 0 0), (11, AVal.sl 7 0 1 0 (S ++ [(↑i : Int) + (1 : Int)]).length none), (12, AVal.func 16 [] [AVal.ptr 3 0 0 0, AVal.ptr 4 0 0 0, AVal.ptr 5 0 0 0]), (13,
 AVal.int IntKind.u64 ((↑i : Int) + (1 : Int)))] (AHeap.mk 9 (fHx n (cs.set (idI i) (CutR.mk (cutI cs i).typ R.k2 R.b2 (cutI cs i).data R.at2 (cutI cs i).id)) (ds.set (idI i) (BoolR.mk R.en)) fv [(6,
 ABlk.cells 70 [AVal.sl 8 0 1 0 (F.L ++ gEnc R.st R.en R.id R.total R.typ R.k R.lb R.data R.sum).length none, AVal.int IntKind.i64 sp, AVal.bool true, AVal.int IntKind.i64 ((↑F.k : Int) + (1 : Int)),
 AVal.int IntKind.i64 F.lk, AVal.str F.lb]), (7, ABlk.row 33 (intRow IntKind.u64) (S ++ [(↑i : Int) + (1 : Int)]) RowMd.plain), (8, ABlk.row 5 byteRow (F.L ++ gEnc R.st R.en R.id R.total R.typ R.k R.lb
 R.data R.sum) RowMd.plain)])))) (Q AExit.normal (fE (AVal.sl 7 0 1 0 S.length none) (f13 i)) (AHeap.mk 9 (fHx n (cs.set (idI i) (CutR.mk (cutI cs i).typ R.k2 R.b2 (cutI cs i).data R.at2 (cutI cs
 i).id)) (ds.set (idI i) (BoolR.mk R.en)) fv [(6, ABlk.cells 70 [AVal.sl 8 0 1 0 (F.L ++ gEnc R.st R.en R.id R.total R.typ R.k R.lb R.data R.sum).length none, AVal.int IntKind.i64 sp, AVal.bool true,
 AVal.int IntKind.i64 ((↑F.k : Int) + (1 : Int)), AVal.int IntKind.i64 F.lk, AVal.str F.lb]), (7, ABlk.row 33 (intRow IntKind.u64) S RowMd.plain), (8, ABlk.row 5 byteRow (F.L ++ gEnc R.st R.en R.id
 R.total R.typ R.k R.lb R.data R.sum) RowMd.plain)])))) (branch R.st (branch R.en (obl (true && decide (S.length = S.length ∧ 1 = 1 ∧ 1 = 1 ∧ 0 < 1 ∧ (S ++ [(↑i : Int) + (1 : Int)]).length ≤
 9223372036854775807 ∧ (S ++ [(↑i : Int) + (1 : Int)]).length * 8 ≤ 140737488355328)) (Q (AExit.exit 2) [(4, AVal.ptr 3 0 0 0), (5, AVal.ptr 4 0 0 0), (6, AVal.ptr 5 0 0 0), (10, AVal.ptr 6 0 0 0),
 (11, AVal.sl 7 0 1 0 (S ++ [(↑i : Int) + (1 : Int)]).length none), (12, AVal.func 16 [] [AVal.ptr 3 0 0 0, AVal.ptr 4 0 0 0, AVal.ptr 5 0 0 0]), (13, AVal.int IntKind.u64 ((↑i : Int) + (1 : Int)))]
 (AHeap.mk 9 (fHx n (cs.set (idI i) (CutR.mk (cutI cs i).typ R.k2 R.b2 (cutI cs i).data R.at2 (cutI cs i).id)) (ds.set (idI i) (BoolR.mk R.en)) fv [(6, ABlk.cells 70 [AVal.sl 8 0 1 0 (F.L ++ gEnc R.st
 R.en R.id R.total R.typ R.k R.lb R.data R.sum).length none, AVal.int IntKind.i64 sp, AVal.bool !R.en, AVal.int IntKind.i64 ((↑F.k : Int) + (1 : Int)), AVal.int IntKind.i64 F.lk, AVal.str F.lb]), (7,
 ABlk.row 33 (intRow IntKind.u64) (S ++ [(↑i : Int) + (1 : Int)]) RowMd.plain), (8, ABlk.row 5 byteRow (F.L ++ gEnc R.st R.en R.id R.total R.typ R.k R.lb R.data R.sum) RowMd.plain)])))) (Q AExit.normal
 (fE (AVal.sl 7 0 1 0 S.length none) (f13 i)) (AHeap.mk 9 (fHx n (cs.set (idI i) (CutR.mk (cutI cs i).typ R.k2 R.b2 (cutI cs i).data R.at2 (cutI cs i).id)) (ds.set (idI i) (BoolR.mk R.en)) fv [(6,
 ABlk.cells 70 [AVal.sl 8 0 1 0 (F.L ++ gEnc R.st R.en R.id R.total R.typ R.k R.lb R.data R.sum).length none, AVal.int IntKind.i64 sp, AVal.bool !R.en, AVal.int IntKind.i64 ((↑F.k : Int) + (1 : Int)),
 AVal.int IntKind.i64 F.lk, AVal.str F.lb]), (7, ABlk.row 33 (intRow IntKind.u64) S RowMd.plain), (8, ABlk.row 5 byteRow (F.L ++ gEnc R.st R.en R.id R.total R.typ R.k R.lb R.data R.sum)
 RowMd.plain)])))) (branch R.en (obl (true && decide (S.length = S.length ∧ 1 = 1 ∧ 1 = 1 ∧ 0 < 1 ∧ (S ++ [(↑i : Int) + (1 : Int)]).length ≤ 9223372036854775807 ∧ (S ++ [(↑i : Int) + (1 : Int)]).length
 * 8 ≤ 140737488355328)) (Q (AExit.exit 2) [(4, AVal.ptr 3 0 0 0), (5, AVal.ptr 4 0 0 0), (6, AVal.ptr 5 0 0 0), (10, AVal.ptr 6 0 0 0), (11, AVal.sl 7 0 1 0 (S ++ [(↑i : Int) + (1 : Int)]).length
 none), (12, AVal.func 16 [] [AVal.ptr 3 0 0 0, AVal.ptr 4 0 0 0, AVal.ptr 5 0 0 0]), (13, AVal.int IntKind.u64 ((↑i : Int) + (1 : Int)))] (AHeap.mk 9 (fHx n (cs.set (idI i) (CutR.mk (cutI cs i).typ
 R.k2 R.b2 (cutI cs i).data R.at2 (cutI cs i).id)) (ds.set (idI i) (BoolR.mk R.en)) fv [(6, ABlk.cells 70 [AVal.sl 8 0 1 0 (F.L ++ gEnc R.st R.en R.id R.total R.typ R.k R.lb R.data R.sum).length none,
 AVal.int IntKind.i64 sp, AVal.bool false, AVal.int IntKind.i64 ((↑F.k : Int) + (1 : Int)), AVal.int IntKind.i64 F.lk, AVal.str F.lb]), (7, ABlk.row 33 (intRow IntKind.u64) (S ++ [(↑i : Int) + (1 :
 Int)]) RowMd.plain), (8, ABlk.row 5 byteRow (F.L ++ gEnc R.st R.en R.id R.total R.typ R.k R.lb R.data R.sum) RowMd.plain)])))) (Q AExit.normal (fE (AVal.sl 7 0 1 0 S.length none) (f13 i)) (AHeap.mk 9
 (fHx n (cs.set (idI i) (CutR.mk (cutI cs i).typ R.k2 R.b2 (cutI cs i).data R.at2 (cutI cs i).id)) (ds.set (idI i) (BoolR.mk R.en)) fv [(6, ABlk.cells 70 [AVal.sl 8 0 1 0 (F.L ++ gEnc R.st R.en R.id
 R.total R.typ R.k R.lb R.data R.sum).length none, AVal.int IntKind.i64 sp, AVal.bool false, AVal.int IntKind.i64 ((↑F.k : Int) + (1 : Int)), AVal.int IntKind.i64 F.lk, AVal.str F.lb]), (7, ABlk.row 33
 (intRow IntKind.u64) S RowMd.plain), (8, ABlk.row 5 byteRow (F.L ++ gEnc R.st R.en R.id R.total R.typ R.k R.lb R.data R.sum) RowMd.plain)]))))))))))))))))))) (∀ (R : NextR), nextR (cutI cs i).typ
 (cutI cs i).k (cutI cs i).lb (cutI cs i).data (cutI cs i).pos (cutI cs i).id (cutI cs i).k (cutI cs i).lb (sp - (↑F.L.length : Int)) F.beg = R → branch (!decide (R.err = (0 : Int))) (branch (!decide
 (R.err = (0 : Int))) (Q (AExit.exit 0) (fE (AVal.sl 7 0 1 0 S.length none) (f13 i)) (AHeap.mk 9 (fHx n cs ds fv [(6, ABlk.cells 70 [AVal.sl 8 0 1 0 F.L.length none, AVal.int IntKind.i64 sp, AVal.bool
 F.beg, AVal.int IntKind.i64 (↑F.k : Int), AVal.int IntKind.i64 F.lk, AVal.str F.lb]), (7, ABlk.row 33 (intRow IntKind.u64) S RowMd.plain), (8, ABlk.row 5 byteRow F.L RowMd.plain)]))) (branch (decide
 (sp - (↑F.L.length : Int) < (3 : Int))) (Q (AExit.exit 0) (fE (AVal.sl 7 0 1 0 S.length none) (f13 i)) (AHeap.mk 9 (fHx n cs ds fv [(6, ABlk.cells 70 [AVal.sl 8 0 1 0 F.L.length none, AVal.int
 IntKind.i64 sp, AVal.bool F.beg, AVal.int IntKind.i64 (↑F.k : Int), AVal.int IntKind.i64 F.lk, AVal.str F.lb]), (7, ABlk.row 33 (intRow IntKind.u64) S RowMd.plain), (8, ABlk.row 5 byteRow F.L
 RowMd.plain)]))) (branch (decide ((70000 : Int) ≤ (↑F.k : Int))) (Q (AExit.exit 0) (fE (AVal.sl 7 0 1 0 S.length none) (f13 i)) (AHeap.mk 9 (fHx n cs ds fv [(6, ABlk.cells 70 [AVal.sl 8 0 1 0
 F.L.length none, AVal.int IntKind.i64 sp, AVal.bool F.beg, AVal.int IntKind.i64 (↑F.k : Int), AVal.int IntKind.i64 F.lk, AVal.str F.lb]), (7, ABlk.row 33 (intRow IntKind.u64) S RowMd.plain), (8,
 ABlk.row 5 byteRow F.L RowMd.plain)]))) (obl (inI64 ((↑F.k : Int) + (1 : Int))) (obl (true && decide (F.L.length = F.L.length ∧ 1 = 1 ∧ 1 = 1 ∧ 0 < 1 ∧ (F.L ++ [(48 : UInt8), (1 : UInt8), (0 :
 UInt8)]).length ≤ 9223372036854775807 ∧ (F.L ++ [(48 : UInt8), (1 : UInt8), (0 : UInt8)]).length * 1 ≤ 140737488355328)) (branch F.beg (Q AExit.normal (fE (AVal.sl 7 0 1 0 S.length none) (f13 i))
 (AHeap.mk 9 (fHx n cs ds fv [(6, ABlk.cells 70 [AVal.sl 8 0 1 0 (F.L ++ [(48 : UInt8), (1 : UInt8), (0 : UInt8)]).length none, AVal.int IntKind.i64 sp, AVal.bool true, AVal.int IntKind.i64 ((↑F.k :
 Int) + (1 : Int)), AVal.int IntKind.i64 F.lk, AVal.str F.lb]), (7, ABlk.row 33 (intRow IntKind.u64) S RowMd.plain), (8, ABlk.row 5 byteRow (F.L ++ [(48 : UInt8), (1 : UInt8), (0 : UInt8)])
 RowMd.plain)]))) (Q AExit.normal (fE (AVal.sl 7 0 1 0 S.length none) (f13 i)) (AHeap.mk 9 (fHx n cs ds fv [(6, ABlk.cells 70 [AVal.sl 8 0 1 0 (F.L ++ [(48 : UInt8), (1 : UInt8), (0 : UInt8)]).length
 none, AVal.int IntKind.i64 sp, AVal.bool false, AVal.int IntKind.i64 ((↑F.k : Int) + (1 : Int)), AVal.int IntKind.i64 F.lk, AVal.str F.lb]), (7, ABlk.row 33 (intRow IntKind.u64) S RowMd.plain), (8,
 ABlk.row 5 byteRow (F.L ++ [(48 : UInt8), (1 : UInt8), (0 : UInt8)]) RowMd.plain)]))))))))) (obl (decide ((0 : Int) ≤ idJ i ∧ idJ i < (↑n : Int))) (obl (decide (0 + (idJ i).toNat < cs.length) && true)
 (obl (decide ((0 : Int) ≤ idJ i ∧ idJ i < (↑n : Int))) (obl (decide (0 + (idJ i).toNat < ds.length) && true) (obl (decide (R.lb.length + R.data.length + R.sum.length ≤ 9223372036854775000)) (branch
 (!decide (gErr R.st R.en R.id R.total R.typ R.k R.lb R.data R.sum = (0 : Int))) (Q (AExit.exit 0) (fE (AVal.sl 7 0 1 0 S.length none) (f13 i)) (AHeap.mk 9 (fHx n (cs.set (idI i) (CutR.mk (cutI cs
 i).typ R.k2 R.b2 (cutI cs i).data R.at2 (cutI cs i).id)) (ds.set (idI i) (BoolR.mk R.en)) fv [(6, ABlk.cells 70 [AVal.sl 8 0 1 0 F.L.length none, AVal.int IntKind.i64 sp, AVal.bool F.beg, AVal.int
 IntKind.i64 (↑F.k : Int), AVal.int IntKind.i64 F.lk, AVal.str F.lb]), (7, ABlk.row 33 (intRow IntKind.u64) S RowMd.plain), (8, ABlk.row 5 byteRow F.L RowMd.plain)]))) (branch (decide (sp -
 (↑F.L.length : Int) < (↑(gEnc R.st R.en R.id R.total R.typ R.k R.lb R.data R.sum).length : Int))) (Q (AExit.exit 0) (fE (AVal.sl 7 0 1 0 S.length none) (f13 i)) (AHeap.mk 9 (fHx n (cs.set (idI i)
 (CutR.mk (cutI cs i).typ R.k2 R.b2 (cutI cs i).data R.at2 (cutI cs i).id)) (ds.set (idI i) (BoolR.mk R.en)) fv [(6, ABlk.cells 70 [AVal.sl 8 0 1 0 F.L.length none, AVal.int IntKind.i64 sp, AVal.bool
 F.beg, AVal.int IntKind.i64 (↑F.k : Int), AVal.int IntKind.i64 F.lk, AVal.str F.lb]), (7, ABlk.row 33 (intRow IntKind.u64) S RowMd.plain), (8, ABlk.row 5 byteRow F.L RowMd.plain)]))) (branch (decide
 ((70000 : Int) ≤ (↑F.k : Int))) (Q (AExit.exit 0) (fE (AVal.sl 7 0 1 0 S.length none) (f13 i)) (AHeap.mk 9 (fHx n (cs.set (idI i) (CutR.mk (cutI cs i).typ R.k2 R.b2 (cutI cs i).data R.at2 (cutI cs
 i).id)) (ds.set (idI i) (BoolR.mk R.en)) fv [(6, ABlk.cells 70 [AVal.sl 8 0 1 0 F.L.length none, AVal.int IntKind.i64 sp, AVal.bool F.beg, AVal.int IntKind.i64 (↑F.k : Int), AVal.int IntKind.i64 F.lk,
 AVal.str F.lb]), (7, ABlk.row 33 (intRow IntKind.u64) S RowMd.plain), (8, ABlk.row 5 byteRow F.L RowMd.plain)]))) (obl (inI64 ((↑F.k : Int) + (1 : Int))) (obl (true && decide (F.L.length = F.L.length
 ∧ 1 = 1 ∧ 1 = 1 ∧ 0 < 1 ∧ (F.L ++ gEnc R.st R.en R.id R.total R.typ R.k R.lb R.data R.sum).length ≤ 9223372036854775807 ∧ (F.L ++ gEnc R.st R.en R.id R.total R.typ R.k R.lb R.data R.sum).length * 1 ≤
 140737488355328)) (branch F.beg (branch R.en (obl (true && decide (S.length = S.length ∧ 1 = 1 ∧ 1 = 1 ∧ 0 < 1 ∧ (S ++ [(↑i : Int) + (1 : Int)]).length ≤ 9223372036854775807 ∧ (S ++ [(↑i : Int) + (1 :
 Int)]).length * 8 ≤ 140737488355328)) (Q (AExit.exit 2) [(4, AVal.ptr 3 0 0 0), (5, AVal.ptr 4 0 0 0), (6, AVal.ptr 5 0 0 0), (10, AVal.ptr 6 0 0 0), (11, AVal.sl 7 0 1 0 (S ++ [(↑i : Int) + (1 :
 Int)]).length none), (12, AVal.func 16 [] [AVal.ptr 3 0 0 0, AVal.ptr 4 0 0 0, AVal.ptr 5 0 0 0]), (13, AVal.int IntKind.u64 ((↑i : Int) + (1 : Int)))] (AHeap.mk 9 (fHx n (cs.set (idI i) (CutR.mk
 (cutI cs i).typ R.k2 R.b2 (cutI cs i).data R.at2 (cutI cs i).id)) (ds.set (idI i) (BoolR.mk R.en)) fv [(6, ABlk.cells 70 [AVal.sl 8 0 1 0 (F.L ++ gEnc R.st R.en R.id R.total R.typ R.k R.lb R.data
 R.sum).length none, AVal.int IntKind.i64 sp, AVal.bool true, AVal.int IntKind.i64 ((↑F.k : Int) + (1 : Int)), AVal.int IntKind.i64 F.lk, AVal.str F.lb]), (7, ABlk.row 33 (intRow IntKind.u64) (S ++
 [(↑i : Int) + (1 : Int)]) RowMd.plain), (8, ABlk.row 5 byteRow (F.L ++ gEnc R.st R.en R.id R.total R.typ R.k R.lb R.data R.sum) RowMd.plain)])))) (Q AExit.normal (fE (AVal.sl 7 0 1 0 S.length none)
 (f13 i)) (AHeap.mk 9 (fHx n (cs.set (idI i) (CutR.mk (cutI cs i).typ R.k2 R.b2 (cutI cs i).data R.at2 (cutI cs i).id)) (ds.set (idI i) (BoolR.mk R.en)) fv [(6, ABlk.cells 70 [AVal.sl 8 0 1 0 (F.L ++
 gEnc R.st R.en R.id R.total R.typ R.k R.lb R.data R.sum).length none, AVal.int IntKind.i64 sp, AVal.bool true, AVal.int IntKind.i64 ((↑F.k : Int) + (1 : Int)), AVal.int IntKind.i64 F.lk, AVal.str
 F.lb]), (7, ABlk.row 33 (intRow IntKind.u64) S RowMd.plain), (8, ABlk.row 5 byteRow (F.L ++ gEnc R.st R.en R.id R.total R.typ R.k R.lb R.data R.sum) RowMd.plain)])))) (branch R.st (branch R.en (obl
 (true && decide (S.length = S.length ∧ 1 = 1 ∧ 1 = 1 ∧ 0 < 1 ∧ (S ++ [(↑i : Int) + (1 : Int)]).length ≤ 9223372036854775807 ∧ (S ++ [(↑i : Int) + (1 : Int)]).length * 8 ≤ 140737488355328)) (Q
 (AExit.exit 2) [(4, AVal.ptr 3 0 0 0), (5, AVal.ptr 4 0 0 0), (6, AVal.ptr 5 0 0 0), (10, AVal.ptr 6 0 0 0), (11, AVal.sl 7 0 1 0 (S ++ [(↑i : Int) + (1 : Int)]).length none), (12, AVal.func 16 []
 [AVal.ptr 3 0 0 0, AVal.ptr 4 0 0 0, AVal.ptr 5 0 0 0]), (13, AVal.int IntKind.u64 ((↑i : Int) + (1 : Int)))] (AHeap.mk 9 (fHx n (cs.set (idI i) (CutR.mk (cutI cs i).typ R.k2 R.b2 (cutI cs i).data
 R.at2 (cutI cs i).id)) (ds.set (idI i) (BoolR.mk R.en)) fv [(6, ABlk.cells 70 [AVal.sl 8 0 1 0 (F.L ++ gEnc R.st R.en R.id R.total R.typ R.k R.lb R.data R.sum).length none, AVal.int IntKind.i64 sp,
 AVal.bool !R.en, AVal.int IntKind.i64 ((↑F.k : Int) + (1 : Int)), AVal.int IntKind.i64 F.lk, AVal.str F.lb]), (7, ABlk.row 33 (intRow IntKind.u64) (S ++ [(↑i : Int) + (1 : Int)]) RowMd.plain), (8,
 ABlk.row 5 byteRow (F.L ++ gEnc R.st R.en R.id R.total R.typ R.k R.lb R.data R.sum) RowMd.plain)])))) (Q AExit.normal (fE (AVal.sl 7 0 1 0 S.length none) (f13 i)) (AHeap.mk 9 (fHx n (cs.set (idI i)
 (CutR.mk (cutI cs i).typ R.k2 R.b2 (cutI cs i).data R.at2 (cutI cs i).id)) (ds.set (idI i) (BoolR.mk R.en)) fv [(6, ABlk.cells 70 [AVal.sl 8 0 1 0 (F.L ++ gEnc R.st R.en R.id R.total R.typ R.k R.lb
 R.data R.sum).length none, AVal.int IntKind.i64 sp, AVal.bool !R.en, AVal.int IntKind.i64 ((↑F.k : Int) + (1 : Int)), AVal.int IntKind.i64 F.lk, AVal.str F.lb]), (7, ABlk.row 33 (intRow IntKind.u64) S
 RowMd.plain), (8, ABlk.row 5 byteRow (F.L ++ gEnc R.st R.en R.id R.total R.typ R.k R.lb R.data R.sum) RowMd.plain)])))) (branch R.en (obl (true && decide (S.length = S.length ∧ 1 = 1 ∧ 1 = 1 ∧ 0 < 1 ∧
 (S ++ [(↑i : Int) + (1 : Int)]).length ≤ 9223372036854775807 ∧ (S ++ [(↑i : Int) + (1 : Int)]).length * 8 ≤ 140737488355328)) (Q (AExit.exit 2) [(4, AVal.ptr 3 0 0 0), (5, AVal.ptr 4 0 0 0), (6,
 AVal.ptr 5 0 0 0), (10, AVal.ptr 6 0 0 0), (11, AVal.sl 7 0 1 0 (S ++ [(↑i : Int) + (1 : Int)]).length none), (12, AVal.func 16 [] [AVal.ptr 3 0 0 0, AVal.ptr 4 0 0 0, AVal.ptr 5 0 0 0]), (13,
 AVal.int IntKind.u64 ((↑i : Int) + (1 : Int)))] (AHeap.mk 9 (fHx n (cs.set (idI i) (CutR.mk (cutI cs i).typ R.k2 R.b2 (cutI cs i).data R.at2 (cutI cs i).id)) (ds.set (idI i) (BoolR.mk R.en)) fv [(6,
 ABlk.cells 70 [AVal.sl 8 0 1 0 (F.L ++ gEnc R.st R.en R.id R.total R.typ R.k R.lb R.data R.sum).length none, AVal.int IntKind.i64 sp, AVal.bool false, AVal.int IntKind.i64 ((↑F.k : Int) + (1 : Int)),
 AVal.int IntKind.i64 F.lk, AVal.str F.lb]), (7, ABlk.row 33 (intRow IntKind.u64) (S ++ [(↑i : Int) + (1 : Int)]) RowMd.plain), (8, ABlk.row 5 byteRow (F.L ++ gEnc R.st R.en R.id R.total R.typ R.k R.lb
 R.data R.sum) RowMd.plain)])))) (Q AExit.normal (fE (AVal.sl 7 0 1 0 S.length none) (f13 i)) (AHeap.mk 9 (fHx n (cs.set (idI i) (CutR.mk (cutI cs i).typ R.k2 R.b2 (cutI cs i).data R.at2 (cutI cs
 i).id)) (ds.set (idI i) (BoolR.mk R.en)) fv [(6, ABlk.cells 70 [AVal.sl 8 0 1 0 (F.L ++ gEnc R.st R.en R.id R.total R.typ R.k R.lb R.data R.sum).length none, AVal.int IntKind.i64 sp, AVal.bool false,
 AVal.int IntKind.i64 ((↑F.k : Int) + (1 : Int)), AVal.int IntKind.i64 F.lk, AVal.str F.lb]), (7, ABlk.row 33 (intRow IntKind.u64) S RowMd.plain), (8, ABlk.row 5 byteRow (F.L ++ gEnc R.st R.en R.id
 R.total R.typ R.k R.lb R.data R.sum) RowMd.plain)])))))))))))))))))))))))))) := by kernel_rfl
end Go.Proofs.Ytjacnjecggedhaa
namespace Go.Proofs.Ytjacnjecggedhaa
set_option linter.unusedVariables false
set_option linter.unusedSimpArgs false
open Go.RowKit Ev
set_option maxRecDepth 100000 in
theorem g_11 (H0 : AHeap) (hH0 : H0.next ≤ 3) (n : Nat) (sp : Int) (cs : List CutR) (ds : List BoolR) (fv : Int) (F : FSt) (S : List Int) (i : Nat) (Q : AExit → Env → AHeap → Prop)
    (hn : i < n) (hcs : cs.length = n) (hds : ds.length = n) (hn30 : n ≤ 30) (hd : (ds.getD i ⟨false⟩).b = false) (hsp : sp ≤ 7300) (hL : (F.L.length : Int) ≤ sp) (hk : 2 * F.k ≤ F.L.length) (hc : CSm (cs.getD i noCut)) (hS : S.length ≤ 30)
    (hfail : ∀ (cs' : List CutR) (ds' : List BoolR) (F' : FSt), F'.L = F.L → ¬ OkR sp F (stepR sp F (cs.getD i noCut)) → Q (.exit 0) (g11 n sp cs' ds' fv F' S (f13 i)).1 (g11 n sp cs' ds' fv F' S (f13 i)).2)
    (hlast : ∀ (R : NextR) (F' : FSt), stepR sp F (cs.getD i noCut) = R → OkR sp F R → R.en = true → F' = stepF F (cs.getD i noCut) R → Q (.exit 2) (g11 n sp (cs.set i (stepC (cs.getD i noCut) R)) (ds.set i ⟨R.en⟩) fv F' (S ++ [(i : Int) + 1]) (f13 i)).1 (g11 n sp (cs.set i (stepC (cs.getD i noCut) R)) (ds.set i ⟨R.en⟩) fv F' (S ++ [(i : Int) + 1]) (f13 i)).2)
    (hnorm : ∀ (R : NextR) (F' : FSt), stepR sp F (cs.getD i noCut) = R → OkR sp F R → R.en = false → F' = stepF F (cs.getD i noCut) R → Q .normal (g11 n sp (cs.set i (stepC (cs.getD i noCut) R)) (ds.set i ⟨R.en⟩) fv F' S (f13 i)).1 (g11 n sp (cs.set i (stepC (cs.getD i noCut) R)) (ds.set i ⟨R.en⟩) fv F' S (f13 i)).2) :
    Gd (TX2.ctx Try.prog) 9 H0 fillL Q (g11 n sp cs ds fv F S (f13 i)).1 (g11 n sp cs ds fv F S (f13 i)).2 := by
  refine Gd.walkC TX2ok.ctx 3 ts13 hH0 (inFn_at TX2ok.ctx (fn := Try.f9) (by kernel_rfl) (by kernel_rfl) [true, false, true, true, true, true, true, false, true, false, false, true, false, false, false, false]) (Eq.mpr (w_fl_11 n sp cs ds fv F S i _) ?_)
  have idx : 0 + (i : Int).toNat = i := by omega
  have hi6 : i < 1000000 := by omega
  rw [idJ_eq hi6, idx, cutI_eq hi6, idI_eq hi6]
  have qS0 : (S ++ [(i : Int) + 1]).length = S.length + 1 := by simp
  have qS1 : (S ++ [(i : Int) + 1]).length ≤ 9223372036854775807 := by omega
  have qS2 : (S ++ [(i : Int) + 1]).length * 8 ≤ 140737488355328 := by omega
  refine obl_int (by omega) ((twice_iff _).2 ?_)
  refine br_dec (fun h => absurd h (by omega)) (fun _ => ?_)
  refine obl_dec (by omega) (obl_dec (by omega) ?_)
  refine br_mk (fun h => by rw [hd] at h; cases h) (fun _ => ?_)
  refine obl_dec (by omega) (obl_dec (by omega) ?_)
  generalize hce : cs.getD i noCut = c
  have hce' : cs.getD i noCut = c := hce
  rw [hce'] at hc
  simp only [hce'] at hlast hnorm hfail
  refine br_dec (fun hp => ?_) (fun hp => ?_)
  · refine br_mk (fun hb0 => ?_) (fun hb0 => ?_)
    · have hb0 : F.lb ≠ [] := by simpa using hb0
      refine br_mk (fun hq => ?_) (fun hq => ?_)
      · have hq : F.lk = c.k ∧ F.lb = c.lb := by simpa using hq
        intro R hR
        have q : labOf F c = (3, []) := by unfold labOf memL; rw [if_pos hp, if_pos ⟨hb0, hq.1, hq.2⟩]
        have hM : memOf F c = (F.lk, F.lb) := by unfold memOf memK; rw [if_pos hp, if_pos ⟨hb0, hq.1, hq.2⟩]
        have hR' : stepR sp F c = R := by unfold stepR; rw [q]; exact hR
        have hsm := stepR_small hR' hc
        refine br_mk (fun he => br_mk (fun _ => hfail cs ds ⟨F.L, F.beg, F.k, F.lk, F.lb⟩ rfl (fun hk => by rw [hR'] at hk; rw [hk.err] at he; cases he)) (fun h2 => by rw [he] at h2; cases h2)) (fun he => ?_)
        have he : R.err = 0 := by simpa using he
        refine obl_dec (by omega) (obl_and (by omega) rfl (obl_dec (by omega) (obl_and (by omega) rfl (obl_dec hsm.1 ?_))))
        refine br_mk (fun hg => hfail (cs.set i (stepC c R)) (ds.set i ⟨R.en⟩) ⟨F.L, F.beg, F.k, F.lk, F.lb⟩ rfl (fun hk => by rw [hR'] at hk; have h0 : (!decide (errR R = 0)) = true := hg; rw [hk.enc] at h0; cases h0)) (fun hg => ?_)
        have hg : errR R = 0 := by simpa [errR] using hg
        refine br_dec (fun hs => hfail (cs.set i (stepC c R)) (ds.set i ⟨R.en⟩) ⟨F.L, F.beg, F.k, F.lk, F.lb⟩ rfl (fun hk => by rw [hR'] at hk; have h0 : sp - (F.L.length : Int) < ((encR R).length : Int) := hs; have h1 := hk.len; omega)) (fun hs => ?_)
        have hs : ¬ (sp - (F.L.length : Int) < ((encR R).length : Int)) := by exact hs
        have hok : OkR sp F R := ⟨he, hg, by omega⟩
        have t2 := encR_len hg
        refine br_dec (fun h => absurd h (by omega)) (fun _ => ?_)
        have q0 : (F.L ++ encR R).length = F.L.length + (encR R).length := List.length_append
        have q1 : (F.L ++ encR R).length ≤ 9223372036854775807 := by omega
        have q2 : (F.L ++ encR R).length * 1 ≤ 140737488355328 := by omega
        refine obl_int (by omega) (obl_tt (decide_eq_true ⟨rfl, rfl, rfl, Nat.one_pos, q1, q2⟩) ?_)
        refine br_mk (fun hb => br_mk (fun h => obl_tt (decide_eq_true ⟨rfl, rfl, rfl, Nat.succ_pos _, qS1, qS2⟩) (hlast R ⟨F.L ++ encR R, true, F.k + 1, F.lk, F.lb⟩ hR' hok h (by unfold stepF; rw [hM, hb]; rfl))) (fun h => hnorm R ⟨F.L ++ encR R, true, F.k + 1, F.lk, F.lb⟩ hR' hok h (by unfold stepF; rw [hM, hb]; rfl))) (fun hb => br_mk (fun hst => br_mk (fun h => obl_tt (decide_eq_true ⟨rfl, rfl, rfl, Nat.succ_pos _, qS1, qS2⟩) (hlast R ⟨F.L ++ encR R, !R.en, F.k + 1, F.lk, F.lb⟩ hR' hok h (by unfold stepF; rw [hM, hb, hst]; rfl))) (fun h => hnorm R ⟨F.L ++ encR R, !R.en, F.k + 1, F.lk, F.lb⟩ hR' hok h (by unfold stepF; rw [hM, hb, hst]; rfl))) (fun hst => br_mk (fun h => obl_tt (decide_eq_true ⟨rfl, rfl, rfl, Nat.succ_pos _, qS1, qS2⟩) (hlast R ⟨F.L ++ encR R, false, F.k + 1, F.lk, F.lb⟩ hR' hok h (by unfold stepF; rw [hM, hb, hst]; rfl))) (fun h => hnorm R ⟨F.L ++ encR R, false, F.k + 1, F.lk, F.lb⟩ hR' hok h (by unfold stepF; rw [hM, hb, hst]; rfl))))
      · have hne : ¬ (F.lb ≠ [] ∧ F.lk = c.k ∧ F.lb = c.lb) := by rintro ⟨_, h1, h2⟩; rw [decide_eq_true h1, decide_eq_true h2] at hq; cases hq
        refine br_dec (fun hs0 => br_dec (fun ho => ?_) (fun ho => ?_)) (fun hs0 => ?_)
        · have ho : lOk c.k c.lb = true := by by_cases h : lOk c.k c.lb = true; exact h; rw [if_neg h] at ho; exact absurd ho (by decide)
          intro R hR
          have q : labOf F c = (c.k, c.lb) := by unfold labOf memL; rw [if_pos hp, if_neg hne]
          have hM : memOf F c = (c.k, c.lb) := by unfold memOf memK; rw [if_pos hp, if_neg hne, if_pos ⟨hs0, ho⟩]
          have hR' : stepR sp F c = R := by unfold stepR; rw [q]; exact hR
          have hsm := stepR_small hR' hc
          refine br_mk (fun he => br_mk (fun _ => hfail cs ds ⟨F.L, F.beg, F.k, c.k, c.lb⟩ rfl (fun hk => by rw [hR'] at hk; rw [hk.err] at he; cases he)) (fun h2 => by rw [he] at h2; cases h2)) (fun he => ?_)
          have he : R.err = 0 := by simpa using he
          refine obl_dec (by omega) (obl_and (by omega) rfl (obl_dec (by omega) (obl_and (by omega) rfl (obl_dec hsm.1 ?_))))
          refine br_mk (fun hg => hfail (cs.set i (stepC c R)) (ds.set i ⟨R.en⟩) ⟨F.L, F.beg, F.k, c.k, c.lb⟩ rfl (fun hk => by rw [hR'] at hk; have h0 : (!decide (errR R = 0)) = true := hg; rw [hk.enc] at h0; cases h0)) (fun hg => ?_)
          have hg : errR R = 0 := by simpa [errR] using hg
          refine br_dec (fun hs => hfail (cs.set i (stepC c R)) (ds.set i ⟨R.en⟩) ⟨F.L, F.beg, F.k, c.k, c.lb⟩ rfl (fun hk => by rw [hR'] at hk; have h0 : sp - (F.L.length : Int) < ((encR R).length : Int) := hs; have h1 := hk.len; omega)) (fun hs => ?_)
          have hs : ¬ (sp - (F.L.length : Int) < ((encR R).length : Int)) := by exact hs
          have hok : OkR sp F R := ⟨he, hg, by omega⟩
          have t2 := encR_len hg
          refine br_dec (fun h => absurd h (by omega)) (fun _ => ?_)
          have q0 : (F.L ++ encR R).length = F.L.length + (encR R).length := List.length_append
          have q1 : (F.L ++ encR R).length ≤ 9223372036854775807 := by omega
          have q2 : (F.L ++ encR R).length * 1 ≤ 140737488355328 := by omega
          refine obl_int (by omega) (obl_tt (decide_eq_true ⟨rfl, rfl, rfl, Nat.one_pos, q1, q2⟩) ?_)
          refine br_mk (fun hb => br_mk (fun h => obl_tt (decide_eq_true ⟨rfl, rfl, rfl, Nat.succ_pos _, qS1, qS2⟩) (hlast R ⟨F.L ++ encR R, true, F.k + 1, c.k, c.lb⟩ hR' hok h (by unfold stepF; rw [hM, hb]; rfl))) (fun h => hnorm R ⟨F.L ++ encR R, true, F.k + 1, c.k, c.lb⟩ hR' hok h (by unfold stepF; rw [hM, hb]; rfl))) (fun hb => br_mk (fun hst => br_mk (fun h => obl_tt (decide_eq_true ⟨rfl, rfl, rfl, Nat.succ_pos _, qS1, qS2⟩) (hlast R ⟨F.L ++ encR R, !R.en, F.k + 1, c.k, c.lb⟩ hR' hok h (by unfold stepF; rw [hM, hb, hst]; rfl))) (fun h => hnorm R ⟨F.L ++ encR R, !R.en, F.k + 1, c.k, c.lb⟩ hR' hok h (by unfold stepF; rw [hM, hb, hst]; rfl))) (fun hst => br_mk (fun h => obl_tt (decide_eq_true ⟨rfl, rfl, rfl, Nat.succ_pos _, qS1, qS2⟩) (hlast R ⟨F.L ++ encR R, false, F.k + 1, c.k, c.lb⟩ hR' hok h (by unfold stepF; rw [hM, hb, hst]; rfl))) (fun h => hnorm R ⟨F.L ++ encR R, false, F.k + 1, c.k, c.lb⟩ hR' hok h (by unfold stepF; rw [hM, hb, hst]; rfl))))
        · have ho : ¬ lOk c.k c.lb = true := fun h => by rw [if_pos h] at ho; exact ho rfl
          intro R hR
          have q : labOf F c = (c.k, c.lb) := by unfold labOf memL; rw [if_pos hp, if_neg hne]
          have hM : memOf F c = (F.lk, F.lb) := by unfold memOf memK; rw [if_pos hp, if_neg hne, if_neg (fun h => ho h.2)]
          have hR' : stepR sp F c = R := by unfold stepR; rw [q]; exact hR
          have hsm := stepR_small hR' hc
          refine br_mk (fun he => br_mk (fun _ => hfail cs ds ⟨F.L, F.beg, F.k, F.lk, F.lb⟩ rfl (fun hk => by rw [hR'] at hk; rw [hk.err] at he; cases he)) (fun h2 => by rw [he] at h2; cases h2)) (fun he => ?_)
          have he : R.err = 0 := by simpa using he
          refine obl_dec (by omega) (obl_and (by omega) rfl (obl_dec (by omega) (obl_and (by omega) rfl (obl_dec hsm.1 ?_))))
          refine br_mk (fun hg => hfail (cs.set i (stepC c R)) (ds.set i ⟨R.en⟩) ⟨F.L, F.beg, F.k, F.lk, F.lb⟩ rfl (fun hk => by rw [hR'] at hk; have h0 : (!decide (errR R = 0)) = true := hg; rw [hk.enc] at h0; cases h0)) (fun hg => ?_)
          have hg : errR R = 0 := by simpa [errR] using hg
          refine br_dec (fun hs => hfail (cs.set i (stepC c R)) (ds.set i ⟨R.en⟩) ⟨F.L, F.beg, F.k, F.lk, F.lb⟩ rfl (fun hk => by rw [hR'] at hk; have h0 : sp - (F.L.length : Int) < ((encR R).length : Int) := hs; have h1 := hk.len; omega)) (fun hs => ?_)
          have hs : ¬ (sp - (F.L.length : Int) < ((encR R).length : Int)) := by exact hs
          have hok : OkR sp F R := ⟨he, hg, by omega⟩
          have t2 := encR_len hg
          refine br_dec (fun h => absurd h (by omega)) (fun _ => ?_)
          have q0 : (F.L ++ encR R).length = F.L.length + (encR R).length := List.length_append
          have q1 : (F.L ++ encR R).length ≤ 9223372036854775807 := by omega
          have q2 : (F.L ++ encR R).length * 1 ≤ 140737488355328 := by omega
          refine obl_int (by omega) (obl_tt (decide_eq_true ⟨rfl, rfl, rfl, Nat.one_pos, q1, q2⟩) ?_)
          refine br_mk (fun hb => br_mk (fun h => obl_tt (decide_eq_true ⟨rfl, rfl, rfl, Nat.succ_pos _, qS1, qS2⟩) (hlast R ⟨F.L ++ encR R, true, F.k + 1, F.lk, F.lb⟩ hR' hok h (by unfold stepF; rw [hM, hb]; rfl))) (fun h => hnorm R ⟨F.L ++ encR R, true, F.k + 1, F.lk, F.lb⟩ hR' hok h (by unfold stepF; rw [hM, hb]; rfl))) (fun hb => br_mk (fun hst => br_mk (fun h => obl_tt (decide_eq_true ⟨rfl, rfl, rfl, Nat.succ_pos _, qS1, qS2⟩) (hlast R ⟨F.L ++ encR R, !R.en, F.k + 1, F.lk, F.lb⟩ hR' hok h (by unfold stepF; rw [hM, hb, hst]; rfl))) (fun h => hnorm R ⟨F.L ++ encR R, !R.en, F.k + 1, F.lk, F.lb⟩ hR' hok h (by unfold stepF; rw [hM, hb, hst]; rfl))) (fun hst => br_mk (fun h => obl_tt (decide_eq_true ⟨rfl, rfl, rfl, Nat.succ_pos _, qS1, qS2⟩) (hlast R ⟨F.L ++ encR R, false, F.k + 1, F.lk, F.lb⟩ hR' hok h (by unfold stepF; rw [hM, hb, hst]; rfl))) (fun h => hnorm R ⟨F.L ++ encR R, false, F.k + 1, F.lk, F.lb⟩ hR' hok h (by unfold stepF; rw [hM, hb, hst]; rfl))))
        · skip
          intro R hR
          have q : labOf F c = (c.k, c.lb) := by unfold labOf memL; rw [if_pos hp, if_neg hne]
          have hM : memOf F c = (F.lk, F.lb) := by unfold memOf memK; rw [if_pos hp, if_neg hne, if_neg (fun h => hs0 h.1)]
          have hR' : stepR sp F c = R := by unfold stepR; rw [q]; exact hR
          have hsm := stepR_small hR' hc
          refine br_mk (fun he => br_mk (fun _ => hfail cs ds ⟨F.L, F.beg, F.k, F.lk, F.lb⟩ rfl (fun hk => by rw [hR'] at hk; rw [hk.err] at he; cases he)) (fun h2 => by rw [he] at h2; cases h2)) (fun he => ?_)
          have he : R.err = 0 := by simpa using he
          refine obl_dec (by omega) (obl_and (by omega) rfl (obl_dec (by omega) (obl_and (by omega) rfl (obl_dec hsm.1 ?_))))
          refine br_mk (fun hg => hfail (cs.set i (stepC c R)) (ds.set i ⟨R.en⟩) ⟨F.L, F.beg, F.k, F.lk, F.lb⟩ rfl (fun hk => by rw [hR'] at hk; have h0 : (!decide (errR R = 0)) = true := hg; rw [hk.enc] at h0; cases h0)) (fun hg => ?_)
          have hg : errR R = 0 := by simpa [errR] using hg
          refine br_dec (fun hs => hfail (cs.set i (stepC c R)) (ds.set i ⟨R.en⟩) ⟨F.L, F.beg, F.k, F.lk, F.lb⟩ rfl (fun hk => by rw [hR'] at hk; have h0 : sp - (F.L.length : Int) < ((encR R).length : Int) := hs; have h1 := hk.len; omega)) (fun hs => ?_)
          have hs : ¬ (sp - (F.L.length : Int) < ((encR R).length : Int)) := by exact hs
          have hok : OkR sp F R := ⟨he, hg, by omega⟩
          have t2 := encR_len hg
          refine br_dec (fun h => absurd h (by omega)) (fun _ => ?_)
          have q0 : (F.L ++ encR R).length = F.L.length + (encR R).length := List.length_append
          have q1 : (F.L ++ encR R).length ≤ 9223372036854775807 := by omega
          have q2 : (F.L ++ encR R).length * 1 ≤ 140737488355328 := by omega
          refine obl_int (by omega) (obl_tt (decide_eq_true ⟨rfl, rfl, rfl, Nat.one_pos, q1, q2⟩) ?_)
          refine br_mk (fun hb => br_mk (fun h => obl_tt (decide_eq_true ⟨rfl, rfl, rfl, Nat.succ_pos _, qS1, qS2⟩) (hlast R ⟨F.L ++ encR R, true, F.k + 1, F.lk, F.lb⟩ hR' hok h (by unfold stepF; rw [hM, hb]; rfl))) (fun h => hnorm R ⟨F.L ++ encR R, true, F.k + 1, F.lk, F.lb⟩ hR' hok h (by unfold stepF; rw [hM, hb]; rfl))) (fun hb => br_mk (fun hst => br_mk (fun h => obl_tt (decide_eq_true ⟨rfl, rfl, rfl, Nat.succ_pos _, qS1, qS2⟩) (hlast R ⟨F.L ++ encR R, !R.en, F.k + 1, F.lk, F.lb⟩ hR' hok h (by unfold stepF; rw [hM, hb, hst]; rfl))) (fun h => hnorm R ⟨F.L ++ encR R, !R.en, F.k + 1, F.lk, F.lb⟩ hR' hok h (by unfold stepF; rw [hM, hb, hst]; rfl))) (fun hst => br_mk (fun h => obl_tt (decide_eq_true ⟨rfl, rfl, rfl, Nat.succ_pos _, qS1, qS2⟩) (hlast R ⟨F.L ++ encR R, false, F.k + 1, F.lk, F.lb⟩ hR' hok h (by unfold stepF; rw [hM, hb, hst]; rfl))) (fun h => hnorm R ⟨F.L ++ encR R, false, F.k + 1, F.lk, F.lb⟩ hR' hok h (by unfold stepF; rw [hM, hb, hst]; rfl))))
    · have hb0 : F.lb = [] := by simpa using hb0
      have hne : ¬ (F.lb ≠ [] ∧ F.lk = c.k ∧ F.lb = c.lb) := fun h => h.1 hb0
      refine br_dec (fun hs0 => br_dec (fun ho => ?_) (fun ho => ?_)) (fun hs0 => ?_)
      · have ho : lOk c.k c.lb = true := by by_cases h : lOk c.k c.lb = true; exact h; rw [if_neg h] at ho; exact absurd ho (by decide)
        intro R hR
        have q : labOf F c = (c.k, c.lb) := by unfold labOf memL; rw [if_pos hp, if_neg hne]
        have hM : memOf F c = (c.k, c.lb) := by unfold memOf memK; rw [if_pos hp, if_neg hne, if_pos ⟨hs0, ho⟩]
        have hR' : stepR sp F c = R := by unfold stepR; rw [q]; exact hR
        have hsm := stepR_small hR' hc
        refine br_mk (fun he => br_mk (fun _ => hfail cs ds ⟨F.L, F.beg, F.k, c.k, c.lb⟩ rfl (fun hk => by rw [hR'] at hk; rw [hk.err] at he; cases he)) (fun h2 => by rw [he] at h2; cases h2)) (fun he => ?_)
        have he : R.err = 0 := by simpa using he
        refine obl_dec (by omega) (obl_and (by omega) rfl (obl_dec (by omega) (obl_and (by omega) rfl (obl_dec hsm.1 ?_))))
        refine br_mk (fun hg => hfail (cs.set i (stepC c R)) (ds.set i ⟨R.en⟩) ⟨F.L, F.beg, F.k, c.k, c.lb⟩ rfl (fun hk => by rw [hR'] at hk; have h0 : (!decide (errR R = 0)) = true := hg; rw [hk.enc] at h0; cases h0)) (fun hg => ?_)
        have hg : errR R = 0 := by simpa [errR] using hg
        refine br_dec (fun hs => hfail (cs.set i (stepC c R)) (ds.set i ⟨R.en⟩) ⟨F.L, F.beg, F.k, c.k, c.lb⟩ rfl (fun hk => by rw [hR'] at hk; have h0 : sp - (F.L.length : Int) < ((encR R).length : Int) := hs; have h1 := hk.len; omega)) (fun hs => ?_)
        have hs : ¬ (sp - (F.L.length : Int) < ((encR R).length : Int)) := by exact hs
        have hok : OkR sp F R := ⟨he, hg, by omega⟩
        have t2 := encR_len hg
        refine br_dec (fun h => absurd h (by omega)) (fun _ => ?_)
        have q0 : (F.L ++ encR R).length = F.L.length + (encR R).length := List.length_append
        have q1 : (F.L ++ encR R).length ≤ 9223372036854775807 := by omega
        have q2 : (F.L ++ encR R).length * 1 ≤ 140737488355328 := by omega
        refine obl_int (by omega) (obl_tt (decide_eq_true ⟨rfl, rfl, rfl, Nat.one_pos, q1, q2⟩) ?_)
        refine br_mk (fun hb => br_mk (fun h => obl_tt (decide_eq_true ⟨rfl, rfl, rfl, Nat.succ_pos _, qS1, qS2⟩) (hlast R ⟨F.L ++ encR R, true, F.k + 1, c.k, c.lb⟩ hR' hok h (by unfold stepF; rw [hM, hb]; rfl))) (fun h => hnorm R ⟨F.L ++ encR R, true, F.k + 1, c.k, c.lb⟩ hR' hok h (by unfold stepF; rw [hM, hb]; rfl))) (fun hb => br_mk (fun hst => br_mk (fun h => obl_tt (decide_eq_true ⟨rfl, rfl, rfl, Nat.succ_pos _, qS1, qS2⟩) (hlast R ⟨F.L ++ encR R, !R.en, F.k + 1, c.k, c.lb⟩ hR' hok h (by unfold stepF; rw [hM, hb, hst]; rfl))) (fun h => hnorm R ⟨F.L ++ encR R, !R.en, F.k + 1, c.k, c.lb⟩ hR' hok h (by unfold stepF; rw [hM, hb, hst]; rfl))) (fun hst => br_mk (fun h => obl_tt (decide_eq_true ⟨rfl, rfl, rfl, Nat.succ_pos _, qS1, qS2⟩) (hlast R ⟨F.L ++ encR R, false, F.k + 1, c.k, c.lb⟩ hR' hok h (by unfold stepF; rw [hM, hb, hst]; rfl))) (fun h => hnorm R ⟨F.L ++ encR R, false, F.k + 1, c.k, c.lb⟩ hR' hok h (by unfold stepF; rw [hM, hb, hst]; rfl))))
      · have ho : ¬ lOk c.k c.lb = true := fun h => by rw [if_pos h] at ho; exact ho rfl
        intro R hR
        have q : labOf F c = (c.k, c.lb) := by unfold labOf memL; rw [if_pos hp, if_neg hne]
        have hM : memOf F c = (F.lk, F.lb) := by unfold memOf memK; rw [if_pos hp, if_neg hne, if_neg (fun h => ho h.2)]
        have hR' : stepR sp F c = R := by unfold stepR; rw [q]; exact hR
        have hsm := stepR_small hR' hc
        refine br_mk (fun he => br_mk (fun _ => hfail cs ds ⟨F.L, F.beg, F.k, F.lk, F.lb⟩ rfl (fun hk => by rw [hR'] at hk; rw [hk.err] at he; cases he)) (fun h2 => by rw [he] at h2; cases h2)) (fun he => ?_)
        have he : R.err = 0 := by simpa using he
        refine obl_dec (by omega) (obl_and (by omega) rfl (obl_dec (by omega) (obl_and (by omega) rfl (obl_dec hsm.1 ?_))))
        refine br_mk (fun hg => hfail (cs.set i (stepC c R)) (ds.set i ⟨R.en⟩) ⟨F.L, F.beg, F.k, F.lk, F.lb⟩ rfl (fun hk => by rw [hR'] at hk; have h0 : (!decide (errR R = 0)) = true := hg; rw [hk.enc] at h0; cases h0)) (fun hg => ?_)
        have hg : errR R = 0 := by simpa [errR] using hg
        refine br_dec (fun hs => hfail (cs.set i (stepC c R)) (ds.set i ⟨R.en⟩) ⟨F.L, F.beg, F.k, F.lk, F.lb⟩ rfl (fun hk => by rw [hR'] at hk; have h0 : sp - (F.L.length : Int) < ((encR R).length : Int) := hs; have h1 := hk.len; omega)) (fun hs => ?_)
        have hs : ¬ (sp - (F.L.length : Int) < ((encR R).length : Int)) := by exact hs
        have hok : OkR sp F R := ⟨he, hg, by omega⟩
        have t2 := encR_len hg
        refine br_dec (fun h => absurd h (by omega)) (fun _ => ?_)
        have q0 : (F.L ++ encR R).length = F.L.length + (encR R).length := List.length_append
        have q1 : (F.L ++ encR R).length ≤ 9223372036854775807 := by omega
        have q2 : (F.L ++ encR R).length * 1 ≤ 140737488355328 := by omega
        refine obl_int (by omega) (obl_tt (decide_eq_true ⟨rfl, rfl, rfl, Nat.one_pos, q1, q2⟩) ?_)
        refine br_mk (fun hb => br_mk (fun h => obl_tt (decide_eq_true ⟨rfl, rfl, rfl, Nat.succ_pos _, qS1, qS2⟩) (hlast R ⟨F.L ++ encR R, true, F.k + 1, F.lk, F.lb⟩ hR' hok h (by unfold stepF; rw [hM, hb]; rfl))) (fun h => hnorm R ⟨F.L ++ encR R, true, F.k + 1, F.lk, F.lb⟩ hR' hok h (by unfold stepF; rw [hM, hb]; rfl))) (fun hb => br_mk (fun hst => br_mk (fun h => obl_tt (decide_eq_true ⟨rfl, rfl, rfl, Nat.succ_pos _, qS1, qS2⟩) (hlast R ⟨F.L ++ encR R, !R.en, F.k + 1, F.lk, F.lb⟩ hR' hok h (by unfold stepF; rw [hM, hb, hst]; rfl))) (fun h => hnorm R ⟨F.L ++ encR R, !R.en, F.k + 1, F.lk, F.lb⟩ hR' hok h (by unfold stepF; rw [hM, hb, hst]; rfl))) (fun hst => br_mk (fun h => obl_tt (decide_eq_true ⟨rfl, rfl, rfl, Nat.succ_pos _, qS1, qS2⟩) (hlast R ⟨F.L ++ encR R, false, F.k + 1, F.lk, F.lb⟩ hR' hok h (by unfold stepF; rw [hM, hb, hst]; rfl))) (fun h => hnorm R ⟨F.L ++ encR R, false, F.k + 1, F.lk, F.lb⟩ hR' hok h (by unfold stepF; rw [hM, hb, hst]; rfl))))
      · skip
        intro R hR
        have q : labOf F c = (c.k, c.lb) := by unfold labOf memL; rw [if_pos hp, if_neg hne]
        have hM : memOf F c = (F.lk, F.lb) := by unfold memOf memK; rw [if_pos hp, if_neg hne, if_neg (fun h => hs0 h.1)]
        have hR' : stepR sp F c = R := by unfold stepR; rw [q]; exact hR
        have hsm := stepR_small hR' hc
        refine br_mk (fun he => br_mk (fun _ => hfail cs ds ⟨F.L, F.beg, F.k, F.lk, F.lb⟩ rfl (fun hk => by rw [hR'] at hk; rw [hk.err] at he; cases he)) (fun h2 => by rw [he] at h2; cases h2)) (fun he => ?_)
        have he : R.err = 0 := by simpa using he
        refine obl_dec (by omega) (obl_and (by omega) rfl (obl_dec (by omega) (obl_and (by omega) rfl (obl_dec hsm.1 ?_))))
        refine br_mk (fun hg => hfail (cs.set i (stepC c R)) (ds.set i ⟨R.en⟩) ⟨F.L, F.beg, F.k, F.lk, F.lb⟩ rfl (fun hk => by rw [hR'] at hk; have h0 : (!decide (errR R = 0)) = true := hg; rw [hk.enc] at h0; cases h0)) (fun hg => ?_)
        have hg : errR R = 0 := by simpa [errR] using hg
        refine br_dec (fun hs => hfail (cs.set i (stepC c R)) (ds.set i ⟨R.en⟩) ⟨F.L, F.beg, F.k, F.lk, F.lb⟩ rfl (fun hk => by rw [hR'] at hk; have h0 : sp - (F.L.length : Int) < ((encR R).length : Int) := hs; have h1 := hk.len; omega)) (fun hs => ?_)
        have hs : ¬ (sp - (F.L.length : Int) < ((encR R).length : Int)) := by exact hs
        have hok : OkR sp F R := ⟨he, hg, by omega⟩
        have t2 := encR_len hg
        refine br_dec (fun h => absurd h (by omega)) (fun _ => ?_)
        have q0 : (F.L ++ encR R).length = F.L.length + (encR R).length := List.length_append
        have q1 : (F.L ++ encR R).length ≤ 9223372036854775807 := by omega
        have q2 : (F.L ++ encR R).length * 1 ≤ 140737488355328 := by omega
        refine obl_int (by omega) (obl_tt (decide_eq_true ⟨rfl, rfl, rfl, Nat.one_pos, q1, q2⟩) ?_)
        refine br_mk (fun hb => br_mk (fun h => obl_tt (decide_eq_true ⟨rfl, rfl, rfl, Nat.succ_pos _, qS1, qS2⟩) (hlast R ⟨F.L ++ encR R, true, F.k + 1, F.lk, F.lb⟩ hR' hok h (by unfold stepF; rw [hM, hb]; rfl))) (fun h => hnorm R ⟨F.L ++ encR R, true, F.k + 1, F.lk, F.lb⟩ hR' hok h (by unfold stepF; rw [hM, hb]; rfl))) (fun hb => br_mk (fun hst => br_mk (fun h => obl_tt (decide_eq_true ⟨rfl, rfl, rfl, Nat.succ_pos _, qS1, qS2⟩) (hlast R ⟨F.L ++ encR R, !R.en, F.k + 1, F.lk, F.lb⟩ hR' hok h (by unfold stepF; rw [hM, hb, hst]; rfl))) (fun h => hnorm R ⟨F.L ++ encR R, !R.en, F.k + 1, F.lk, F.lb⟩ hR' hok h (by unfold stepF; rw [hM, hb, hst]; rfl))) (fun hst => br_mk (fun h => obl_tt (decide_eq_true ⟨rfl, rfl, rfl, Nat.succ_pos _, qS1, qS2⟩) (hlast R ⟨F.L ++ encR R, false, F.k + 1, F.lk, F.lb⟩ hR' hok h (by unfold stepF; rw [hM, hb, hst]; rfl))) (fun h => hnorm R ⟨F.L ++ encR R, false, F.k + 1, F.lk, F.lb⟩ hR' hok h (by unfold stepF; rw [hM, hb, hst]; rfl))))
  · skip
    intro R hR
    have q : labOf F c = (c.k, c.lb) := by unfold labOf; rw [if_neg hp]
    have hM : memOf F c = (F.lk, F.lb) := by unfold memOf; rw [if_neg hp]
    have hR' : stepR sp F c = R := by unfold stepR; rw [q]; exact hR
    have hsm := stepR_small hR' hc
    refine br_mk (fun he => br_mk (fun _ => hfail cs ds ⟨F.L, F.beg, F.k, F.lk, F.lb⟩ rfl (fun hk => by rw [hR'] at hk; rw [hk.err] at he; cases he)) (fun h2 => by rw [he] at h2; cases h2)) (fun he => ?_)
    have he : R.err = 0 := by simpa using he
    refine obl_dec (by omega) (obl_and (by omega) rfl (obl_dec (by omega) (obl_and (by omega) rfl (obl_dec hsm.1 ?_))))
    refine br_mk (fun hg => hfail (cs.set i (stepC c R)) (ds.set i ⟨R.en⟩) ⟨F.L, F.beg, F.k, F.lk, F.lb⟩ rfl (fun hk => by rw [hR'] at hk; have h0 : (!decide (errR R = 0)) = true := hg; rw [hk.enc] at h0; cases h0)) (fun hg => ?_)
    have hg : errR R = 0 := by simpa [errR] using hg
    refine br_dec (fun hs => hfail (cs.set i (stepC c R)) (ds.set i ⟨R.en⟩) ⟨F.L, F.beg, F.k, F.lk, F.lb⟩ rfl (fun hk => by rw [hR'] at hk; have h0 : sp - (F.L.length : Int) < ((encR R).length : Int) := hs; have h1 := hk.len; omega)) (fun hs => ?_)
    have hs : ¬ (sp - (F.L.length : Int) < ((encR R).length : Int)) := by exact hs
    have hok : OkR sp F R := ⟨he, hg, by omega⟩
    have t2 := encR_len hg
    refine br_dec (fun h => absurd h (by omega)) (fun _ => ?_)
    have q0 : (F.L ++ encR R).length = F.L.length + (encR R).length := List.length_append
    have q1 : (F.L ++ encR R).length ≤ 9223372036854775807 := by omega
    have q2 : (F.L ++ encR R).length * 1 ≤ 140737488355328 := by omega
    refine obl_int (by omega) (obl_tt (decide_eq_true ⟨rfl, rfl, rfl, Nat.one_pos, q1, q2⟩) ?_)
    refine br_mk (fun hb => br_mk (fun h => obl_tt (decide_eq_true ⟨rfl, rfl, rfl, Nat.succ_pos _, qS1, qS2⟩) (hlast R ⟨F.L ++ encR R, true, F.k + 1, F.lk, F.lb⟩ hR' hok h (by unfold stepF; rw [hM, hb]; rfl))) (fun h => hnorm R ⟨F.L ++ encR R, true, F.k + 1, F.lk, F.lb⟩ hR' hok h (by unfold stepF; rw [hM, hb]; rfl))) (fun hb => br_mk (fun hst => br_mk (fun h => obl_tt (decide_eq_true ⟨rfl, rfl, rfl, Nat.succ_pos _, qS1, qS2⟩) (hlast R ⟨F.L ++ encR R, !R.en, F.k + 1, F.lk, F.lb⟩ hR' hok h (by unfold stepF; rw [hM, hb, hst]; rfl))) (fun h => hnorm R ⟨F.L ++ encR R, !R.en, F.k + 1, F.lk, F.lb⟩ hR' hok h (by unfold stepF; rw [hM, hb, hst]; rfl))) (fun hst => br_mk (fun h => obl_tt (decide_eq_true ⟨rfl, rfl, rfl, Nat.succ_pos _, qS1, qS2⟩) (hlast R ⟨F.L ++ encR R, false, F.k + 1, F.lk, F.lb⟩ hR' hok h (by unfold stepF; rw [hM, hb, hst]; rfl))) (fun h => hnorm R ⟨F.L ++ encR R, false, F.k + 1, F.lk, F.lb⟩ hR' hok h (by unfold stepF; rw [hM, hb, hst]; rfl))))
end Go.Proofs.Ytjacnjecggedhaa
namespace Go.Proofs.Ytjacnjecggedhaa
set_option linter.unusedVariables false
set_option linter.unusedSimpArgs false
open Go.RowKit Ev
set_option maxRecDepth 100000 in
theorem w_fe0 (n : Nat) (cs : List CutR) (ds : List BoolR) (first sp : Int) (Q : AExit → Env → AHeap → Prop) : (wpC (TX2.ctx Try.prog) 400 9 3 (codeAt [false] fillB) (env0 (fA first sp) 0) ⟨3, srcN n cs ds⟩ (canQ 3 ts0 Q)
) = (Q AExit.normal [(3, AVal.int IntKind.i64 sp), (4, AVal.ptr 3 0 0 0), (5, AVal.ptr 4 0 0 0), (6, AVal.ptr 5 0 0 0)] (AHeap.mk 6 [(0, ABlk.cells 29 [AVal.sl 1 0 6 0 n none, AVal.sl 2 0 1 0 n none]),
 (1, ABlk.row 48 cutRow cs RowMd.plain), (2, ABlk.row 4 boolRow ds RowMd.plain), (3, ABlk.cells 65 [AVal.iface 24 (AVal.ptr 0 0 0 0)]), (4, ABlk.cells 33 [AVal.int IntKind.u64 first]), (5, ABlk.cells 3
 [AVal.int IntKind.i64 (7 : Int)])])) := by kernel_rfl
set_option maxRecDepth 100000 in
theorem w_fe1 (n : Nat) (cs : List CutR) (ds : List BoolR) (first sp : Int) (K : Out → AHeap → Prop) (Q : AExit → Env → AHeap → Prop) : (wpC (TX2.ctx Try.prog) 400 9 3 (seqL fillI) (feE sp) ⟨6, fH0 n cs ds first⟩ (canQ 3 tsA (qRet (endA (TX2.ctx Try.prog).P Try.f9 K) Q))
) = (branch (decide (sp < (1 : Int))) (K (Out.ret (AVal.tup [AVal.str [], AVal.nils])) (AHeap.mk 3 [(0, ABlk.cells 29 [AVal.sl 1 0 6 0 n none, AVal.sl 2 0 1 0 n none]), (1, ABlk.row 48 cutRow cs
 RowMd.plain), (2, ABlk.row 4 boolRow ds RowMd.plain)])) (Q AExit.normal [(3, AVal.int IntKind.i64 sp), (4, AVal.ptr 3 0 0 0), (5, AVal.ptr 4 0 0 0), (6, AVal.ptr 5 0 0 0)] (AHeap.mk 6 [(0, ABlk.cells
 29 [AVal.sl 1 0 6 0 n none, AVal.sl 2 0 1 0 n none]), (1, ABlk.row 48 cutRow cs RowMd.plain), (2, ABlk.row 4 boolRow ds RowMd.plain), (3, ABlk.cells 65 [AVal.iface 24 (AVal.ptr 0 0 0 0)]), (4,
 ABlk.cells 33 [AVal.int IntKind.u64 first]), (5, ABlk.cells 3 [AVal.int IntKind.i64 (7 : Int)])]))) := by kernel_rfl
set_option maxRecDepth 100000 in
theorem w_fe1b (n : Nat) (cs : List CutR) (ds : List BoolR) (first sp : Int) (It : Env → AHeap → Prop) (Q : AExit → Env → AHeap → Prop) : (wpN (TX2.ctx Try.prog) 4 400 9 3 (seqR fillI) (feE sp) ⟨6, fH0 n cs ds first⟩ (fun E H => canonK 3 [4, 5, 6, 10, 11, 12] E H It) Q
) = (It [(4, AVal.ptr 3 0 0 0), (5, AVal.ptr 4 0 0 0), (6, AVal.ptr 5 0 0 0), (10, AVal.ptr 6 0 0 0), (11, AVal.nils), (12, AVal.func 16 [] [AVal.ptr 3 0 0 0, AVal.ptr 4 0 0 0, AVal.ptr 5 0 0 0])]
 (AHeap.mk 7 [(0, ABlk.cells 29 [AVal.sl 1 0 6 0 n none, AVal.sl 2 0 1 0 n none]), (1, ABlk.row 48 cutRow cs RowMd.plain), (2, ABlk.row 4 boolRow ds RowMd.plain), (3, ABlk.cells 65 [AVal.iface 24
 (AVal.ptr 0 0 0 0)]), (4, ABlk.cells 33 [AVal.int IntKind.u64 first]), (5, ABlk.cells 3 [AVal.int IntKind.i64 (7 : Int)]), (6, ABlk.cells 70 [AVal.nils, AVal.int IntKind.i64 sp, AVal.bool false,
 AVal.int IntKind.i64 (0 : Int), AVal.int IntKind.i64 (0 : Int), AVal.str []])])) := by kernel_rfl
set_option maxRecDepth 100000 in
theorem w_fe2 (n : Nat) (sp : Int) (cs : List CutR) (ds : List BoolR) (first : Int) (Q : AExit → Env → AHeap → Prop) : (wpC (TX2.ctx Try.prog) 400 9 3 (seqL (seqL (tailN 5 fillI))) (g00 n sp cs ds first F0 []).1 (g00 n sp cs ds first F0 []).2 (canQ 3 ts14 Q)
) = (∃ cs_1 ds_1, ((ABlk.row 48 cutRow cs RowMd.plain = ABlk.row 48 cutRow cs_1 RowMd.plain ∧ ABlk.row 4 boolRow ds RowMd.plain = ABlk.row 4 boolRow ds_1 RowMd.plain) ∧ (n = cs_1.length ∧ n = ds_1.length)
 ∧ cs_1.length = ds_1.length ∧ ds_1.length.le 30) ∧ (∀ (i : Nat), moreM ds_1 first = some i → Q AExit.normal [(4, AVal.ptr 3 0 0 0), (5, AVal.ptr 4 0 0 0), (6, AVal.ptr 5 0 0 0), (10, AVal.ptr 6 0 0
 0), (11, AVal.nils), (12, AVal.func 16 [] [AVal.ptr 3 0 0 0, AVal.ptr 4 0 0 0, AVal.ptr 5 0 0 0]), (13, AVal.int IntKind.u64 ((↑i : Int) + (1 : Int))), (14, AVal.bool true)] (AHeap.mk 7 [(0,
 ABlk.cells 29 [AVal.sl 1 0 6 0 n none, AVal.sl 2 0 1 0 n none]), (1, ABlk.row 48 cutRow cs RowMd.plain), (2, ABlk.row 4 boolRow ds RowMd.plain), (3, ABlk.cells 65 [AVal.iface 24 (AVal.ptr 0 0 0 0)]),
 (4, ABlk.cells 33 [AVal.int IntKind.u64 (0 : Int)]), (5, ABlk.cells 3 [AVal.int IntKind.i64 (7 : Int)]), (6, ABlk.cells 70 [AVal.nils, AVal.int IntKind.i64 sp, AVal.bool false, AVal.int IntKind.i64 (0
 : Int), AVal.int IntKind.i64 (0 : Int), AVal.str []])])) ∧ (moreM ds_1 first = none → Q AExit.normal [(4, AVal.ptr 3 0 0 0), (5, AVal.ptr 4 0 0 0), (6, AVal.ptr 5 0 0 0), (10, AVal.ptr 6 0 0 0), (11,
 AVal.nils), (12, AVal.func 16 [] [AVal.ptr 3 0 0 0, AVal.ptr 4 0 0 0, AVal.ptr 5 0 0 0]), (13, AVal.int IntKind.u64 (0 : Int)), (14, AVal.bool false)] (AHeap.mk 7 [(0, ABlk.cells 29 [AVal.sl 1 0 6 0 n
 none, AVal.sl 2 0 1 0 n none]), (1, ABlk.row 48 cutRow cs RowMd.plain), (2, ABlk.row 4 boolRow ds RowMd.plain), (3, ABlk.cells 65 [AVal.iface 24 (AVal.ptr 0 0 0 0)]), (4, ABlk.cells 33 [AVal.int
 IntKind.u64 (0 : Int)]), (5, ABlk.cells 3 [AVal.int IntKind.i64 (7 : Int)]), (6, ABlk.cells 70 [AVal.nils, AVal.int IntKind.i64 sp, AVal.bool false, AVal.int IntKind.i64 (0 : Int), AVal.int
 IntKind.i64 (0 : Int), AVal.str []])]))) := by kernel_rfl
set_option maxRecDepth 100000 in
theorem w_f7_00 (n : Nat) (sp : Int) (cs : List CutR) (ds : List BoolR) (fv : Int) (F : FSt) (no : Int) (sm : Bool) (Q : AExit → Env → AHeap → Prop) : (wpC (TX2.ctx Try.prog) 400 9 3 (seqL fillO) (g00 n sp cs ds fv F (f14 no sm)).1 (g00 n sp cs ds fv F (f14 no sm)).2 (canQ 3 ts13 Q)
) = (branch sm (Q AExit.normal [(4, AVal.ptr 3 0 0 0), (5, AVal.ptr 4 0 0 0), (6, AVal.ptr 5 0 0 0), (10, AVal.ptr 6 0 0 0), (11, AVal.nils), (12, AVal.func 16 [] [AVal.ptr 3 0 0 0, AVal.ptr 4 0 0 0,
 AVal.ptr 5 0 0 0]), (13, AVal.int IntKind.u64 no)] (AHeap.mk 7 [(0, ABlk.cells 29 [AVal.sl 1 0 6 0 n none, AVal.sl 2 0 1 0 n none]), (1, ABlk.row 48 cutRow cs RowMd.plain), (2, ABlk.row 4 boolRow ds
 RowMd.plain), (3, ABlk.cells 65 [AVal.iface 24 (AVal.ptr 0 0 0 0)]), (4, ABlk.cells 33 [AVal.int IntKind.u64 fv]), (5, ABlk.cells 3 [AVal.int IntKind.i64 (7 : Int)]), (6, ABlk.cells 70 [AVal.nils,
 AVal.int IntKind.i64 sp, AVal.bool F.beg, AVal.int IntKind.i64 (↑F.k : Int), AVal.int IntKind.i64 F.lk, AVal.str F.lb])])) (Q (AExit.exit 0) [(4, AVal.ptr 3 0 0 0), (5, AVal.ptr 4 0 0 0), (6, AVal.ptr
 5 0 0 0), (10, AVal.ptr 6 0 0 0), (11, AVal.nils), (12, AVal.func 16 [] [AVal.ptr 3 0 0 0, AVal.ptr 4 0 0 0, AVal.ptr 5 0 0 0]), (13, AVal.int IntKind.u64 no)] (AHeap.mk 7 [(0, ABlk.cells 29 [AVal.sl
 1 0 6 0 n none, AVal.sl 2 0 1 0 n none]), (1, ABlk.row 48 cutRow cs RowMd.plain), (2, ABlk.row 4 boolRow ds RowMd.plain), (3, ABlk.cells 65 [AVal.iface 24 (AVal.ptr 0 0 0 0)]), (4, ABlk.cells 33
 [AVal.int IntKind.u64 fv]), (5, ABlk.cells 3 [AVal.int IntKind.i64 (7 : Int)]), (6, ABlk.cells 70 [AVal.nils, AVal.int IntKind.i64 sp, AVal.bool F.beg, AVal.int IntKind.i64 (↑F.k : Int), AVal.int
 IntKind.i64 F.lk, AVal.str F.lb])]))) := by kernel_rfl
set_option maxRecDepth 100000 in
theorem w_f7_11 (n : Nat) (sp : Int) (cs : List CutR) (ds : List BoolR) (fv : Int) (F : FSt) (S : List Int) (no : Int) (sm : Bool) (Q : AExit → Env → AHeap → Prop) : (wpC (TX2.ctx Try.prog) 400 9 3 (seqL fillO) (g11 n sp cs ds fv F S (f14 no sm)).1 (g11 n sp cs ds fv F S (f14 no sm)).2 (canQ 3 ts13 Q)
) = (branch sm (Q AExit.normal [(4, AVal.ptr 3 0 0 0), (5, AVal.ptr 4 0 0 0), (6, AVal.ptr 5 0 0 0), (10, AVal.ptr 6 0 0 0), (11, AVal.sl 7 0 1 0 S.length none), (12, AVal.func 16 [] [AVal.ptr 3 0 0 0,
 AVal.ptr 4 0 0 0, AVal.ptr 5 0 0 0]), (13, AVal.int IntKind.u64 no)] (AHeap.mk 9 [(0, ABlk.cells 29 [AVal.sl 1 0 6 0 n none, AVal.sl 2 0 1 0 n none]), (1, ABlk.row 48 cutRow cs RowMd.plain), (2,
 ABlk.row 4 boolRow ds RowMd.plain), (3, ABlk.cells 65 [AVal.iface 24 (AVal.ptr 0 0 0 0)]), (4, ABlk.cells 33 [AVal.int IntKind.u64 fv]), (5, ABlk.cells 3 [AVal.int IntKind.i64 (7 : Int)]), (6,
 ABlk.cells 70 [AVal.sl 8 0 1 0 F.L.length none, AVal.int IntKind.i64 sp, AVal.bool F.beg, AVal.int IntKind.i64 (↑F.k : Int), AVal.int IntKind.i64 F.lk, AVal.str F.lb]), (7, ABlk.row 33 (intRow
 IntKind.u64) S RowMd.plain), (8, ABlk.row 5 byteRow F.L RowMd.plain)])) (Q (AExit.exit 0) [(4, AVal.ptr 3 0 0 0), (5, AVal.ptr 4 0 0 0), (6, AVal.ptr 5 0 0 0), (10, AVal.ptr 6 0 0 0), (11, AVal.sl 7 0
 1 0 S.length none), (12, AVal.func 16 [] [AVal.ptr 3 0 0 0, AVal.ptr 4 0 0 0, AVal.ptr 5 0 0 0]), (13, AVal.int IntKind.u64 no)] (AHeap.mk 9 [(0, ABlk.cells 29 [AVal.sl 1 0 6 0 n none, AVal.sl 2 0 1 0
 n none]), (1, ABlk.row 48 cutRow cs RowMd.plain), (2, ABlk.row 4 boolRow ds RowMd.plain), (3, ABlk.cells 65 [AVal.iface 24 (AVal.ptr 0 0 0 0)]), (4, ABlk.cells 33 [AVal.int IntKind.u64 fv]), (5,
 ABlk.cells 3 [AVal.int IntKind.i64 (7 : Int)]), (6, ABlk.cells 70 [AVal.sl 8 0 1 0 F.L.length none, AVal.int IntKind.i64 sp, AVal.bool F.beg, AVal.int IntKind.i64 (↑F.k : Int), AVal.int IntKind.i64
 F.lk, AVal.str F.lb]), (7, ABlk.row 33 (intRow IntKind.u64) S RowMd.plain), (8, ABlk.row 5 byteRow F.L RowMd.plain)]))) := by kernel_rfl
set_option maxRecDepth 100000 in
theorem w_f8_11 (n : Nat) (sp : Int) (cs : List CutR) (ds : List BoolR) (fv : Int) (F : FSt) (S : List Int) (i : Nat) (Q : AExit → Env → AHeap → Prop) : (wpC (TX2.ctx Try.prog) 400 9 3 (seqR (seqR fillO)) (g11 n sp cs ds fv F S (f13 i)).1 (g11 n sp cs ds fv F S (f13 i)).2 (canQ 3 ts14 Q)
) = (∃ cs_1 ds_1, ((ABlk.row 48 cutRow cs RowMd.plain = ABlk.row 48 cutRow cs_1 RowMd.plain ∧ ABlk.row 4 boolRow ds RowMd.plain = ABlk.row 4 boolRow ds_1 RowMd.plain) ∧ (n = cs_1.length ∧ n = ds_1.length)
 ∧ cs_1.length = ds_1.length ∧ ds_1.length.le 30) ∧ (∀ (i : Nat), moreM ds_1 fv = some i → Q AExit.normal [(4, AVal.ptr 3 0 0 0), (5, AVal.ptr 4 0 0 0), (6, AVal.ptr 5 0 0 0), (10, AVal.ptr 6 0 0 0),
 (11, AVal.sl 7 0 1 0 S.length none), (12, AVal.func 16 [] [AVal.ptr 3 0 0 0, AVal.ptr 4 0 0 0, AVal.ptr 5 0 0 0]), (13, AVal.int IntKind.u64 ((↑i : Int) + (1 : Int))), (14, AVal.bool true)] (AHeap.mk
 9 [(0, ABlk.cells 29 [AVal.sl 1 0 6 0 n none, AVal.sl 2 0 1 0 n none]), (1, ABlk.row 48 cutRow cs RowMd.plain), (2, ABlk.row 4 boolRow ds RowMd.plain), (3, ABlk.cells 65 [AVal.iface 24 (AVal.ptr 0 0 0
 0)]), (4, ABlk.cells 33 [AVal.int IntKind.u64 (0 : Int)]), (5, ABlk.cells 3 [AVal.int IntKind.i64 (7 : Int)]), (6, ABlk.cells 70 [AVal.sl 8 0 1 0 F.L.length none, AVal.int IntKind.i64 sp, AVal.bool
 F.beg, AVal.int IntKind.i64 (↑F.k : Int), AVal.int IntKind.i64 F.lk, AVal.str F.lb]), (7, ABlk.row 33 (intRow IntKind.u64) S RowMd.plain), (8, ABlk.row 5 byteRow F.L RowMd.plain)])) ∧ (moreM ds_1 fv =
 none → Q AExit.normal [(4, AVal.ptr 3 0 0 0), (5, AVal.ptr 4 0 0 0), (6, AVal.ptr 5 0 0 0), (10, AVal.ptr 6 0 0 0), (11, AVal.sl 7 0 1 0 S.length none), (12, AVal.func 16 [] [AVal.ptr 3 0 0 0,
 AVal.ptr 4 0 0 0, AVal.ptr 5 0 0 0]), (13, AVal.int IntKind.u64 (0 : Int)), (14, AVal.bool false)] (AHeap.mk 9 [(0, ABlk.cells 29 [AVal.sl 1 0 6 0 n none, AVal.sl 2 0 1 0 n none]), (1, ABlk.row 48
 cutRow cs RowMd.plain), (2, ABlk.row 4 boolRow ds RowMd.plain), (3, ABlk.cells 65 [AVal.iface 24 (AVal.ptr 0 0 0 0)]), (4, ABlk.cells 33 [AVal.int IntKind.u64 (0 : Int)]), (5, ABlk.cells 3 [AVal.int
 IntKind.i64 (7 : Int)]), (6, ABlk.cells 70 [AVal.sl 8 0 1 0 F.L.length none, AVal.int IntKind.i64 sp, AVal.bool F.beg, AVal.int IntKind.i64 (↑F.k : Int), AVal.int IntKind.i64 F.lk, AVal.str F.lb]),
 (7, ABlk.row 33 (intRow IntKind.u64) S RowMd.plain), (8, ABlk.row 5 byteRow F.L RowMd.plain)]))) := by kernel_rfl
set_option maxRecDepth 100000 in
theorem w_f9_00 (n : Nat) (sp : Int) (cs : List CutR) (ds : List BoolR) (fv : Int) (F : FSt) (no : Int) (K : Out → AHeap → Prop) : (wpC (TX2.ctx Try.prog) 400 9 3 (seqR (tailN 5 fillI)) (g00 n sp cs ds fv F [(13, .int .u64 no)]).1 (g00 n sp cs ds fv F [(13, .int .u64 no)]).2 (canQ 3 ts89 (endA (TX2.ctx Try.prog).P Try.f9 K))
) = (K (Out.ret (AVal.tup [AVal.str [], AVal.nils])) (AHeap.mk 3 [(0, ABlk.cells 29 [AVal.sl 1 0 6 0 n none, AVal.sl 2 0 1 0 n none]), (1, ABlk.row 48 cutRow cs RowMd.plain), (2, ABlk.row 4 boolRow ds
 RowMd.plain)])) := by kernel_rfl
set_option maxRecDepth 100000 in
theorem w_f9_10 (n : Nat) (sp : Int) (cs : List CutR) (ds : List BoolR) (fv : Int) (F : FSt) (no : Int) (K : Out → AHeap → Prop) : (wpC (TX2.ctx Try.prog) 400 9 3 (seqR (tailN 5 fillI)) (g10 n sp cs ds fv F [(13, .int .u64 no)]).1 (g10 n sp cs ds fv F [(13, .int .u64 no)]).2 (canQ 3 ts89 (endA (TX2.ctx Try.prog).P Try.f9 K))
) = (obl (decide (0 + F.L.length ≤ F.L.length)) (K (Out.ret (AVal.tup [AVal.str (List.take F.L.length (List.drop 0 F.L)), AVal.nils])) (AHeap.mk 3 [(0, ABlk.cells 29 [AVal.sl 1 0 6 0 n none, AVal.sl 2 0 1
 0 n none]), (1, ABlk.row 48 cutRow cs RowMd.plain), (2, ABlk.row 4 boolRow ds RowMd.plain)]))) := by kernel_rfl
set_option maxRecDepth 100000 in
theorem w_f9_11 (n : Nat) (sp : Int) (cs : List CutR) (ds : List BoolR) (fv : Int) (F : FSt) (S : List Int) (no : Int) (K : Out → AHeap → Prop) : (wpC (TX2.ctx Try.prog) 400 9 3 (seqR (tailN 5 fillI)) (g11 n sp cs ds fv F S [(13, .int .u64 no)]).1 (g11 n sp cs ds fv F S [(13, .int .u64 no)]).2 (canQ 3 ts89 (endA (TX2.ctx Try.prog).P Try.f9 K))
) = (obl (decide (0 + F.L.length ≤ F.L.length)) (K (Out.ret (AVal.tup [AVal.str (List.take F.L.length (List.drop 0 F.L)), AVal.sl 3 0 1 0 S.length none])) (AHeap.mk 4 [(0, ABlk.cells 29 [AVal.sl 1 0 6 0 n
 none, AVal.sl 2 0 1 0 n none]), (1, ABlk.row 48 cutRow cs RowMd.plain), (2, ABlk.row 4 boolRow ds RowMd.plain), (3, ABlk.row 33 (intRow IntKind.u64) S RowMd.plain)]))) := by kernel_rfl
end Go.Proofs.Ytjacnjecggedhaa
namespace Go.Proofs.Ytjacnjecggedhaa
set_option linter.unusedVariables false
set_option linter.unusedSimpArgs false
open Go.RowKit Ev
inductive PackRun (sp : Int) : FSt → CutR → List NextR → FSt → CutR → Bool → Prop
  | fail {F : FSt} {c : CutR} {F' : FSt} : ¬ OkR sp F (stepR sp F c) → F'.L = F.L → PackRun sp F c [] F' c false
  | last {F : FSt} {c : CutR} : OkR sp F (stepR sp F c) → (stepR sp F c).en = true → PackRun sp F c [stepR sp F c] (stepF F c (stepR sp F c)) (stepC c (stepR sp F c)) true
  | more {F : FSt} {c : CutR} {l : List NextR} {F' : FSt} {c' : CutR} {b : Bool} : OkR sp F (stepR sp F c) → (stepR sp F c).en = false → PackRun sp (stepF F c (stepR sp F c)) (stepC c (stepR sp F c)) l F' c' b → PackRun sp F c (stepR sp F c :: l) F' c' b
inductive FillRun (sp : Int) : FSt → List CutR → List BoolR → Int → List Int → List NextR → List UInt8 → List Int → Prop
  | done {F : FSt} {cs : List CutR} {ds : List BoolR} {fv : Int} {S : List Int} : moreM ds fv = none → FillRun sp F cs ds fv S [] F.L S
  | stop {F : FSt} {cs : List CutR} {ds : List BoolR} {fv : Int} {S : List Int} {i : Nat} {l : List NextR} {F' : FSt} {c' : CutR} : moreM ds fv = some i → PackRun sp F (cs.getD i noCut) l F' c' false → FillRun sp F cs ds fv S l F'.L S
  | pack {F : FSt} {cs : List CutR} {ds : List BoolR} {fv : Int} {S : List Int} {i : Nat} {l l2 : List NextR} {F' : FSt} {c' : CutR} {L : List UInt8} {S' : List Int} : moreM ds fv = some i → PackRun sp F (cs.getD i noCut) l F' c' true → FillRun sp F' (cs.set i c') (ds.set i ⟨true⟩) 0 (S ++ [(i : Int) + 1]) l2 L S' → FillRun sp F cs ds fv S (l ++ l2) L S'
def cntF (ds : List BoolR) : Nat := ds.countP fun d => !d.b
theorem moreR_ok (ds : List BoolR) (no : Int) : ∀ m i j, moreR ds no m i = some j → (ds.getD j ⟨false⟩).b = false ∧ i ≤ j ∧ j < i + m
  | 0, i, j, h => by cases h
  | m + 1, i, j, h => by
    unfold moreR at h
    split at h
    · rename_i hc
      cases h
      exact ⟨hc.1, Nat.le_refl _, by omega⟩
    · obtain ⟨h1, h2, h3⟩ := moreR_ok ds no m (i + 1) j h
      exact ⟨h1, by omega, by omega⟩
theorem moreM_ok {ds : List BoolR} {no : Int} {j : Nat} (h : moreM ds no = some j) : (ds.getD j ⟨false⟩).b = false ∧ j < ds.length := by
  obtain ⟨h1, h2, h3⟩ := moreR_ok ds no _ _ _ h
  exact ⟨h1, by omega⟩
theorem cntF_set : ∀ (ds : List BoolR) (i : Nat), i < ds.length → (ds.getD i ⟨false⟩).b = false → cntF (ds.set i ⟨true⟩) + 1 = cntF ds
  | [], i, h, _ => by simp at h
  | d :: ds, 0, _, h => by
    have h : d.b = false := h
    unfold cntF
    simp [h]
  | d :: ds, i + 1, h, hb => by
    have := cntF_set ds i (by simpa using h) (by simpa using hb)
    unfold cntF at this ⊢
    rw [List.set_cons_succ, List.countP_cons, List.countP_cons]
    omega
theorem set_same (ds : List BoolR) (i : Nat) (h : (ds.getD i ⟨false⟩).b = false) : ds.set i ⟨false⟩ = ds := by
  apply List.ext_getElem?
  intro j
  rw [List.getElem?_set]
  by_cases hj : i = j
  · subst hj
    rw [if_pos rfl]
    by_cases hi : i < ds.length
    · rw [if_pos hi, List.getElem?_eq_getElem hi]
      rw [List.getD_eq_getElem?_getD, List.getElem?_eq_getElem hi] at h
      cases hd : ds[i] with
      | mk b => rw [hd] at h; simp only [Option.getD_some] at h; rw [h]
    · rw [if_neg hi, List.getElem?_eq_none (by omega)]
  · rw [if_neg hj]
theorem getD_set (cs : List CutR) (i : Nat) (c : CutR) (h : i < cs.length) : (cs.set i c).getD i noCut = c := by
  rw [List.getD_eq_getElem?_getD, List.getElem?_set_self h]; rfl
structure FFact (n : Nat) (sp : Int) (cs : List CutR) (ds : List BoolR) (F : FSt) (S : List Int) : Prop where
  ecs : cs.length = n
  eds : ds.length = n
  n30 : n ≤ 30
  sp0 : 1 ≤ sp
  sp1 : sp ≤ 7300
  hL : (F.L.length : Int) ≤ sp
  hk : 2 * F.k ≤ F.L.length
  hc : ∀ j, CSm (cs.getD j noCut)
  hS : S.length + cntF ds ≤ 30
theorem FFact.step {n : Nat} {sp : Int} {cs : List CutR} {ds : List BoolR} {F : FSt} {S : List Int} (h : FFact n sp cs ds F S) {i : Nat} (hi : i < n) (hd : (ds.getD i ⟨false⟩).b = false) {R : NextR} (hR : stepR sp F (cs.getD i noCut) = R) (hok : OkR sp F R) :
    FFact n sp (cs.set i (stepC (cs.getD i noCut) R)) ds (stepF F (cs.getD i noCut) R) S ∧ F.L.length + 2 ≤ (stepF F (cs.getD i noCut) R).L.length := by
  have t2 := encR_len hok.enc
  have hl := hok.len
  have hk := h.hk
  have hL : (stepF F (cs.getD i noCut) R).L.length = F.L.length + (encR R).length := List.length_append
  refine ⟨⟨by rw [List.length_set]; exact h.ecs, h.eds, h.n30, h.sp0, h.sp1, by rw [hL]; omega, ?_, fun j => ?_, h.hS⟩, by omega⟩
  · show 2 * (F.k + 1) ≤ _
    omega
  · by_cases hj : i = j
    · subst hj
      rw [getD_set _ _ _ (by rw [h.ecs]; exact hi)]
      exact (stepR_small hR (h.hc i)).2
    · rw [List.getD_eq_getElem?_getD, List.getElem?_set_ne hj, ← List.getD_eq_getElem?_getD]
      exact h.hc j
def shp (n : Nat) (sp : Int) (cs : List CutR) (ds : List BoolR) (F : FSt) (S : List Int) (r : Env) (E : Env) (H : AHeap) : Prop :=
  (F.L = [] ∧ S = [] ∧ E = (g00 n sp cs ds 0 F r).1 ∧ H = (g00 n sp cs ds 0 F r).2) ∨
  (F.L ≠ [] ∧ S = [] ∧ E = (g10 n sp cs ds 0 F r).1 ∧ H = (g10 n sp cs ds 0 F r).2) ∨
  (F.L ≠ [] ∧ S ≠ [] ∧ E = (g11 n sp cs ds 0 F S r).1 ∧ H = (g11 n sp cs ds 0 F S r).2)
def fMid (n : Nat) (sp : Int) (fin : List UInt8 → List Int → Prop) (m0 m : Nat) (E : Env) (H : AHeap) : Prop :=
  ∃ cs ds F S i, m = (sp - (F.L.length : Int)).toNat ∧ FFact n sp cs ds F S ∧ cntF ds ≤ m0 ∧ i < n ∧ (ds.getD i ⟨false⟩).b = false ∧
    (∀ l F' c', PackRun sp F (cs.getD i noCut) l F' c' false → fin F'.L S) ∧
    (∀ l F' c' l2 L S', PackRun sp F (cs.getD i noCut) l F' c' true → FillRun sp F' (cs.set i c') (ds.set i ⟨true⟩) 0 (S ++ [(i : Int) + 1]) l2 L S' → fin L S') ∧
    shp n sp cs ds F S (f13 i) E H
def fStop (n : Nat) (sp : Int) (fin : List UInt8 → List Int → Prop) (E : Env) (H : AHeap) : Prop :=
  ∃ cs ds F S no, fin F.L S ∧ shp n sp cs ds F S [(13, .int .u64 no)] E H
def fNext (n : Nat) (sp : Int) (fin : List UInt8 → List Int → Prop) (m0 : Nat) (E : Env) (H : AHeap) : Prop :=
  ∃ cs ds F S i, FFact n sp cs ds F S ∧ cntF ds < m0 ∧ F.L ≠ [] ∧ S ≠ [] ∧ (∀ l L S', FillRun sp F cs ds 0 S l L S' → fin L S') ∧
    E = (g11 n sp cs ds 0 F S (f13 i)).1 ∧ H = (g11 n sp cs ds 0 F S (f13 i)).2
def fQi (n : Nat) (sp : Int) (fin : List UInt8 → List Int → Prop) (m0 : Nat) : AExit → Env → AHeap → Prop := fun x E H => match x with
  | .exit 0 => fStop n sp fin E H
  | .exit 2 => fNext n sp fin m0 E H
  | _ => False
abbrev SGd (H0 : AHeap) (c : Code) (Q : AExit → Env → AHeap → Prop) (E : Env) (H : AHeap) : Prop := Gd (TX2.ctx Try.prog) 9 H0 c Q E H
theorem f_inner (H0 : AHeap) (hH0 : H0.next ≤ 3) (n : Nat) (sp : Int) (fin : List UInt8 → List Int → Prop) (m0 : Nat) : ∀ m E H, fMid n sp fin m0 m E H → SGd H0 (.loop fillL) (fQi n sp fin m0) E H := by
  refine Gd.loop (fMid n sp fin m0) (fun m E H hI => ?_)
  obtain ⟨cs, ds, F, S, i, hm, hf, hm0, hi, hd, h1, h2, hs⟩ := hI
  have cl : i < cs.length := by rw [hf.ecs]; exact hi
  have dl : i < ds.length := by rw [hf.eds]; exact hi
  -- what follows a failure, a last piece, another piece
  have failed : ∀ F' : FSt, F'.L = F.L → ¬ OkR sp F (stepR sp F (cs.getD i noCut)) → fin F'.L S := fun F' hL hn => h1 [] F' _ (.fail hn hL)
  have enl : ∀ R, stepR sp F (cs.getD i noCut) = R → OkR sp F R → (stepF F (cs.getD i noCut) R).L ≠ [] := fun R hR hok h => by
    have := (hf.step hi hd hR hok).2
    rw [h] at this
    simp at this
  have lastF : ∀ R F', stepR sp F (cs.getD i noCut) = R → OkR sp F R → R.en = true → F' = stepF F (cs.getD i noCut) R →
      (FFact n sp (cs.set i (stepC (cs.getD i noCut) R)) (ds.set i ⟨R.en⟩) F' (S ++ [(i : Int) + 1]) ∧ cntF (ds.set i ⟨R.en⟩) < m0 ∧ F'.L ≠ [] ∧ S ++ [(i : Int) + 1] ≠ [] ∧ (∀ l L S', FillRun sp F' (cs.set i (stepC (cs.getD i noCut) R)) (ds.set i ⟨R.en⟩) 0 (S ++ [(i : Int) + 1]) l L S' → fin L S')) := by
    rintro R F' hR hok he rfl
    have hc := cntF_set ds i dl hd
    have hst := (hf.step hi hd hR hok).1
    rw [he]
    refine ⟨⟨hst.ecs, by rw [List.length_set]; exact hf.eds, hf.n30, hf.sp0, hf.sp1, hst.hL, hst.hk, hst.hc, ?_⟩, by omega, enl R hR hok, by simp, fun l L S' hr => ?_⟩
    · have := hf.hS
      rw [List.length_append]
      simp only [List.length_cons, List.length_nil]
      omega
    · subst hR
      exact h2 _ _ _ l L S' (.last hok he) hr
  have normF : ∀ R F', stepR sp F (cs.getD i noCut) = R → OkR sp F R → R.en = false → F' = stepF F (cs.getD i noCut) R → ∀ E H, shp n sp (cs.set i (stepC (cs.getD i noCut) R)) (ds.set i ⟨R.en⟩) F' S (f13 i) E H → ∃ m', m' < m ∧ fMid n sp fin m0 m' E H := by
    rintro R F' hR hok he rfl E H hsh
    obtain ⟨hst, hlen⟩ := hf.step hi hd hR hok
    have hL := hst.hL
    rw [he, set_same ds i hd] at hsh
    refine ⟨_, ?_, cs.set i (stepC (cs.getD i noCut) R), ds, stepF F (cs.getD i noCut) R, S, i, rfl, hst, hm0, hi, hd, ?_, ?_, hsh⟩
    · omega
    · rw [getD_set _ _ _ cl]
      subst hR
      exact fun l F' c' hp => h1 _ F' c' (.more hok he hp)
    · rw [getD_set _ _ _ cl]
      subst hR
      intro l F' c' l2 L S' hp hr
      rw [List.set_set] at hr
      exact h2 _ F' c' l2 L S' (.more hok he hp) hr
  have enl' : ∀ R F', stepR sp F (cs.getD i noCut) = R → OkR sp F R → F' = stepF F (cs.getD i noCut) R → F'.L ≠ [] := fun R F' hR hok h => h ▸ enl R hR hok
  rcases hs with ⟨hL, hS, rfl, rfl⟩ | ⟨hL, hS, rfl, rfl⟩ | ⟨hL, hS, rfl, rfl⟩
  · subst hS
    refine g_00 H0 hH0 n sp cs ds 0 F i _ hi hf.ecs hf.eds hf.n30 hd hf.sp1 hf.hL hf.hk (hf.hc i) hL (fun cs' ds' F' hl hn => ?_) (fun R F' hR hok he hF => ?_) (fun R F' hR hok he hF => ?_)
    · exact ⟨cs', ds', F', [], (i : Int) + 1, failed F' hl hn, .inl ⟨(by rw [hl]; exact hL), rfl, rfl, rfl⟩⟩
    · obtain ⟨a1, a2, a3, a4, a5⟩ := lastF R F' hR hok he hF
      exact ⟨_, _, F', _, i, a1, a2, a3, a4, a5, rfl, rfl⟩
    · exact normF R F' hR hok he hF _ _ (.inr (.inl ⟨enl' R F' hR hok hF, rfl, rfl, rfl⟩))
  · subst hS
    refine g_10 H0 hH0 n sp cs ds 0 F i _ hi hf.ecs hf.eds hf.n30 hd hf.sp1 hf.hL hf.hk (hf.hc i) (fun cs' ds' F' hl hn => ?_) (fun R F' hR hok he hF => ?_) (fun R F' hR hok he hF => ?_)
    · exact ⟨cs', ds', F', [], (i : Int) + 1, failed F' hl hn, .inr (.inl ⟨(by rw [hl]; exact hL), rfl, rfl, rfl⟩)⟩
    · obtain ⟨a1, a2, a3, a4, a5⟩ := lastF R F' hR hok he hF
      exact ⟨_, _, F', _, i, a1, a2, a3, a4, a5, rfl, rfl⟩
    · exact normF R F' hR hok he hF _ _ (.inr (.inl ⟨enl' R F' hR hok hF, rfl, rfl, rfl⟩))
  · skip
    refine g_11 H0 hH0 n sp cs ds 0 F S i _ hi hf.ecs hf.eds hf.n30 hd hf.sp1 hf.hL hf.hk (hf.hc i) (by have := hf.hS; omega) (fun cs' ds' F' hl hn => ?_) (fun R F' hR hok he hF => ?_) (fun R F' hR hok he hF => ?_)
    · exact ⟨cs', ds', F', S, (i : Int) + 1, failed F' hl hn, .inr (.inr ⟨(by rw [hl]; exact hL), hS, rfl, rfl⟩)⟩
    · obtain ⟨a1, a2, a3, a4, a5⟩ := lastF R F' hR hok he hF
      exact ⟨_, _, F', _, i, a1, a2, a3, a4, a5, rfl, rfl⟩
    · exact normF R F' hR hok he hF _ _ (.inr (.inr ⟨enl' R F' hR hok hF, hS, rfl, rfl⟩))
end Go.Proofs.Ytjacnjecggedhaa
namespace Go.Proofs.Ytjacnjecggedhaa
set_option linter.unusedVariables false
set_option linter.unusedSimpArgs false
open Go.RowKit Ev
structure Hyp (sp : Int) (fin : List UInt8 → List Int → Prop) (cs : List CutR) (ds : List BoolR) (F : FSt) (S : List Int) (i : Nat) : Prop where
  h1 : ∀ l F' c', PackRun sp F (cs.getD i noCut) l F' c' false → fin F'.L S
  h2 : ∀ l F' c' l2 L S', PackRun sp F (cs.getD i noCut) l F' c' true → FillRun sp F' (cs.set i c') (ds.set i ⟨true⟩) 0 (S ++ [(i : Int) + 1]) l2 L S' → fin L S'
theorem hyp_of {sp : Int} {fin : List UInt8 → List Int → Prop} {cs : List CutR} {ds : List BoolR} {F : FSt} {S : List Int} {fv : Int} (h : ∀ l L S', FillRun sp F cs ds fv S l L S' → fin L S') {i : Nat} (hm : moreM ds fv = some i) : Hyp sp fin cs ds F S i :=
  ⟨fun l F' c' hp => h _ _ _ (.stop hm hp), fun l F' c' l2 L S' hp hr => h _ _ _ (.pack hm hp hr)⟩
def fOut (n : Nat) (sp : Int) (fin : List UInt8 → List Int → Prop) (m : Nat) (E : Env) (H : AHeap) : Prop :=
  ∃ cs ds F S no sm, m = cntF ds ∧ ((F.L = [] ∧ S = [] ∧ E = (g00 n sp cs ds 0 F (f14 no sm)).1 ∧ H = (g00 n sp cs ds 0 F (f14 no sm)).2) ∨ (F.L ≠ [] ∧ S ≠ [] ∧ E = (g11 n sp cs ds 0 F S (f14 no sm)).1 ∧ H = (g11 n sp cs ds 0 F S (f14 no sm)).2)) ∧
    (sm = true → ∃ i : Nat, no = (i : Int) + 1 ∧ i < n ∧ (ds.getD i ⟨false⟩).b = false ∧ FFact n sp cs ds F S ∧ Hyp sp fin cs ds F S i) ∧ (sm = false → fin F.L S)
def fQo (n : Nat) (sp : Int) (fin : List UInt8 → List Int → Prop) : AExit → Env → AHeap → Prop := fun x E H => match x with
  | .exit 0 => fStop n sp fin E H
  | _ => False
theorem sIn (p : List Bool) : InFn (TX2.ctx Try.prog) 9 (codeAt p fillB) :=
  inFn_at TX2ok.ctx (fn := Try.f9) (by kernel_rfl) (by kernel_rfl) p
set_option maxRecDepth 100000 in
theorem f_rest (H0 : AHeap) (hH0 : H0.next ≤ 3) (n : Nat) (sp : Int) (fin : List UInt8 → List Int → Prop) (m0 m : Nat) (E : Env) (H : AHeap) (hI : fMid n sp fin m0 m E H) :
    SGd H0 (.seq (.block 1 (.block 2 (.loop fillL))) (seqR (seqR fillO))) (fun x E H => match x with
      | .normal => ∃ m', m' < m0 ∧ fOut n sp fin m' E H
      | x => fQo n sp fin x E H) E H := by
  refine Gd.seq (Gd.block (Gd.block (Gd.mono (f_inner H0 hH0 n sp fin m0 m E H hI) (fun x E H h => ?_))))
  unfold fQi at h
  split at h
  · exact h
  · obtain ⟨cs, ds, F, S, i, hf, hc, hL, hS, hh, rfl, rfl⟩ := h
    refine Gd.walkC TX2ok.ctx 3 ts14 hH0 (sIn [true, false, true, true, true, true, true, false, true, false, false, true, true]) (Eq.mpr (w_f8_11 n sp cs ds 0 F S i _) ?_)
    refine ⟨cs, ds, ⟨⟨rfl, rfl⟩, ⟨hf.ecs.symm, hf.eds.symm⟩, by rw [hf.ecs, hf.eds], by have := hf.n30; rw [hf.eds]; exact this⟩, fun j hj => ?_, fun hj => ?_⟩
    · have := moreM_ok hj
      exact ⟨cntF ds, hc, cs, ds, F, S, (j : Int) + 1, true, rfl, .inr ⟨hL, hS, rfl, rfl⟩, fun _ => ⟨j, rfl, by rw [← hf.eds]; exact this.2, this.1, hf, hyp_of hh hj⟩, (fun h => by cases h)⟩
    · exact ⟨cntF ds, hc, cs, ds, F, S, 0, false, rfl, .inr ⟨hL, hS, rfl, rfl⟩, (fun h => by cases h), fun _ => hh _ _ _ (.done hj)⟩
  · exact h.elim
set_option maxRecDepth 100000 in
theorem f_outer (H0 : AHeap) (hH0 : H0.next ≤ 3) (n : Nat) (sp : Int) (fin : List UInt8 → List Int → Prop) : ∀ m E H, fOut n sp fin m E H → SGd H0 (.loop fillO) (fQo n sp fin) E H := by
  refine Gd.loop (fOut n sp fin) (fun m E H hI => ?_)
  rw [fillO_eq]
  obtain ⟨cs, ds, F, S, no, sm, hm, hs, ht, hfl⟩ := hI
  subst hm
  rcases hs with ⟨hL, hS, rfl, rfl⟩ | ⟨hL, hS, rfl, rfl⟩
  · refine Gd.seq (Gd.walkC TX2ok.ctx 3 ts13 hH0 (sIn [true, false, true, true, true, true, true, false, true, false, false, false]) (Eq.mpr (w_f7_00 n sp cs ds 0 F no sm _) ?_))
    refine br_mk (fun h => ?_) (fun h => ?_)
    · obtain ⟨i, rfl, hi, hd, hf, hh⟩ := ht h
      exact f_rest H0 hH0 n sp fin (cntF ds) _ _ _ ⟨cs, ds, F, S, i, rfl, hf, Nat.le_refl _, hi, hd, hh.h1, hh.h2, .inl ⟨hL, hS, rfl, rfl⟩⟩
    · exact ⟨cs, ds, F, S, no, hfl h, .inl ⟨hL, hS, rfl, rfl⟩⟩
  · refine Gd.seq (Gd.walkC TX2ok.ctx 3 ts13 hH0 (sIn [true, false, true, true, true, true, true, false, true, false, false, false]) (Eq.mpr (w_f7_11 n sp cs ds 0 F S no sm _) ?_))
    refine br_mk (fun h => ?_) (fun h => ?_)
    · obtain ⟨i, rfl, hi, hd, hf, hh⟩ := ht h
      exact f_rest H0 hH0 n sp fin (cntF ds) _ _ _ ⟨cs, ds, F, S, i, rfl, hf, Nat.le_refl _, hi, hd, hh.h1, hh.h2, .inr (.inr ⟨hL, hS, rfl, rfl⟩)⟩
    · exact ⟨cs, ds, F, S, no, hfl h, .inr (.inr ⟨hL, hS, rfl, rfl⟩)⟩
def fillFin (n : Nat) (K : Out → AHeap → Prop) (L : List UInt8) (S : List Int) : Prop := ∀ cs ds,
  (S = [] → K (.ret (.tup [.str L, .nils])) ⟨3, srcN n cs ds⟩) ∧
  (S ≠ [] → K (.ret (.tup [.str L, .sl 3 0 1 0 S.length none])) ⟨4, srcN n cs ds ++ [(3, sRow S)]⟩)
set_option maxRecDepth 100000 in
theorem f_end (H0 : AHeap) (hH0 : H0.next ≤ 3) (n : Nat) (sp : Int) (K : Out → AHeap → Prop) (E : Env) (H : AHeap) (h : fStop n sp (fillFin n K) E H) : SGd H0 (seqR (tailN 5 fillI)) (endA (TX2.ctx Try.prog).P Try.f9 K) E H := by
  obtain ⟨cs, ds, F, S, no, hK, ⟨hL, hS, rfl, rfl⟩ | ⟨hL, hS, rfl, rfl⟩ | ⟨hL, hS, rfl, rfl⟩⟩ := h
  · refine Gd.walkC TX2ok.ctx 3 ts89 hH0 (sIn [true, false, true, true, true, true, true, true]) (Eq.mpr (w_f9_00 n sp cs ds 0 F no K) ?_)
    have := (hK cs ds).1 hS
    rw [hL] at this
    exact this
  · refine Gd.walkC TX2ok.ctx 3 ts89 hH0 (sIn [true, false, true, true, true, true, true, true]) (Eq.mpr (w_f9_10 n sp cs ds 0 F no K) ?_)
    rw [List.drop_zero, List.take_length]
    exact obl_dec (by omega) ((hK cs ds).1 hS)
  · refine Gd.walkC TX2ok.ctx 3 ts89 hH0 (sIn [true, false, true, true, true, true, true, true]) (Eq.mpr (w_f9_11 n sp cs ds 0 F S no K) ?_)
    rw [List.drop_zero, List.take_length]
    exact obl_dec (by omega) ((hK cs ds).2 hS)
structure FillK (n : Nat) (cs : List CutR) (ds : List BoolR) (first sp : Int) (K : Out → AHeap → Prop) : Prop where
  ecs : cs.length = n
  eds : ds.length = n
  n30 : n ≤ 30
  sp1 : sp ≤ 7300
  hc : ∀ j, CSm (cs.getD j noCut)
  none : sp < 1 → fillFin n K [] []
  some : 1 ≤ sp → ∀ l L S, FillRun sp F0 cs ds first [] l L S → fillFin n K L S
set_option maxRecDepth 100000 in
theorem f_fill (n : Nat) (cs : List CutR) (ds : List BoolR) (first sp : Int) (K : Out → AHeap → Prop) (hK : FillK n cs ds first sp K) : SGd ⟨3, srcN n cs ds⟩ fillB (endA (TX2.ctx Try.prog).P Try.f9 K) (env0 (fA first sp) 0) ⟨3, srcN n cs ds⟩ := by
  have hH0 : (AHeap.mk 3 (srcN n cs ds)).next ≤ 3 := Nat.le_refl _
  rw [fillB_eq]
  refine Gd.seq (Gd.walkC TX2ok.ctx 3 ts0 hH0 (sIn [false]) (Eq.mpr (w_fe0 n cs ds first sp _) ?_))
  refine Gd.scope ?_
  rw [fillI_eq]
  refine Gd.seq (Gd.mono (Gd.walkC TX2ok.ctx (Q := qRet (endA (TX2.ctx Try.prog).P Try.f9 K) (fun x E H => match x with
    | .normal => SGd ⟨3, srcN n cs ds⟩ (seqR fillI) (endA (TX2.ctx Try.prog).P Try.f9 K) E H
    | _ => False)) 3 tsA hH0 (sIn [true, false, false]) (Eq.mpr (w_fe1 n cs ds first sp K _) ?_)) (fun x E H h => ?_))
  rotate_left
  · cases x <;> first | exact h | exact h.elim
  refine br_dec (fun hsp => ((hK.none hsp) cs ds).1 rfl) (fun hsp => ?_)
  refine Gd.walkN TX2ok.ctx (base := 3) hH0 (It := fun E H => canonK 3 [4, 5, 6, 10, 11, 12] E H (fun E H => E = (g00 n sp cs ds first F0 []).1 ∧ H = (g00 n sp cs ds first F0 []).2)) 4 400 _ _ _ (by kernel_rfl) (sIn [true, false, true]) (Eq.mpr (w_fe1b n cs ds first sp _ _) ⟨rfl, rfl⟩) (fun E H h => ?_)
  obtain ⟨E', H', σ, ⟨rfl, rfl⟩, g2, g3, g4, g5, g6⟩ := canonK_ok h
  refine Gd.sub (base := 3) hH0 g6 ?_ g2 g3 g4 g5
  rw [fillT_eq]
  have hcnt : cntF ds ≤ n := by rw [← hK.eds]; exact List.countP_le_length
  have hf : FFact n sp cs ds F0 [] := ⟨hK.ecs, hK.eds, hK.n30, by omega, hK.sp1, by show ((0 : Nat) : Int) ≤ sp; omega, Nat.le_refl _, hK.hc, by have := hK.n30; show 0 + cntF ds ≤ 30; omega⟩
  refine Gd.seq (Gd.seq (Gd.mono (Gd.walkC TX2ok.ctx (Q := fun x E H => match x with
    | .normal => ∃ m, fOut n sp (fillFin n K) m E H
    | _ => False) 3 ts14 hH0 (sIn [true, false, true, true, true, true, true, false, false]) (Eq.mpr (w_fe2 n sp cs ds first _) ?_)) (fun x E H h => ?_)))
  · refine ⟨cs, ds, ⟨⟨rfl, rfl⟩, ⟨hK.ecs.symm, hK.eds.symm⟩, by rw [hK.ecs, hK.eds], by rw [hK.eds]; exact hK.n30⟩, fun j hj => ?_, fun hj => ?_⟩
    · have := moreM_ok hj
      exact ⟨cntF ds, cs, ds, F0, [], (j : Int) + 1, true, rfl, .inl ⟨rfl, rfl, rfl, rfl⟩, fun _ => ⟨j, rfl, by rw [← hK.eds]; exact this.2, this.1, hf, hyp_of (hK.some (by omega)) hj⟩, (fun h => by cases h)⟩
    · exact ⟨cntF ds, cs, ds, F0, [], 0, false, rfl, .inl ⟨rfl, rfl, rfl, rfl⟩, (fun h => by cases h), fun _ => hK.some (by omega) _ _ _ (.done hj)⟩
  · cases x with
    | normal =>
      obtain ⟨m, h⟩ := h
      refine Gd.block (Gd.mono (f_outer ⟨3, srcN n cs ds⟩ hH0 n sp (fillFin n K) m E H h) (fun x E H h => ?_))
      unfold fQo at h
      split at h
      · exact f_end _ hH0 n sp K E H h
      · exact h.elim
    | exit i => exact h.elim
    | ret => exact h.elim
    | panic v => exact h.elim
end Go.Proofs.Ytjacnjecggedhaa
namespace Go.Proofs.Ytjacnjecggedhaa
set_option linter.unusedVariables false
set_option linter.unusedSimpArgs false
open Go.RowKit Ev
set_option maxRecDepth 100000 in
theorem w_fnil (first sp : Int) (K : Out → AHeap → Prop) : (wpC (TF.ctx Try.prog) 400 9 1 fillB (env0 (fA first sp) 0) ⟨1, [(0, srcB .nils .nils)]⟩ (canQ 1 ts89 (endA (TF.ctx Try.prog).P Try.f9 K))
) = (same (decide (sp < (1 : Int))) (K (Out.ret (AVal.tup [AVal.str [], AVal.nils])) (AHeap.mk 1 [(0, ABlk.cells 29 [AVal.nils, AVal.nils])]))) := by kernel_rfl
end Go.Proofs.Ytjacnjecggedhaa
namespace Go.Proofs.Ytjacnjecggedhaa
set_option linter.unusedVariables false
set_option linter.unusedSimpArgs false
open Go.RowKit Ev
def FillOut (cs : List CutR) (ds : List BoolR) (first sp : Int) (l : List NextR) (L : List UInt8) (S : List Int) : Prop :=
  (sp < 1 ∧ l = [] ∧ L = [] ∧ S = []) ∨ (1 ≤ sp ∧ FillRun sp F0 cs ds first [] l L S)
structure FillS where
  nil : Bool
  l : ABlk
  d : ABlk
  n1 : Nat
  n2 : Nat
  first : Int
  sp : Int
def decFill (args : List AVal) (H : AHeap) : Option (List (Nat × Nat) × FillS) := match args with
  | [.iface t (.ptr b 0 0 0), .int .u64 first, .int .i64 (.ofNat 7), .int .i64 sp] => match Nat.beq t 24 with
    | true => match H.get b with
      | some (.cells e [.nils, .nils]) => match Nat.beq e 29 with
        | true => some ([(0, b)], ⟨true, .dead, .dead, 0, 0, first, sp⟩)
        | false => none
      | some (.cells e [.sl b1 0 6 0 n1 none, .sl b2 0 1 0 n2 none]) => match H.get b1, H.get b2 with
        | some (.row e1 T1 l1 m1), some (.row e2 T2 l2 m2) => match Nat.beq e 29 && !(Nat.beq b1 b2) with
          | true => some ([(0, b), (1, b1), (2, b2)], ⟨false, .row e1 T1 l1 m1, .row e2 T2 l2 m2, n1, n2, first, sp⟩)
          | false => none
        | _, _ => none
      | _ => none
    | false => none
  | _ => none
def fillC (s : FillS) : AHeap := match s.nil with
  | true => ⟨1, [(0, srcB .nils .nils)]⟩
  | false => ⟨3, [(0, srcB (.sl 1 0 6 0 s.n1 none) (.sl 2 0 1 0 s.n2 none)), (1, s.l), (2, s.d)]⟩
theorem decFill_ok : DecOk decFill (fun s => fA s.first s.sp) fillC := by
  refine ⟨fun args H σ s h hb hH => ?_⟩
  unfold decFill at h
  split at h
  · rename_i t b first sp
    split at h
    · rename_i ht
      have ht := nat_beq_eq.1 ht
      subst ht
      split at h
      · rename_i e hg
        split at h
        · rename_i he
          have he := nat_beq_eq.1 he
          subst he
          simp only [Option.some.injEq, Prod.mk.injEq] at h
          obtain ⟨rfl, rfl⟩ := h
          refine ⟨rfl, rfl, fun c x hx => ?_, fun c c' hc hc' hne => ?_, fun c hc => ?_⟩
          · obtain ⟨rfl, hx⟩ := get_one hx
            cases hx
            exact ⟨Nat.one_pos, rfl, hg⟩
          · have h1 : c < 1 := hc
            have h2 : c' < 1 := hc'
            omega
          · have h1 : c < 1 := hc
            obtain rfl : c = 0 := by omega
            exact (hH b _ hg).1
        · cases h
      · rename_i e b1 n1 b2 n2 hg
        split at h
        · rename_i e1 T1 l1 m1 e2 T2 l2 m2 hg1 hg2
          split at h
          · rename_i hc
            simp only [Bool.and_eq_true, Bool.not_eq_true'] at hc
            have he := nat_beq_eq.1 hc.1
            have hne := nat_beq_ne.1 hc.2
            subst he
            simp only [Option.some.injEq, Prod.mk.injEq] at h
            obtain ⟨rfl, rfl⟩ := h
            have n01 : b ≠ b1 := by rintro rfl; rw [hg] at hg1; cases hg1
            have n02 : b ≠ b2 := by rintro rfl; rw [hg] at hg2; cases hg2
            refine ⟨rfl, rfl, fun c x hx => ?_, fun c c' hc hc' hne' => ?_, fun c hc => ?_⟩
            · rcases get_three hx with ⟨rfl, hx⟩ | ⟨rfl, hx⟩ | ⟨rfl, hx⟩
              · cases hx; exact ⟨(by decide : 0 < 3), rfl, hg⟩
              · cases hx; exact ⟨(by decide : 1 < 3), rfl, hg1⟩
              · cases hx; exact ⟨(by decide : 2 < 3), rfl, hg2⟩
            · rcases three_cases hc with rfl | rfl | rfl <;> rcases three_cases hc' with rfl | rfl | rfl <;> first | exact absurd rfl hne' | exact n01 | exact n02 | exact hne | exact n01.symm | exact n02.symm | exact fun h => hne h.symm
            · rcases three_cases hc with rfl | rfl | rfl
              · exact (hH b _ hg).1
              · exact (hH b1 _ hg1).1
              · exact (hH b2 _ hg2).1
          · cases h
        · cases h
      · cases h
    · cases h
  · cases h
def fFill (s : FillS) (K : Out → AHeap → Prop) : Prop := match s.nil with
  | true => K (.ret (.tup [.str [], .nils])) ⟨1, [(0, srcB .nils .nils)]⟩
  | false => ∃ (cs : List CutR) (ds : List BoolR), ((s.l = cRow cs ∧ s.d = dRow ds) ∧ s.n2 = s.n1 ∧ cs.length = s.n1 ∧ ds.length = s.n1 ∧ s.n1 ≤ 30 ∧ s.sp ≤ 7300 ∧ ∀ j, CSm (cs.getD j noCut)) ∧
    ∀ l L S, FillOut cs ds s.first s.sp l L S → ∀ cs' ds',
      (S = [] → K (.ret (.tup [.str L, .nils])) ⟨3, [(0, srcB (.sl 1 0 6 0 s.n1 none) (.sl 2 0 1 0 s.n1 none)), (1, cRow cs'), (2, dRow ds')]⟩) ∧
      (S ≠ [] → K (.ret (.tup [.str L, .sl 3 0 1 0 S.length none])) ⟨4, [(0, srcB (.sl 1 0 6 0 s.n1 none) (.sl 2 0 1 0 s.n1 none)), (1, cRow cs'), (2, dRow ds'), (3, sRow S)]⟩)
set_option maxRecDepth 100000 in
theorem fill_sound : GcSound Try.prog 9 (gcSub decFill fillC fFill) := by
  refine gc_sub Try.call9 decFill_ok (fun s k hk ρ w hR hb => ?_)
  obtain ⟨nl, l, d, n1, n2, first, sp⟩ := s
  cases nl with
  | true =>
    refine fn_good TFok.ctx (fn := Try.f9) (c := fillB) (by kernel_rfl) (by kernel_rfl) ?_ hR hb
    refine Gd.walkC TFok.ctx 1 ts89 (Nat.le_refl _) (inFn_at TFok.ctx (fn := Try.f9) (by kernel_rfl) (by kernel_rfl) []) (Eq.mpr (w_fnil first sp k) ((same_iff _ _).2 hk))
  | false =>
    obtain ⟨cs, ds, ⟨⟨h1, h2⟩, h3, h4, h5, h6, h7, h8⟩, hk⟩ := hk
    simp only at h1 h2 h3 h4 h5 h6 h7
    subst h1 h2 h3
    exact fn_good TX2ok.ctx (fn := Try.f9) (by kernel_rfl) (by kernel_rfl) (f_fill n2 cs ds first sp k ⟨h4, h5, h6, h7, h8, fun hs cs' ds' => hk [] [] [] (.inl ⟨hs, rfl, rfl, rfl⟩) cs' ds', fun hs l L S hr cs' ds' => hk l L S (.inr ⟨hs, hr⟩) cs' ds'⟩) hR hb
noncomputable def TLaw (hs : List PackR) (md : RowMd) : Tabs := (TF.addGc 8 (gcOf hs md)).addGc 9 (gcSub decFill fillC fFill)
theorem TLawok (hs : List PackR) (md : RowMd) : TabsOk (TLaw hs md) Try.prog := (TFok.addGc (gcOf_sound hs md)).addGc fill_sound
end Go.Proofs.Ytjacnjecggedhaa
namespace Go.Proofs.Ytjacnjecggedhaa
set_option linter.unusedVariables false
set_option linter.unusedSimpArgs false
open Go.RowKit Ev
universe u
theorem gcSub_imp {P : Program} {f : FuncId} {S : Type u} {dec : List AVal → AHeap → Option (List (Nat × Nat) × S)} {cheap : S → AHeap} {F F' : S → (Out → AHeap → Prop) → Prop} (h : ∀ s K, F' s K → F s K) (hs : GcSound P f (gcSub dec cheap F)) : GcSound P f (gcSub dec cheap F') := by
  intro args H K hK ρ w hR ha
  refine hs args H K ?_ ρ w hR ha
  unfold gcSub at hK ⊢
  split at hK
  · exact h _ _ hK
  · exact hK
def fOf1 (hs : List PackR) (md : RowMd) (s : ABlk × Nat) (K : Out → AHeap → Prop) : Prop := (s.1 = pRow hs md ∧ s.2 = hs.length) ∧ (pOk hs ∧ hs.length ≠ 0) ∧ ∀ cs, cs = ofN hs (min hs.length 30) →
  K (.ret (.ptr 1 0 0 0)) ⟨4, [(0, s.1), (1, srcB (.sl 2 0 6 0 cs.length none) (.sl 3 0 1 0 cs.length none)), (2, cRow cs), (3, dRow (dsN cs.length))]⟩
noncomputable def gcOf1 (hs : List PackR) (md : RowMd) : GC := gcSub decOf (fun (s : ABlk × Nat) => ⟨1, [(0, s.1)]⟩) (fOf1 hs md)
theorem gcOf1_sound (hs : List PackR) (md : RowMd) : GcSound Try.prog 8 (gcOf1 hs md) := by
  refine gcSub_imp (fun s K h => ?_) (gcOf_sound hs md)
  obtain ⟨⟨h1, h2⟩, ⟨h3, h4⟩, h5⟩ := h
  refine ⟨⟨h1, h2⟩, h3, branch_iff.2 ⟨fun h => absurd (of_decide_eq_true h) h4, fun _ => ?_⟩⟩
  have := h5 _ rfl
  rw [h1, ofN_length] at this
  rw [ofN_length, dsN_length]
  exact this
def fFill1 (s : FillS) (K : Out → AHeap → Prop) : Prop := s.nil = false ∧ ∃ cs : List CutR, ((s.l = cRow cs ∧ s.d = dRow (dsN cs.length)) ∧ (s.n1 = cs.length ∧ s.n2 = cs.length) ∧ cs.length ≤ 30 ∧ s.sp ≤ 7300 ∧ ∀ j, CSm (cs.getD j noCut)) ∧
    ∀ l L S, FillOut cs (dsN cs.length) s.first s.sp l L S → ∀ cs' ds',
      (S = [] → K (.ret (.tup [.str L, .nils])) ⟨3, [(0, srcB (.sl 1 0 6 0 s.n1 none) (.sl 2 0 1 0 s.n1 none)), (1, cRow cs'), (2, dRow ds')]⟩) ∧
      (S ≠ [] → K (.ret (.tup [.str L, .sl 3 0 1 0 S.length none])) ⟨4, [(0, srcB (.sl 1 0 6 0 s.n1 none) (.sl 2 0 1 0 s.n1 none)), (1, cRow cs'), (2, dRow ds'), (3, sRow S)]⟩)
theorem fill1_sound : GcSound Try.prog 9 (gcSub decFill fillC fFill1) := by
  refine gcSub_imp (fun s K h => ?_) fill_sound
  obtain ⟨nl, l, d, n1, n2, first, sp⟩ := s
  obtain ⟨h0, cs, ⟨⟨h1, h2⟩, ⟨h3, h4⟩, h5, h6, h7⟩, h8⟩ := h
  simp only at h0 h1 h2 h3 h4 h6
  subst h0
  refine ⟨cs, dsN cs.length, ⟨⟨h1, h2⟩, by rw [h3]; exact h4, h3.symm, by rw [dsN_length]; exact h3.symm, by rw [show FillS.n1 ⟨false, l, d, n1, n2, first, sp⟩ = n1 from rfl, h3]; exact h5, h6, h7⟩, h8⟩
noncomputable def TFits (hs : List PackR) : Tabs := (TF.addGc 8 (gcOf1 hs .ro)).addGc 9 (gcSub decFill fillC fFill1)
theorem TFitsok (hs : List PackR) : TabsOk (TFits hs) Try.prog := (TFok.addGc (gcOf1_sound hs .ro)).addGc fill1_sound
noncomputable abbrev fitsB : Code := bodyC Try.f4
noncomputable abbrev fitsR : Code := codeAt [true, true, true, true, true, true, true, true, false, true, false, false] fitsB
def tsF : AExit → List Nat := fun x => match x with
  | .ret => [4]
  | _ => [6, 9, 8, 11, 12, 13, 14]
def noPiece : PieceR := ⟨false, false, 0, 0, 0, 0, [], [], []⟩
def pcRow (P : List PieceR) : ABlk := .row 46 pieceRow P .plain
def kE (s p : AVal) (starts at_ : Int) (last : Bool) (r : Env) : Env := (6, .ptr 1 0 0 0) :: (9, p) :: (8, s) :: (11, .int .i64 starts) :: (12, .int .i64 at_) :: (13, .bool last) :: r
def k14 (i : Int) : Env := [(14, .int .i64 i)]
def kA (hs : List PackR) (n : Nat) (bs : List CutR) (ds : List BoolR) (r : Env) : Env × AHeap := (kE .nils .nils 0 0 false r, ⟨4, [(0, pRow hs .ro), (1, srcB (.sl 2 0 6 0 n none) (.sl 3 0 1 0 n none)), (2, cRow bs), (3, dRow ds)]⟩)
def kB (hs : List PackR) (n : Nat) (bs : List CutR) (ds : List BoolR) (P : List PieceR) (starts at_ : Int) (last : Bool) (r : Env) : Env × AHeap := (kE .nils (.sl 2 0 9 0 P.length none) starts at_ last r, ⟨5, [(0, pRow hs .ro), (1, srcB (.sl 3 0 6 0 n none) (.sl 4 0 1 0 n none)), (2, pcRow P), (3, cRow bs), (4, dRow ds)]⟩)
def kC (hs : List PackR) (n : Nat) (bs : List CutR) (ds : List BoolR) (P : List PieceR) (S : List Int) (starts at_ : Int) (last : Bool) (r : Env) : Env × AHeap := (kE (.sl 3 0 1 0 S.length none) (.sl 2 0 9 0 P.length none) starts at_ last r, ⟨6, [(0, pRow hs .ro), (1, srcB (.sl 4 0 6 0 n none) (.sl 5 0 1 0 n none)), (2, pcRow P), (3, sRow S), (4, cRow bs), (5, dRow ds)]⟩)
end Go.Proofs.Ytjacnjecggedhaa
namespace Go.Proofs.Ytjacnjecggedhaa
set_option linter.unusedVariables false
set_option linter.unusedSimpArgs false
open Go.RowKit Ev
def wOf (x : PackR) : PackR := ⟨x.cls, x.lab, 1, List.take (min (x.data.length : Int) 199).toNat x.data, 0⟩
def wN (hs : List PackR) (n : Nat) : List PackR := (List.range n).map fun (j : Nat) => wOf (hs.getD j noPack)
noncomputable abbrev whB : Code := bodyC Try.f5
noncomputable abbrev whR0 : Code := codeAt [true, true, true, false, true, false, false] whB
noncomputable abbrev whR2 : Code := codeAt [true, true, true, true, true, true, true, false, true, false, false] whB
noncomputable def TWh (ms : List PackR) : Tabs := (TF.addGc 8 (gcOf1 ms .plain)).addGc 9 (gcSub decFill fillC fFill1)
theorem TWhok (ms : List PackR) : TabsOk (TWh ms) Try.prog := (TFok.addGc (gcOf1_sound ms .plain)).addGc fill1_sound
def tsW : AExit → List Nat := fun x => match x with
  | .ret => [2]
  | _ => [0, 3, 4]
def tsW2 : AExit → List Nat := fun x => match x with
  | .ret => [2]
  | _ => [3, 7, 8, 10]
def wh0 (hs : List PackR) (i : Int) : Env × AHeap := ([(0, .sl 0 0 5 0 hs.length none), (3, .nils), (4, .int .i64 i)], ⟨1, [(0, pRow hs .ro)]⟩)
def wh1 (hs ms : List PackR) (i : Int) : Env × AHeap := ([(0, .sl 0 0 5 0 hs.length none), (3, .sl 1 0 5 0 ms.length none), (4, .int .i64 i)], ⟨2, [(0, pRow hs .ro), (1, pRow ms .plain)]⟩)
def wh2 (hs ms : List PackR) (S : List Int) (P : List PieceR) (r : Env) : Env × AHeap := ((3, .sl 1 0 5 0 ms.length none) :: (7, .sl 2 0 1 0 S.length none) :: (8, .sl 3 0 9 0 P.length none) :: r, ⟨4, [(0, pRow hs .ro), (1, pRow ms .plain), (2, sRow S), (3, pcRow P)]⟩)
end Go.Proofs.Ytjacnjecggedhaa
namespace Go.Proofs.Ytjacnjecggedhaa
set_option linter.unusedVariables false
set_option linter.unusedSimpArgs false
open Go.RowKit Ev
set_option maxRecDepth 100000 in
theorem w_wh_nil (K : Out → Prop) : (callC (TF.ctx Try.prog) 400 5 [.nils] ⟨0, []⟩ (fun o _ => K o)
) =  (K (Out.ret (AVal.bool true))) := by kernel_rfl
set_option maxRecDepth 100000 in
theorem w_wh_emp (K : Out → Prop) : (callC (TF.ctx Try.prog) 400 5 [.sl 0 0 5 0 0 none] ⟨1, [(0, pRow [] .ro)]⟩ (fun o _ => K o)
) =  (K (Out.ret (AVal.bool true))) := by kernel_rfl
set_option maxRecDepth 100000 in
theorem w_wh_pre (hs ms : List PackR) (It : Env → AHeap → Prop) (Q : AExit → Env → AHeap → Prop) : (wpN ((TWh ms).ctx Try.prog) 3 400 5 1 whB (env0 [.sl 0 0 5 0 hs.length none] 0) ⟨1, [(0, pRow hs .ro)]⟩ (fun E H => canonK 1 [0, 3] E H It) Q
) =  (It [(0, AVal.sl 0 0 5 0 hs.length none), (3, AVal.nils)] (AHeap.mk 1 [(0, ABlk.row 51 packRow hs RowMd.ro)])) := by kernel_rfl
set_option maxRecDepth 100000 in
theorem w_wh_set (hs ms : List PackR) (Q : AExit → Env → AHeap → Prop) : (wpC ((TWh ms).ctx Try.prog) 400 5 1 (seqL (seqL (tailN 3 whB))) [(0, .sl 0 0 5 0 hs.length none), (3, .nils)] (wh0 hs 0).2 (canQ 1 tsW Q)
) =  (Q AExit.normal [(0, AVal.sl 0 0 5 0 hs.length none), (3, AVal.nils), (4, AVal.int IntKind.i64 (0 : Int))] (AHeap.mk 1 [(0, ABlk.row 51 packRow hs RowMd.ro)])) := by kernel_rfl
set_option maxRecDepth 100000 in
theorem w_wh_r0 (hs ms : List PackR) (i : Nat) (Q : AExit → Env → AHeap → Prop) : (wpC ((TWh ms).ctx Try.prog) 400 5 1 whR0 (wh0 hs i).1 (wh0 hs i).2 (canQ 1 tsW Q)
) =  (branch (decide ((↑i : Int) < (↑hs.length : Int))) (branch (decide ((↑i : Int) < (8 : Int))) (obl (decide ((0 : Int) ≤ (↑i : Int) ∧ (↑i : Int) < (↑hs.length : Int))) (obl (decide (0 + (↑i : Int).toNat
 < hs.length)) (obl (decide ((0 : Int) ≤ min (↑(hs.getD (0 + (↑i : Int).toNat) (PackR.mk (0 : Int) (0 : Int) (0 : Int) [] (0 : Int))).data.length : Int) (199 : Int) ∧ min (↑(hs.getD (0 + (↑i :
 Int).toNat) (PackR.mk (0 : Int) (0 : Int) (0 : Int) [] (0 : Int))).data.length : Int) (199 : Int) ≤ (↑(hs.getD (0 + (↑i : Int).toNat) (PackR.mk (0 : Int) (0 : Int) (0 : Int) [] (0 : Int))).data.length
 : Int))) (obl (inI64 ((↑i : Int) + (1 : Int))) (Q AExit.normal [(0, AVal.sl 0 0 5 0 hs.length none), (3, AVal.sl 1 0 5 0 1 none), (4, AVal.int IntKind.i64 ((↑i : Int) + (1 : Int)))] (AHeap.mk 2 [(0,
 ABlk.row 51 packRow hs RowMd.ro), (1, ABlk.row 51 packRow [PackR.mk (hs.getD (0 + (↑i : Int).toNat) (PackR.mk (0 : Int) (0 : Int) (0 : Int) [] (0 : Int))).cls (hs.getD (0 + (↑i : Int).toNat) (PackR.mk
 (0 : Int) (0 : Int) (0 : Int) [] (0 : Int))).lab (1 : Int) (List.take (min (↑(hs.getD (0 + (↑i : Int).toNat) (PackR.mk (0 : Int) (0 : Int) (0 : Int) [] (0 : Int))).data.length : Int) (199 :
 Int)).toNat (hs.getD (0 + (↑i : Int).toNat) (PackR.mk (0 : Int) (0 : Int) (0 : Int) [] (0 : Int))).data) (0 : Int)] RowMd.plain)])))))) (Q (AExit.exit 0) [(0, AVal.sl 0 0 5 0 hs.length none), (3,
 AVal.nils), (4, AVal.int IntKind.i64 (↑i : Int))] (AHeap.mk 1 [(0, ABlk.row 51 packRow hs RowMd.ro)]))) (Q (AExit.exit 0) [(0, AVal.sl 0 0 5 0 hs.length none), (3, AVal.nils), (4, AVal.int IntKind.i64
 (↑i : Int))] (AHeap.mk 1 [(0, ABlk.row 51 packRow hs RowMd.ro)]))) := by kernel_rfl
set_option maxRecDepth 100000 in
theorem w_wh_r1 (hs ms bs : List PackR) (i : Nat) (Q : AExit → Env → AHeap → Prop) : (wpC ((TWh ms).ctx Try.prog) 400 5 1 whR0 (wh1 hs bs i).1 (wh1 hs bs i).2 (canQ 1 tsW Q)
) =  (branch (decide ((↑i : Int) < (↑hs.length : Int))) (branch (decide ((↑i : Int) < (8 : Int))) (obl (decide ((0 : Int) ≤ (↑i : Int) ∧ (↑i : Int) < (↑hs.length : Int))) (obl (decide (0 + (↑i : Int).toNat
 < hs.length)) (obl (decide ((0 : Int) ≤ min (↑(hs.getD (0 + (↑i : Int).toNat) (PackR.mk (0 : Int) (0 : Int) (0 : Int) [] (0 : Int))).data.length : Int) (199 : Int) ∧ min (↑(hs.getD (0 + (↑i :
 Int).toNat) (PackR.mk (0 : Int) (0 : Int) (0 : Int) [] (0 : Int))).data.length : Int) (199 : Int) ≤ (↑(hs.getD (0 + (↑i : Int).toNat) (PackR.mk (0 : Int) (0 : Int) (0 : Int) [] (0 : Int))).data.length
 : Int))) (obl (true && decide (bs.length = bs.length ∧ 5 = 5 ∧ 5 = 5 ∧ 0 < 5 ∧ (bs ++ [PackR.mk (hs.getD (0 + (↑i : Int).toNat) (PackR.mk (0 : Int) (0 : Int) (0 : Int) [] (0 : Int))).cls (hs.getD (0 +
 (↑i : Int).toNat) (PackR.mk (0 : Int) (0 : Int) (0 : Int) [] (0 : Int))).lab (1 : Int) (List.take (min (↑(hs.getD (0 + (↑i : Int).toNat) (PackR.mk (0 : Int) (0 : Int) (0 : Int) [] (0 :
 Int))).data.length : Int) (199 : Int)).toNat (hs.getD (0 + (↑i : Int).toNat) (PackR.mk (0 : Int) (0 : Int) (0 : Int) [] (0 : Int))).data) (0 : Int)]).length ≤ 9223372036854775807 ∧ (bs ++ [PackR.mk
 (hs.getD (0 + (↑i : Int).toNat) (PackR.mk (0 : Int) (0 : Int) (0 : Int) [] (0 : Int))).cls (hs.getD (0 + (↑i : Int).toNat) (PackR.mk (0 : Int) (0 : Int) (0 : Int) [] (0 : Int))).lab (1 : Int)
 (List.take (min (↑(hs.getD (0 + (↑i : Int).toNat) (PackR.mk (0 : Int) (0 : Int) (0 : Int) [] (0 : Int))).data.length : Int) (199 : Int)).toNat (hs.getD (0 + (↑i : Int).toNat) (PackR.mk (0 : Int) (0 :
 Int) (0 : Int) [] (0 : Int))).data) (0 : Int)]).length * 32 ≤ 140737488355328)) (obl (inI64 ((↑i : Int) + (1 : Int))) (Q AExit.normal [(0, AVal.sl 0 0 5 0 hs.length none), (3, AVal.sl 1 0 5 0 (bs ++
 [PackR.mk (hs.getD (0 + (↑i : Int).toNat) (PackR.mk (0 : Int) (0 : Int) (0 : Int) [] (0 : Int))).cls (hs.getD (0 + (↑i : Int).toNat) (PackR.mk (0 : Int) (0 : Int) (0 : Int) [] (0 : Int))).lab (1 :
 Int) (List.take (min (↑(hs.getD (0 + (↑i : Int).toNat) (PackR.mk (0 : Int) (0 : Int) (0 : Int) [] (0 : Int))).data.length : Int) (199 : Int)).toNat (hs.getD (0 + (↑i : Int).toNat) (PackR.mk (0 : Int)
 (0 : Int) (0 : Int) [] (0 : Int))).data) (0 : Int)]).length none), (4, AVal.int IntKind.i64 ((↑i : Int) + (1 : Int)))] (AHeap.mk 2 [(0, ABlk.row 51 packRow hs RowMd.ro), (1, ABlk.row 51 packRow (bs ++
 [PackR.mk (hs.getD (0 + (↑i : Int).toNat) (PackR.mk (0 : Int) (0 : Int) (0 : Int) [] (0 : Int))).cls (hs.getD (0 + (↑i : Int).toNat) (PackR.mk (0 : Int) (0 : Int) (0 : Int) [] (0 : Int))).lab (1 :
 Int) (List.take (min (↑(hs.getD (0 + (↑i : Int).toNat) (PackR.mk (0 : Int) (0 : Int) (0 : Int) [] (0 : Int))).data.length : Int) (199 : Int)).toNat (hs.getD (0 + (↑i : Int).toNat) (PackR.mk (0 : Int)
 (0 : Int) (0 : Int) [] (0 : Int))).data) (0 : Int)]) RowMd.plain)]))))))) (Q (AExit.exit 0) [(0, AVal.sl 0 0 5 0 hs.length none), (3, AVal.sl 1 0 5 0 bs.length none), (4, AVal.int IntKind.i64 (↑i :
 Int))] (AHeap.mk 2 [(0, ABlk.row 51 packRow hs RowMd.ro), (1, ABlk.row 51 packRow bs RowMd.plain)]))) (Q (AExit.exit 0) [(0, AVal.sl 0 0 5 0 hs.length none), (3, AVal.sl 1 0 5 0 bs.length none), (4,
 AVal.int IntKind.i64 (↑i : Int))] (AHeap.mk 2 [(0, ABlk.row 51 packRow hs RowMd.ro), (1, ABlk.row 51 packRow bs RowMd.plain)]))) := by kernel_rfl
set_option maxRecDepth 100000 in
theorem w_wh_mid (hs ms : List PackR) (i : Int) (It : Env → AHeap → Prop) (K : Out → Prop) : (wpN ((TWh ms).ctx Try.prog) 3 400 5 1 (seqR (tailN 3 whB)) (wh1 hs ms i).1 (wh1 hs ms i).2 (fun E H => canonK 1 [3, 7, 8] E H It) (endA ((TWh ms).ctx Try.prog).P Try.f5 (fun o _ => K o))
) =  ((ABlk.row 51 packRow ms RowMd.plain = ABlk.row 51 packRow ms RowMd.plain ∧ ms.length = ms.length) ∧ ((∀ (x : PackR), List.Mem x ms → PackOk x) ∧ (ms.length = 0 → False)) ∧ ∀ (cs : List CutR), cs =
 ofN ms (min ms.length 30) → false = false ∧ ∃ cs_1, ((ABlk.row 48 cutRow cs RowMd.plain = ABlk.row 48 cutRow cs_1 RowMd.plain ∧ ABlk.row 4 boolRow (dsN cs.length) RowMd.plain = ABlk.row 4 boolRow (dsN
 cs_1.length) RowMd.plain) ∧ twice (cs.length = cs_1.length) ∧ cs_1.length.le 30 ∧ ((7300 : Int) - (FillS.mk false (ABlk.row (48 : TypeId) cutRow cs RowMd.plain) (ABlk.row (4 : TypeId) boolRow (dsN
 cs.length) RowMd.plain) cs.length cs.length (0 : Int) (1680 : Int)).sp).NonNeg ∧ ∀ (j : Nat), CSm (cs_1.getD j noCut)) ∧ ∀ (l : List NextR) (L : List UInt8) (S : List Int), (FillS.mk false (ABlk.row
 (48 : TypeId) cutRow cs RowMd.plain) (ABlk.row (4 : TypeId) boolRow (dsN cs.length) RowMd.plain) cs.length cs.length (0 : Int) (1680 : Int)).sp < (1 : Int) ∧ l = [] ∧ L = [] ∧ S = [] ∨ (1 : Int) ≤
 (FillS.mk false (ABlk.row (48 : TypeId) cutRow cs RowMd.plain) (ABlk.row (4 : TypeId) boolRow (dsN cs.length) RowMd.plain) cs.length cs.length (0 : Int) (1680 : Int)).sp ∧ FillRun (FillS.mk false
 (ABlk.row (48 : TypeId) cutRow cs RowMd.plain) (ABlk.row (4 : TypeId) boolRow (dsN cs.length) RowMd.plain) cs.length cs.length (0 : Int) (1680 : Int)).sp F0 cs_1 (dsN cs_1.length) (FillS.mk false
 (ABlk.row (48 : TypeId) cutRow cs RowMd.plain) (ABlk.row (4 : TypeId) boolRow (dsN cs.length) RowMd.plain) cs.length cs.length (0 : Int) (1680 : Int)).first [] l L S → ∀ (cs' : List CutR) (ds' : List
 BoolR), (S = [] → obl (decide (L.length ≤ 1000000000)) (branch (allP L).isEmpty (branch (!decide (allE L = (0 : Int))) (branch (decide ((0 : Int) < (↑ms.length : Int))) (K (Out.ret (AVal.bool false)))
 (branch (!decide ((0 : Int) = (↑ms.length : Int))) (K (Out.ret (AVal.bool false))) (branch (!decide ((0 : Int) = (↑ms.length : Int))) (K (Out.ret (AVal.bool false))) (It [(3, AVal.sl 1 0 5 0 ms.length
 none), (7, AVal.nils), (8, AVal.nils)] (AHeap.mk 2 [(0, ABlk.row 51 packRow hs RowMd.ro), (1, ABlk.row 51 packRow ms RowMd.plain)]))))) (branch (!decide ((0 : Int) = (↑ms.length : Int))) (K (Out.ret
 (AVal.bool false))) (branch (!decide ((0 : Int) = (↑ms.length : Int))) (K (Out.ret (AVal.bool false))) (It [(3, AVal.sl 1 0 5 0 ms.length none), (7, AVal.nils), (8, AVal.nils)] (AHeap.mk 2 [(0,
 ABlk.row 51 packRow hs RowMd.ro), (1, ABlk.row 51 packRow ms RowMd.plain)]))))) (branch (!decide (allE L = (0 : Int))) (branch (decide ((0 : Int) < (↑ms.length : Int))) (K (Out.ret (AVal.bool false)))
 (branch (!decide ((↑(allP L).length : Int) = (↑ms.length : Int))) (K (Out.ret (AVal.bool false))) (branch (!decide ((0 : Int) = (↑ms.length : Int))) (K (Out.ret (AVal.bool false))) (It [(3, AVal.sl 1
 0 5 0 ms.length none), (7, AVal.nils), (8, AVal.sl 2 0 9 0 (allP L).length none)] (AHeap.mk 3 [(0, ABlk.row 51 packRow hs RowMd.ro), (1, ABlk.row 51 packRow ms RowMd.plain), (2, ABlk.row 46 pieceRow
 (allP L) RowMd.plain)]))))) (branch (!decide ((↑(allP L).length : Int) = (↑ms.length : Int))) (K (Out.ret (AVal.bool false))) (branch (!decide ((0 : Int) = (↑ms.length : Int))) (K (Out.ret (AVal.bool
 false))) (It [(3, AVal.sl 1 0 5 0 ms.length none), (7, AVal.nils), (8, AVal.sl 2 0 9 0 (allP L).length none)] (AHeap.mk 3 [(0, ABlk.row 51 packRow hs RowMd.ro), (1, ABlk.row 51 packRow ms
 RowMd.plain), (2, ABlk.row 46 pieceRow (allP L) RowMd.plain)]))))))) ∧ ((S = [] → False) → obl (decide (L.length ≤ 1000000000)) (branch (allP L).isEmpty (branch (!decide (allE L = (0 : Int))) (branch
 (decide ((0 : Int) < (↑ms.length : Int))) (K (Out.ret (AVal.bool false))) (branch (!decide ((0 : Int) = (↑ms.length : Int))) (K (Out.ret (AVal.bool false))) (branch (!decide ((↑S.length : Int) =
 (↑ms.length : Int))) (K (Out.ret (AVal.bool false))) (It [(3, AVal.sl 1 0 5 0 ms.length none), (7, AVal.sl 2 0 1 0 S.length none), (8, AVal.nils)] (AHeap.mk 3 [(0, ABlk.row 51 packRow hs RowMd.ro),
 (1, ABlk.row 51 packRow ms RowMd.plain), (2, ABlk.row 33 (intRow IntKind.u64) S RowMd.plain)]))))) (branch (!decide ((0 : Int) = (↑ms.length : Int))) (K (Out.ret (AVal.bool false))) (branch (!decide
 ((↑S.length : Int) = (↑ms.length : Int))) (K (Out.ret (AVal.bool false))) (It [(3, AVal.sl 1 0 5 0 ms.length none), (7, AVal.sl 2 0 1 0 S.length none), (8, AVal.nils)] (AHeap.mk 3 [(0, ABlk.row 51
 packRow hs RowMd.ro), (1, ABlk.row 51 packRow ms RowMd.plain), (2, ABlk.row 33 (intRow IntKind.u64) S RowMd.plain)]))))) (branch (!decide (allE L = (0 : Int))) (branch (decide ((0 : Int) < (↑ms.length
 : Int))) (K (Out.ret (AVal.bool false))) (branch (!decide ((↑(allP L).length : Int) = (↑ms.length : Int))) (K (Out.ret (AVal.bool false))) (branch (!decide ((↑S.length : Int) = (↑ms.length : Int))) (K
 (Out.ret (AVal.bool false))) (It [(3, AVal.sl 1 0 5 0 ms.length none), (7, AVal.sl 2 0 1 0 S.length none), (8, AVal.sl 3 0 9 0 (allP L).length none)] (AHeap.mk 4 [(0, ABlk.row 51 packRow hs RowMd.ro),
 (1, ABlk.row 51 packRow ms RowMd.plain), (2, ABlk.row 33 (intRow IntKind.u64) S RowMd.plain), (3, ABlk.row 46 pieceRow (allP L) RowMd.plain)]))))) (branch (!decide ((↑(allP L).length : Int) =
 (↑ms.length : Int))) (K (Out.ret (AVal.bool false))) (branch (!decide ((↑S.length : Int) = (↑ms.length : Int))) (K (Out.ret (AVal.bool false))) (It [(3, AVal.sl 1 0 5 0 ms.length none), (7, AVal.sl 2
 0 1 0 S.length none), (8, AVal.sl 3 0 9 0 (allP L).length none)] (AHeap.mk 4 [(0, ABlk.row 51 packRow hs RowMd.ro), (1, ABlk.row 51 packRow ms RowMd.plain), (2, ABlk.row 33 (intRow IntKind.u64) S
 RowMd.plain), (3, ABlk.row 46 pieceRow (allP L) RowMd.plain)])))))))) := by kernel_rfl
set_option maxRecDepth 100000 in
theorem w_wh_set2 (hs ms : List PackR) (S : List Int) (P : List PieceR) (Q : AExit → Env → AHeap → Prop) : (wpC ((TWh ms).ctx Try.prog) 400 5 1 (seqL (seqL (tailN 7 whB))) (wh2 hs ms S P []).1 (wh2 hs ms S P []).2 (canQ 1 tsW2 Q)
) =  (Q AExit.normal [(3, AVal.sl 1 0 5 0 ms.length none), (7, AVal.sl 2 0 1 0 S.length none), (8, AVal.sl 3 0 9 0 P.length none), (10, AVal.int IntKind.i64 (0 : Int))] (AHeap.mk 4 [(0, ABlk.row 51 packRow
 hs RowMd.ro), (1, ABlk.row 51 packRow ms RowMd.plain), (2, ABlk.row 33 (intRow IntKind.u64) S RowMd.plain), (3, ABlk.row 46 pieceRow P RowMd.plain)])) := by kernel_rfl
set_option maxRecDepth 100000 in
theorem w_wh_r2 (hs ms : List PackR) (S : List Int) (P : List PieceR) (i : Nat) (Q : AExit → Env → AHeap → Prop) : (wpC ((TWh ms).ctx Try.prog) 400 5 1 whR2 (wh2 hs ms S P [(10, .int .i64 (i : Int))]).1 (wh2 hs ms S P [(10, .int .i64 (i : Int))]).2 (canQ 1 tsW2 Q)
) =  (branch (decide ((↑i : Int) < (↑ms.length : Int))) (obl (decide ((0 : Int) ≤ (↑i : Int) ∧ (↑i : Int) < (↑S.length : Int))) (obl (decide (0 + (↑i : Int).toNat < S.length)) (branch (!decide (S.getD (0 +
 (↑i : Int).toNat) (0 : Int) = ((↑i : Int) % (18446744073709551616 : Int) + (1 : Int)) % (18446744073709551616 : Int))) (Q AExit.ret [(2, AVal.bool false)] (AHeap.mk 1 [(0, ABlk.row 51 packRow hs
 RowMd.ro)])) (obl (decide ((0 : Int) ≤ (↑i : Int) ∧ (↑i : Int) < (↑P.length : Int))) (obl (decide (0 + (↑i : Int).toNat < P.length)) (branch (!(P.getD (0 + (↑i : Int).toNat) (PieceR.mk false false (0
 : Int) (0 : Int) (0 : Int) (0 : Int) [] [] [])).st) (Q AExit.ret [(2, AVal.bool false)] (AHeap.mk 1 [(0, ABlk.row 51 packRow hs RowMd.ro)])) (obl (decide ((0 : Int) ≤ (↑i : Int) ∧ (↑i : Int) <
 (↑P.length : Int))) (obl (decide (0 + (↑i : Int).toNat < P.length)) (branch (!(P.getD (0 + (↑i : Int).toNat) (PieceR.mk false false (0 : Int) (0 : Int) (0 : Int) (0 : Int) [] [] [])).en) (Q AExit.ret
 [(2, AVal.bool false)] (AHeap.mk 1 [(0, ABlk.row 51 packRow hs RowMd.ro)])) (obl (decide ((0 : Int) ≤ (↑i : Int) ∧ (↑i : Int) < (↑P.length : Int))) (obl (decide (0 + (↑i : Int).toNat < P.length)) (obl
 (decide ((0 : Int) ≤ (↑i : Int) ∧ (↑i : Int) < (↑ms.length : Int))) (obl (decide (0 + (↑i : Int).toNat < ms.length)) (obl (decide ((↑((ms.getD (0 + (↑i : Int).toNat) (PackR.mk (0 : Int) (0 : Int) (0 :
 Int) [] (0 : Int))).data.length + 1) : Int) ≤ (9223372036854775807 : Int))) (branch (!decide ((P.getD (0 + (↑i : Int).toNat) (PieceR.mk false false (0 : Int) (0 : Int) (0 : Int) (0 : Int) [] []
 [])).data = (ms.getD (0 + (↑i : Int).toNat) (PackR.mk (0 : Int) (0 : Int) (0 : Int) [] (0 : Int))).data ++ [(0 : UInt8)])) (Q AExit.ret [(2, AVal.bool false)] (AHeap.mk 1 [(0, ABlk.row 51 packRow hs
 RowMd.ro)])) (obl (inI64 ((↑i : Int) + (1 : Int))) (Q AExit.normal [(3, AVal.sl 1 0 5 0 ms.length none), (7, AVal.sl 2 0 1 0 S.length none), (8, AVal.sl 3 0 9 0 P.length none), (10, AVal.int
 IntKind.i64 ((↑i : Int) + (1 : Int)))] (AHeap.mk 4 [(0, ABlk.row 51 packRow hs RowMd.ro), (1, ABlk.row 51 packRow ms RowMd.plain), (2, ABlk.row 33 (intRow IntKind.u64) S RowMd.plain), (3, ABlk.row 46
 pieceRow P RowMd.plain)])))))))))))))))))) (Q (AExit.exit 2) [(3, AVal.sl 1 0 5 0 ms.length none), (7, AVal.sl 2 0 1 0 S.length none), (8, AVal.sl 3 0 9 0 P.length none), (10, AVal.int IntKind.i64 (↑i
 : Int))] (AHeap.mk 4 [(0, ABlk.row 51 packRow hs RowMd.ro), (1, ABlk.row 51 packRow ms RowMd.plain), (2, ABlk.row 33 (intRow IntKind.u64) S RowMd.plain), (3, ABlk.row 46 pieceRow P RowMd.plain)]))) :=
 by kernel_rfl
set_option maxRecDepth 100000 in
theorem w_wh_end (hs ms : List PackR) (S : List Int) (P : List PieceR) (i : Int) (K : Out → Prop) : (wpC ((TWh ms).ctx Try.prog) 400 5 1 (seqR (tailN 7 whB)) (wh2 hs ms S P [(10, .int .i64 i)]).1 (wh2 hs ms S P [(10, .int .i64 i)]).2 (endA ((TWh ms).ctx Try.prog).P Try.f5 (fun o _ => K o))
) =  (K (Out.ret (AVal.bool true))) := by kernel_rfl
end Go.Proofs.Ytjacnjecggedhaa
namespace Go.Proofs.Ytjacnjecggedhaa
set_option linter.unusedVariables false
set_option linter.unusedSimpArgs false
open Go.RowKit Ev
def errP (p : PieceR) : Int := gErr p.st p.en p.id p.total p.typ p.k p.lb p.data p.sum
def encP (p : PieceR) : List UInt8 := gEnc p.st p.en p.id p.total p.typ p.k p.lb p.data p.sum
theorem u8_nat {n : Int} (h0 : 0 ≤ n) (h1 : n < 256) : ((UInt8.ofNat n.toNat).toNat : Int) = n := by
  rw [UInt8.toNat_ofNat']; omega
theorem by8_zero (x : UInt8) (r : List UInt8) : by8 (x :: r) 0 = (x.toNat : Int) := rfl
theorem by8_succ (x : UInt8) (r : List UInt8) (i : Nat) : by8 (x :: r) (i + 1) = by8 r i := rfl
theorem w16_zero (x y : UInt8) (r : List UInt8) : w16 (x :: y :: r) 0 = (x.toNat : Int) * 256 + (y.toNat : Int) := rfl
theorem w16_succ (x : UInt8) (r : List UInt8) (i : Nat) : w16 (x :: r) (i + 1) = w16 r i := rfl
theorem w16_two {n : Int} (h0 : 0 ≤ n) (h1 : n < 65536) (r : List UInt8) : w16 (UInt8.ofNat (n / 256 % 256).toNat :: UInt8.ofNat (n % 256).toNat :: r) 0 = n := by
  rw [w16_zero, u8_nat (by omega) (by omega), u8_nat (by omega) (by omega)]; omega
theorem parts_of {st en : Bool} {id total typ k : Int} {lb data sum : List UInt8} (hm : gMay st en id total typ k lb sum = true) (q : Int) (hq : st = true → q = k) :
    rOk st en q (gBody st en id total typ lb data sum) = true ∧ dPiece st en q (gBody st en id total typ lb data sum) = ⟨st, en, id, total, typ, k, lb, data, sum⟩ := by
  obtain ⟨z, hz⟩ : ∃ z : Nat, lSize k = (z : Int) := ⟨(lSize k).toNat, by have := lSize_nn k; omega⟩
  have hzn : (lSize k).toNat = z := by omega
  unfold gMay at hm
  simp only [Bool.and_eq_true, decide_eq_true_eq] at hm
  obtain ⟨⟨i0, i1, t0, t1, y0, y1⟩, hm⟩ := hm
  cases st <;> cases en
  · simp only [decide_eq_true_eq] at hm
    obtain ⟨rfl, rfl, rfl, rfl, rfl⟩ := hm
    have e : gBody false false id 0 0 [] data [] = UInt8.ofNat (id % 256).toNat :: data := by simp [gBody]
    rw [e]
    refine ⟨by simp [rOk, rC, rB, rA], ?_⟩
    unfold dPiece
    simp only [rId, rTotal, rTyp, rK, rLb, rData, rSum, rC, rB, rA, Bool.and_false, Bool.false_and, Bool.false_eq_true, if_false, Bool.not_false, Nat.add_zero, by8_zero]
    rw [u8_nat (by omega) (by omega), show id % 256 = id by omega]
    rfl
  · simp only [decide_eq_true_eq] at hm
    obtain ⟨rfl, rfl, rfl, rfl, hs⟩ := hm
    have e : gBody false true id 0 0 [] data sum = UInt8.ofNat (id % 256).toNat :: (data ++ sum) := by simp [gBody]
    rw [e]
    refine ⟨by simp [rOk, rC, rB, rA]; omega, ?_⟩
    unfold dPiece
    simp only [rId, rTotal, rTyp, rK, rLb, rData, rSum, rC, rB, rA, Bool.and_true, Bool.false_and, Bool.false_eq_true, if_false, if_true, Bool.not_false, Nat.add_zero, by8_zero, List.length_cons, List.length_append, hs, List.drop_succ_cons, List.drop_zero]
    rw [u8_nat (by omega) (by omega), show id % 256 = id by omega, show data.length + 4 + 1 - 5 = data.length by omega, show data.length + 4 + 1 - 4 = data.length + 1 by omega, List.drop_succ_cons, List.take_left, List.drop_left]
  · simp only [Bool.and_eq_true, decide_eq_true_eq, lOk] at hm
    obtain ⟨⟨k0, k1, hl⟩, rfl⟩ := hm
    have := hq rfl
    subst this
    have hlz : lb.length = z := by omega
    have e : gBody true false id total typ lb data [] = UInt8.ofNat (id % 256).toNat :: UInt8.ofNat (total / 256 % 256).toNat :: UInt8.ofNat (total % 256).toNat :: UInt8.ofNat (typ / 256 % 256).toNat :: UInt8.ofNat (typ % 256).toNat :: (lb ++ data) := by simp [gBody, two]
    rw [e]
    refine ⟨by simp [rOk, rC, rB, rA, hzn]; omega, ?_⟩
    unfold dPiece
    simp only [rId, rTotal, rTyp, rK, rLb, rData, rSum, rC, rB, rA, Bool.and_false, Bool.and_true, Bool.true_and, Bool.false_eq_true, if_false, if_true, Bool.not_false, Bool.not_true, by8_zero, hzn]
    rw [u8_nat (by omega) (by omega), show id % 256 = id by omega, w16_succ, w16_two t0 t1, show 1 + 2 = 2 + 1 by rfl, w16_succ, w16_succ, w16_succ, w16_two y0 y1, show 2 + 1 + 2 = 4 + 1 by rfl, show 2 + 1 + (2 + z) = z + 5 by omega]
    simp only [List.drop_succ_cons, List.drop_zero]
    rw [← hlz, List.take_left, List.drop_left]
  · simp only [Bool.and_eq_true, decide_eq_true_eq, lOk] at hm
    obtain ⟨⟨⟨rfl, rfl⟩, k0, k1, hl⟩, rfl⟩ := hm
    have := hq rfl
    subst this
    have hlz : lb.length = z := by omega
    have e : gBody true true 0 0 typ lb data [] = UInt8.ofNat (typ / 256 % 256).toNat :: UInt8.ofNat (typ % 256).toNat :: (lb ++ data) := by simp [gBody, two]
    rw [e]
    refine ⟨by simp [rOk, rC, rB, rA, hzn]; omega, ?_⟩
    unfold dPiece
    simp only [rId, rTotal, rTyp, rK, rLb, rData, rSum, rC, rB, rA, Bool.and_false, Bool.and_true, Bool.true_and, Bool.false_eq_true, if_false, if_true, Bool.not_false, Bool.not_true, hzn, Nat.zero_add, Nat.add_zero]
    rw [w16_two y0 y1, show 2 + z = z + 2 by omega]
    simp only [List.drop_succ_cons, List.drop_zero]
    rw [← hlz, List.take_left, List.drop_left]
theorem dec_enc {p : PieceR} (h : errP p = 0) (rest : List UInt8) : dec (encP p ++ rest) = ⟨p, (encP p).length, 0⟩ := by
  obtain ⟨st, en, id, total, typ, k, lb, data, sum⟩ := p
  unfold errP at h
  simp only at h
  obtain ⟨hm, hb, _⟩ := gErr_len h
  have hk := gMay_k hm
  have ee : encP ⟨st, en, id, total, typ, k, lb, data, sum⟩ = two (gHead st en k (gBody st en id total typ lb data sum).length) ++ gBody st en id total typ lb data sum := by
    unfold encP gEnc; simp only; rw [if_pos h]
  have hh : 4096 ≤ gHead st en k (gBody st en id total typ lb data sum).length ∧ gHead st en k (gBody st en id total typ lb data sum).length < 65536 := by
    unfold gHead; cases st <;> cases en <;> simp only [if_true, Bool.false_eq_true, if_false] <;> omega
  have parts := fun q hq => parts_of (data := data) hm q hq
  have e0 : ((encP ⟨st, en, id, total, typ, k, lb, data, sum⟩).length : Int) = 2 + ((gBody st en id total typ lb data sum).length : Int) := by
    rw [ee, List.length_append, show (two (gHead st en k (gBody st en id total typ lb data sum).length)).length = 2 from rfl]; omega
  rw [e0, ee]
  generalize hB : gBody st en id total typ lb data sum = B at *
  generalize hH : gHead st en k B.length = G at *
  have es : two G ++ B ++ rest = UInt8.ofNat (G / 256 % 256).toNat :: UInt8.ofNat (G % 256).toNat :: (B ++ rest) := by simp [two]
  rw [es]
  generalize hs : UInt8.ofNat (G / 256 % 256).toNat :: UInt8.ofNat (G % 256).toNat :: (B ++ rest) = s
  have w : w16 s 0 = G := by rw [← hs]; exact w16_two (by omega) hh.2 _
  have b : by8 s 0 = G / 256 := by rw [← hs, by8_zero, u8_nat (by omega) (by omega)]; omega
  have hl : s.length = 2 + (B.length + rest.length) := by rw [← hs]; simp only [List.length_cons, List.length_append]; omega
  have dl : dLen s = B.length := by
    unfold dLen
    rw [w, ← hH]
    unfold gHead
    cases st <;> cases en <;> simp only [if_true, Bool.false_eq_true, if_false] <;> omega
  have ds : dSt s = st := by
    unfold dSt
    rw [b, ← hH]
    unfold gHead
    cases st <;> cases en <;> simp only [if_true, Bool.false_eq_true, if_false, decide_eq_true_eq, decide_eq_false_iff_not] <;> omega
  have de : dEn s = en := by
    unfold dEn
    rw [b, ← hH]
    unfold gHead
    cases st <;> cases en <;> simp only [if_true, Bool.false_eq_true, if_false, decide_eq_true_eq, decide_eq_false_iff_not] <;> omega
  have dk : dKind s = if st then k else 3 := by
    unfold dKind
    rw [w, ← hH]
    unfold gHead
    cases st <;> cases en <;> simp only [if_true, Bool.false_eq_true, if_false] <;> omega
  have db : dBody s = B := by
    unfold dBody
    rw [dl, ← hs]
    simp only [List.drop_succ_cons, List.drop_zero, List.take_left]
  obtain ⟨p1, p2⟩ := parts (dKind s) (fun h => by rw [dk, h]; rfl)
  have hne : s ≠ [] := by rw [← hs]; simp
  rw [dec_good, ds, de, db, dl, p2]
  · rintro (h1 | h1)
    · exact hne h1
    · omega
  · rintro (h1 | h1 | h1 | h1)
    · omega
    · omega
    · rw [ds, dk] at h1
      obtain ⟨h1, h2⟩ := h1
      rw [h1] at h2
      exact h2 rfl
    · rw [ds, de, db, p1] at h1; cases h1
theorem encP_len {p : PieceR} (h : errP p = 0) : (encP p).length ≤ 4097 := by
  obtain ⟨_, hb, _⟩ := gErr_len h
  have h' : gErr p.st p.en p.id p.total p.typ p.k p.lb p.data p.sum = 0 := h
  unfold encP gEnc
  rw [if_pos h', List.length_append, show ∀ n, (two n).length = 2 from fun _ => rfl]
  omega
theorem all_back {rest : List UInt8} : ∀ G : List PieceR, (∀ p ∈ G, errP p = 0) → allP (G.flatMap encP ++ rest) = G ++ allP rest ∧ allE (G.flatMap encP ++ rest) = allE rest
  | [], _ => ⟨rfl, rfl⟩
  | p :: G, h => by
    obtain ⟨i1, i2⟩ := all_back (rest := rest) G (fun q hq => h q (List.mem_cons_of_mem _ hq))
    have e : (p :: G).flatMap encP ++ rest = encP p ++ (G.flatMap encP ++ rest) := by simp [List.flatMap_cons]
    have d := dec_enc (h p (List.mem_cons_self ..)) (G.flatMap encP ++ rest)
    rw [e]
    obtain ⟨a1, a2⟩ := all_0 (s := encP p ++ (G.flatMap encP ++ rest)) (by rw [d])
    rw [a1, a2, d]
    simp only [Int.toNat_natCast, List.drop_left]
    exact ⟨by rw [i1]; rfl, i2⟩
theorem all_zeros (n : Nat) : allP (repN n (0 : UInt8)) = [] ∧ allE (repN n (0 : UInt8)) = 0 := by
  refine all_5 ?_
  rw [dec_bad5]
  rw [repN_eq]
  cases n with
  | zero => exact .inl rfl
  | succ n => exact .inr (by decide : (0 : Int) < 16)
theorem all_tail : allP [16] = [] ∧ allE [16] = 4 := by
  have d : dec [16] = ⟨zeroP, 0, 4⟩ := by
    refine dec_bad4 ?_ (.inl (by decide))
    rintro (h | h)
    · cases h
    · exact absurd h (by decide)
  obtain ⟨a1, a2⟩ := all_4 (s := [16]) (by rw [d]; decide) (by rw [d]; decide)
  rw [d] at a2
  exact ⟨a1, a2⟩
end Go.Proofs.Ytjacnjecggedhaa
namespace Go.Proofs.Ytjacnjecggedhaa
set_option linter.unusedVariables false
set_option linter.unusedSimpArgs false
open Go.RowKit Ev
def pieceOf (R : NextR) : PieceR := ⟨R.st, R.en, R.id, R.total, R.typ, R.k, R.lb, R.data, R.sum⟩
theorem next_facts {typ k : Int} {b data : List UInt8} {at_ id lk : Int} {lb : List UInt8} {space : Int} {whole : Bool} {R : NextR} (h : nextR typ k b data at_ id lk lb space whole = R) (he : R.err = 0) :
    0 ≤ at_ ∧ at_ < (data.length : Int) ∧ (R.data.length : Int) + at_ = R.at2 ∧ R.at2 ≤ (data.length : Int) ∧ (data.drop at_.toNat).take R.data.length = R.data ∧ (R.st = true → R.typ = typ) ∧ (R.st = true → R.en = false → whole = false) ∧ (R.en = true → R.at2 = (data.length : Int)) := by
  unfold nextR at h
  split at h
  · subst h; cases he
  rename_i hn
  have hn : nOk typ k b data at_ id lk lb = true := by simpa using hn
  unfold nOk at hn
  simp only [Bool.and_eq_true] at hn
  obtain ⟨_, _, _, h0, h1, _⟩ := cMay_iff.1 hn.1.1
  split at h
  · rename_i hz
    subst hz
    split at h
    · subst h
      refine ⟨h0, h1, by simp, by simp, by simp, by simp, by simp, by simp⟩
    split at h
    · subst h; cases he
    · rename_i hc
      simp only [not_or, Int.not_lt] at hc
      obtain ⟨hw, hm⟩ := hc
      generalize hmm : min (max 0 (min space 4097) - 7 - lSize lk) ((data.length : Int) - 1) = m at h hm
      have hm2 : m ≤ (data.length : Int) - 1 := by omega
      subst h
      have e : (data.take m.toNat).length = m.toNat := by rw [List.length_take]; omega
      refine ⟨h0, h1, ?_, ?_, ?_, fun _ => rfl, fun _ _ => ?_, fun h => by cases h⟩
      · show ((data.take m.toNat).length : Int) + 0 = m
        rw [e]; omega
      · show m ≤ _
        omega
      · show (data.drop (0 : Int).toNat).take (data.take m.toNat).length = data.take m.toNat
        rw [e]; rfl
      · simpa using hw
  · split at h
    · subst h
      have e : (data.drop at_.toNat).length = data.length - at_.toNat := List.length_drop
      refine ⟨h0, h1, ?_, Int.le_refl _, ?_, fun h => (by cases h), fun h => (by cases h), fun _ => rfl⟩
      · show ((data.drop at_.toNat).length : Int) + at_ = (data.length : Int)
        rw [e]; omega
      · show (data.drop at_.toNat).take (data.drop at_.toNat).length = _
        rw [List.take_length]
    split at h
    · subst h; cases he
    · rename_i hz hl hc
      generalize hmm : min (max 0 (min space 4097) - 3) ((data.length : Int) - at_ - 1) = m at h hc
      have hm2 : m ≤ (data.length : Int) - at_ - 1 := by omega
      subst h
      have e : ((data.take (at_ + m).toNat).drop at_.toNat).length = m.toNat := by
        rw [List.length_drop, List.length_take]; omega
      refine ⟨h0, h1, ?_, ?_, ?_, fun h => (by cases h), fun h => (by cases h), fun h => (by cases h)⟩
      · show (((data.take (at_ + m).toNat).drop at_.toNat).length : Int) + at_ = at_ + m
        rw [e]; omega
      · show at_ + m ≤ _
        omega
      · show (data.drop at_.toNat).take ((data.take (at_ + m).toNat).drop at_.toNat).length = (data.take (at_ + m).toNat).drop at_.toNat
        rw [e, List.drop_take, show (at_ + m).toNat - at_.toNat = m.toNat by omega]
def VV (cs : List CutR) : Nat → Int → Bool → List PieceR → Nat → Prop
  | a, _, _, [], z => a = z
  | a, pos, beg, p :: P, z => a < cs.length ∧ 0 ≤ pos ∧ (p.data.length : Int) + pos ≤ ((cs.getD a noCut).data.length : Int) ∧ ((cs.getD a noCut).data.drop pos.toNat).take p.data.length = p.data ∧
    (p.st = true → p.typ = (cs.getD a noCut).typ) ∧ (p.st = true → p.en = false → beg = false) ∧
    (p.en = true → (p.data.length : Int) + pos = ((cs.getD a noCut).data.length : Int) ∧ VV cs (a + 1) (cs.getD (a + 1) noCut).pos beg P z) ∧
    (p.en = false → VV cs a ((p.data.length : Int) + pos) (beg || p.st) P z)
theorem step_facts {sp : Int} {F : FSt} {c : CutR} (hok : OkR sp F (stepR sp F c)) :
    0 ≤ c.pos ∧ c.pos < (c.data.length : Int) ∧ ((stepR sp F c).data.length : Int) + c.pos = (stepR sp F c).at2 ∧ (stepR sp F c).at2 ≤ (c.data.length : Int) ∧ (c.data.drop c.pos.toNat).take (stepR sp F c).data.length = (stepR sp F c).data ∧
    ((stepR sp F c).st = true → (stepR sp F c).typ = c.typ) ∧ ((stepR sp F c).st = true → (stepR sp F c).en = false → F.beg = false) ∧ ((stepR sp F c).en = true → (stepR sp F c).at2 = (c.data.length : Int)) :=
  next_facts (rfl : nextR c.typ c.k c.lb c.data c.pos c.id (labOf F c).1 (labOf F c).2 (sp - (F.L.length : Int)) F.beg = stepR sp F c) hok.err
structure Byt (sp : Int) (L : List UInt8) (l : List NextR) (L' : List UInt8) : Prop where
  eq : L' = L ++ (l.map pieceOf).flatMap encP
  ok : ∀ p ∈ l.map pieceOf, errP p = 0
  len : (L.length : Int) ≤ sp → (L'.length : Int) ≤ sp
theorem Byt.nil (sp : Int) {L L' : List UInt8} (h : L' = L) : Byt sp L [] L' := ⟨by rw [h]; simp, by simp, by rw [h]; exact id⟩
theorem Byt.cons {sp : Int} {F : FSt} {c : CutR} (hok : OkR sp F (stepR sp F c)) {l : List NextR} {L' : List UInt8} (h : Byt sp (stepF F c (stepR sp F c)).L l L') : Byt sp F.L (stepR sp F c :: l) L' := by
  obtain ⟨h1, h2, h3⟩ := h
  refine ⟨?_, ?_, fun _ => h3 ?_⟩
  · rw [h1]
    show (F.L ++ encR (stepR sp F c)) ++ _ = F.L ++ (encP (pieceOf (stepR sp F c)) ++ _)
    rw [List.append_assoc]; rfl
  · intro p hp
    rcases List.mem_cons.1 hp with rfl | hp
    · exact hok.enc
    · exact h2 p hp
  · have := hok.len
    show ((F.L ++ encR (stepR sp F c)).length : Int) ≤ sp
    rw [List.length_append]; omega
theorem Byt.append {sp : Int} {L L1 L2 : List UInt8} {l1 l2 : List NextR} (h1 : Byt sp L l1 L1) (h2 : Byt sp L1 l2 L2) : Byt sp L (l1 ++ l2) L2 := by
  refine ⟨?_, ?_, fun h => h2.len (h1.len h)⟩
  · rw [h2.eq, h1.eq, List.map_append, List.flatMap_append, List.append_assoc]
  · intro p hp
    rw [List.map_append] at hp
    rcases List.mem_append.1 hp with hp | hp
    · exact h1.ok p hp
    · exact h2.ok p hp
theorem pack_V {sp : Int} (cs : List CutR) (a : Nat) (ha : a < cs.length) {F : FSt} {c : CutR} {l : List NextR} {F' : FSt} {c' : CutR} {b : Bool} (h : PackRun sp F c l F' c' b) :
    c.typ = (cs.getD a noCut).typ → c.data = (cs.getD a noCut).data →
    Byt sp F.L l F'.L ∧ (b = false → VV cs a c.pos F.beg (l.map pieceOf) a) ∧ (b = true → ∀ P z, VV cs (a + 1) (cs.getD (a + 1) noCut).pos F'.beg P z → VV cs a c.pos F.beg (l.map pieceOf ++ P) z) := by
  induction h with
  | fail hn hL => exact fun _ _ => ⟨Byt.nil sp hL, fun _ => rfl, fun h => by cases h⟩
  | @last F c hok he =>
    intro ht hd
    obtain ⟨f0, f1, f2, f3, f4, f5, f6, f7⟩ := step_facts hok
    refine ⟨Byt.cons hok (Byt.nil sp rfl), fun h => (by cases h), fun _ P z hz => ?_⟩
    have hb : (stepF F c (stepR sp F c)).beg = F.beg := by
      show (F.beg || ((stepR sp F c).st && !(stepR sp F c).en)) = F.beg
      rw [he]; simp
    rw [hb] at hz
    refine ⟨ha, f0, ?_, ?_, ?_, f6, fun _ => ⟨?_, hz⟩, fun h => ?_⟩
    · rw [← hd]; show ((stepR sp F c).data.length : Int) + c.pos ≤ _; omega
    · rw [← hd]; exact f4
    · rw [← ht]; exact f5
    · rw [← hd]; have := f7 he; show ((stepR sp F c).data.length : Int) + c.pos = _; omega
    · have h : (stepR sp F c).en = false := h
      rw [he] at h; cases h
  | @more F c l F' c' b hok he hr ih =>
    intro ht hd
    obtain ⟨f0, f1, f2, f3, f4, f5, f6, f7⟩ := step_facts hok
    obtain ⟨i1, i2, i3⟩ := ih ht hd
    have hb : (stepF F c (stepR sp F c)).beg = (F.beg || (stepR sp F c).st) := by
      show (F.beg || ((stepR sp F c).st && !(stepR sp F c).en)) = _
      rw [he]; simp
    have hp : (stepC c (stepR sp F c)).pos = ((stepR sp F c).data.length : Int) + c.pos := f2.symm
    rw [hb, hp] at i2 i3
    have base : ∀ P z, VV cs a (((stepR sp F c).data.length : Int) + c.pos) (F.beg || (stepR sp F c).st) P z → VV cs a c.pos F.beg (pieceOf (stepR sp F c) :: P) z := by
      intro P z hz
      refine ⟨ha, f0, ?_, ?_, ?_, f6, fun h => ?_, fun _ => hz⟩
      · rw [← hd]; show ((stepR sp F c).data.length : Int) + c.pos ≤ _; omega
      · rw [← hd]; exact f4
      · rw [← ht]; exact f5
      · have h : (stepR sp F c).en = true := h
        rw [he] at h; cases h
    exact ⟨Byt.cons hok i1, fun hb => base _ _ (i2 hb), fun hb P z hz => base _ _ (i3 hb P z hz)⟩
def dsA (n a : Nat) : List BoolR := List.replicate a ⟨true⟩ ++ List.replicate (n - a) ⟨false⟩
def upto (a : Nat) : List Int := (List.range a).map fun (j : Nat) => (j : Int) + 1
theorem dsA_get {n a j : Nat} (hj : j < n) : ((dsA n a).getD j ⟨false⟩).b = decide (j < a) := by
  unfold dsA
  rw [List.getD_eq_getElem?_getD, List.getElem?_append]
  by_cases h : j < a
  · rw [if_pos (by simpa using h), List.getElem?_replicate, if_pos h]; simp [h]
  · rw [if_neg (by simpa using h), List.getElem?_replicate]
    split <;> simp [h]
theorem dsA_length {n a : Nat} (h : a ≤ n) : (dsA n a).length = n := by unfold dsA; simp; omega
theorem moreR_A {n a : Nat} (ha : a ≤ n) : ∀ m i, i + m = n → i ≤ a → moreR (dsA n a) 0 m i = if a < n then some a else none
  | 0, i, h, hi => by
    rw [if_neg (by omega)]; rfl
  | m + 1, i, h, hi => by
    unfold moreR
    rw [dsA_get (by omega)]
    by_cases hia : i = a
    · subst hia
      rw [if_pos ⟨by simp, .inl rfl⟩, if_pos (by omega)]
    · rw [if_neg (by rintro ⟨h1, _⟩; have := of_decide_eq_false h1; omega)]
      exact moreR_A ha m (i + 1) (by omega) (by omega)
theorem moreM_A {n a : Nat} (ha : a ≤ n) : moreM (dsA n a) 0 = if a < n then some a else none := by
  unfold moreM
  exact moreR_A ha _ 0 (by rw [dsA_length ha]; omega) (Nat.zero_le _)
theorem dsA_set {n a : Nat} (ha : a < n) : (dsA n a).set a ⟨true⟩ = dsA n (a + 1) := by
  unfold dsA
  rw [List.set_append_right _ _ (by simp), show n - a = (n - (a + 1)) + 1 by omega, List.replicate_succ]
  simp [List.replicate_succ']
theorem run_V {sp : Int} (cs0 : List CutR) {F : FSt} {cs : List CutR} {ds : List BoolR} {fv : Int} {S : List Int} {l : List NextR} {L : List UInt8} {S' : List Int} (h : FillRun sp F cs ds fv S l L S') :
    ∀ a, a ≤ cs0.length → fv = 0 → ds = dsA cs0.length a → (∀ j, a ≤ j → cs.getD j noCut = cs0.getD j noCut) → cs.length = cs0.length → S = upto a →
    ∃ z, VV cs0 a (cs0.getD a noCut).pos F.beg (l.map pieceOf) z ∧ S' = upto z ∧ Byt sp F.L l L := by
  induction h with
  | @done F cs ds fv S hm => exact fun a ha _ hds _ _ hS => ⟨a, rfl, hS, Byt.nil sp rfl⟩
  | @stop F cs ds fv S i l F' c' hm hp =>
    intro a ha hfv hds hcs hlen hS
    subst hfv hds
    rw [moreM_A ha] at hm
    split at hm <;> cases hm
    rename_i han
    have e := hcs i (Nat.le_refl _)
    rw [e] at hp
    obtain ⟨p1, p2, _⟩ := pack_V cs0 i han hp rfl rfl
    exact ⟨i, p2 rfl, hS, p1⟩
  | @pack F cs ds fv S i l l2 F' c' L S' hm hp hr ih =>
    intro a ha hfv hds hcs hlen hS
    subst hfv hds
    rw [moreM_A ha] at hm
    split at hm <;> cases hm
    rename_i han
    have e := hcs i (Nat.le_refl _)
    rw [e] at hp
    obtain ⟨p1, _, p3⟩ := pack_V cs0 i han hp rfl rfl
    obtain ⟨z, z1, z2, z3⟩ := ih (i + 1) han rfl (dsA_set han) (fun j hj => by
      rw [List.getD_eq_getElem?_getD, List.getElem?_set_ne (by omega), ← List.getD_eq_getElem?_getD]
      exact hcs j (by omega)) (by rw [List.length_set]; exact hlen) (by
      rw [hS]; unfold upto; rw [List.range_succ, List.map_append]; rfl)
    refine ⟨z, ?_, z2, p1.append z3⟩
    rw [List.map_append]
    exact p3 rfl _ _ z1
theorem enc_count : ∀ G : List PieceR, (∀ p ∈ G, errP p = 0) → 2 * G.length ≤ (G.flatMap encP).length
  | [], _ => by simp
  | p :: G, h => by
    have ih := enc_count G (fun q hq => h q (List.mem_cons_of_mem _ hq))
    have h2 : 2 ≤ (encP p).length := by
      have he : gErr p.st p.en p.id p.total p.typ p.k p.lb p.data p.sum = 0 := h p (List.mem_cons_self ..)
      unfold encP gEnc
      rw [if_pos he]
      simp [two]
    rw [List.flatMap_cons, List.length_append, List.length_cons]
    omega
theorem fits_math {cs : List CutR} {sp : Int} {l : List NextR} {L : List UInt8} {S : List Int} (h0 : 0 ≤ sp) (h : FillOut cs (dsN cs.length) 0 sp l L S) :
    (L.length : Int) ≤ sp ∧ ((allP L).length : Int) ≤ sp ∧ allE L = 0 ∧ ∃ z, VV cs 0 (cs.getD 0 noCut).pos false (allP L) z ∧ S = upto z := by
  rcases h with ⟨_, rfl, rfl, rfl⟩ | ⟨h1, h⟩
  · exact ⟨by simpa using h0, by simpa [show allP [] = [] by decide] using h0, by decide, 0, rfl, rfl⟩
  · obtain ⟨z, z1, z2, z3⟩ := run_V cs h 0 (Nat.zero_le _) rfl (by unfold dsN dsA; simp) (fun _ _ => rfl) rfl rfl
    have hL : L = ((l.map pieceOf).flatMap encP) ++ [] := by rw [z3.eq]; simp [F0]
    obtain ⟨b1, b2⟩ := all_back (rest := []) (l.map pieceOf) z3.ok
    rw [← hL] at b1 b2
    have p0 : allP [] = [] := by decide
    have e0 : allE [] = 0 := by decide
    rw [p0, List.append_nil] at b1
    rw [e0] at b2
    have hc := enc_count _ z3.ok
    have hlen := z3.len (by show ((0 : Nat) : Int) ≤ sp; omega)
    have hLl : L.length = ((l.map pieceOf).flatMap encP).length := by rw [z3.eq]; simp [F0]
    exact ⟨hlen, by rw [b1]; omega, b2, z, by rw [b1]; exact z1, z2⟩
theorem cut_small {hs : List PackR} (hp : pOk hs) (n : Nat) (hn : n ≤ hs.length) : ∀ j, CSm ((ofN hs n).getD j noCut) ∧ ((ofN hs n).getD j noCut).data.length ≤ 5300 := by
  intro j
  unfold ofN
  by_cases hj : j < n
  · rw [List.getD_eq_getElem?_getD, List.getElem?_map, List.getElem?_range hj]
    have hx := getD_ok hp (i := j) (by omega)
    have hd := (ofD_length hx).2
    have hl : (cutOf j (hs.getD j noPack)).lb.length ≤ 20 := by
      show (List.getD [[97, 98, 99], [97, 98, 99, 100, 101, 102], [120, 121, 122]] _ []).length ≤ 20
      obtain ⟨q, hq⟩ : ∃ q, ((hs.getD j noPack).lab % 3).toNat = q := ⟨_, rfl⟩
      rw [hq]
      match q with
      | 0 => decide
      | 1 => decide
      | 2 => decide
      | q + 3 => simp
    exact ⟨⟨hd, hl⟩, hd⟩
  · rw [List.getD_eq_getElem?_getD, List.getElem?_eq_none (by simp; omega)]
    exact ⟨⟨by simp [noCut], by simp [noCut]⟩, by simp [noCut]⟩
end Go.Proofs.Ytjacnjecggedhaa
namespace Go.Proofs.Ytjacnjecggedhaa
set_option linter.unusedVariables false
set_option linter.unusedSimpArgs false
open Go.RowKit Ev
structure CW (c : CutR) : Prop where
  t0 : 0 ≤ c.typ
  t1 : c.typ ≤ 65535
  lab : lOk c.k c.lb = true
  pos : c.pos = 0
  d0 : 1 ≤ c.data.length
  d1 : c.data.length ≤ 200
  i0 : 0 ≤ c.id
  i1 : c.id < 256
theorem lab_ok {F : FSt} {c : CutR} (h : CW c) : lOk (labOf F c).1 (labOf F c).2 = true ∧ ((labOf F c).1 = c.k ∧ (labOf F c).2 = c.lb ∨ (labOf F c).1 = 3) := by
  unfold labOf memL
  rw [if_pos h.pos]
  split
  · exact ⟨by decide, .inr rfl⟩
  · exact ⟨h.lab, .inl ⟨rfl, rfl⟩⟩
theorem lOk_len {k : Int} {lb : List UInt8} (h : lOk k lb = true) : (lb.length : Int) = lSize k ∧ lSize k ≤ 6 := by
  have := lSize_le k
  unfold lOk at h
  simp at h
  omega
theorem whole_step {F : FSt} {c : CutR} (h : CW c) (hL : F.L.length + 210 ≤ 1680) :
    OkR 1680 F (stepR 1680 F c) ∧ (stepR 1680 F c).st = true ∧ (stepR 1680 F c).en = true ∧ (stepR 1680 F c).data = c.data ∧ (encR (stepR 1680 F c)).length ≤ 210 := by
  obtain ⟨l1, l2⟩ := lab_ok (F := F) h
  obtain ⟨z1, z2⟩ := lOk_len l1
  generalize hlk : (labOf F c).1 = lk at *
  generalize hlb : (labOf F c).2 = lb at *
  have d0 := h.d0
  have d1 := h.d1
  have hn : nOk c.typ c.k c.lb c.data c.pos c.id lk lb = true := by
    unfold nOk
    rw [cMay_iff.2 ⟨h.t0, h.t1, h.lab, by rw [h.pos]; decide, by rw [h.pos]; omega, by omega, h.i0, h.i1⟩, l1]
    rcases l2 with ⟨rfl, rfl⟩ | rfl <;> simp
  have e : stepR 1680 F c = ⟨true, true, 0, 0, c.typ, lk, lb, c.data, [], c.k, c.lb, (c.data.length : Int), 0⟩ := by
    unfold stepR nextR
    rw [hlk, hlb, if_neg (by rw [hn]; simp), if_pos h.pos, if_pos (by omega)]
  rw [e]
  have hb : (gBody true true 0 0 c.typ lb c.data []).length = 2 + (lb.length + c.data.length) := by simp [gBody, two]; omega
  have hm : gMay true true 0 0 c.typ lk lb [] = true := by
    have t0 := h.t0
    have t1 := h.t1
    unfold gMay
    simp [l1]
    omega
  have he : gErr true true 0 0 c.typ lk lb c.data [] = 0 := by
    unfold gErr
    rw [if_neg (by rw [hm]; simp), if_neg (by rw [hb]; omega)]
  have hl : (gEnc true true 0 0 c.typ lk lb c.data []).length = 2 + (2 + (lb.length + c.data.length)) := by
    unfold gEnc
    rw [if_pos he, List.length_append, two_length, hb]
  refine ⟨⟨rfl, he, ?_⟩, rfl, rfl, rfl, ?_⟩
  · show ((gEnc true true 0 0 c.typ lk lb c.data []).length : Int) ≤ 1680 - (F.L.length : Int)
    omega
  · show (gEnc true true 0 0 c.typ lk lb c.data []).length ≤ 210
    omega
theorem whole_pack {F : FSt} {c : CutR} (h : CW c) (hL : F.L.length + 210 ≤ 1680) {l : List NextR} {F' : FSt} {c' : CutR} {b : Bool} (hp : PackRun 1680 F c l F' c' b) :
    b = true ∧ F'.L.length ≤ F.L.length + 210 ∧ ∃ R, l = [R] ∧ R.st = true ∧ R.en = true ∧ R.data = c.data := by
  obtain ⟨w1, w2, w3, w4, w5⟩ := whole_step (F := F) h hL
  cases hp with
  | fail hn _ => exact absurd w1 hn
  | last hok he =>
    refine ⟨rfl, ?_, _, rfl, w2, w3, w4⟩
    show (F.L ++ encR (stepR 1680 F c)).length ≤ _
    rw [List.length_append]; omega
  | more hok he _ => rw [w3] at he; cases he
theorem whole_run (cs0 : List CutR) (hc : ∀ j, j < cs0.length → CW (cs0.getD j noCut)) (h8 : cs0.length ≤ 8) {F : FSt} {cs : List CutR} {ds : List BoolR} {fv : Int} {S : List Int} {l : List NextR} {L : List UInt8} {S' : List Int} {sp : Int} (hsp : sp = 1680) (h : FillRun sp F cs ds fv S l L S') :
    ∀ a, a ≤ cs0.length → fv = 0 → ds = dsA cs0.length a → (∀ j, a ≤ j → cs.getD j noCut = cs0.getD j noCut) → cs.length = cs0.length → S = upto a → F.L.length ≤ 210 * a →
    S' = upto cs0.length ∧ l.length = cs0.length - a ∧ ∀ j, j < cs0.length - a → ((l.map pieceOf).getD j noPiece).st = true ∧ ((l.map pieceOf).getD j noPiece).en = true ∧ ((l.map pieceOf).getD j noPiece).data = (cs0.getD (a + j) noCut).data := by
  subst hsp
  induction h with
  | @done F cs ds fv S hm =>
    intro a ha hfv hds hcs hlen hS hL
    subst hfv hds
    rw [moreM_A ha] at hm
    split at hm <;> cases hm
    have : a = cs0.length := by omega
    subst this
    exact ⟨hS, by simp, fun j hj => by omega⟩
  | @stop F cs ds fv S i l F' c' hm hp =>
    intro a ha hfv hds hcs hlen hS hL
    subst hfv hds
    rw [moreM_A ha] at hm
    split at hm <;> cases hm
    rename_i han
    rw [hcs i (Nat.le_refl _)] at hp
    obtain ⟨hb, _⟩ := whole_pack (hc i han) (by omega) hp
    cases hb
  | @pack F cs ds fv S i l l2 F' c' L S' hm hp hr ih =>
    intro a ha hfv hds hcs hlen hS hL
    subst hfv hds
    rw [moreM_A ha] at hm
    split at hm <;> cases hm
    rename_i han
    rw [hcs i (Nat.le_refl _)] at hp
    obtain ⟨_, hL', R, rfl, r1, r2, r3⟩ := whole_pack (hc i han) (by omega) hp
    obtain ⟨z1, z2, z3⟩ := ih (i + 1) han rfl (dsA_set han) (fun j hj => by
      rw [List.getD_eq_getElem?_getD, List.getElem?_set_ne (by omega), ← List.getD_eq_getElem?_getD]
      exact hcs j (by omega)) (by rw [List.length_set]; exact hlen) (by
      rw [hS]; unfold upto; rw [List.range_succ, List.map_append]; rfl) (by omega)
    refine ⟨z1, by simp; omega, fun j hj => ?_⟩
    cases j with
    | zero => exact ⟨r1, r2, r3⟩
    | succ j =>
      have := z3 j (by omega)
      rw [show i + 1 + j = i + (j + 1) by omega] at this
      exact this
theorem whole_math {cs : List CutR} {l : List NextR} {L : List UInt8} {S : List Int} (hc : ∀ j, j < cs.length → CW (cs.getD j noCut)) (h8 : cs.length ≤ 8) (h : FillOut cs (dsN cs.length) 0 1680 l L S) :
    L.length ≤ 1680 ∧ allE L = 0 ∧ S = upto cs.length ∧ (allP L).length = cs.length ∧ ∀ j, j < cs.length → ((allP L).getD j noPiece).st = true ∧ ((allP L).getD j noPiece).en = true ∧ ((allP L).getD j noPiece).data = (cs.getD j noCut).data := by
  rcases h with ⟨h, _⟩ | ⟨h1, h⟩
  · omega
  · have hd : dsN cs.length = dsA cs.length 0 := by unfold dsN dsA; simp
    obtain ⟨z, z1, z2, z3⟩ := run_V cs h 0 (Nat.zero_le _) rfl hd (fun _ _ => rfl) rfl rfl
    obtain ⟨w1, w2, w3⟩ := whole_run cs hc h8 rfl h 0 (Nat.zero_le _) rfl hd (fun _ _ => rfl) rfl rfl (Nat.le_refl _)
    have hL : L = ((l.map pieceOf).flatMap encP) ++ [] := by rw [z3.eq]; simp [F0]
    obtain ⟨b1, b2⟩ := all_back (rest := []) (l.map pieceOf) z3.ok
    rw [← hL] at b1 b2
    have p0 : allP [] = [] := by decide
    have e0 : allE [] = 0 := by decide
    rw [p0, List.append_nil] at b1
    rw [e0] at b2
    have hlen := z3.len (by show ((0 : Nat) : Int) ≤ 1680; omega)
    refine ⟨by omega, b2, w1, by rw [b1, List.length_map, w2]; rfl, fun j hj => ?_⟩
    rw [b1]
    have := w3 j (by omega)
    rw [Nat.zero_add] at this
    exact this
theorem wh_cut {hs : List PackR} (hp : pOk hs) {n : Nat} (hn : n ≤ hs.length) (h8 : n ≤ 8) : ∀ j, j < n → CW ((ofN (wN hs n) n).getD j noCut) ∧ ((ofN (wN hs n) n).getD j noCut).data = (wOf (hs.getD j noPack)).data ++ [0] := by
  intro j hj
  have hx := getD_ok hp (i := j) (by omega)
  have e1 : (wN hs n).getD j noPack = wOf (hs.getD j noPack) := by
    unfold wN
    rw [List.getD_eq_getElem?_getD, List.getElem?_map, List.getElem?_range hj]; rfl
  have e2 : (ofN (wN hs n) n).getD j noCut = cutOf (j : Int) (wOf (hs.getD j noPack)) := by
    unfold ofN
    rw [List.getD_eq_getElem?_getD, List.getElem?_map, List.getElem?_range hj, ← e1]; rfl
  rw [e2]
  generalize hs.getD j noPack = x at hx
  have hl : (wOf x).data.length ≤ 199 := by
    show (List.take _ x.data).length ≤ 199
    rw [List.length_take]; omega
  have hd : ofD (wOf x) = (wOf x).data ++ [0] := by
    unfold ofD
    have h1 : (1 + (wOf x).zeros % 5000).toNat = 1 := by show (1 + (0 : Int) % 5000).toNat = 1; decide
    have h2 : repN 1 (0 : UInt8) = [0] := by rw [repN_eq]; rfl
    rw [h1, h2, List.take_of_length_le (by omega)]
    rfl
  have hk : lOk ([1, 0, 1].getD ((wOf x).lab % 3).toNat 0) ([[97, 98, 99], [97, 98, 99, 100, 101, 102], [120, 121, 122]].getD ((wOf x).lab % 3).toNat []) = true := by
    have : ((wOf x).lab % 3).toNat < 3 := by omega
    obtain ⟨q, hq⟩ : ∃ q, ((wOf x).lab % 3).toNat = q := ⟨_, rfl⟩
    rw [hq] at this ⊢
    match q with
    | 0 => decide
    | 1 => decide
    | 2 => decide
    | q + 3 => omega
  have c0 := hx.c0
  refine ⟨⟨?_, ?_, hk, ?_, ?_, ?_, ?_, ?_⟩, hd⟩
  · show 0 ≤ 2048 + x.cls % 3; omega
  · show 2048 + x.cls % 3 ≤ 65535; omega
  · show (if (wOf x).pos % 4 = 0 then (wOf x).pos % ((ofD (wOf x)).length : Int) else (0 : Int)) = 0
    rw [if_neg (by show ¬ (1 : Int) % 4 = 0; decide)]
  · show 1 ≤ (ofD (wOf x)).length
    rw [hd]; simp
  · show (ofD (wOf x)).length ≤ 200
    rw [hd, List.length_append]; simp only [List.length_cons, List.length_nil]; omega
  · show (0 : Int) ≤ (j : Int); omega
  · show (j : Int) < 256; omega
end Go.Proofs.Ytjacnjecggedhaa
namespace Go.Proofs.Ytjacnjecggedhaa
set_option linter.unusedVariables false
set_option linter.unusedSimpArgs false
open Go.RowKit Ev
noncomputable abbrev whQ (ms : List PackR) : AExit → Env → AHeap → Prop := endA ((TWh ms).ctx Try.prog).P Try.f5 (fun o _ => o = .ret (.bool true))
abbrev WGd (hs ms : List PackR) (c : Code) (Q : AExit → Env → AHeap → Prop) (E : Env) (H : AHeap) : Prop := Gd ((TWh ms).ctx Try.prog) 5 ⟨1, [(0, pRow hs .ro)]⟩ c Q E H
theorem whT_eq : tailN 3 whB = .seq (.seq (seqL (seqL (tailN 3 whB))) (.block 0 (.loop whR0))) (seqR (tailN 3 whB)) := by kernel_rfl
theorem whT2_eq : tailN 3 (seqR (tailN 3 whB)) = .seq (.seq (seqL (seqL (tailN 7 whB))) (.block 2 (.loop whR2))) (seqR (tailN 7 whB)) := by kernel_rfl
theorem wIn (ms : List PackR) (p : List Bool) : InFn ((TWh ms).ctx Try.prog) 5 (codeAt p whB) :=
  inFn_at (TWhok ms).ctx (fn := Try.f5) (by kernel_rfl) (by kernel_rfl) p
theorem wN_succ (hs : List PackR) (n : Nat) : wN hs (n + 1) = wN hs n ++ [wOf (hs.getD n noPack)] := by
  unfold wN; rw [List.range_succ, List.map_append]; rfl
theorem wN_length (hs : List PackR) (n : Nat) : (wN hs n).length = n := by unfold wN; simp
def whI (hs : List PackR) (m : Nat) (E : Env) (H : AHeap) : Prop := ∃ i : Nat, i ≤ hs.length ∧ i ≤ 8 ∧ m = 8 - i ∧
  ((i = 0 ∧ E = (wh0 hs (i : Int)).1 ∧ H = (wh0 hs (i : Int)).2) ∨ (1 ≤ i ∧ E = (wh1 hs (wN hs i) (i : Int)).1 ∧ H = (wh1 hs (wN hs i) (i : Int)).2))
def whF (hs : List PackR) : AExit → Env → AHeap → Prop := fun x E H => match x with
  | .exit 0 => E = (wh1 hs (wN hs (min hs.length 8)) ((min hs.length 8 : Nat) : Int)).1 ∧ H = (wh1 hs (wN hs (min hs.length 8)) ((min hs.length 8 : Nat) : Int)).2
  | _ => False
set_option maxRecDepth 100000 in
theorem wh_loop (hs ms : List PackR) (hne : hs.length ≠ 0) : ∀ m E H, whI hs m E H → WGd hs ms (.loop whR0) (whF hs) E H := by
  refine Gd.loop (whI hs) (fun m E H hI => ?_)
  obtain ⟨i, hi, hi8, hm, h⟩ := hI
  have idx : 0 + (i : Int).toNat = i := by omega
  rcases h with ⟨hz, rfl, rfl⟩ | ⟨h1, rfl, rfl⟩
  · refine Gd.walkC (TWhok ms).ctx 1 tsW (Nat.le_refl _) (wIn ms [true, true, true, false, true, false, false]) (Eq.mpr (w_wh_r0 hs ms i _) ?_)
    rw [idx]
    refine br_dec (fun hl => br_dec (fun hl2 => ?_) (fun hl2 => absurd hl2 (by omega))) (fun hl => absurd hl (by omega))
    have leaf : ∀ c, c = wOf (hs.getD i noPack) → ∃ m', m' < m ∧ whI hs m' (wh1 hs [c] ((i : Int) + 1)).1 (wh1 hs [c] ((i : Int) + 1)).2 := by
      rintro c rfl
      refine ⟨8 - (i + 1), by omega, i + 1, by omega, by omega, rfl, .inr ⟨by omega, ?_, ?_⟩⟩ <;> rw [wN_succ] <;> subst hz <;> rfl
    (repeat (first | refine obl_dec (by omega) ?_ | refine obl_int (by omega) ?_))
    exact leaf _ rfl
  · refine Gd.walkC (TWhok ms).ctx 1 tsW (Nat.le_refl _) (wIn ms [true, true, true, false, true, false, false]) (Eq.mpr (w_wh_r1 hs ms (wN hs i) i _) ?_)
    rw [idx]
    have ex : i = min hs.length 8 → (wh1 hs (wN hs i) (i : Int)).1 = (wh1 hs (wN hs (min hs.length 8)) ((min hs.length 8 : Nat) : Int)).1 ∧ (wh1 hs (wN hs i) (i : Int)).2 = (wh1 hs (wN hs (min hs.length 8)) ((min hs.length 8 : Nat) : Int)).2 := fun h => by rw [← h]; exact ⟨rfl, rfl⟩
    refine br_dec (fun hl => br_dec (fun hl2 => ?_) (fun hl2 => ex (by omega))) (fun hl => ex (by omega))
    have leaf : ∀ c, c = wOf (hs.getD i noPack) → ∃ m', m' < m ∧ whI hs m' (wh1 hs (wN hs i ++ [c]) ((i : Int) + 1)).1 (wh1 hs (wN hs i ++ [c]) ((i : Int) + 1)).2 := by
      rintro c rfl
      refine ⟨8 - (i + 1), by omega, i + 1, by omega, by omega, rfl, .inr ⟨by omega, ?_, ?_⟩⟩ <;> rw [wN_succ] <;> rfl
    have n1 := wN_length hs i
    have q1 : ∀ c : PackR, (wN hs i).length = (wN hs i).length ∧ 5 = 5 ∧ 5 = 5 ∧ 0 < 5 ∧ (wN hs i ++ [c]).length ≤ 9223372036854775807 ∧ (wN hs i ++ [c]).length * 32 ≤ 140737488355328 := fun c =>
      ⟨rfl, rfl, rfl, by omega, by rw [List.length_append, n1]; simp only [List.length_cons, List.length_nil]; omega, by rw [List.length_append, n1]; simp only [List.length_cons, List.length_nil]; omega⟩
    (repeat (first | refine obl_dec (by omega) ?_ | refine obl_int (by omega) ?_ | refine obl_tt (decide_eq_true (q1 _)) ?_))
    exact leaf _ rfl
structure WP (ms : List PackR) (P : List PieceR) : Prop where
  len : P.length = ms.length
  n8 : ms.length ≤ 8
  all : ∀ j, j < ms.length → (P.getD j noPiece).st = true ∧ (P.getD j noPiece).en = true ∧ (P.getD j noPiece).data = (ms.getD j noPack).data ++ [0]
  small : ∀ j, (ms.getD j noPack).data.length ≤ 199
def whI2 (hs ms : List PackR) (P : List PieceR) (m : Nat) (E : Env) (H : AHeap) : Prop := ∃ i : Nat, i ≤ ms.length ∧ m = ms.length - i ∧
  E = (wh2 hs ms (upto ms.length) P [(10, .int .i64 (i : Int))]).1 ∧ H = (wh2 hs ms (upto ms.length) P [(10, .int .i64 (i : Int))]).2
def whF2 (hs ms : List PackR) (P : List PieceR) : AExit → Env → AHeap → Prop := fun x E H => match x with
  | .exit 2 => ∃ i : Int, E = (wh2 hs ms (upto ms.length) P [(10, .int .i64 i)]).1 ∧ H = (wh2 hs ms (upto ms.length) P [(10, .int .i64 i)]).2
  | _ => False
theorem upto_at {n i : Nat} (h : i < n) : (upto n).getD i 0 = (i : Int) + 1 := by
  unfold upto
  rw [List.getD_eq_getElem?_getD, List.getElem?_map, List.getElem?_range h]; rfl
theorem upto_len (n : Nat) : (upto n).length = n := by unfold upto; simp
set_option maxRecDepth 100000 in
theorem wh_loop2 (hs ms : List PackR) (P : List PieceR) (hP : WP ms P) : ∀ m E H, whI2 hs ms P m E H → WGd hs ms (.loop whR2) (whF2 hs ms P) E H := by
  refine Gd.loop (whI2 hs ms P) (fun m E H hI => ?_)
  obtain ⟨i, hi, hm, rfl, rfl⟩ := hI
  have idx : 0 + (i : Int).toNat = i := by omega
  refine Gd.walkC (TWhok ms).ctx 1 tsW2 (Nat.le_refl _) (wIn ms [true, true, true, true, true, true, true, false, true, false, false]) (Eq.mpr (w_wh_r2 hs ms (upto ms.length) P i _) ?_)
  have n8 := hP.n8
  have e1 : (((i : Int) % 18446744073709551616 + 1) % 18446744073709551616) = (i : Int) + 1 := by omega
  rw [idx, e1]
  refine br_dec (fun hl => ?_) (fun hl => ⟨_, rfl, rfl⟩)
  have hil : i < ms.length := by omega
  obtain ⟨a1, a2, a3⟩ := hP.all i hil
  have sm := hP.small i
  have ul := upto_len ms.length
  have pl := hP.len
  have e2 : (!decide ((upto ms.length).getD i 0 = (i : Int) + 1)) = false := by rw [upto_at hil]; simp
  have e3 : (!decide ((P.getD i noPiece).data = (ms.getD i noPack).data ++ [0])) = false := by rw [a3]; simp
  have e4 : (!(P.getD i noPiece).st) = false := by rw [a1]; rfl
  have e5 : (!(P.getD i noPiece).en) = false := by rw [a2]; rfl
  refine obl_dec (by omega) (obl_dec (by omega) (br_mk (fun h => by rw [e2] at h; cases h) (fun _ => ?_)))
  refine obl_dec (by omega) (obl_dec (by omega) (br_mk (fun h => absurd (h.symm.trans e4) (by simp)) (fun _ => ?_)))
  refine obl_dec (by omega) (obl_dec (by omega) (br_mk (fun h => absurd (h.symm.trans e5) (by simp)) (fun _ => ?_)))
  have q : (((ms.getD i noPack).data.length + 1 : Nat) : Int) ≤ 9223372036854775807 := by omega
  refine obl_dec (by omega) (obl_dec (by omega) (obl_dec (by omega) (obl_dec (by omega) (obl_dec q (br_mk (fun h => absurd (h.symm.trans e3) (by simp)) (fun _ => ?_))))))
  exact obl_int (by omega) ⟨ms.length - (i + 1), by omega, i + 1, by omega, rfl, rfl, rfl⟩
set_option maxRecDepth 100000 in
theorem wh_good (hs : List PackR) (hp : pOk hs) (hne : hs.length ≠ 0) :
    WGd hs (wN hs (min hs.length 8)) whB (whQ (wN hs (min hs.length 8))) (env0 [.sl 0 0 5 0 hs.length none] 0) ⟨1, [(0, pRow hs .ro)]⟩ := by
  generalize hms : wN hs (min hs.length 8) = ms
  have hml : ms.length = min hs.length 8 := by rw [← hms, wN_length]
  refine Gd.walkN (TWhok ms).ctx (base := 1) (Nat.le_refl _) (It := fun E H => canonK 1 [0, 3] E H (fun E H => E = [(0, .sl 0 0 5 0 hs.length none), (3, .nils)] ∧ H = (wh0 hs 0).2)) 3 400 _ _ _ (by kernel_rfl) (wIn ms []) (Eq.mpr (w_wh_pre hs ms _ _) ⟨rfl, rfl⟩) (fun E H h => ?_)
  obtain ⟨E', H', σ, ⟨rfl, rfl⟩, g2, g3, g4, g5, g6⟩ := canonK_ok h
  refine Gd.sub (base := 1) (Nat.le_refl _) g6 ?_ g2 g3 g4 g5
  rw [whT_eq]
  refine Gd.seq (Gd.seq (Gd.walkC (TWhok ms).ctx 1 tsW (Nat.le_refl _) (wIn ms [true, true, true, false, false]) (Eq.mpr (w_wh_set hs ms _) ?_)))
  refine Gd.block (Gd.mono (wh_loop hs ms hne 8 _ _ ⟨0, Nat.zero_le _, Nat.zero_le _, rfl, .inl ⟨rfl, rfl, rfl⟩⟩) (fun x E H h => ?_))
  unfold whF at h
  split at h
  rotate_left
  · exact h.elim
  obtain ⟨rfl, rfl⟩ := h
  rw [hms]
  refine Gd.walkN (TWhok ms).ctx (base := 1) (Nat.le_refl _) (It := fun E H => canonK 1 [3, 7, 8] E H (fun E H => ∃ P, WP ms P ∧ E = (wh2 hs ms (upto ms.length) P []).1 ∧ H = (wh2 hs ms (upto ms.length) P []).2)) 3 400 _ _ _ (by kernel_rfl) (wIn ms [true, true, true, true]) (Eq.mpr (w_wh_mid hs ms _ _ _) ?_) (fun E H h => ?_)
  rotate_left
  · obtain ⟨E', H', σ, ⟨P, hP, rfl, rfl⟩, g2, g3, g4, g5, g6⟩ := canonK_ok h
    refine Gd.sub (base := 1) (Nat.le_refl _) g6 ?_ g2 g3 g4 g5
    rw [whT2_eq]
    refine Gd.seq (Gd.seq (Gd.walkC (TWhok ms).ctx 1 tsW2 (Nat.le_refl _) (wIn ms [true, true, true, true, true, true, true, false, false]) (Eq.mpr (w_wh_set2 hs ms (upto ms.length) P _) ?_)))
    refine Gd.block (Gd.mono (wh_loop2 hs ms P hP ms.length _ _ ⟨0, Nat.zero_le _, rfl, rfl, rfl⟩) (fun x E H h => ?_))
    unfold whF2 at h
    split at h
    · obtain ⟨i, rfl, rfl⟩ := h
      exact Gd.walk (TWhok ms).ctx (Nat.le_refl _) (wIn ms [true, true, true, true, true, true, true, true]) (Eq.mpr (w_wh_end hs ms (upto ms.length) P i _) rfl)
    · exact h.elim
  have n8 : min hs.length 8 ≤ hs.length := Nat.min_le_left _ _
  have hx : ∀ j, j < min hs.length 8 → PackOk (hs.getD j noPack) := fun j hj => getD_ok hp (by omega)
  have hmo : pOk ms := by
    intro x hx'
    rw [← hms] at hx'
    unfold wN at hx'
    obtain ⟨j, hj, rfl⟩ := List.mem_map.1 hx'
    have := hx j (by simpa using hj)
    exact ⟨this.c0, this.c1, this.l0, this.l1, by show (0 : Int) ≤ 1; decide, by show (1 : Int) ≤ 255; decide, by show (0 : Int) ≤ 0; decide, by show (0 : Int) ≤ 65535; decide⟩
  have hmem : ∀ x : PackR, List.Mem x ms → PackOk x := hmo
  have hmne : ms.length = 0 → False := by omega
  refine ⟨⟨rfl, rfl⟩, ⟨hmem, hmne⟩, fun cs hcs => ⟨rfl, cs, ⟨⟨rfl, rfl⟩, (twice_iff _).2 rfl, ?_, (by decide : (1680 : Int) ≤ 7300), ?_⟩, fun l L S hout cs' ds' => ?_⟩⟩
  · show cs.length ≤ 30
    rw [hcs, ofN_length]; omega
  · rw [hcs]
    exact fun j => (cut_small hmo (min ms.length 30) (Nat.min_le_left _ _) j).1
  have hcl : cs = ofN (wN hs (min hs.length 8)) (min hs.length 8) := by rw [hcs, hms, hml]; congr 1; omega
  have hclen : cs.length = ms.length := by rw [hcl, ofN_length, hml]
  have hcw := fun j (hj : j < min hs.length 8) => wh_cut hp n8 (Nat.min_le_right _ _) j hj
  rw [← hcl] at hcw
  obtain ⟨m1, m2, m3, m4, m5⟩ := whole_math (fun j hj => (hcw j (by omega)).1) (by omega) (show FillOut cs (dsN cs.length) 0 1680 l L S from hout)
  have hSl : S.length = ms.length := by rw [m3, upto_len, hclen]
  have hgd : ∀ j, j < ms.length → ms.getD j noPack = wOf (hs.getD j noPack) := fun j hj => by
    rw [← hms]; unfold wN
    rw [List.getD_eq_getElem?_getD, List.getElem?_map, List.getElem?_range (by omega)]; rfl
  have hWP : WP ms (allP L) := ⟨by omega, by omega, fun j hj => by
      obtain ⟨b1, b2, b3⟩ := m5 j (by omega)
      refine ⟨b1, b2, ?_⟩
      rw [b3, (hcw j (by omega)).2, hgd j hj], fun j => by
      by_cases hj : j < ms.length
      · rw [hgd j hj]
        show (List.take _ _).length ≤ 199
        rw [List.length_take]; omega
      · rw [List.getD_eq_getElem?_getD, List.getElem?_eq_none (by omega)]; simp [noPack]⟩
  have hSne : S ≠ [] := fun h => by rw [h] at hSl; simp at hSl; omega
  have hPne : (allP L).isEmpty = false := by
    have := hWP.len
    cases hq : allP L with
    | nil => rw [hq] at this; simp at this; omega
    | cons p r => rfl
  have e1 : (!decide (allE L = 0)) = false := by rw [m2]; rfl
  have e2 : (!decide (((allP L).length : Int) = (ms.length : Int))) = false := by rw [hWP.len]; simp
  have e3 : (!decide ((S.length : Int) = (ms.length : Int))) = false := by rw [hSl]; simp
  refine ⟨fun h => absurd h hSne, fun _ => obl_dec (by omega) (br_mk (fun h => by rw [hPne] at h; cases h) (fun _ => ?_))⟩
  refine br_mk (fun h => by rw [e1] at h; cases h) (fun _ => br_mk (fun h => absurd (h.symm.trans e2) (by simp)) (fun _ => br_mk (fun h => absurd (h.symm.trans e3) (by simp)) (fun _ => ?_)))
  rw [m3, hclen]
  exact ⟨allP L, hWP, rfl, rfl⟩
end Go.Proofs.Ytjacnjecggedhaa
