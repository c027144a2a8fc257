/-
  The loop of CutWhole: its law, proved.
-/
import Derived.Test.YtdjidmnehfjmbaaCutWLd
namespace Go.Proofs.Ytdjidmnehfjmbaa
set_option linter.unusedVariables false
set_option linter.unusedSimpArgs false
open Go.RowKit Ev

set_option maxHeartbeats 2000000 in
theorem lcW_sound (sp : List Int) : LcSound Try.prog TCG.fns 5 0 (lcW sp) := by
  refine lcRow_sound TCGok (fn := Try.f5) (n := 100) rfl (by kernel_rfl) (rowswhole sp) (stwhole sp) (fun s => by cases s; rfl) (findwhole_ok sp) (GoodW sp) (preW_ok sp) (fun s => ((s.n : Int) - s.i).toNat + ((s.data.length : Int) - s.at_).toNat) [0, 1, 2, 7, 8, 9, 10, 11, 12] [5, 4, 3, 2, 0] 6 ?_
  rintro base ⟨data, kind, n, all, i, pst, pen, pid, ptot, ptyp, pk, plb, pdata, psum, typ, k, b, cdata, at_, id, lk, lb, k0, b0⟩ Q hb1 hg hb hT
  obtain ⟨⟨rfl, rfl, rfl, rfl, fkd, fpos, fmost, fl0, fl1, flike, fnm, fspb⟩, ⟨mat0, mat1, mall, mkb0, mkb1, mlast, mi0, mi1⟩⟩ := hg
  have hz := lSize_le lk
  have hll := lOk_length fl1
  have hlen : all.length = at_.toNat := by rw [mall, List.length_take]; omega
  have ht : 0 ≤ pTotal lk lb (cdata.length : Int) ∧ pTotal lk lb (cdata.length : Int) < 65536 := by
    unfold pTotal; split <;> omega
  have next : ∀ (i' : Int) (all' : List UInt8) (pst' pen' : Bool) (pid' ptot' ptyp' pk' : Int) (plb' pdata' psum' : List UInt8) (k' : Int) (b' : List UInt8) (at' : Int),
      MovW cdata sp.length lk lb k0 b0 all' i' pst' psum' k' b' at' → (((sp.length : Int) - i').toNat + ((cdata.length : Int) - at').toNat < ((sp.length : Int) - i).toNat + ((cdata.length : Int) - at_).toNat) →
      Round base 0 (stwhole sp) (GoodW sp) (fun s => ((s.n : Int) - s.i).toNat + ((s.data.length : Int) - s.at_).toNat) (fun s' => TtW sp s' Q) ⟨cdata, id, sp.length, all, i, pst, pen, pid, ptot, ptyp, pk, plb, pdata, psum, 2049, k, b, cdata, at_, id, lk, lb, k0, b0⟩ Q .normal (stwhole sp ⟨cdata, id, sp.length, all', i', pst', pen', pid', ptot', ptyp', pk', plb', pdata', psum', 2049, k', b', cdata, at', id, lk, lb, k0, b0⟩).1 (stwhole sp ⟨cdata, id, sp.length, all', i', pst', pen', pid', ptot', ptyp', pk', plb', pdata', psum', 2049, k', b', cdata, at', id, lk, lb, k0, b0⟩).2 := by
    intro i' all' pst' pen' pid' ptot' ptyp' pk' plb' pdata' psum' k' b' at' hm hmu
    refine ⟨⟨cdata, id, sp.length, all', i', pst', pen', pid', ptot', ptyp', pk', plb', pdata', psum', 2049, k', b', cdata, at', id, lk, lb, k0, b0⟩, ⟨⟨rfl, rfl, rfl, rfl, fkd, fpos, fmost, fl0, fl1, flike, fnm, fspb⟩, hm⟩, hmu, hT, .inl ⟨?_, ?_⟩⟩
    · repeat' (first | exact subE_nil | refine subE_cons rfl rfl rfl ?_)
    · repeat' (first | exact subH_nil | refine subH_cons rfl rfl rfl rfl ?_)
  have out : ¬ (all.length : Int) < (cdata.length : Int) → Round base 0 (stwhole sp) (GoodW sp) (fun s => ((s.n : Int) - s.i).toNat + ((s.data.length : Int) - s.at_).toNat) (fun s' => TtW sp s' Q) ⟨cdata, id, sp.length, all, i, pst, pen, pid, ptot, ptyp, pk, plb, pdata, psum, 2049, k, b, cdata, at_, id, lk, lb, k0, b0⟩ Q (.exit 0) (stwhole sp ⟨cdata, id, sp.length, all, i, pst, pen, pid, ptot, ptyp, pk, plb, pdata, psum, 2049, k, b, cdata, at_, id, lk, lb, k0, b0⟩).1 (stwhole sp ⟨cdata, id, sp.length, all, i, pst, pen, pid, ptot, ptyp, pk, plb, pdata, psum, 2049, k, b, cdata, at_, id, lk, lb, k0, b0⟩).2 := by
    intro h
    have ha : at_ = (cdata.length : Int) := by omega
    have hall : all = cdata := by rw [mall, ha]; exact List.take_of_length_le (by omega)
    have := hT i pst pen pid ptot ptyp pk plb pdata psum k b (mlast ha)
    refine ⟨_, (stwhole sp ⟨cdata, id, sp.length, all, i, pst, pen, pid, ptot, ptyp, pk, plb, pdata, psum, 2049, k, b, cdata, at_, id, lk, lb, k0, b0⟩).2, hb, ?_, ?_, trivial, contSt_iff.1 (by rw [← hall] at this ⊢; rw [ha, hall]; rw [hall] at this; exact this)⟩
    · repeat' (first | exact subE_nil | refine subE_cons rfl rfl rfl ?_)
    · repeat' (first | exact subH_nil | refine subH_cons rfl rfl rfl rfl ?_)
  show wpC _ _ _ _ _ _ _ _
  simp only [stwhole] at next out ⊢
  generalize Round base 0 (stwhole sp) (GoodW sp) (fun s => ((s.n : Int) - s.i).toNat + ((s.data.length : Int) - s.at_).toNat) (fun s' => TtW sp s' Q) ⟨cdata, id, sp.length, all, i, pst, pen, pid, ptot, ptyp, pk, plb, pdata, psum, 2049, k, b, cdata, at_, id, lk, lb, k0, b0⟩ Q = Q' at next out ⊢
  rw [w_whole_g]
  refine branch_iff.2 ⟨fun g1 => ?_, fun g1 => out (by simpa using g1)⟩
  have g1' : at_ < (cdata.length : Int) := by rw [decide_eq_true_eq] at g1; omega
  have hn : nOk 2049 k b cdata at_ id lk lb = true := by
    by_cases ha : at_ = 0
    · obtain ⟨e1, e2⟩ := mkb0 ha
      have hc : cMay 2049 k b cdata at_ id = true := cMay_iff.2 ⟨by decide, by decide, by rw [e1, e2]; exact fl0, by omega, by omega, by omega, by omega, by omega⟩
      unfold nOk
      rw [hc, fl1, e1, e2]
      rcases flike with ⟨h1, h2⟩ | h1
      · simp [h1, h2]
      · simp [h1]
    · obtain ⟨e1, e2⟩ := mkb1 (by omega) g1'
      have hc : cMay 2049 k b cdata at_ id = true := cMay_iff.2 ⟨by decide, by decide, by rw [e1, e2]; exact fl1, by omega, by omega, by omega, by omega, by omega⟩
      unfold nOk
      rw [hc, fl1]
      simp [ha]
  have hs4 : (pSum 2049 lk lb cdata).length = 4 := by unfold pSum; rw [if_pos (pErr_iff.2 ⟨by decide, by decide, fl1, by omega⟩)]; rfl
  refine obl_iff.2 ⟨by rw [decide_eq_true_eq]; omega, obl_iff.2 ⟨by rw [inI64_iff]; omega, branch_iff.2 ⟨fun g2 => ?_, fun g2 => ?_⟩⟩⟩
  · rw [decide_eq_true_eq] at g2
    have hsp : 0 ≤ sp.getD (0 + i.toNat) 0 ∧ sp.getD (0 + i.toNat) 0 ≤ 65535 := by
      rw [List.getD_eq_getElem?_getD, List.getElem?_eq_getElem (show 0 + i.toNat < sp.length by omega)]
      exact fspb _ (List.getElem_mem _)
    refine obl_iff.2 ⟨by rw [decide_eq_true_eq]; omega, obl_iff.2 ⟨by rw [decide_eq_true_eq]; omega, obl_iff.2 ⟨by rw [decide_eq_true_eq]; omega, obl_iff.2 ⟨by rw [inI64_iff]; omega, ?_⟩⟩⟩⟩
    have hS : 0 ≤ sp.getD (0 + i.toNat) 0 % 5000 ∧ (20 ≤ sp.getD (0 + i.toNat) 0 % 5000 ∨ i < (sp.length : Int)) := ⟨by omega, .inr g2⟩
    generalize sp.getD (0 + i.toNat) 0 % 5000 = SP at hS ⊢
    clear hsp
    refine ⟨fun h => absurd h (next_not2 hn), fun h => ?_, fun h => ?_, fun n1 x h => ?_, fun x s h => ?_, fun n1 x h => ?_⟩
    · have g12 := next_12 hn rfl (by omega) g1' h
      simp only [branch_iff, obl_iff, decide_eq_true_eq, decide_eq_false_iff_not, inI64_iff, Bool.not_eq_true', Bool.not_eq_false', Bool.not_true, Bool.not_false, reduceCtorEq, false_implies, true_implies, true_and, and_true, decide_true, Bool.and_true, Bool.and_self, Bool.true_beq, Bool.false_beq, not_true_eq_false, not_false_eq_true, g12]
      refine ⟨by omega, next (i + 1) all pst pen pid ptot ptyp pk plb pdata psum k b at_ ⟨mat0, mat1, mall, mkb0, mkb1, mlast, by omega, by omega⟩ (by omega)⟩
    · obtain ⟨a0, hle⟩ := next_whole hn h
      obtain ⟨ge1, ge2⟩ := g_whole (typ := 2049) (k := lk) (lb := lb) (data := cdata) fl1 (by decide) (by decide) (by omega)
      have hall0 : all = [] := by rw [mall, a0]; rfl
      have hcne : ¬ cdata = [] := fun e => by rw [e] at fpos; simp at fpos
      simp only [branch_iff, obl_iff, decide_eq_true_eq, decide_eq_false_iff_not, inI64_iff, Bool.not_eq_true', Bool.not_eq_false', Bool.not_true, Bool.not_false, reduceCtorEq, false_implies, true_implies, true_and, and_true, decide_true, Bool.and_true, Bool.and_self, Bool.true_beq, Bool.false_beq, not_true_eq_false, not_false_eq_true, ge1, ge2, hall0, hcne, List.nil_append, List.length_nil, List.length_append, decide_false]
      repeat' (first | apply And.intro | intro hh)
      all_goals first
        | omega
        | exact next (i + 1) cdata true true 0 0 2049 lk lb cdata [] k b (cdata.length : Int) ⟨by omega, by omega, by rw [Int.toNat_natCast, List.take_length], fun h => by omega, fun h1 h2 => by omega, fun _ => .inl rfl, by omega, by omega⟩ (by omega)
    · obtain ⟨a0, hn1, hpos, hx, hnw⟩ := next_start hn h
      have hxl : x.length = n1.toNat := by rw [hx, List.length_take]; omega
      obtain ⟨ge1, ge2⟩ := g_start (id := id) (total := pTotal lk lb (cdata.length : Int)) (typ := 2049) (k := lk) (lb := lb) (data := x) fl1 fkd.1 (by omega) ht.1 ht.2 (by decide) (by decide) (by omega)
      have hall0 : all = [] := by rw [mall, a0]; rfl
      have hxne : ¬ x = [] := fun e => by rw [e] at hxl; simp at hxl; omega
      simp only [branch_iff, obl_iff, decide_eq_true_eq, decide_eq_false_iff_not, inI64_iff, Bool.not_eq_true', Bool.not_eq_false', Bool.not_true, Bool.not_false, reduceCtorEq, false_implies, true_implies, true_and, and_true, decide_true, Bool.and_true, Bool.and_self, Bool.true_beq, Bool.false_beq, not_true_eq_false, not_false_eq_true, ge1, ge2, hall0, hxne, List.nil_append, List.length_nil, List.length_append, decide_false]
      repeat' (first | apply And.intro | intro hh)
      all_goals first
        | omega
        | exact next (i + 1) x true false id (pTotal lk lb (cdata.length : Int)) 2049 lk lb x [] lk lb n1 ⟨by omega, by omega, hx, fun h => by omega, fun _ _ => ⟨rfl, rfl⟩, fun h => by omega, by omega, by omega⟩ (by omega)
    · obtain ⟨a0, hle, hx, hs⟩ := next_last hn h
      have hxl : x.length = cdata.length - at_.toNat := by rw [hx, List.length_drop]
      obtain ⟨ge1, ge2⟩ := g_last (id := id) (data := x) (sum := s) fkd.1 (by omega) (by rw [hs]; obtain ⟨ek, eb⟩ := mkb1 (by omega) g1'; rw [ek, eb]; exact hs4) (by omega)
      have hane : ¬ all = [] := fun e => by rw [e] at hlen; simp at hlen; omega
      have hxne : ¬ x = [] := fun e => by rw [e] at hxl; simp at hxl; omega
      obtain ⟨ek, eb⟩ := mkb1 (by omega) g1'
      simp only [branch_iff, obl_iff, decide_eq_true_eq, decide_eq_false_iff_not, inI64_iff, Bool.not_eq_true', Bool.not_eq_false', Bool.not_true, Bool.not_false, reduceCtorEq, false_implies, true_implies, true_and, and_true, decide_true, Bool.and_true, Bool.and_self, Bool.true_beq, Bool.false_beq, not_true_eq_false, not_false_eq_true, ge1, ge2, hane, hxne, List.length_nil, List.length_append, decide_false]
      have hsl : s.length = 4 := by rw [hs, ek, eb]; exact hs4
      repeat' (first | apply And.intro | intro hh)
      all_goals first
        | omega
        | exact next (i + 1) (all ++ x) false true id 0 0 0 [] x s k b (cdata.length : Int) ⟨by omega, by omega, by rw [mall, hx, Int.toNat_natCast, List.take_length, List.take_append_drop], fun h => by omega, fun h1 h2 => by omega, fun _ => .inr (by rw [hs, ek, eb]), by omega, by omega⟩ (by omega)
    · obtain ⟨a0, hn1, hpos, hx, hnw⟩ := next_mid hn h
      have hxl : x.length = n1.toNat - at_.toNat := by rw [hx, List.length_drop, List.length_take]; omega
      obtain ⟨ge1, ge2⟩ := g_mid (id := id) (data := x) fkd.1 (by omega) (by omega)
      have hane : ¬ all = [] := fun e => by rw [e] at hlen; simp at hlen; omega
      have hxne : ¬ x = [] := fun e => by rw [e] at hxl; simp at hxl; omega
      obtain ⟨ek, eb⟩ := mkb1 (by omega) g1'
      simp only [branch_iff, obl_iff, decide_eq_true_eq, decide_eq_false_iff_not, inI64_iff, Bool.not_eq_true', Bool.not_eq_false', Bool.not_true, Bool.not_false, reduceCtorEq, false_implies, true_implies, true_and, and_true, decide_true, Bool.and_true, Bool.and_self, Bool.true_beq, Bool.false_beq, not_true_eq_false, not_false_eq_true, ge1, ge2, hane, hxne, List.length_nil, List.length_append, decide_false]
      have hap : all ++ x = cdata.take n1.toNat := by
        rw [mall, hx]
        have e : cdata.take at_.toNat = (cdata.take n1.toNat).take at_.toNat := by rw [List.take_take, Nat.min_eq_left (by omega)]
        rw [e, List.take_append_drop]
      repeat' (first | apply And.intro | intro hh)
      all_goals first
        | omega
        | exact next (i + 1) (all ++ x) false false id 0 0 0 [] x [] k b n1 ⟨by omega, by omega, hap, fun h => by omega, fun h1 h2 => ⟨ek, eb⟩, fun h => by omega, by omega, by omega⟩ (by omega)
  · have hS : 0 ≤ 20 + i % 50 ∧ (20 ≤ 20 + i % 50 ∨ i < (sp.length : Int)) := ⟨by omega, .inl (by omega)⟩
    generalize 20 + i % 50 = SP at hS ⊢
    refine ⟨fun h => absurd h (next_not2 hn), fun h => ?_, fun h => ?_, fun n1 x h => ?_, fun x s h => ?_, fun n1 x h => ?_⟩
    · have g12 := next_12 hn rfl (by omega) g1' h
      simp only [branch_iff, obl_iff, decide_eq_true_eq, decide_eq_false_iff_not, inI64_iff, Bool.not_eq_true', Bool.not_eq_false', Bool.not_true, Bool.not_false, reduceCtorEq, false_implies, true_implies, true_and, and_true, decide_true, Bool.and_true, Bool.and_self, Bool.true_beq, Bool.false_beq, not_true_eq_false, not_false_eq_true, g12]
      refine ⟨by omega, next (i + 1) all pst pen pid ptot ptyp pk plb pdata psum k b at_ ⟨mat0, mat1, mall, mkb0, mkb1, mlast, by omega, by omega⟩ (by omega)⟩
    · obtain ⟨a0, hle⟩ := next_whole hn h
      obtain ⟨ge1, ge2⟩ := g_whole (typ := 2049) (k := lk) (lb := lb) (data := cdata) fl1 (by decide) (by decide) (by omega)
      have hall0 : all = [] := by rw [mall, a0]; rfl
      have hcne : ¬ cdata = [] := fun e => by rw [e] at fpos; simp at fpos
      simp only [branch_iff, obl_iff, decide_eq_true_eq, decide_eq_false_iff_not, inI64_iff, Bool.not_eq_true', Bool.not_eq_false', Bool.not_true, Bool.not_false, reduceCtorEq, false_implies, true_implies, true_and, and_true, decide_true, Bool.and_true, Bool.and_self, Bool.true_beq, Bool.false_beq, not_true_eq_false, not_false_eq_true, ge1, ge2, hall0, hcne, List.nil_append, List.length_nil, List.length_append, decide_false]
      repeat' (first | apply And.intro | intro hh)
      all_goals first
        | omega
        | exact next (i + 1) cdata true true 0 0 2049 lk lb cdata [] k b (cdata.length : Int) ⟨by omega, by omega, by rw [Int.toNat_natCast, List.take_length], fun h => by omega, fun h1 h2 => by omega, fun _ => .inl rfl, by omega, by omega⟩ (by omega)
    · obtain ⟨a0, hn1, hpos, hx, hnw⟩ := next_start hn h
      have hxl : x.length = n1.toNat := by rw [hx, List.length_take]; omega
      obtain ⟨ge1, ge2⟩ := g_start (id := id) (total := pTotal lk lb (cdata.length : Int)) (typ := 2049) (k := lk) (lb := lb) (data := x) fl1 fkd.1 (by omega) ht.1 ht.2 (by decide) (by decide) (by omega)
      have hall0 : all = [] := by rw [mall, a0]; rfl
      have hxne : ¬ x = [] := fun e => by rw [e] at hxl; simp at hxl; omega
      simp only [branch_iff, obl_iff, decide_eq_true_eq, decide_eq_false_iff_not, inI64_iff, Bool.not_eq_true', Bool.not_eq_false', Bool.not_true, Bool.not_false, reduceCtorEq, false_implies, true_implies, true_and, and_true, decide_true, Bool.and_true, Bool.and_self, Bool.true_beq, Bool.false_beq, not_true_eq_false, not_false_eq_true, ge1, ge2, hall0, hxne, List.nil_append, List.length_nil, List.length_append, decide_false]
      repeat' (first | apply And.intro | intro hh)
      all_goals first
        | omega
        | exact next (i + 1) x true false id (pTotal lk lb (cdata.length : Int)) 2049 lk lb x [] lk lb n1 ⟨by omega, by omega, hx, fun h => by omega, fun _ _ => ⟨rfl, rfl⟩, fun h => by omega, by omega, by omega⟩ (by omega)
    · obtain ⟨a0, hle, hx, hs⟩ := next_last hn h
      have hxl : x.length = cdata.length - at_.toNat := by rw [hx, List.length_drop]
      obtain ⟨ge1, ge2⟩ := g_last (id := id) (data := x) (sum := s) fkd.1 (by omega) (by rw [hs]; obtain ⟨ek, eb⟩ := mkb1 (by omega) g1'; rw [ek, eb]; exact hs4) (by omega)
      have hane : ¬ all = [] := fun e => by rw [e] at hlen; simp at hlen; omega
      have hxne : ¬ x = [] := fun e => by rw [e] at hxl; simp at hxl; omega
      obtain ⟨ek, eb⟩ := mkb1 (by omega) g1'
      simp only [branch_iff, obl_iff, decide_eq_true_eq, decide_eq_false_iff_not, inI64_iff, Bool.not_eq_true', Bool.not_eq_false', Bool.not_true, Bool.not_false, reduceCtorEq, false_implies, true_implies, true_and, and_true, decide_true, Bool.and_true, Bool.and_self, Bool.true_beq, Bool.false_beq, not_true_eq_false, not_false_eq_true, ge1, ge2, hane, hxne, List.length_nil, List.length_append, decide_false]
      have hsl : s.length = 4 := by rw [hs, ek, eb]; exact hs4
      repeat' (first | apply And.intro | intro hh)
      all_goals first
        | omega
        | exact next (i + 1) (all ++ x) false true id 0 0 0 [] x s k b (cdata.length : Int) ⟨by omega, by omega, by rw [mall, hx, Int.toNat_natCast, List.take_length, List.take_append_drop], fun h => by omega, fun h1 h2 => by omega, fun _ => .inr (by rw [hs, ek, eb]), by omega, by omega⟩ (by omega)
    · obtain ⟨a0, hn1, hpos, hx, hnw⟩ := next_mid hn h
      have hxl : x.length = n1.toNat - at_.toNat := by rw [hx, List.length_drop, List.length_take]; omega
      obtain ⟨ge1, ge2⟩ := g_mid (id := id) (data := x) fkd.1 (by omega) (by omega)
      have hane : ¬ all = [] := fun e => by rw [e] at hlen; simp at hlen; omega
      have hxne : ¬ x = [] := fun e => by rw [e] at hxl; simp at hxl; omega
      obtain ⟨ek, eb⟩ := mkb1 (by omega) g1'
      simp only [branch_iff, obl_iff, decide_eq_true_eq, decide_eq_false_iff_not, inI64_iff, Bool.not_eq_true', Bool.not_eq_false', Bool.not_true, Bool.not_false, reduceCtorEq, false_implies, true_implies, true_and, and_true, decide_true, Bool.and_true, Bool.and_self, Bool.true_beq, Bool.false_beq, not_true_eq_false, not_false_eq_true, ge1, ge2, hane, hxne, List.length_nil, List.length_append, decide_false]
      have hap : all ++ x = cdata.take n1.toNat := by
        rw [mall, hx]
        have e : cdata.take at_.toNat = (cdata.take n1.toNat).take at_.toNat := by rw [List.take_take, Nat.min_eq_left (by omega)]
        rw [e, List.take_append_drop]
      repeat' (first | apply And.intro | intro hh)
      all_goals first
        | omega
        | exact next (i + 1) (all ++ x) false false id 0 0 0 [] x [] k b n1 ⟨by omega, by omega, hap, fun h => by omega, fun h1 h2 => ⟨ek, eb⟩, fun h => by omega, by omega, by omega⟩ (by omega)

end Go.Proofs.Ytdjidmnehfjmbaa
