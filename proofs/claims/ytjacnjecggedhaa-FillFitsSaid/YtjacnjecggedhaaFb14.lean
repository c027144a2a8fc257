/-
  Texts for RowFillFits: of the reckoner, walks, contracts and plain laws that its row stands on.
-/
import Derived.Test.YtjacnjecggedhaaFb13
namespace Go.Proofs.Ytjacnjecggedhaa
set_option linter.unusedVariables false
set_option linter.unusedSimpArgs false
open Go.RowKit Ev
theorem kIn (hs : List PackR) (p : List Bool) : InFn ((TFits hs).ctx Try.prog) 4 (codeAt p fitsB) :=
  inFn_at (TFitsok hs).ctx (fn := Try.f4) (by kernel_rfl) (by kernel_rfl) p
structure LI (n : Nat) (cs : List CutR) (P : List PieceR) (z a : Nat) (pos : Int) (beg : Bool) (i : Nat) (bs : List CutR) : Prop where
  vv : VV cs a pos beg (P.drop i) z
  len : bs.length = n
  csl : cs.length = n
  n30 : n ≤ 30
  an : a ≤ n
  cur : a < n → (bs.getD a noCut).pos = pos
  oth : ∀ j, a < j → (bs.getD j noCut).pos = (cs.getD j noCut).pos
  same : ∀ j, (bs.getD j noCut).data = (cs.getD j noCut).data ∧ (bs.getD j noCut).typ = (cs.getD j noCut).typ
  il : i ≤ P.length
  pl : P.length ≤ 10000
  small : ∀ j, (cs.getD j noCut).data.length ≤ 5300
def posC (c : CutR) (x : Int) : CutR := ⟨c.typ, c.k, c.lb, c.data, x, c.id⟩
def stN (beg : Bool) : Int := match beg with
  | true => 1
  | false => 0
theorem drop_getD {P : List PieceR} {i : Nat} (h : i < P.length) : P.drop i = P.getD i noPiece :: P.drop (i + 1) := by
  rw [List.getD_eq_getElem?_getD, List.getElem?_eq_getElem h, List.drop_eq_getElem_cons h]; rfl
theorem getD_set' (bs : List CutR) (a j : Nat) (c : CutR) (ha : a < bs.length) : (bs.set a c).getD j noCut = if a = j then c else bs.getD j noCut := by
  by_cases h : a = j
  · subst h; rw [if_pos rfl, getD_set _ _ _ ha]
  · rw [if_neg h, List.getD_eq_getElem?_getD, List.getElem?_set_ne h, ← List.getD_eq_getElem?_getD]
theorem LI.step {n : Nat} {cs : List CutR} {P : List PieceR} {z a : Nat} {pos : Int} {beg : Bool} {i : Nat} {bs : List CutR} (h : LI n cs P z a pos beg i bs) (hi : i < P.length) {p : PieceR} (hp : P.getD i noPiece = p) {c : CutR} (hc : bs.getD a noCut = c) :
    (a < n ∧ 0 ≤ pos ∧ c.pos = pos ∧ (p.data.length : Int) + pos ≤ (c.data.length : Int) ∧ (c.data.drop pos.toNat).take p.data.length = p.data ∧ (p.st = true → p.typ = c.typ) ∧ (p.st = true → p.en = false → beg = false) ∧ (p.en = true → (p.data.length : Int) + pos = (c.data.length : Int)) ∧ c.data.length ≤ 5300) ∧
    (p.en = true → LI n cs P z (a + 1) (cs.getD (a + 1) noCut).pos beg (i + 1) (bs.set a (posC c (c.pos + (p.data.length : Int))))) ∧
    (p.en = false → LI n cs P z a ((p.data.length : Int) + pos) (beg || p.st) (i + 1) (bs.set a (posC c (c.pos + (p.data.length : Int))))) := by
  have vv := h.vv
  rw [drop_getD hi, hp] at vv
  obtain ⟨v1, v2, v3, v4, v5, v6, v7, v8⟩ := vv
  have han : a < n := by rw [← h.csl]; exact v1
  have hab : a < bs.length := by rw [h.len]; exact han
  have sm := h.same a
  rw [hc] at sm
  have cu := h.cur han
  rw [hc] at cu
  have same' : ∀ j, ((bs.set a (posC c (c.pos + (p.data.length : Int)))).getD j noCut).data = (cs.getD j noCut).data ∧ ((bs.set a (posC c (c.pos + (p.data.length : Int)))).getD j noCut).typ = (cs.getD j noCut).typ := fun j => by
    rw [getD_set' _ _ _ _ hab]
    by_cases hj : a = j
    · subst hj; rw [if_pos rfl]; exact sm
    · rw [if_neg hj]; exact h.same j
  rw [← sm.1] at v3 v4
  rw [← sm.2] at v5
  refine ⟨⟨han, v2, cu, v3, v4, v5, v6, fun he => by rw [sm.1]; exact (v7 he).1, by rw [sm.1]; exact h.small a⟩, fun he => ?_, fun he => ?_⟩
  · refine ⟨(v7 he).2, by rw [List.length_set]; exact h.len, h.csl, h.n30, han, fun ha => ?_, fun j hj => ?_, same', hi, h.pl, h.small⟩
    · rw [getD_set' _ _ _ _ hab, if_neg (by omega)]; exact h.oth _ (by omega)
    · rw [getD_set' _ _ _ _ hab, if_neg (by omega)]; exact h.oth _ (by omega)
  · refine ⟨v8 he, by rw [List.length_set]; exact h.len, h.csl, h.n30, h.an, fun ha => ?_, fun j hj => ?_, same', hi, h.pl, h.small⟩
    · rw [getD_set' _ _ _ _ hab, if_pos rfl]; show c.pos + (p.data.length : Int) = _; rw [cu]; omega
    · rw [getD_set' _ _ _ _ hab, if_neg (by omega)]; exact h.oth _ (by omega)
set_option maxRecDepth 100000 in
set_option maxHeartbeats 1000000 in
theorem fr_B (H0 : AHeap) (hH0 : H0.next ≤ 1) (hs : List PackR) (n : Nat) (cs bs : List CutR) (ds : List BoolR) (P : List PieceR) (z a : Nat) (pos : Int) (beg : Bool) (starts : Int) (last : Bool) (i : Nat) (Q : AExit → Env → AHeap → Prop) (h : LI n cs P z a pos beg i bs) (hst0 : starts = stN beg)
    (hexit : i = P.length → Q (.exit 0) (kB hs n bs ds P starts (a : Int) last (k14 (i : Int))).1 (kB hs n bs ds P starts (a : Int) last (k14 (i : Int))).2)
    (hnext : ∀ (starts' : Int) (a' : Nat) (pos' : Int) (beg' : Bool) (last' : Bool) (bs' : List CutR), LI n cs P z a' pos' beg' (i + 1) bs' → starts' = stN beg' → Q .normal (kB hs n bs' ds P starts' (a' : Int) last' (k14 ((i : Int) + 1))).1 (kB hs n bs' ds P starts' (a' : Int) last' (k14 ((i : Int) + 1))).2) :
    Gd ((TFits hs).ctx Try.prog) 4 H0 fitsR Q (kB hs n bs ds P starts (a : Int) last (k14 (i : Int))).1 (kB hs n bs ds P starts (a : Int) last (k14 (i : Int))).2 := by
  refine Gd.walkC (TFitsok hs).ctx 1 tsF hH0 (kIn hs [true, true, true, true, true, true, true, true, false, true, false, false]) (Eq.mpr (w_fr_B hs n bs ds P starts a last i _) ?_)
  have hil := h.il
  refine br_dec (fun hi => ?_) (fun hi => hexit (by omega))
  have hi' : i < P.length := by omega
  have idi : 0 + (i : Int).toNat = i := by omega
  have idx : 0 + (a : Int).toNat = a := by omega
  rw [idi]
  generalize hpe : P.getD i noPiece = p
  generalize hce : bs.getD (0 + (a : Int).toNat) noCut = c
  have hce' : bs.getD a noCut = c := by rw [idx] at hce; exact hce
  obtain ⟨⟨f1, f2, f3, f4, f5, f6, f7, f8, f9⟩, st1, st2⟩ := h.step hi' (show P.getD i noPiece = p from hpe) hce'
  have hn30 := h.n30
  have hpl := h.pl
  have hlen := h.len
  have hab : a < bs.length := by omega
  have hs2 : 0 ≤ starts ∧ starts ≤ 1 := by rw [hst0]; cases beg <;> simp [stN]
  (repeat (first | refine obl_dec (by omega) ?_ | refine obl_int (by omega) ?_ | refine obl_and (by omega) rfl ?_))
  refine br_mk (fun hst => ?_) (fun hst => ?_)
  · (repeat (first | refine obl_dec (by omega) ?_ | refine obl_int (by omega) ?_ | refine obl_and (by omega) rfl ?_))
    refine br_mk (fun hen => ?_) (fun hen => ?_)
    · have hen0 : p.en = false := by simpa using hen
      (repeat (first | refine obl_dec (by omega) ?_ | refine obl_int (by omega) ?_ | refine obl_and (by omega) rfl ?_))
      refine br_dec (fun h => absurd h (by omega)) (fun _ => ?_)
      (repeat (first | refine obl_dec (by omega) ?_ | refine obl_int (by omega) ?_ | refine obl_and (by omega) rfl ?_))
      refine br_dec (fun h => absurd h (by omega)) (fun _ => ?_)
      (repeat (first | refine obl_dec (by omega) ?_ | refine obl_int (by omega) ?_ | refine obl_and (by omega) rfl ?_))
      refine br_mk (fun h => ?_) (fun _ => ?_)
      · exfalso
        rw [List.drop_take, show (c.pos + (p.data.length : Int)).toNat - c.pos.toNat = p.data.length by omega, f3, f5] at h
        simp at h
      (repeat (first | refine obl_dec (by omega) ?_ | refine obl_int (by omega) ?_ | refine obl_and (by omega) rfl ?_))
      refine br_mk (fun hst2 => ?_) (fun hst2 => ?_)
      · (repeat (first | refine obl_dec (by omega) ?_ | refine obl_int (by omega) ?_ | refine obl_and (by omega) rfl ?_))
        refine br_mk (fun h => ?_) (fun _ => ?_)
        · rw [decide_eq_true (f6 hst2)] at h; cases h
        (repeat (first | refine obl_dec (by omega) ?_ | refine obl_int (by omega) ?_ | refine obl_and (by omega) rfl ?_))
        refine br_mk (fun he => ?_) (fun he => ?_)
        · have f1 := st1 he
          have hset : 0 + (a : Int).toNat < (bs.set (0 + (a : Int).toNat) (posC c (c.pos + (p.data.length : Int)))).length := by rw [List.length_set]; omega
          refine obl_dec (by omega) (obl_dec hset ?_)
          refine br_mk (fun h => ?_) (fun _ => ?_)
          · exfalso
            have h1 : (!decide (((bs.set (0 + (a : Int).toNat) (posC c (c.pos + (p.data.length : Int)))).getD (0 + (a : Int).toNat) noCut).pos = (c.data.length : Int))) = true := h
            rw [idx, getD_set _ _ _ hab] at h1
            have h2 : (posC c (c.pos + (p.data.length : Int))).pos = (c.data.length : Int) := by show c.pos + (p.data.length : Int) = _; have := f8 he; omega
            rw [h2] at h1; simp at h1
          · (repeat (first | refine obl_dec (by omega) ?_ | refine obl_int (by omega) ?_ | refine obl_and (by omega) rfl ?_))
            rw [idx]
            exact hnext _ (a + 1) _ _ p.en _ f1 (by (have hb := f7 hst hen0; subst hb; rw [hst0]; simp_all [stN]))
        · have f1 := st2 he
          (repeat (first | refine obl_dec (by omega) ?_ | refine obl_int (by omega) ?_ | refine obl_and (by omega) rfl ?_))
          rw [idx]
          exact hnext _ a _ _ p.en _ f1 (by (have hb := f7 hst hen0; subst hb; rw [hst0]; simp_all [stN]))
      · skip
        (repeat (first | refine obl_dec (by omega) ?_ | refine obl_int (by omega) ?_ | refine obl_and (by omega) rfl ?_))
        refine br_mk (fun he => ?_) (fun he => ?_)
        · have f1 := st1 he
          have hset : 0 + (a : Int).toNat < (bs.set (0 + (a : Int).toNat) (posC c (c.pos + (p.data.length : Int)))).length := by rw [List.length_set]; omega
          refine obl_dec (by omega) (obl_dec hset ?_)
          refine br_mk (fun h => ?_) (fun _ => ?_)
          · exfalso
            have h1 : (!decide (((bs.set (0 + (a : Int).toNat) (posC c (c.pos + (p.data.length : Int)))).getD (0 + (a : Int).toNat) noCut).pos = (c.data.length : Int))) = true := h
            rw [idx, getD_set _ _ _ hab] at h1
            have h2 : (posC c (c.pos + (p.data.length : Int))).pos = (c.data.length : Int) := by show c.pos + (p.data.length : Int) = _; have := f8 he; omega
            rw [h2] at h1; simp at h1
          · (repeat (first | refine obl_dec (by omega) ?_ | refine obl_int (by omega) ?_ | refine obl_and (by omega) rfl ?_))
            rw [idx]
            exact hnext _ (a + 1) _ _ p.en _ f1 (by (have hb := f7 hst hen0; subst hb; rw [hst0]; simp_all [stN]))
        · have f1 := st2 he
          (repeat (first | refine obl_dec (by omega) ?_ | refine obl_int (by omega) ?_ | refine obl_and (by omega) rfl ?_))
          rw [idx]
          exact hnext _ a _ _ p.en _ f1 (by (have hb := f7 hst hen0; subst hb; rw [hst0]; simp_all [stN]))
    · have hen0 : p.en = true := by simpa using hen
      refine br_dec (fun h => absurd h (by omega)) (fun _ => ?_)
      (repeat (first | refine obl_dec (by omega) ?_ | refine obl_int (by omega) ?_ | refine obl_and (by omega) rfl ?_))
      refine br_dec (fun h => absurd h (by omega)) (fun _ => ?_)
      (repeat (first | refine obl_dec (by omega) ?_ | refine obl_int (by omega) ?_ | refine obl_and (by omega) rfl ?_))
      refine br_mk (fun h => ?_) (fun _ => ?_)
      · exfalso
        rw [List.drop_take, show (c.pos + (p.data.length : Int)).toNat - c.pos.toNat = p.data.length by omega, f3, f5] at h
        simp at h
      (repeat (first | refine obl_dec (by omega) ?_ | refine obl_int (by omega) ?_ | refine obl_and (by omega) rfl ?_))
      refine br_mk (fun hst2 => ?_) (fun hst2 => ?_)
      · (repeat (first | refine obl_dec (by omega) ?_ | refine obl_int (by omega) ?_ | refine obl_and (by omega) rfl ?_))
        refine br_mk (fun h => ?_) (fun _ => ?_)
        · rw [decide_eq_true (f6 hst2)] at h; cases h
        (repeat (first | refine obl_dec (by omega) ?_ | refine obl_int (by omega) ?_ | refine obl_and (by omega) rfl ?_))
        refine br_mk (fun he => ?_) (fun he => ?_)
        · have f1 := st1 he
          have hset : 0 + (a : Int).toNat < (bs.set (0 + (a : Int).toNat) (posC c (c.pos + (p.data.length : Int)))).length := by rw [List.length_set]; omega
          refine obl_dec (by omega) (obl_dec hset ?_)
          refine br_mk (fun h => ?_) (fun _ => ?_)
          · exfalso
            have h1 : (!decide (((bs.set (0 + (a : Int).toNat) (posC c (c.pos + (p.data.length : Int)))).getD (0 + (a : Int).toNat) noCut).pos = (c.data.length : Int))) = true := h
            rw [idx, getD_set _ _ _ hab] at h1
            have h2 : (posC c (c.pos + (p.data.length : Int))).pos = (c.data.length : Int) := by show c.pos + (p.data.length : Int) = _; have := f8 he; omega
            rw [h2] at h1; simp at h1
          · (repeat (first | refine obl_dec (by omega) ?_ | refine obl_int (by omega) ?_ | refine obl_and (by omega) rfl ?_))
            rw [idx]
            exact hnext _ (a + 1) _ _ p.en _ f1 (by (first | exact hst0 | (simp_all)))
        · have f1 := st2 he
          (repeat (first | refine obl_dec (by omega) ?_ | refine obl_int (by omega) ?_ | refine obl_and (by omega) rfl ?_))
          rw [idx]
          exact hnext _ a _ _ p.en _ f1 (by (first | exact hst0 | (simp_all)))
      · skip
        (repeat (first | refine obl_dec (by omega) ?_ | refine obl_int (by omega) ?_ | refine obl_and (by omega) rfl ?_))
        refine br_mk (fun he => ?_) (fun he => ?_)
        · have f1 := st1 he
          have hset : 0 + (a : Int).toNat < (bs.set (0 + (a : Int).toNat) (posC c (c.pos + (p.data.length : Int)))).length := by rw [List.length_set]; omega
          refine obl_dec (by omega) (obl_dec hset ?_)
          refine br_mk (fun h => ?_) (fun _ => ?_)
          · exfalso
            have h1 : (!decide (((bs.set (0 + (a : Int).toNat) (posC c (c.pos + (p.data.length : Int)))).getD (0 + (a : Int).toNat) noCut).pos = (c.data.length : Int))) = true := h
            rw [idx, getD_set _ _ _ hab] at h1
            have h2 : (posC c (c.pos + (p.data.length : Int))).pos = (c.data.length : Int) := by show c.pos + (p.data.length : Int) = _; have := f8 he; omega
            rw [h2] at h1; simp at h1
          · (repeat (first | refine obl_dec (by omega) ?_ | refine obl_int (by omega) ?_ | refine obl_and (by omega) rfl ?_))
            rw [idx]
            exact hnext _ (a + 1) _ _ p.en _ f1 (by (first | exact hst0 | (simp_all)))
        · have f1 := st2 he
          (repeat (first | refine obl_dec (by omega) ?_ | refine obl_int (by omega) ?_ | refine obl_and (by omega) rfl ?_))
          rw [idx]
          exact hnext _ a _ _ p.en _ f1 (by (first | exact hst0 | (simp_all)))
  · skip
    refine br_dec (fun h => absurd h (by omega)) (fun _ => ?_)
    (repeat (first | refine obl_dec (by omega) ?_ | refine obl_int (by omega) ?_ | refine obl_and (by omega) rfl ?_))
    refine br_dec (fun h => absurd h (by omega)) (fun _ => ?_)
    (repeat (first | refine obl_dec (by omega) ?_ | refine obl_int (by omega) ?_ | refine obl_and (by omega) rfl ?_))
    refine br_mk (fun h => ?_) (fun _ => ?_)
    · exfalso
      rw [List.drop_take, show (c.pos + (p.data.length : Int)).toNat - c.pos.toNat = p.data.length by omega, f3, f5] at h
      simp at h
    (repeat (first | refine obl_dec (by omega) ?_ | refine obl_int (by omega) ?_ | refine obl_and (by omega) rfl ?_))
    refine br_mk (fun hst2 => ?_) (fun hst2 => ?_)
    · (repeat (first | refine obl_dec (by omega) ?_ | refine obl_int (by omega) ?_ | refine obl_and (by omega) rfl ?_))
      refine br_mk (fun h => ?_) (fun _ => ?_)
      · rw [decide_eq_true (f6 hst2)] at h; cases h
      (repeat (first | refine obl_dec (by omega) ?_ | refine obl_int (by omega) ?_ | refine obl_and (by omega) rfl ?_))
      refine br_mk (fun he => ?_) (fun he => ?_)
      · have f1 := st1 he
        have hset : 0 + (a : Int).toNat < (bs.set (0 + (a : Int).toNat) (posC c (c.pos + (p.data.length : Int)))).length := by rw [List.length_set]; omega
        refine obl_dec (by omega) (obl_dec hset ?_)
        refine br_mk (fun h => ?_) (fun _ => ?_)
        · exfalso
          have h1 : (!decide (((bs.set (0 + (a : Int).toNat) (posC c (c.pos + (p.data.length : Int)))).getD (0 + (a : Int).toNat) noCut).pos = (c.data.length : Int))) = true := h
          rw [idx, getD_set _ _ _ hab] at h1
          have h2 : (posC c (c.pos + (p.data.length : Int))).pos = (c.data.length : Int) := by show c.pos + (p.data.length : Int) = _; have := f8 he; omega
          rw [h2] at h1; simp at h1
        · (repeat (first | refine obl_dec (by omega) ?_ | refine obl_int (by omega) ?_ | refine obl_and (by omega) rfl ?_))
          rw [idx]
          exact hnext _ (a + 1) _ _ p.en _ f1 (by (first | exact hst0 | (rw [hst, Bool.or_false]; exact hst0)))
      · have f1 := st2 he
        (repeat (first | refine obl_dec (by omega) ?_ | refine obl_int (by omega) ?_ | refine obl_and (by omega) rfl ?_))
        rw [idx]
        exact hnext _ a _ _ p.en _ f1 (by (first | exact hst0 | (rw [hst, Bool.or_false]; exact hst0)))
    · skip
      (repeat (first | refine obl_dec (by omega) ?_ | refine obl_int (by omega) ?_ | refine obl_and (by omega) rfl ?_))
      refine br_mk (fun he => ?_) (fun he => ?_)
      · have f1 := st1 he
        have hset : 0 + (a : Int).toNat < (bs.set (0 + (a : Int).toNat) (posC c (c.pos + (p.data.length : Int)))).length := by rw [List.length_set]; omega
        refine obl_dec (by omega) (obl_dec hset ?_)
        refine br_mk (fun h => ?_) (fun _ => ?_)
        · exfalso
          have h1 : (!decide (((bs.set (0 + (a : Int).toNat) (posC c (c.pos + (p.data.length : Int)))).getD (0 + (a : Int).toNat) noCut).pos = (c.data.length : Int))) = true := h
          rw [idx, getD_set _ _ _ hab] at h1
          have h2 : (posC c (c.pos + (p.data.length : Int))).pos = (c.data.length : Int) := by show c.pos + (p.data.length : Int) = _; have := f8 he; omega
          rw [h2] at h1; simp at h1
        · (repeat (first | refine obl_dec (by omega) ?_ | refine obl_int (by omega) ?_ | refine obl_and (by omega) rfl ?_))
          rw [idx]
          exact hnext _ (a + 1) _ _ p.en _ f1 (by (first | exact hst0 | (rw [hst, Bool.or_false]; exact hst0)))
      · have f1 := st2 he
        (repeat (first | refine obl_dec (by omega) ?_ | refine obl_int (by omega) ?_ | refine obl_and (by omega) rfl ?_))
        rw [idx]
        exact hnext _ a _ _ p.en _ f1 (by (first | exact hst0 | (rw [hst, Bool.or_false]; exact hst0)))
set_option maxRecDepth 100000 in
set_option maxHeartbeats 1000000 in
theorem fr_C (H0 : AHeap) (hH0 : H0.next ≤ 1) (hs : List PackR) (n : Nat) (cs bs : List CutR) (ds : List BoolR) (P : List PieceR) (S : List Int) (z a : Nat) (pos : Int) (beg : Bool) (starts : Int) (last : Bool) (i : Nat) (Q : AExit → Env → AHeap → Prop) (h : LI n cs P z a pos beg i bs) (hst0 : starts = stN beg)
    (hexit : i = P.length → Q (.exit 0) (kC hs n bs ds P S starts (a : Int) last (k14 (i : Int))).1 (kC hs n bs ds P S starts (a : Int) last (k14 (i : Int))).2)
    (hnext : ∀ (starts' : Int) (a' : Nat) (pos' : Int) (beg' : Bool) (last' : Bool) (bs' : List CutR), LI n cs P z a' pos' beg' (i + 1) bs' → starts' = stN beg' → Q .normal (kC hs n bs' ds P S starts' (a' : Int) last' (k14 ((i : Int) + 1))).1 (kC hs n bs' ds P S starts' (a' : Int) last' (k14 ((i : Int) + 1))).2) :
    Gd ((TFits hs).ctx Try.prog) 4 H0 fitsR Q (kC hs n bs ds P S starts (a : Int) last (k14 (i : Int))).1 (kC hs n bs ds P S starts (a : Int) last (k14 (i : Int))).2 := by
  refine Gd.walkC (TFitsok hs).ctx 1 tsF hH0 (kIn hs [true, true, true, true, true, true, true, true, false, true, false, false]) (Eq.mpr (w_fr_C hs n bs ds P S starts a last i _) ?_)
  have hil := h.il
  refine br_dec (fun hi => ?_) (fun hi => hexit (by omega))
  have hi' : i < P.length := by omega
  have idi : 0 + (i : Int).toNat = i := by omega
  have idx : 0 + (a : Int).toNat = a := by omega
  rw [idi]
  generalize hpe : P.getD i noPiece = p
  generalize hce : bs.getD (0 + (a : Int).toNat) noCut = c
  have hce' : bs.getD a noCut = c := by rw [idx] at hce; exact hce
  obtain ⟨⟨f1, f2, f3, f4, f5, f6, f7, f8, f9⟩, st1, st2⟩ := h.step hi' (show P.getD i noPiece = p from hpe) hce'
  have hn30 := h.n30
  have hpl := h.pl
  have hlen := h.len
  have hab : a < bs.length := by omega
  have hs2 : 0 ≤ starts ∧ starts ≤ 1 := by rw [hst0]; cases beg <;> simp [stN]
  (repeat (first | refine obl_dec (by omega) ?_ | refine obl_int (by omega) ?_ | refine obl_and (by omega) rfl ?_))
  refine br_mk (fun hst => ?_) (fun hst => ?_)
  · (repeat (first | refine obl_dec (by omega) ?_ | refine obl_int (by omega) ?_ | refine obl_and (by omega) rfl ?_))
    refine br_mk (fun hen => ?_) (fun hen => ?_)
    · have hen0 : p.en = false := by simpa using hen
      (repeat (first | refine obl_dec (by omega) ?_ | refine obl_int (by omega) ?_ | refine obl_and (by omega) rfl ?_))
      refine br_dec (fun h => absurd h (by omega)) (fun _ => ?_)
      (repeat (first | refine obl_dec (by omega) ?_ | refine obl_int (by omega) ?_ | refine obl_and (by omega) rfl ?_))
      refine br_dec (fun h => absurd h (by omega)) (fun _ => ?_)
      (repeat (first | refine obl_dec (by omega) ?_ | refine obl_int (by omega) ?_ | refine obl_and (by omega) rfl ?_))
      refine br_mk (fun h => ?_) (fun _ => ?_)
      · exfalso
        rw [List.drop_take, show (c.pos + (p.data.length : Int)).toNat - c.pos.toNat = p.data.length by omega, f3, f5] at h
        simp at h
      (repeat (first | refine obl_dec (by omega) ?_ | refine obl_int (by omega) ?_ | refine obl_and (by omega) rfl ?_))
      refine br_mk (fun hst2 => ?_) (fun hst2 => ?_)
      · (repeat (first | refine obl_dec (by omega) ?_ | refine obl_int (by omega) ?_ | refine obl_and (by omega) rfl ?_))
        refine br_mk (fun h => ?_) (fun _ => ?_)
        · rw [decide_eq_true (f6 hst2)] at h; cases h
        (repeat (first | refine obl_dec (by omega) ?_ | refine obl_int (by omega) ?_ | refine obl_and (by omega) rfl ?_))
        refine br_mk (fun he => ?_) (fun he => ?_)
        · have f1 := st1 he
          have hset : 0 + (a : Int).toNat < (bs.set (0 + (a : Int).toNat) (posC c (c.pos + (p.data.length : Int)))).length := by rw [List.length_set]; omega
          refine obl_dec (by omega) (obl_dec hset ?_)
          refine br_mk (fun h => ?_) (fun _ => ?_)
          · exfalso
            have h1 : (!decide (((bs.set (0 + (a : Int).toNat) (posC c (c.pos + (p.data.length : Int)))).getD (0 + (a : Int).toNat) noCut).pos = (c.data.length : Int))) = true := h
            rw [idx, getD_set _ _ _ hab] at h1
            have h2 : (posC c (c.pos + (p.data.length : Int))).pos = (c.data.length : Int) := by show c.pos + (p.data.length : Int) = _; have := f8 he; omega
            rw [h2] at h1; simp at h1
          · (repeat (first | refine obl_dec (by omega) ?_ | refine obl_int (by omega) ?_ | refine obl_and (by omega) rfl ?_))
            rw [idx]
            exact hnext _ (a + 1) _ _ p.en _ f1 (by (have hb := f7 hst hen0; subst hb; rw [hst0]; simp_all [stN]))
        · have f1 := st2 he
          (repeat (first | refine obl_dec (by omega) ?_ | refine obl_int (by omega) ?_ | refine obl_and (by omega) rfl ?_))
          rw [idx]
          exact hnext _ a _ _ p.en _ f1 (by (have hb := f7 hst hen0; subst hb; rw [hst0]; simp_all [stN]))
      · skip
        (repeat (first | refine obl_dec (by omega) ?_ | refine obl_int (by omega) ?_ | refine obl_and (by omega) rfl ?_))
        refine br_mk (fun he => ?_) (fun he => ?_)
        · have f1 := st1 he
          have hset : 0 + (a : Int).toNat < (bs.set (0 + (a : Int).toNat) (posC c (c.pos + (p.data.length : Int)))).length := by rw [List.length_set]; omega
          refine obl_dec (by omega) (obl_dec hset ?_)
          refine br_mk (fun h => ?_) (fun _ => ?_)
          · exfalso
            have h1 : (!decide (((bs.set (0 + (a : Int).toNat) (posC c (c.pos + (p.data.length : Int)))).getD (0 + (a : Int).toNat) noCut).pos = (c.data.length : Int))) = true := h
            rw [idx, getD_set _ _ _ hab] at h1
            have h2 : (posC c (c.pos + (p.data.length : Int))).pos = (c.data.length : Int) := by show c.pos + (p.data.length : Int) = _; have := f8 he; omega
            rw [h2] at h1; simp at h1
          · (repeat (first | refine obl_dec (by omega) ?_ | refine obl_int (by omega) ?_ | refine obl_and (by omega) rfl ?_))
            rw [idx]
            exact hnext _ (a + 1) _ _ p.en _ f1 (by (have hb := f7 hst hen0; subst hb; rw [hst0]; simp_all [stN]))
        · have f1 := st2 he
          (repeat (first | refine obl_dec (by omega) ?_ | refine obl_int (by omega) ?_ | refine obl_and (by omega) rfl ?_))
          rw [idx]
          exact hnext _ a _ _ p.en _ f1 (by (have hb := f7 hst hen0; subst hb; rw [hst0]; simp_all [stN]))
    · have hen0 : p.en = true := by simpa using hen
      refine br_dec (fun h => absurd h (by omega)) (fun _ => ?_)
      (repeat (first | refine obl_dec (by omega) ?_ | refine obl_int (by omega) ?_ | refine obl_and (by omega) rfl ?_))
      refine br_dec (fun h => absurd h (by omega)) (fun _ => ?_)
      (repeat (first | refine obl_dec (by omega) ?_ | refine obl_int (by omega) ?_ | refine obl_and (by omega) rfl ?_))
      refine br_mk (fun h => ?_) (fun _ => ?_)
      · exfalso
        rw [List.drop_take, show (c.pos + (p.data.length : Int)).toNat - c.pos.toNat = p.data.length by omega, f3, f5] at h
        simp at h
      (repeat (first | refine obl_dec (by omega) ?_ | refine obl_int (by omega) ?_ | refine obl_and (by omega) rfl ?_))
      refine br_mk (fun hst2 => ?_) (fun hst2 => ?_)
      · (repeat (first | refine obl_dec (by omega) ?_ | refine obl_int (by omega) ?_ | refine obl_and (by omega) rfl ?_))
        refine br_mk (fun h => ?_) (fun _ => ?_)
        · rw [decide_eq_true (f6 hst2)] at h; cases h
        (repeat (first | refine obl_dec (by omega) ?_ | refine obl_int (by omega) ?_ | refine obl_and (by omega) rfl ?_))
        refine br_mk (fun he => ?_) (fun he => ?_)
        · have f1 := st1 he
          have hset : 0 + (a : Int).toNat < (bs.set (0 + (a : Int).toNat) (posC c (c.pos + (p.data.length : Int)))).length := by rw [List.length_set]; omega
          refine obl_dec (by omega) (obl_dec hset ?_)
          refine br_mk (fun h => ?_) (fun _ => ?_)
          · exfalso
            have h1 : (!decide (((bs.set (0 + (a : Int).toNat) (posC c (c.pos + (p.data.length : Int)))).getD (0 + (a : Int).toNat) noCut).pos = (c.data.length : Int))) = true := h
            rw [idx, getD_set _ _ _ hab] at h1
            have h2 : (posC c (c.pos + (p.data.length : Int))).pos = (c.data.length : Int) := by show c.pos + (p.data.length : Int) = _; have := f8 he; omega
            rw [h2] at h1; simp at h1
          · (repeat (first | refine obl_dec (by omega) ?_ | refine obl_int (by omega) ?_ | refine obl_and (by omega) rfl ?_))
            rw [idx]
            exact hnext _ (a + 1) _ _ p.en _ f1 (by (first | exact hst0 | (simp_all)))
        · have f1 := st2 he
          (repeat (first | refine obl_dec (by omega) ?_ | refine obl_int (by omega) ?_ | refine obl_and (by omega) rfl ?_))
          rw [idx]
          exact hnext _ a _ _ p.en _ f1 (by (first | exact hst0 | (simp_all)))
      · skip
        (repeat (first | refine obl_dec (by omega) ?_ | refine obl_int (by omega) ?_ | refine obl_and (by omega) rfl ?_))
        refine br_mk (fun he => ?_) (fun he => ?_)
        · have f1 := st1 he
          have hset : 0 + (a : Int).toNat < (bs.set (0 + (a : Int).toNat) (posC c (c.pos + (p.data.length : Int)))).length := by rw [List.length_set]; omega
          refine obl_dec (by omega) (obl_dec hset ?_)
          refine br_mk (fun h => ?_) (fun _ => ?_)
          · exfalso
            have h1 : (!decide (((bs.set (0 + (a : Int).toNat) (posC c (c.pos + (p.data.length : Int)))).getD (0 + (a : Int).toNat) noCut).pos = (c.data.length : Int))) = true := h
            rw [idx, getD_set _ _ _ hab] at h1
            have h2 : (posC c (c.pos + (p.data.length : Int))).pos = (c.data.length : Int) := by show c.pos + (p.data.length : Int) = _; have := f8 he; omega
            rw [h2] at h1; simp at h1
          · (repeat (first | refine obl_dec (by omega) ?_ | refine obl_int (by omega) ?_ | refine obl_and (by omega) rfl ?_))
            rw [idx]
            exact hnext _ (a + 1) _ _ p.en _ f1 (by (first | exact hst0 | (simp_all)))
        · have f1 := st2 he
          (repeat (first | refine obl_dec (by omega) ?_ | refine obl_int (by omega) ?_ | refine obl_and (by omega) rfl ?_))
          rw [idx]
          exact hnext _ a _ _ p.en _ f1 (by (first | exact hst0 | (simp_all)))
  · skip
    refine br_dec (fun h => absurd h (by omega)) (fun _ => ?_)
    (repeat (first | refine obl_dec (by omega) ?_ | refine obl_int (by omega) ?_ | refine obl_and (by omega) rfl ?_))
    refine br_dec (fun h => absurd h (by omega)) (fun _ => ?_)
    (repeat (first | refine obl_dec (by omega) ?_ | refine obl_int (by omega) ?_ | refine obl_and (by omega) rfl ?_))
    refine br_mk (fun h => ?_) (fun _ => ?_)
    · exfalso
      rw [List.drop_take, show (c.pos + (p.data.length : Int)).toNat - c.pos.toNat = p.data.length by omega, f3, f5] at h
      simp at h
    (repeat (first | refine obl_dec (by omega) ?_ | refine obl_int (by omega) ?_ | refine obl_and (by omega) rfl ?_))
    refine br_mk (fun hst2 => ?_) (fun hst2 => ?_)
    · (repeat (first | refine obl_dec (by omega) ?_ | refine obl_int (by omega) ?_ | refine obl_and (by omega) rfl ?_))
      refine br_mk (fun h => ?_) (fun _ => ?_)
      · rw [decide_eq_true (f6 hst2)] at h; cases h
      (repeat (first | refine obl_dec (by omega) ?_ | refine obl_int (by omega) ?_ | refine obl_and (by omega) rfl ?_))
      refine br_mk (fun he => ?_) (fun he => ?_)
      · have f1 := st1 he
        have hset : 0 + (a : Int).toNat < (bs.set (0 + (a : Int).toNat) (posC c (c.pos + (p.data.length : Int)))).length := by rw [List.length_set]; omega
        refine obl_dec (by omega) (obl_dec hset ?_)
        refine br_mk (fun h => ?_) (fun _ => ?_)
        · exfalso
          have h1 : (!decide (((bs.set (0 + (a : Int).toNat) (posC c (c.pos + (p.data.length : Int)))).getD (0 + (a : Int).toNat) noCut).pos = (c.data.length : Int))) = true := h
          rw [idx, getD_set _ _ _ hab] at h1
          have h2 : (posC c (c.pos + (p.data.length : Int))).pos = (c.data.length : Int) := by show c.pos + (p.data.length : Int) = _; have := f8 he; omega
          rw [h2] at h1; simp at h1
        · (repeat (first | refine obl_dec (by omega) ?_ | refine obl_int (by omega) ?_ | refine obl_and (by omega) rfl ?_))
          rw [idx]
          exact hnext _ (a + 1) _ _ p.en _ f1 (by (first | exact hst0 | (rw [hst, Bool.or_false]; exact hst0)))
      · have f1 := st2 he
        (repeat (first | refine obl_dec (by omega) ?_ | refine obl_int (by omega) ?_ | refine obl_and (by omega) rfl ?_))
        rw [idx]
        exact hnext _ a _ _ p.en _ f1 (by (first | exact hst0 | (rw [hst, Bool.or_false]; exact hst0)))
    · skip
      (repeat (first | refine obl_dec (by omega) ?_ | refine obl_int (by omega) ?_ | refine obl_and (by omega) rfl ?_))
      refine br_mk (fun he => ?_) (fun he => ?_)
      · have f1 := st1 he
        have hset : 0 + (a : Int).toNat < (bs.set (0 + (a : Int).toNat) (posC c (c.pos + (p.data.length : Int)))).length := by rw [List.length_set]; omega
        refine obl_dec (by omega) (obl_dec hset ?_)
        refine br_mk (fun h => ?_) (fun _ => ?_)
        · exfalso
          have h1 : (!decide (((bs.set (0 + (a : Int).toNat) (posC c (c.pos + (p.data.length : Int)))).getD (0 + (a : Int).toNat) noCut).pos = (c.data.length : Int))) = true := h
          rw [idx, getD_set _ _ _ hab] at h1
          have h2 : (posC c (c.pos + (p.data.length : Int))).pos = (c.data.length : Int) := by show c.pos + (p.data.length : Int) = _; have := f8 he; omega
          rw [h2] at h1; simp at h1
        · (repeat (first | refine obl_dec (by omega) ?_ | refine obl_int (by omega) ?_ | refine obl_and (by omega) rfl ?_))
          rw [idx]
          exact hnext _ (a + 1) _ _ p.en _ f1 (by (first | exact hst0 | (rw [hst, Bool.or_false]; exact hst0)))
      · have f1 := st2 he
        (repeat (first | refine obl_dec (by omega) ?_ | refine obl_int (by omega) ?_ | refine obl_and (by omega) rfl ?_))
        rw [idx]
        exact hnext _ a _ _ p.en _ f1 (by (first | exact hst0 | (rw [hst, Bool.or_false]; exact hst0)))
end Go.Proofs.Ytjacnjecggedhaa
namespace Go.Proofs.Ytjacnjecggedhaa
set_option linter.unusedVariables false
set_option linter.unusedSimpArgs false
open Go.RowKit Ev
noncomputable abbrev fitsQ (hs : List PackR) : AExit → Env → AHeap → Prop := endA ((TFits hs).ctx Try.prog).P Try.f4 (fun o _ => o = .ret (.bool true))
theorem fitsT_eq : tailN 8 fitsB = .seq (.seq (seqL (seqL (tailN 8 fitsB))) (.block 0 (.loop fitsR))) (seqR (tailN 8 fitsB)) := by kernel_rfl
theorem upto_length (z : Nat) : (upto z).length = z := by unfold upto; simp
theorem upto_get (z : Nat) (h : 0 < z) : (upto z).getD (z - 1) 0 = (z : Int) := by
  unfold upto
  rw [List.getD_eq_getElem?_getD, List.getElem?_map, List.getElem?_range (by omega)]
  simp only [Option.map_some, Option.getD_some]
  omega
theorem stN_le (b : Bool) : stN b ≤ 1 := by cases b <;> simp [stN]
def lIB (hs : List PackR) (n : Nat) (cs : List CutR) (ds : List BoolR) (P : List PieceR) (z m : Nat) (E : Env) (H : AHeap) : Prop :=
  ∃ (bs : List CutR) (a : Nat) (pos : Int) (beg : Bool) (last : Bool) (i : Nat), m = P.length - i ∧ LI n cs P z a pos beg i bs ∧ E = (kB hs n bs ds P (stN beg) (a : Int) last (k14 (i : Int))).1 ∧ H = (kB hs n bs ds P (stN beg) (a : Int) last (k14 (i : Int))).2
def lQB (hs : List PackR) (n : Nat) (cs : List CutR) (ds : List BoolR) (P : List PieceR) (z : Nat) : AExit → Env → AHeap → Prop := fun x E H => match x with
  | .exit 0 => ∃ (bs : List CutR) (a : Nat) (pos : Int) (beg : Bool) (last : Bool) (i : Nat), i = P.length ∧ LI n cs P z a pos beg i bs ∧ E = (kB hs n bs ds P (stN beg) (a : Int) last (k14 (i : Int))).1 ∧ H = (kB hs n bs ds P (stN beg) (a : Int) last (k14 (i : Int))).2
  | _ => False
theorem l_loopB (H0 : AHeap) (hH0 : H0.next ≤ 1) (hs : List PackR) (n : Nat) (cs : List CutR) (ds : List BoolR) (P : List PieceR) (z : Nat) : ∀ m E H, lIB hs n cs ds P z m E H → Gd ((TFits hs).ctx Try.prog) 4 H0 (.loop fitsR) (lQB hs n cs ds P z) E H := by
  refine Gd.loop (lIB hs n cs ds P z) (fun m E H hI => ?_)
  obtain ⟨bs, a, pos, beg, last, i, hm, h, rfl, rfl⟩ := hI
  refine fr_B H0 hH0 hs n cs bs ds P z a pos beg (stN beg) last i _ h rfl (fun hi => ?_) (fun starts' a' pos' beg' last' bs' h' hst => ?_)
  · exact ⟨bs, a, pos, beg, last, i, hi, h, rfl, rfl⟩
  · subst hst
    have := h'.il
    exact ⟨P.length - (i + 1), by omega, bs', a', pos', beg', last', i + 1, rfl, h', rfl, rfl⟩
set_option maxRecDepth 100000 in
theorem l_restB (H0 : AHeap) (hH0 : H0.next ≤ 1) (hs : List PackR) (n : Nat) (cs : List CutR) (ds : List BoolR) (P : List PieceR) (z : Nat) (hz : z = 0) (pos : Int) (h : LI n cs P z 0 pos false 0 cs) :
    Gd ((TFits hs).ctx Try.prog) 4 H0 (tailN 8 fitsB) (fitsQ hs) (kB hs n cs ds P 0 0 false []).1 (kB hs n cs ds P 0 0 false []).2 := by
  rw [fitsT_eq]
  refine Gd.seq (Gd.seq (Gd.walkC (TFitsok hs).ctx 1 tsF hH0 (kIn hs [true, true, true, true, true, true, true, true, false, false]) (Eq.mpr (w_fset_B hs n cs ds P 0 0 false _) ?_)))
  refine Gd.block (Gd.mono (l_loopB H0 hH0 hs n cs ds P z P.length _ _ ⟨cs, 0, pos, false, false, 0, rfl, h, rfl, rfl⟩) (fun x E H hx => ?_))
  unfold lQB at hx
  split at hx
  · obtain ⟨bs, a, pos', beg, last, i, hi, h', rfl, rfl⟩ := hx
    have hv := h'.vv
    rw [hi, List.drop_length] at hv
    have hv : a = z := hv
    subst hv
    refine Gd.walk (TFitsok hs).ctx hH0 (kIn hs [true, true, true, true, true, true, true, true, true]) (Eq.mpr (w_fend_B hs n bs ds P (stN beg) (a : Int) last (i : Int) _) ?_)
    refine br_dec (fun _ => ?_) (fun hn => absurd (stN_le beg) hn)
    subst hz
    exact br_dec (fun _ => br_dec (fun _ => rfl) (fun hn => absurd rfl hn)) (fun hn => absurd rfl hn)
  · exact hx.elim
def lIC (hs : List PackR) (n : Nat) (cs : List CutR) (ds : List BoolR) (P : List PieceR) (S : List Int) (z m : Nat) (E : Env) (H : AHeap) : Prop :=
  ∃ (bs : List CutR) (a : Nat) (pos : Int) (beg : Bool) (last : Bool) (i : Nat), m = P.length - i ∧ LI n cs P z a pos beg i bs ∧ E = (kC hs n bs ds P S (stN beg) (a : Int) last (k14 (i : Int))).1 ∧ H = (kC hs n bs ds P S (stN beg) (a : Int) last (k14 (i : Int))).2
def lQC (hs : List PackR) (n : Nat) (cs : List CutR) (ds : List BoolR) (P : List PieceR) (S : List Int) (z : Nat) : AExit → Env → AHeap → Prop := fun x E H => match x with
  | .exit 0 => ∃ (bs : List CutR) (a : Nat) (pos : Int) (beg : Bool) (last : Bool) (i : Nat), i = P.length ∧ LI n cs P z a pos beg i bs ∧ E = (kC hs n bs ds P S (stN beg) (a : Int) last (k14 (i : Int))).1 ∧ H = (kC hs n bs ds P S (stN beg) (a : Int) last (k14 (i : Int))).2
  | _ => False
theorem l_loopC (H0 : AHeap) (hH0 : H0.next ≤ 1) (hs : List PackR) (n : Nat) (cs : List CutR) (ds : List BoolR) (P : List PieceR) (S : List Int) (z : Nat) : ∀ m E H, lIC hs n cs ds P S z m E H → Gd ((TFits hs).ctx Try.prog) 4 H0 (.loop fitsR) (lQC hs n cs ds P S z) E H := by
  refine Gd.loop (lIC hs n cs ds P S z) (fun m E H hI => ?_)
  obtain ⟨bs, a, pos, beg, last, i, hm, h, rfl, rfl⟩ := hI
  refine fr_C H0 hH0 hs n cs bs ds P S z a pos beg (stN beg) last i _ h rfl (fun hi => ?_) (fun starts' a' pos' beg' last' bs' h' hst => ?_)
  · exact ⟨bs, a, pos, beg, last, i, hi, h, rfl, rfl⟩
  · subst hst
    have := h'.il
    exact ⟨P.length - (i + 1), by omega, bs', a', pos', beg', last', i + 1, rfl, h', rfl, rfl⟩
set_option maxRecDepth 100000 in
theorem l_restC (H0 : AHeap) (hH0 : H0.next ≤ 1) (hs : List PackR) (n : Nat) (cs : List CutR) (ds : List BoolR) (P : List PieceR) (S : List Int) (z : Nat) (hS : S = upto z) (hz : 0 < z) (pos : Int) (h : LI n cs P z 0 pos false 0 cs) :
    Gd ((TFits hs).ctx Try.prog) 4 H0 (tailN 8 fitsB) (fitsQ hs) (kC hs n cs ds P S 0 0 false []).1 (kC hs n cs ds P S 0 0 false []).2 := by
  rw [fitsT_eq]
  refine Gd.seq (Gd.seq (Gd.walkC (TFitsok hs).ctx 1 tsF hH0 (kIn hs [true, true, true, true, true, true, true, true, false, false]) (Eq.mpr (w_fset_C hs n cs ds P S 0 0 false _) ?_)))
  refine Gd.block (Gd.mono (l_loopC H0 hH0 hs n cs ds P S z P.length _ _ ⟨cs, 0, pos, false, false, 0, rfl, h, rfl, rfl⟩) (fun x E H hx => ?_))
  unfold lQC at hx
  split at hx
  · obtain ⟨bs, a, pos', beg, last, i, hi, h', rfl, rfl⟩ := hx
    have hv := h'.vv
    rw [hi, List.drop_length] at hv
    have hv : a = z := hv
    subst hv
    refine Gd.walk (TFitsok hs).ctx hH0 (kIn hs [true, true, true, true, true, true, true, true, true]) (Eq.mpr (w_fend_C hs n bs ds P S (stN beg) (a : Int) last (i : Int) _) ?_)
    refine br_dec (fun _ => ?_) (fun hn => absurd (stN_le beg) hn)
    have hl : S.length = a := by rw [hS, upto_length]
    have han := h'.an
    have hn30 := h'.n30
    refine br_dec (fun _ => ?_) (fun hn => absurd (by rw [hl]) hn)
    refine br_dec (fun hn => rfl) (fun hn => ?_)
    refine obl_int (by omega) (obl_dec (by omega) (obl_dec (by omega) ?_))
    have e1 : 0 + ((a : Int) - 1).toNat = a - 1 := by omega
    have e2 : (a : Int) % 18446744073709551616 = (a : Int) := by omega
    rw [e1, e2, hS, upto_get a hz, decide_eq_true rfl]
  · exact hx.elim
set_option maxRecDepth 100000 in
theorem l_restA (H0 : AHeap) (hH0 : H0.next ≤ 1) (hs : List PackR) (n : Nat) (cs : List CutR) (ds : List BoolR) :
    Gd ((TFits hs).ctx Try.prog) 4 H0 (tailN 8 fitsB) (fitsQ hs) (kA hs n cs ds []).1 (kA hs n cs ds []).2 := by
  rw [fitsT_eq]
  refine Gd.seq (Gd.seq (Gd.walkC (TFitsok hs).ctx 1 tsF hH0 (kIn hs [true, true, true, true, true, true, true, true, false, false]) (Eq.mpr (w_fset_A hs n cs ds _) ?_)))
  refine Gd.block (Gd.loop (fun m E H => E = (kA hs n cs ds (k14 0)).1 ∧ H = (kA hs n cs ds (k14 0)).2) (fun m E H hI => ?_) 0 _ _ ⟨rfl, rfl⟩)
  obtain ⟨rfl, rfl⟩ := hI
  refine Gd.walkC (TFitsok hs).ctx 1 tsF hH0 (kIn hs [true, true, true, true, true, true, true, true, false, true, false, false]) (Eq.mpr (w_fr_A hs n cs ds _) ?_)
  exact Gd.walk (TFitsok hs).ctx hH0 (kIn hs [true, true, true, true, true, true, true, true, true]) (Eq.mpr (w_fend_A hs n cs ds _) rfl)
def fIt (hs : List PackR) (E : Env) (H : AHeap) : Prop := ∃ (n : Nat) (cs : List CutR) (P : List PieceR) (z : Nat) (pos : Int), LI n cs P z 0 pos false 0 cs ∧
  ((E = (kA hs n cs (dsN n) []).1 ∧ H = (kA hs n cs (dsN n) []).2) ∨ (z = 0 ∧ E = (kB hs n cs (dsN n) P 0 0 false []).1 ∧ H = (kB hs n cs (dsN n) P 0 0 false []).2) ∨ (0 < z ∧ E = (kC hs n cs (dsN n) P (upto z) 0 0 false []).1 ∧ H = (kC hs n cs (dsN n) P (upto z) 0 0 false []).2))
set_option maxRecDepth 100000 in
theorem fits_good (hs : List PackR) (sp : Int) (hp : pOk hs) (hne : hs.length ≠ 0) (h0 : 0 ≤ sp) (h1 : sp ≤ 65535) :
    Gd ((TFits hs).ctx Try.prog) 4 ⟨1, [(0, pRow hs .ro)]⟩ fitsB (fitsQ hs) (env0 [.sl 0 0 5 0 hs.length none, .int .u16 sp] 0) ⟨1, [(0, pRow hs .ro)]⟩ := by
  have hH0 : (AHeap.mk 1 [(0, pRow hs .ro)]).next ≤ 1 := Nat.le_refl _
  refine Gd.walkN (TFitsok hs).ctx (base := 1) hH0 (It := fun E H => canonK 1 [6, 9, 8, 11, 12, 13] E H (fIt hs)) 8 400 _ _ _ (by kernel_rfl) (kIn hs []) ?_ (fun E H h => ?_)
  rotate_left
  · obtain ⟨E', H', σ, ⟨n, cs, P, z, pos, hl, hh⟩, g2, g3, g4, g5, g6⟩ := canonK_ok h
    refine Gd.sub (base := 1) hH0 g6 ?_ g2 g3 g4 g5
    rcases hh with ⟨rfl, rfl⟩ | ⟨hz, rfl, rfl⟩ | ⟨hz, rfl, rfl⟩
    · exact l_restA _ hH0 hs n cs (dsN n)
    · exact l_restB _ hH0 hs n cs (dsN n) P z hz pos hl
    · exact l_restC _ hH0 hs n cs (dsN n) P (upto z) z rfl hz pos hl
  refine Eq.mpr (w_fits hs sp _ _) ?_
  have hmem : ∀ x : PackR, List.Mem x hs → PackOk x := hp
  have hne' : hs.length = 0 → False := hne
  refine ⟨⟨rfl, rfl⟩, ⟨hmem, hne'⟩, fun cs hcs => ⟨⟨rfl, rfl⟩, ⟨hmem, hne'⟩, fun cs1 hcs1 => ?_⟩⟩
  have e1 : cs1 = cs := hcs1.trans hcs.symm
  subst e1
  have hlen : cs1.length = min hs.length 30 := by rw [hcs, ofN_length]
  have hsm := fun j => cut_small hp (min hs.length 30) (Nat.min_le_left _ _) j
  rw [← hcs] at hsm
  have hsp : 0 ≤ sp % 7300 ∧ sp % 7300 < 7300 := by omega
  refine obl_int (by omega) (obl_dec (by omega) ⟨rfl, cs1, ⟨⟨rfl, rfl⟩, (twice_iff _).2 rfl, (by omega : cs1.length ≤ 30), (by omega : sp % 7300 ≤ 7300), fun j => (hsm j).1⟩, fun l L S hout cs' ds' => ?_⟩)
  obtain ⟨m1, m2, m3, z, m4, m5⟩ := fits_math hsp.1 (show FillOut cs1 (dsN cs1.length) 0 (sp % 7300) l L S from hout)
  have hLI : LI cs1.length cs1 (allP L) z 0 (cs1.getD 0 noCut).pos false 0 cs1 := ⟨m4, rfl, rfl, by omega, Nat.zero_le _, fun _ => rfl, fun _ _ => rfl, fun _ => ⟨rfl, rfl⟩, Nat.zero_le _, by omega, fun j => (hsm j).2⟩
  have hS : S = [] ↔ z = 0 := by
    constructor
    · intro h
      have := congrArg List.length m5
      rw [upto_length, h] at this
      simpa using this.symm
    · rintro rfl; exact m5
  have hA : allP L = [] → z = 0 := fun h => by rw [h] at m4; exact m4.symm
  have e3 : (!decide (allE L = 0)) = false := by rw [m3]; rfl
  refine ⟨fun hs0 => obl_dec (by omega) (br_mk (fun hem => ?_) (fun hem => ?_)), fun hs0 => obl_dec (by omega) (br_mk (fun hem => ?_) (fun hem => ?_))⟩
  · refine obl_int (by omega) (obl_dec (by omega) (br_dec (fun hb => absurd hb (by omega)) (fun _ => br_mk (fun hb => by rw [e3] at hb; cases hb) (fun _ => ?_))))
    exact ⟨_, cs1, allP L, z, _, hLI, .inl ⟨rfl, rfl⟩⟩
  · refine obl_int (by omega) (obl_dec (by omega) (br_dec (fun hb => absurd hb (by omega)) (fun _ => br_mk (fun hb => by rw [e3] at hb; cases hb) (fun _ => ?_))))
    exact ⟨_, cs1, allP L, z, _, hLI, .inr (.inl ⟨hS.1 hs0, rfl, rfl⟩)⟩
  · have hem : allP L = [] := by simpa using hem
    exact absurd (hS.2 (hA hem)) hs0
  · refine obl_int (by omega) (obl_dec (by omega) (br_dec (fun hb => absurd hb (by omega)) (fun _ => br_mk (fun hb => by rw [e3] at hb; cases hb) (fun _ => ?_))))
    have hz : 0 < z := by
      by_cases h : z = 0
      · exact absurd (hS.2 h) hs0
      · omega
    subst m5
    exact ⟨_, cs1, allP L, z, _, hLI, .inr (.inr ⟨hz, rfl, rfl⟩)⟩
end Go.Proofs.Ytjacnjecggedhaa
