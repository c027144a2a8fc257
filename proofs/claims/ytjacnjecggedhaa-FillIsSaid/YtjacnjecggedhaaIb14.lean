/-
  Texts for RowFillIs: of the reckoner, walks, contracts and plain laws that its row stands on.
-/
import Derived.Test.YtjacnjecggedhaaIb13
import Derived.Test.YtjacnjecggedhaaIb12
namespace Go.Proofs.Ytjacnjecggedhaa
set_option linter.unusedVariables false
set_option linter.unusedSimpArgs false
open Go.RowKit Ev
inductive PackRun (sp : Int) : FSt → CutR → List NextR → FSt → CutR → Bool → Prop
  | fail {F : FSt} {c : CutR} {F' : FSt} : ¬ OkR sp F (stepR sp F c) → F'.L = F.L → PackRun sp F c [] F' c false
  | last {F : FSt} {c : CutR} : OkR sp F (stepR sp F c) → (stepR sp F c).en = true → PackRun sp F c [stepR sp F c] (stepF F c (stepR sp F c)) (stepC c (stepR sp F c)) true
  | more {F : FSt} {c : CutR} {l : List NextR} {F' : FSt} {c' : CutR} {b : Bool} : OkR sp F (stepR sp F c) → (stepR sp F c).en = false → PackRun sp (stepF F c (stepR sp F c)) (stepC c (stepR sp F c)) l F' c' b → PackRun sp F c (stepR sp F c :: l) F' c' b
inductive FillRun (sp : Int) : FSt → List CutR → List BoolR → Int → List Int → List NextR → List UInt8 → List Int → Prop
  | done {F : FSt} {cs : List CutR} {ds : List BoolR} {fv : Int} {S : List Int} : moreM ds fv = none → FillRun sp F cs ds fv S [] F.L S
  | stop {F : FSt} {cs : List CutR} {ds : List BoolR} {fv : Int} {S : List Int} {i : Nat} {l : List NextR} {F' : FSt} {c' : CutR} : moreM ds fv = some i → PackRun sp F (cs.getD i noCut) l F' c' false → FillRun sp F cs ds fv S l F'.L S
  | pack {F : FSt} {cs : List CutR} {ds : List BoolR} {fv : Int} {S : List Int} {i : Nat} {l l2 : List NextR} {F' : FSt} {c' : CutR} {L : List UInt8} {S' : List Int} : moreM ds fv = some i → PackRun sp F (cs.getD i noCut) l F' c' true → FillRun sp F' (cs.set i c') (ds.set i ⟨true⟩) 0 (S ++ [(i : Int) + 1]) l2 L S' → FillRun sp F cs ds fv S (l ++ l2) L S'
def cntF (ds : List BoolR) : Nat := ds.countP fun d => !d.b
theorem moreR_ok (ds : List BoolR) (no : Int) : ∀ m i j, moreR ds no m i = some j → (ds.getD j ⟨false⟩).b = false ∧ i ≤ j ∧ j < i + m
  | 0, i, j, h => by cases h
  | m + 1, i, j, h => by
    unfold moreR at h
    split at h
    · rename_i hc
      cases h
      exact ⟨hc.1, Nat.le_refl _, by omega⟩
    · obtain ⟨h1, h2, h3⟩ := moreR_ok ds no m (i + 1) j h
      exact ⟨h1, by omega, by omega⟩
theorem moreM_ok {ds : List BoolR} {no : Int} {j : Nat} (h : moreM ds no = some j) : (ds.getD j ⟨false⟩).b = false ∧ j < ds.length := by
  obtain ⟨h1, h2, h3⟩ := moreR_ok ds no _ _ _ h
  exact ⟨h1, by omega⟩
theorem cntF_set : ∀ (ds : List BoolR) (i : Nat), i < ds.length → (ds.getD i ⟨false⟩).b = false → cntF (ds.set i ⟨true⟩) + 1 = cntF ds
  | [], i, h, _ => by simp at h
  | d :: ds, 0, _, h => by
    have h : d.b = false := h
    unfold cntF
    simp [h]
  | d :: ds, i + 1, h, hb => by
    have := cntF_set ds i (by simpa using h) (by simpa using hb)
    unfold cntF at this ⊢
    rw [List.set_cons_succ, List.countP_cons, List.countP_cons]
    omega
theorem set_same (ds : List BoolR) (i : Nat) (h : (ds.getD i ⟨false⟩).b = false) : ds.set i ⟨false⟩ = ds := by
  apply List.ext_getElem?
  intro j
  rw [List.getElem?_set]
  by_cases hj : i = j
  · subst hj
    rw [if_pos rfl]
    by_cases hi : i < ds.length
    · rw [if_pos hi, List.getElem?_eq_getElem hi]
      rw [List.getD_eq_getElem?_getD, List.getElem?_eq_getElem hi] at h
      cases hd : ds[i] with
      | mk b => rw [hd] at h; simp only [Option.getD_some] at h; rw [h]
    · rw [if_neg hi, List.getElem?_eq_none (by omega)]
  · rw [if_neg hj]
theorem getD_set (cs : List CutR) (i : Nat) (c : CutR) (h : i < cs.length) : (cs.set i c).getD i noCut = c := by
  rw [List.getD_eq_getElem?_getD, List.getElem?_set_self h]; rfl
structure FFact (n : Nat) (sp : Int) (cs : List CutR) (ds : List BoolR) (F : FSt) (S : List Int) : Prop where
  ecs : cs.length = n
  eds : ds.length = n
  n30 : n ≤ 30
  sp0 : 1 ≤ sp
  sp1 : sp ≤ 7300
  hL : (F.L.length : Int) ≤ sp
  hk : 2 * F.k ≤ F.L.length
  hc : ∀ j, CSm (cs.getD j noCut)
  hS : S.length + cntF ds ≤ 30
theorem FFact.step {n : Nat} {sp : Int} {cs : List CutR} {ds : List BoolR} {F : FSt} {S : List Int} (h : FFact n sp cs ds F S) {i : Nat} (hi : i < n) (hd : (ds.getD i ⟨false⟩).b = false) {R : NextR} (hR : stepR sp F (cs.getD i noCut) = R) (hok : OkR sp F R) :
    FFact n sp (cs.set i (stepC (cs.getD i noCut) R)) ds (stepF F (cs.getD i noCut) R) S ∧ F.L.length + 2 ≤ (stepF F (cs.getD i noCut) R).L.length := by
  have t2 := encR_len hok.enc
  have hl := hok.len
  have hk := h.hk
  have hL : (stepF F (cs.getD i noCut) R).L.length = F.L.length + (encR R).length := List.length_append
  refine ⟨⟨by rw [List.length_set]; exact h.ecs, h.eds, h.n30, h.sp0, h.sp1, by rw [hL]; omega, ?_, fun j => ?_, h.hS⟩, by omega⟩
  · show 2 * (F.k + 1) ≤ _
    omega
  · by_cases hj : i = j
    · subst hj
      rw [getD_set _ _ _ (by rw [h.ecs]; exact hi)]
      exact (stepR_small hR (h.hc i)).2
    · rw [List.getD_eq_getElem?_getD, List.getElem?_set_ne hj, ← List.getD_eq_getElem?_getD]
      exact h.hc j
def shp (n : Nat) (sp : Int) (cs : List CutR) (ds : List BoolR) (F : FSt) (S : List Int) (r : Env) (E : Env) (H : AHeap) : Prop :=
  (F.L = [] ∧ S = [] ∧ E = (g00 n sp cs ds 0 F r).1 ∧ H = (g00 n sp cs ds 0 F r).2) ∨
  (F.L ≠ [] ∧ S = [] ∧ E = (g10 n sp cs ds 0 F r).1 ∧ H = (g10 n sp cs ds 0 F r).2) ∨
  (F.L ≠ [] ∧ S ≠ [] ∧ E = (g11 n sp cs ds 0 F S r).1 ∧ H = (g11 n sp cs ds 0 F S r).2)
def fMid (n : Nat) (sp : Int) (fin : List UInt8 → List Int → Prop) (m0 m : Nat) (E : Env) (H : AHeap) : Prop :=
  ∃ cs ds F S i, m = (sp - (F.L.length : Int)).toNat ∧ FFact n sp cs ds F S ∧ cntF ds ≤ m0 ∧ i < n ∧ (ds.getD i ⟨false⟩).b = false ∧
    (∀ l F' c', PackRun sp F (cs.getD i noCut) l F' c' false → fin F'.L S) ∧
    (∀ l F' c' l2 L S', PackRun sp F (cs.getD i noCut) l F' c' true → FillRun sp F' (cs.set i c') (ds.set i ⟨true⟩) 0 (S ++ [(i : Int) + 1]) l2 L S' → fin L S') ∧
    shp n sp cs ds F S (f13 i) E H
def fStop (n : Nat) (sp : Int) (fin : List UInt8 → List Int → Prop) (E : Env) (H : AHeap) : Prop :=
  ∃ cs ds F S no, fin F.L S ∧ shp n sp cs ds F S [(13, .int .u64 no)] E H
def fNext (n : Nat) (sp : Int) (fin : List UInt8 → List Int → Prop) (m0 : Nat) (E : Env) (H : AHeap) : Prop :=
  ∃ cs ds F S i, FFact n sp cs ds F S ∧ cntF ds < m0 ∧ F.L ≠ [] ∧ S ≠ [] ∧ (∀ l L S', FillRun sp F cs ds 0 S l L S' → fin L S') ∧
    E = (g11 n sp cs ds 0 F S (f13 i)).1 ∧ H = (g11 n sp cs ds 0 F S (f13 i)).2
def fQi (n : Nat) (sp : Int) (fin : List UInt8 → List Int → Prop) (m0 : Nat) : AExit → Env → AHeap → Prop := fun x E H => match x with
  | .exit 0 => fStop n sp fin E H
  | .exit 2 => fNext n sp fin m0 E H
  | _ => False
abbrev SGd (H0 : AHeap) (c : Code) (Q : AExit → Env → AHeap → Prop) (E : Env) (H : AHeap) : Prop := Gd (TX2.ctx Try.prog) 9 H0 c Q E H
theorem f_inner (H0 : AHeap) (hH0 : H0.next ≤ 3) (n : Nat) (sp : Int) (fin : List UInt8 → List Int → Prop) (m0 : Nat) : ∀ m E H, fMid n sp fin m0 m E H → SGd H0 (.loop fillL) (fQi n sp fin m0) E H := by
  refine Gd.loop (fMid n sp fin m0) (fun m E H hI => ?_)
  obtain ⟨cs, ds, F, S, i, hm, hf, hm0, hi, hd, h1, h2, hs⟩ := hI
  have cl : i < cs.length := by rw [hf.ecs]; exact hi
  have dl : i < ds.length := by rw [hf.eds]; exact hi
  -- what follows a failure, a last piece, another piece
  have failed : ∀ F' : FSt, F'.L = F.L → ¬ OkR sp F (stepR sp F (cs.getD i noCut)) → fin F'.L S := fun F' hL hn => h1 [] F' _ (.fail hn hL)
  have enl : ∀ R, stepR sp F (cs.getD i noCut) = R → OkR sp F R → (stepF F (cs.getD i noCut) R).L ≠ [] := fun R hR hok h => by
    have := (hf.step hi hd hR hok).2
    rw [h] at this
    simp at this
  have lastF : ∀ R F', stepR sp F (cs.getD i noCut) = R → OkR sp F R → R.en = true → F' = stepF F (cs.getD i noCut) R →
      (FFact n sp (cs.set i (stepC (cs.getD i noCut) R)) (ds.set i ⟨R.en⟩) F' (S ++ [(i : Int) + 1]) ∧ cntF (ds.set i ⟨R.en⟩) < m0 ∧ F'.L ≠ [] ∧ S ++ [(i : Int) + 1] ≠ [] ∧ (∀ l L S', FillRun sp F' (cs.set i (stepC (cs.getD i noCut) R)) (ds.set i ⟨R.en⟩) 0 (S ++ [(i : Int) + 1]) l L S' → fin L S')) := by
    rintro R F' hR hok he rfl
    have hc := cntF_set ds i dl hd
    have hst := (hf.step hi hd hR hok).1
    rw [he]
    refine ⟨⟨hst.ecs, by rw [List.length_set]; exact hf.eds, hf.n30, hf.sp0, hf.sp1, hst.hL, hst.hk, hst.hc, ?_⟩, by omega, enl R hR hok, by simp, fun l L S' hr => ?_⟩
    · have := hf.hS
      rw [List.length_append]
      simp only [List.length_cons, List.length_nil]
      omega
    · subst hR
      exact h2 _ _ _ l L S' (.last hok he) hr
  have normF : ∀ R F', stepR sp F (cs.getD i noCut) = R → OkR sp F R → R.en = false → F' = stepF F (cs.getD i noCut) R → ∀ E H, shp n sp (cs.set i (stepC (cs.getD i noCut) R)) (ds.set i ⟨R.en⟩) F' S (f13 i) E H → ∃ m', m' < m ∧ fMid n sp fin m0 m' E H := by
    rintro R F' hR hok he rfl E H hsh
    obtain ⟨hst, hlen⟩ := hf.step hi hd hR hok
    have hL := hst.hL
    rw [he, set_same ds i hd] at hsh
    refine ⟨_, ?_, cs.set i (stepC (cs.getD i noCut) R), ds, stepF F (cs.getD i noCut) R, S, i, rfl, hst, hm0, hi, hd, ?_, ?_, hsh⟩
    · omega
    · rw [getD_set _ _ _ cl]
      subst hR
      exact fun l F' c' hp => h1 _ F' c' (.more hok he hp)
    · rw [getD_set _ _ _ cl]
      subst hR
      intro l F' c' l2 L S' hp hr
      rw [List.set_set] at hr
      exact h2 _ F' c' l2 L S' (.more hok he hp) hr
  have enl' : ∀ R F', stepR sp F (cs.getD i noCut) = R → OkR sp F R → F' = stepF F (cs.getD i noCut) R → F'.L ≠ [] := fun R F' hR hok h => h ▸ enl R hR hok
  rcases hs with ⟨hL, hS, rfl, rfl⟩ | ⟨hL, hS, rfl, rfl⟩ | ⟨hL, hS, rfl, rfl⟩
  · subst hS
    refine g_00 H0 hH0 n sp cs ds 0 F i _ hi hf.ecs hf.eds hf.n30 hd hf.sp1 hf.hL hf.hk (hf.hc i) hL (fun cs' ds' F' hl hn => ?_) (fun R F' hR hok he hF => ?_) (fun R F' hR hok he hF => ?_)
    · exact ⟨cs', ds', F', [], (i : Int) + 1, failed F' hl hn, .inl ⟨(by rw [hl]; exact hL), rfl, rfl, rfl⟩⟩
    · obtain ⟨a1, a2, a3, a4, a5⟩ := lastF R F' hR hok he hF
      exact ⟨_, _, F', _, i, a1, a2, a3, a4, a5, rfl, rfl⟩
    · exact normF R F' hR hok he hF _ _ (.inr (.inl ⟨enl' R F' hR hok hF, rfl, rfl, rfl⟩))
  · subst hS
    refine g_10 H0 hH0 n sp cs ds 0 F i _ hi hf.ecs hf.eds hf.n30 hd hf.sp1 hf.hL hf.hk (hf.hc i) (fun cs' ds' F' hl hn => ?_) (fun R F' hR hok he hF => ?_) (fun R F' hR hok he hF => ?_)
    · exact ⟨cs', ds', F', [], (i : Int) + 1, failed F' hl hn, .inr (.inl ⟨(by rw [hl]; exact hL), rfl, rfl, rfl⟩)⟩
    · obtain ⟨a1, a2, a3, a4, a5⟩ := lastF R F' hR hok he hF
      exact ⟨_, _, F', _, i, a1, a2, a3, a4, a5, rfl, rfl⟩
    · exact normF R F' hR hok he hF _ _ (.inr (.inl ⟨enl' R F' hR hok hF, rfl, rfl, rfl⟩))
  · skip
    refine g_11 H0 hH0 n sp cs ds 0 F S i _ hi hf.ecs hf.eds hf.n30 hd hf.sp1 hf.hL hf.hk (hf.hc i) (by have := hf.hS; omega) (fun cs' ds' F' hl hn => ?_) (fun R F' hR hok he hF => ?_) (fun R F' hR hok he hF => ?_)
    · exact ⟨cs', ds', F', S, (i : Int) + 1, failed F' hl hn, .inr (.inr ⟨(by rw [hl]; exact hL), hS, rfl, rfl⟩)⟩
    · obtain ⟨a1, a2, a3, a4, a5⟩ := lastF R F' hR hok he hF
      exact ⟨_, _, F', _, i, a1, a2, a3, a4, a5, rfl, rfl⟩
    · exact normF R F' hR hok he hF _ _ (.inr (.inr ⟨enl' R F' hR hok hF, hS, rfl, rfl⟩))
end Go.Proofs.Ytjacnjecggedhaa
namespace Go.Proofs.Ytjacnjecggedhaa
set_option linter.unusedVariables false
set_option linter.unusedSimpArgs false
open Go.RowKit Ev
def refC (o : RefR) : CutR := ⟨o.typ, o.k, o.lb, o.data, o.pos, o.id⟩
def noRef : RefR := ⟨0, 0, 0, [], [], 0, 0⟩
inductive RefRun (sp : Int) : FSt → List RefR → List Int → List UInt8 → List Int → Prop
  | nil {F : FSt} {S : List Int} : RefRun sp F [] S F.L S
  | stop {F : FSt} {o : RefR} {os : List RefR} {S : List Int} {l : List NextR} {F' : FSt} {c' : CutR} : PackRun sp F (refC o) l F' c' false → RefRun sp F (o :: os) S F'.L S
  | pack {F : FSt} {o : RefR} {os : List RefR} {S : List Int} {l : List NextR} {F' : FSt} {c' : CutR} {L : List UInt8} {S' : List Int} : PackRun sp F (refC o) l F' c' true → RefRun sp F' os (S ++ [o.no]) L S' → RefRun sp F (o :: os) S L S'
def refFin (os : List RefR) (K : Out → AHeap → Prop) (L : List UInt8) (S : List Int) : Prop :=
  (S = [] → K (.ret (.tup [.str L, .nils])) ⟨1, [(0, rRow os)]⟩) ∧ (S ≠ [] → K (.ret (.tup [.str L, .sl 1 0 1 0 S.length none])) ⟨2, [(0, rRow os), (1, .row 33 (intRow .u64) S .plain)]⟩)
structure RFact (sp : Int) (F : FSt) (is : Bool) (S : List Int) (i : Nat) : Prop where
  sp0 : 1 ≤ sp
  sp1 : sp ≤ 7300
  hL : (F.L.length : Int) ≤ sp
  his : is = true ↔ F.lb ≠ []
  hS : S.length ≤ i
  hi : i ≤ 30
def rMid (os : List RefR) (sp : Int) (K : Out → AHeap → Prop) (i : Nat) (no : Int) (m : Nat) (E : Env) (H : AHeap) : Prop :=
  ∃ F is S c, m = (sp - (F.L.length : Int)).toNat ∧ RFact sp F is S i ∧ CSm c ∧
    (∀ l F' c', PackRun sp F c l F' c' false → refFin os K F'.L S) ∧
    (∀ l F' c' L S', PackRun sp F c l F' c' true → RefRun sp F' (os.drop (i + 1)) (S ++ [no]) L S' → refFin os K L S') ∧
    ((S = [] ∧ E = (pn os sp F is (i : Int) no c).1 ∧ H = (pn os sp F is (i : Int) no c).2) ∨ (S ≠ [] ∧ E = (ps os sp F is S (i : Int) no c).1 ∧ H = (ps os sp F is S (i : Int) no c).2))
def rNext (os : List RefR) (sp : Int) (K : Out → AHeap → Prop) (i : Nat) (E : Env) (H : AHeap) : Prop :=
  ∃ F is S, S ≠ [] ∧ (F.L.length : Int) ≤ sp ∧ (is = true ↔ F.lb ≠ []) ∧ S.length ≤ i + 1 ∧ (∀ L S', RefRun sp F (os.drop (i + 1)) S L S' → refFin os K L S') ∧
    E = (rs os sp F is S (r10 (i : Int))).1 ∧ H = (rs os sp F is S (r10 (i : Int))).2
noncomputable abbrev rfK (K : Out → AHeap → Prop) : AExit → Env → AHeap → Prop := endA (TQR.ctx Try.prog).P Try.f11 K
noncomputable def rQi (os : List RefR) (sp : Int) (K : Out → AHeap → Prop) (i : Nat) : AExit → Env → AHeap → Prop := fun x E H => match x with
  | .ret => rfK K .ret E H
  | .exit 2 => rNext os sp K i E H
  | _ => False
abbrev RGd (H0 : AHeap) (c : Code) (Q : AExit → Env → AHeap → Prop) (E : Env) (H : AHeap) : Prop := Gd (TQR.ctx Try.prog) 11 H0 c Q E H
theorem r_inner (H0 : AHeap) (hH0 : H0.next ≤ 1) (os : List RefR) (sp : Int) (K : Out → AHeap → Prop) (i : Nat) (no : Int) : ∀ m E H, rMid os sp K i no m E H → RGd H0 (.loop rfL) (rQi os sp K i) E H := by
  refine Gd.loop (rMid os sp K i no) (fun m E H hI => ?_)
  obtain ⟨F, is, S, c, hm, hf, hc, h1, h2, hs⟩ := hI
  have hS30 : S.length ≤ 30 := Nat.le_trans hf.hS hf.hi
  have stepL : ∀ R, stepR sp F c = R → OkR sp F R → ((stepF F c R).L.length : Int) ≤ sp ∧ F.L.length + 2 ≤ (stepF F c R).L.length := fun R hR hok => by
    have t2 := encR_len hok.enc
    have hl := hok.len
    have e : (stepF F c R).L.length = F.L.length + (encR R).length := List.length_append
    omega
  have lastF : ∀ R F' is', stepR sp F c = R → OkR sp F R → R.en = true → F' = stepF F c R → (is' = true ↔ F'.lb ≠ []) →
      ((F'.L.length : Int) ≤ sp ∧ (S ++ [no]).length ≤ i + 1 ∧ (∀ L S', RefRun sp F' (os.drop (i + 1)) (S ++ [no]) L S' → refFin os K L S')) := by
    rintro R F' is' hR hok he rfl his
    have := hf.hS
    refine ⟨(stepL R hR hok).1, by rw [List.length_append]; simp only [List.length_cons, List.length_nil]; omega, fun L S' hr => ?_⟩
    subst hR
    exact h2 _ _ _ L S' (.last hok he) hr
  have normF : ∀ R F' is', stepR sp F c = R → OkR sp F R → R.en = false → F' = stepF F c R → (is' = true ↔ F'.lb ≠ []) → ∀ E H,
      ((S = [] ∧ E = (pn os sp F' is' (i : Int) no (stepC c R)).1 ∧ H = (pn os sp F' is' (i : Int) no (stepC c R)).2) ∨ (S ≠ [] ∧ E = (ps os sp F' is' S (i : Int) no (stepC c R)).1 ∧ H = (ps os sp F' is' S (i : Int) no (stepC c R)).2)) →
      ∃ m', m' < m ∧ rMid os sp K i no m' E H := by
    rintro R F' is' hR hok he rfl his E H hsh
    obtain ⟨a1, a2⟩ := stepL R hR hok
    refine ⟨_, ?_, stepF F c R, is', S, stepC c R, rfl, ⟨hf.sp0, hf.sp1, a1, his, hf.hS, hf.hi⟩, (stepR_small hR hc).2, ?_, ?_, hsh⟩
    · omega
    · subst hR
      exact fun l F' c' hp => h1 _ F' c' (.more hok he hp)
    · subst hR
      exact fun l F' c' L S' hp hr => h2 _ F' c' L S' (.more hok he hp) hr
  have nok : ¬ OkR sp F (stepR sp F c) → refFin os K F.L S := fun hn => h1 [] F c (.fail hn rfl)
  have wrap : ∀ {E H}, Gd (TQR.ctx Try.prog) 11 H0 rfL (qRet (rfK K) (fun x E H => match x with
      | .normal => ∃ m', m' < m ∧ rMid os sp K i no m' E H
      | x => rQi os sp K i x E H)) E H → Gd (TQR.ctx Try.prog) 11 H0 rfL (fun x E H => match x with
      | .normal => ∃ m', m' < m ∧ rMid os sp K i no m' E H
      | x => rQi os sp K i x E H) E H := fun h => Gd.mono h (fun x E H h => by cases x <;> exact h)
  rcases hs with ⟨hS, rfl, rfl⟩ | ⟨hS, rfl, rfl⟩
  · subst hS
    refine wrap (h_n H0 hH0 os sp F is i no c K _ hf.sp1 hf.hL hc hf.his (fun hn => (nok hn).1 rfl) (fun R F' is' hR hok he hF his => ?_) (fun R F' is' hR hok he hF his => ?_))
    · obtain ⟨a1, a2, a3⟩ := lastF R F' is' hR hok he hF his
      exact ⟨F', is', _, by simp, a1, his, a2, a3, rfl, rfl⟩
    · exact normF R F' is' hR hok he hF his _ _ (.inl ⟨rfl, rfl, rfl⟩)
  · refine wrap (h_s H0 hH0 os sp F is S i no c K _ hf.sp1 hf.hL hc hf.his hS30 (fun hn => (nok hn).2 hS) (fun R F' is' hR hok he hF his => ?_) (fun R F' is' hR hok he hF his => ?_))
    · obtain ⟨a1, a2, a3⟩ := lastF R F' is' hR hok he hF his
      exact ⟨F', is', _, by simp, a1, his, a2, a3, rfl, rfl⟩
    · exact normF R F' is' hR hok he hF his _ _ (.inr ⟨hS, rfl, rfl⟩)
def rOut (os : List RefR) (sp : Int) (K : Out → AHeap → Prop) (m : Nat) (E : Env) (H : AHeap) : Prop :=
  ∃ F is S i, m = os.length - i ∧ i ≤ os.length ∧ RFact sp F is S i ∧ (∀ L S', RefRun sp F (os.drop i) S L S' → refFin os K L S') ∧
    ((S = [] ∧ E = (rn os sp F is (r10 (i : Int))).1 ∧ H = (rn os sp F is (r10 (i : Int))).2) ∨ (S ≠ [] ∧ E = (rs os sp F is S (r10 (i : Int))).1 ∧ H = (rs os sp F is S (r10 (i : Int))).2))
noncomputable def rQo (os : List RefR) (sp : Int) (K : Out → AHeap → Prop) : AExit → Env → AHeap → Prop := fun x E H => match x with
  | .ret => rfK K .ret E H
  | .exit 0 => ∃ F is S i, refFin os K F.L S ∧ ((S = [] ∧ E = (rn os sp F is (r10 i)).1 ∧ H = (rn os sp F is (r10 i)).2) ∨ (S ≠ [] ∧ E = (rs os sp F is S (r10 i)).1 ∧ H = (rs os sp F is S (r10 i)).2))
  | _ => False
noncomputable abbrev rf8 : Code := codeAt [true, true, true, true, true, false, true, false, false, true, false, false, false] rfB
theorem rfO_eq : rfO = .seq (seqL rfO) (.seq (.block 1 (.seq rf8 (.block 2 (.loop rfL)))) (seqR (seqR rfO))) := by kernel_rfl
theorem drop_ref {os : List RefR} {i : Nat} (h : i < os.length) : os.drop i = os.getD i noRef :: os.drop (i + 1) := by
  rw [List.getD_eq_getElem?_getD, List.getElem?_eq_getElem h, List.drop_eq_getElem_cons h]; rfl
set_option maxRecDepth 100000 in
theorem r_pack (H0 : AHeap) (hH0 : H0.next ≤ 1) (os : List RefR) (hos : os.length ≤ 30) (hcs : ∀ j, CSm (refC (os.getD j noRef))) (sp : Int) (K : Out → AHeap → Prop) (m0 i : Nat) (no : Int) (m : Nat) (E : Env) (H : AHeap) (hi : i < os.length) (hm0 : m0 = os.length - i) (hI : rMid os sp K i no m E H) (hsp : 1 ≤ sp ∧ sp ≤ 7300) :
    RGd H0 (.block 2 (.loop rfL)) (fun x E H => match x with
      | .normal => RGd H0 (seqR (seqR rfO)) (fun x E H => match x with
        | .normal => ∃ m', m' < m0 ∧ rOut os sp K m' E H
        | x => rQo os sp K x E H) E H
      | .ret => rfK K .ret E H
      | _ => False) E H := by
  refine Gd.block (Gd.mono (r_inner H0 hH0 os sp K i no m E H hI) (fun x E H h => ?_))
  unfold rQi at h
  split at h
  · exact h
  · obtain ⟨F, is, S, hS, hL, his, hSl, hh, rfl, rfl⟩ := h
    refine Gd.walkC TQRok.ctx 1 tsR hH0 (rIn [true, true, true, true, true, false, true, false, false, true, true]) (Eq.mpr (w_rf9_s os sp F is S i _) ?_)
    exact obl_int (by omega) ⟨os.length - (i + 1), by omega, F, is, S, i + 1, rfl, hi, ⟨hsp.1, hsp.2, hL, his, hSl, by omega⟩, hh, .inr ⟨hS, rfl, rfl⟩⟩
  · exact h.elim
set_option maxRecDepth 100000 in
theorem r_outer (H0 : AHeap) (hH0 : H0.next ≤ 1) (os : List RefR) (hos : os.length ≤ 30) (hcs : ∀ j, CSm (refC (os.getD j noRef))) (sp : Int) (K : Out → AHeap → Prop) : ∀ m E H, rOut os sp K m E H → RGd H0 (.loop rfO) (rQo os sp K) E H := by
  refine Gd.loop (rOut os sp K) (fun m E H hI => ?_)
  obtain ⟨F, is, S, i, hm, hil, hf, hh, hs⟩ := hI
  rw [rfO_eq]
  have idx : 0 + (i : Int).toNat = i := by omega
  have hsp0 := hf.sp0
  have done : ¬ i < os.length → refFin os K F.L S := fun h => by
    have e : os.drop i = [] := List.drop_eq_nil_of_le (by omega)
    rw [e] at hh
    exact hh _ _ .nil
  have mid : ∀ h : i < os.length, (∀ l F' c', PackRun sp F (refC (os.getD i noRef)) l F' c' false → refFin os K F'.L S) ∧ (∀ l F' c' L S', PackRun sp F (refC (os.getD i noRef)) l F' c' true → RefRun sp F' (os.drop (i + 1)) (S ++ [(os.getD i noRef).no]) L S' → refFin os K L S') := fun h => by
    rw [drop_ref h] at hh
    exact ⟨fun l F' c' hp => hh _ _ (.stop hp), fun l F' c' L S' hp hr => hh _ _ (.pack hp hr)⟩
  have hf' : ∀ h : i < os.length, RFact sp F is S i := fun _ => hf
  rcases hs with ⟨hS, rfl, rfl⟩ | ⟨hS, rfl, rfl⟩
  · refine Gd.seq (Gd.walkC TQRok.ctx 1 tsR hH0 (rIn [true, true, true, true, true, false, true, false, false, false]) (Eq.mpr (w_rf7_n os sp F is i _) ?_))
    refine br_dec (fun hi => ?_) (fun hi => ⟨F, is, S, (i : Int), done (by omega), .inl ⟨hS, rfl, rfl⟩⟩)
    refine br_dec (fun _ => ?_) (fun h => absurd h (by omega))
    have hi : i < os.length := by omega
    refine Gd.seq (Gd.block (Gd.mono (Gd.seq (Q := fun x E H => match x with
      | .normal => RGd H0 (seqR (seqR rfO)) (fun x E H => match x with
        | .normal => ∃ m', m' < m ∧ rOut os sp K m' E H
        | x => rQo os sp K x E H) E H
      | .ret => rfK K .ret E H
      | _ => False) (Gd.walkC TQRok.ctx 1 tsR1 hH0 (rIn [true, true, true, true, true, false, true, false, false, true, false, false, false]) (Eq.mpr (w_rf8_n os sp F is i _) ?_))) (fun x E H h => ?_)))
    · rw [idx]
      refine obl_dec (by omega) (obl_dec hi ?_)
      obtain ⟨m1, m2⟩ := mid hi
      exact r_pack H0 hH0 os hos hcs sp K m i (os.getD i noRef).no _ _ _ hi hm ⟨F, is, S, refC (os.getD i noRef), rfl, hf, hcs i, m1, m2, .inl ⟨hS, rfl, rfl⟩⟩ ⟨hf.sp0, hf.sp1⟩
    · cases x with
      | normal => exact h
      | ret => exact h
      | exit j => exact h.elim
      | panic v => exact h.elim
  · refine Gd.seq (Gd.walkC TQRok.ctx 1 tsR hH0 (rIn [true, true, true, true, true, false, true, false, false, false]) (Eq.mpr (w_rf7_s os sp F is S i _) ?_))
    refine br_dec (fun hi => ?_) (fun hi => ⟨F, is, S, (i : Int), done (by omega), .inr ⟨hS, rfl, rfl⟩⟩)
    refine br_dec (fun _ => ?_) (fun h => absurd h (by omega))
    have hi : i < os.length := by omega
    refine Gd.seq (Gd.block (Gd.mono (Gd.seq (Q := fun x E H => match x with
      | .normal => RGd H0 (seqR (seqR rfO)) (fun x E H => match x with
        | .normal => ∃ m', m' < m ∧ rOut os sp K m' E H
        | x => rQo os sp K x E H) E H
      | .ret => rfK K .ret E H
      | _ => False) (Gd.walkC TQRok.ctx 1 tsR1 hH0 (rIn [true, true, true, true, true, false, true, false, false, true, false, false, false]) (Eq.mpr (w_rf8_s os sp F is S i _) ?_))) (fun x E H h => ?_)))
    · rw [idx]
      refine obl_dec (by omega) (obl_dec hi ?_)
      obtain ⟨m1, m2⟩ := mid hi
      exact r_pack H0 hH0 os hos hcs sp K m i (os.getD i noRef).no _ _ _ hi hm ⟨F, is, S, refC (os.getD i noRef), rfl, hf, hcs i, m1, m2, .inr ⟨hS, rfl, rfl⟩⟩ ⟨hf.sp0, hf.sp1⟩
    · cases x with
      | normal => exact h
      | ret => exact h
      | exit j => exact h.elim
      | panic v => exact h.elim
end Go.Proofs.Ytjacnjecggedhaa
namespace Go.Proofs.Ytjacnjecggedhaa
set_option linter.unusedVariables false
set_option linter.unusedSimpArgs false
open Go.RowKit Ev
def refAt (cs : List CutR) (j : Nat) : RefR := ⟨(j : Int) + 1, (cs.getD j noCut).typ, (cs.getD j noCut).k, (cs.getD j noCut).lb, (cs.getD j noCut).data, (cs.getD j noCut).pos, (cs.getD j noCut).id⟩
def ordN (cs : List CutR) (k : Nat) : Nat → List RefR
  | 0 => [refAt cs k]
  | j + 1 => if j = k then ordN cs k j else ordN cs k j ++ [refAt cs j]
theorem ordN_len (cs : List CutR) (k : Nat) : ∀ j, (ordN cs k j).length ≤ j + 1
  | 0 => Nat.le_refl _
  | j + 1 => by
    have := ordN_len cs k j
    unfold ordN
    split
    · omega
    · rw [List.length_append]; simp only [List.length_cons, List.length_nil]; omega
theorem oIn2 (p : List Bool) : InFn (TQR.ctx Try.prog) 12 (codeAt p orB) :=
  inFn_at TQRok.ctx (fn := Try.f12) (by kernel_rfl) (by kernel_rfl) p
def orI (n : Nat) (cs : List CutR) (ds : List BoolR) (k : Nat) (m : Nat) (E : Env) (H : AHeap) : Prop :=
  (m = 100 ∧ E = (oo0 n cs ds (k : Int) (o6 (-1))).1 ∧ H = (oo0 n cs ds (k : Int) (o6 (-1))).2) ∨
  ∃ j : Nat, j ≤ n ∧ m = n - j ∧ E = (oo1 n cs ds (k : Int) (ordN cs k j) (o6 (j : Int))).1 ∧ H = (oo1 n cs ds (k : Int) (ordN cs k j) (o6 (j : Int))).2
def orQ (n : Nat) (cs : List CutR) (ds : List BoolR) (k : Nat) : AExit → Env → AHeap → Prop := fun x E H => match x with
  | .exit 0 => E = (oo1 n cs ds (k : Int) (ordN cs k n) (o6 (n : Int))).1 ∧ H = (oo1 n cs ds (k : Int) (ordN cs k n) (o6 (n : Int))).2
  | _ => False
set_option maxRecDepth 100000 in
theorem or_loop (H0 : AHeap) (hH0 : H0.next ≤ 3) (n : Nat) (cs : List CutR) (ds : List BoolR) (k : Nat) (hn : cs.length = n) (hk : k < n) (h30 : n ≤ 30) : ∀ m E H, orI n cs ds k m E H → Gd (TQR.ctx Try.prog) 12 H0 (.loop orR) (orQ n cs ds k) E H := by
  refine Gd.loop (orI n cs ds k) (fun m E H hI => ?_)
  rcases hI with ⟨hm, rfl, rfl⟩ | ⟨j, hj, hm, rfl, rfl⟩
  · refine Gd.walkC TQRok.ctx 3 tsO hH0 (oIn2 [true, true, false, true, false, false]) (Eq.mpr (w_or_0 n cs ds (k : Int) _) ?_)
    have idx : 0 + (k : Int).toNat = k := by omega
    have e1 : (((k : Int) % 18446744073709551616 + 1) % 18446744073709551616) = (k : Int) + 1 := by omega
    rw [idx, e1]
    exact obl_dec (by omega) (obl_dec (by omega) ⟨n - 0, by omega, .inr ⟨0, Nat.zero_le _, rfl, rfl, rfl⟩⟩)
  · refine Gd.walkC TQRok.ctx 3 tsO hH0 (oIn2 [true, true, false, true, false, false]) (Eq.mpr (w_or_1 n cs ds (k : Int) (ordN cs k j) j _) ?_)
    have idx : 0 + (j : Int).toNat = j := by omega
    have ol := ordN_len cs k j
    refine br_dec (fun h => ?_) (fun h => ?_)
    · refine br_dec (fun h1 => obl_int (by omega) ⟨n - (j + 1), by omega, .inr ⟨j + 1, by omega, rfl, ?_, ?_⟩⟩) (fun h1 => ?_)
      · have : ordN cs k (j + 1) = ordN cs k j := by show (if j = k then _ else _) = _; rw [if_pos (by omega)]
        rw [this]; rfl
      · have : ordN cs k (j + 1) = ordN cs k j := by show (if j = k then _ else _) = _; rw [if_pos (by omega)]
        rw [this]; rfl
      · have e1 : (((j : Int) % 18446744073709551616 + 1) % 18446744073709551616) = (j : Int) + 1 := by omega
        rw [idx, e1]
        have this : ordN cs k (j + 1) = ordN cs k j ++ [refAt cs j] := by show (if j = k then _ else _) = _; rw [if_neg (by omega)]
        have q0 : ∀ r : RefR, (ordN cs k j ++ [r]).length = (ordN cs k j).length + 1 := fun r => by simp
        have q1 : ∀ r : RefR, (ordN cs k j ++ [r]).length ≤ 9223372036854775807 := fun r => by rw [q0]; omega
        have q2 : ∀ r : RefR, (ordN cs k j ++ [r]).length * 72 ≤ 140737488355328 := fun r => by rw [q0]; omega
        refine obl_dec (by omega) (obl_dec (by omega) (obl_tt (decide_eq_true ⟨rfl, rfl, rfl, Nat.succ_pos _, q1 _, q2 _⟩) (obl_int (by omega) ⟨n - (j + 1), by omega, .inr ⟨j + 1, by omega, rfl, ?_, ?_⟩⟩))) <;> rw [this] <;> rfl
    · have : j = n := by omega
      subst this
      exact ⟨rfl, rfl⟩
theorem orT_eq : tailN 2 orB = .seq (.seq (seqL (seqL (tailN 2 orB))) (.block 0 (.loop orR))) (seqR (tailN 2 orB)) := by kernel_rfl
set_option maxRecDepth 100000 in
theorem or_good (n : Nat) (cs : List CutR) (ds : List BoolR) (k : Nat) (hn : cs.length = n) (hk : k < n) (h30 : n ≤ 30) (K : Out → AHeap → Prop) (hK : ∀ os, os = ordN cs k n → K (.ret (.sl 3 0 7 0 os.length none)) ⟨4, srcN n cs ds ++ [(3, rRow os)]⟩) :
    Gd (TQR.ctx Try.prog) 12 ⟨3, srcN n cs ds⟩ orB (endA (TQR.ctx Try.prog).P Try.f12 K) (env0 [.ptr 0 0 0 0, .int .i64 (k : Int)] 0) ⟨3, srcN n cs ds⟩ := by
  have hH0 : (AHeap.mk 3 (srcN n cs ds)).next ≤ 3 := Nat.le_refl _
  refine Gd.walkN TQRok.ctx (base := 3) hH0 (It := fun E H => canonK 3 [0, 1, 5] E H (fun E H => E = (oo0 n cs ds (k : Int) []).1 ∧ H = (oo0 n cs ds (k : Int) []).2)) 2 400 _ _ _ (by kernel_rfl) (oIn2 []) (Eq.mpr (w_or_pre n cs ds (k : Int) _ _) ⟨rfl, rfl⟩) (fun E H h => ?_)
  obtain ⟨E', H', σ, ⟨rfl, rfl⟩, g2, g3, g4, g5, g6⟩ := canonK_ok h
  refine Gd.sub (base := 3) hH0 g6 ?_ g2 g3 g4 g5
  rw [orT_eq]
  refine Gd.seq (Gd.seq (Gd.walkC TQRok.ctx 3 tsO hH0 (oIn2 [true, true, false, false]) (Eq.mpr (w_or_set n cs ds (k : Int) _) ?_)))
  refine Gd.block (Gd.mono (or_loop _ hH0 n cs ds k hn hk h30 100 _ _ (.inl ⟨rfl, rfl, rfl⟩)) (fun x E H h => ?_))
  unfold orQ at h
  split at h
  · obtain ⟨rfl, rfl⟩ := h
    exact Gd.walkC TQRok.ctx 3 tsO hH0 (oIn2 [true, true, true]) (Eq.mpr (w_or_end n cs ds (k : Int) (ordN cs k n) (n : Int) K) (hK _ rfl))
  · exact h.elim
def decOrd (args : List AVal) (H : AHeap) : Option (List (Nat × Nat) × SrcS) := match args with
  | [.ptr b 0 0 0, .int .i64 no] => match H.get b with
    | some (.cells e [.sl b1 0 6 0 n1 none, .sl b2 0 1 0 n2 none]) => match H.get b1, H.get b2 with
      | some (.row e1 T1 l1 m1), some (.row e2 T2 l2 m2) => match Nat.beq e 29 && !(Nat.beq b1 b2) with
        | true => some ([(0, b), (1, b1), (2, b2)], ⟨.row e1 T1 l1 m1, .row e2 T2 l2 m2, n1, n2, no⟩)
        | false => none
      | _, _ => none
    | _ => none
  | _ => none
theorem decOrd_ok : DecOk decOrd (fun s => [.ptr 0 0 0 0, .int .i64 s.no]) srcC := by
  refine ⟨fun args H σ s h hb hH => ?_⟩
  unfold decOrd at h
  split at h
  · rename_i b no
    split at h
    · rename_i e b1 n1 b2 n2 hg
      split at h
      · rename_i e1 T1 l1 m1 e2 T2 l2 m2 hg1 hg2
        split at h
        · rename_i hc
          simp only [Bool.and_eq_true, Bool.not_eq_true'] at hc
          have he := nat_beq_eq.1 hc.1
          have hne := nat_beq_ne.1 hc.2
          subst he
          simp only [Option.some.injEq, Prod.mk.injEq] at h
          obtain ⟨rfl, rfl⟩ := h
          have n01 : b ≠ b1 := by rintro rfl; rw [hg] at hg1; cases hg1
          have n02 : b ≠ b2 := by rintro rfl; rw [hg] at hg2; cases hg2
          refine ⟨rfl, rfl, fun c x hx => ?_, fun c c' hc hc' hne' => ?_, fun c hc => ?_⟩
          · rcases get_three hx with ⟨rfl, hx⟩ | ⟨rfl, hx⟩ | ⟨rfl, hx⟩
            · cases hx; exact ⟨(by decide : 0 < 3), rfl, hg⟩
            · cases hx; exact ⟨(by decide : 1 < 3), rfl, hg1⟩
            · cases hx; exact ⟨(by decide : 2 < 3), rfl, hg2⟩
          · rcases three_cases hc with rfl | rfl | rfl <;> rcases three_cases hc' with rfl | rfl | rfl <;> first | exact absurd rfl hne' | exact n01 | exact n02 | exact hne | exact n01.symm | exact n02.symm | exact fun h => hne h.symm
          · rcases three_cases hc with rfl | rfl | rfl
            · exact (hH b _ hg).1
            · exact (hH b1 _ hg1).1
            · exact (hH b2 _ hg2).1
        · cases h
      · cases h
    · cases h
  · cases h
def fOrd (s : SrcS) (K : Out → AHeap → Prop) : Prop := ∃ (cs : List CutR) (ds : List BoolR) (k : Nat), ((s.l = cRow cs ∧ s.d = dRow ds) ∧ (s.n1 = cs.length ∧ s.n2 = cs.length) ∧ s.no = (k : Int) ∧ k < cs.length ∧ cs.length ≤ 30) ∧
  ∀ os, os = ordN cs k cs.length → K (.ret (.sl 3 0 7 0 os.length none)) ⟨4, [(0, srcB (.sl 1 0 6 0 s.n1 none) (.sl 2 0 1 0 s.n2 none)), (1, s.l), (2, s.d), (3, rRow os)]⟩
theorem ord_sound : GcSound Try.prog 12 (gcSub decOrd srcC fOrd) := by
  refine gc_sub Try.call12 decOrd_ok (fun s k hk ρ w hR hb => ?_)
  obtain ⟨l, d, n1, n2, no⟩ := s
  obtain ⟨cs, ds, kn, ⟨⟨h1, h2⟩, ⟨h3, h4⟩, h5, h6, h7⟩, h8⟩ := hk
  simp only at h1 h2 h3 h4 h5
  subst h1 h2 h3 h4 h5
  exact fn_good TQRok.ctx (fn := Try.f12) (by kernel_rfl) (by kernel_rfl) (or_good cs.length cs ds kn rfl h6 h7 k h8) hR hb
end Go.Proofs.Ytjacnjecggedhaa
namespace Go.Proofs.Ytjacnjecggedhaa
set_option linter.unusedVariables false
set_option linter.unusedSimpArgs false
open Go.RowKit Ev
theorem rfT_eq : tailN 5 rfB = .seq (.seq (seqL (seqL (tailN 5 rfB))) (.block 0 (.loop rfO))) (seqR (tailN 5 rfB)) := by kernel_rfl
def RefOut (os : List RefR) (sp : Int) (L : List UInt8) (S : List Int) : Prop := (sp < 1 ∧ L = [] ∧ S = []) ∨ (1 ≤ sp ∧ RefRun sp F0 os [] L S)
structure RefK (os : List RefR) (sp : Int) (K : Out → AHeap → Prop) : Prop where
  n30 : os.length ≤ 30
  sp1 : sp ≤ 7300
  hc : ∀ j, CSm (refC (os.getD j noRef))
  out : ∀ L S, RefOut os sp L S → refFin os K L S
set_option maxRecDepth 100000 in
theorem rf_good (os : List RefR) (sp : Int) (K : Out → AHeap → Prop) (hK : RefK os sp K) : RGd ⟨1, [(0, rRow os)]⟩ rfB (rfK K) (env0 [.sl 0 0 7 0 os.length none, .int .i64 sp] 0) ⟨1, [(0, rRow os)]⟩ := by
  have hH0 : (AHeap.mk 1 [(0, rRow os)]).next ≤ 1 := Nat.le_refl _
  have hn30 := hK.n30
  refine Gd.walkN TQRok.ctx (base := 1) hH0 (It := fun E H => canonK 1 [0, 1, 6, 7, 8, 9] E H (fun E H => E = (rn os sp F0 false []).1 ∧ H = (rn os sp F0 false []).2)) 5 400 _ _ _ (by kernel_rfl) (rIn []) (Eq.mpr (w_rf_pre os sp _ _) ⟨rfl, rfl⟩) (fun E H h => ?_)
  obtain ⟨E', H', σ, ⟨rfl, rfl⟩, g2, g3, g4, g5, g6⟩ := canonK_ok h
  refine Gd.sub (base := 1) hH0 g6 ?_ g2 g3 g4 g5
  rw [rfT_eq]
  refine Gd.seq (Gd.seq (Gd.walkC TQRok.ctx 1 tsR hH0 (rIn [true, true, true, true, true, false, false]) (Eq.mpr (w_rf_set os sp F0 false _) ?_)))
  have fin : ∀ E H, rQo os sp K (.exit 0) E H → RGd ⟨1, [(0, rRow os)]⟩ (seqR (tailN 5 rfB)) (rfK K) E H := by
    rintro E H ⟨F, is, S, i, hf, ⟨hS, rfl, rfl⟩ | ⟨hS, rfl, rfl⟩⟩
    · exact Gd.walkC TQRok.ctx 1 tsR hH0 (rIn [true, true, true, true, true, true]) (Eq.mpr (w_rfe_n os sp F is i K) (hf.1 hS))
    · exact Gd.walkC TQRok.ctx 1 tsR hH0 (rIn [true, true, true, true, true, true]) (Eq.mpr (w_rfe_s os sp F is S i K) (hf.2 hS))
  by_cases hsp : sp < 1
  · have hf : refFin os K [] [] := hK.out [] [] (.inl ⟨hsp, rfl, rfl⟩)
    refine Gd.block (Gd.loop (fun m E H => E = (rn os sp F0 false (r10 ((0 : Nat) : Int))).1 ∧ H = (rn os sp F0 false (r10 ((0 : Nat) : Int))).2) (fun m E H hI => ?_) 0 _ _ ⟨rfl, rfl⟩)
    obtain ⟨rfl, rfl⟩ := hI
    have ex : rQo os sp K (.exit 0) (rn os sp F0 false (r10 ((0 : Nat) : Int))).1 (rn os sp F0 false (r10 ((0 : Nat) : Int))).2 := ⟨F0, false, [], _, hf, .inl ⟨rfl, rfl, rfl⟩⟩
    rw [rfO_eq]
    refine Gd.seq (Gd.walkC TQRok.ctx 1 tsR hH0 (rIn [true, true, true, true, true, false, true, false, false, false]) (Eq.mpr (w_rf7_n os sp F0 false 0 _) ?_))
    exact br_dec (fun _ => br_dec (fun h => absurd h (by omega)) (fun _ => fin _ _ ex)) (fun _ => fin _ _ ex)
  · refine Gd.block (Gd.mono (r_outer _ hH0 os hn30 hK.hc sp K os.length _ _ ⟨F0, false, [], 0, rfl, Nat.zero_le _, ⟨by omega, hK.sp1, by show ((0 : Nat) : Int) ≤ sp; omega, by simp [F0], Nat.le_refl _, Nat.zero_le _⟩, fun L S' hr => hK.out L S' (.inr ⟨by omega, by simpa using hr⟩), .inl ⟨rfl, rfl, rfl⟩⟩) (fun x E H h => ?_))
    cases x with
    | normal => exact h.elim
    | ret => exact h
    | panic v => exact h.elim
    | exit j => cases j with
      | zero => exact fin E H h
      | succ j => exact h.elim
def decRef (args : List AVal) (H : AHeap) : Option (List (Nat × Nat) × (ABlk × Nat × Int)) := match args with
  | [.sl b 0 7 0 n none, .int .i64 sp] => match H.get b with
    | some (.row e T l md) => some ([(0, b)], (.row e T l md, n, sp))
    | _ => none
  | _ => none
theorem decRef_ok : DecOk decRef (fun (s : ABlk × Nat × Int) => [.sl 0 0 7 0 s.2.1 none, .int .i64 s.2.2]) (fun (s : ABlk × Nat × Int) => ⟨1, [(0, s.1)]⟩) := by
  refine ⟨fun args H σ s h hb hH => ?_⟩
  unfold decRef at h
  split at h
  · rename_i b n sp
    split at h
    · rename_i e T l md hg
      simp only [Option.some.injEq, Prod.mk.injEq] at h
      obtain ⟨rfl, rfl⟩ := h
      refine ⟨rfl, rfl, fun c x hx => ?_, fun c c' hc hc' hne => ?_, fun c hc => ?_⟩
      · obtain ⟨rfl, hx⟩ := get_one hx
        cases hx
        exact ⟨Nat.one_pos, rfl, hg⟩
      · have h1 : c < 1 := hc
        have h2 : c' < 1 := hc'
        omega
      · have h1 : c < 1 := hc
        obtain rfl : c = 0 := by omega
        exact (hH b _ hg).1
    · cases h
  · cases h
def fRef (s : ABlk × Nat × Int) (K : Out → AHeap → Prop) : Prop := ∃ os : List RefR, (s.1 = rRow os ∧ s.2.1 = os.length ∧ os.length ≤ 30 ∧ s.2.2 ≤ 7300 ∧ ∀ j, CSm (refC (os.getD j noRef))) ∧
  ∀ L S, RefOut os s.2.2 L S → (S = [] → K (.ret (.tup [.str L, .nils])) ⟨1, [(0, s.1)]⟩) ∧ (S ≠ [] → K (.ret (.tup [.str L, .sl 1 0 1 0 S.length none])) ⟨2, [(0, s.1), (1, .row 33 (intRow .u64) S .plain)]⟩)
theorem ref_sound : GcSound Try.prog 11 (gcSub decRef (fun (s : ABlk × Nat × Int) => ⟨1, [(0, s.1)]⟩) fRef) := by
  refine gc_sub Try.call11 decRef_ok (fun s k hk ρ w hR hb => ?_)
  obtain ⟨blk, n, sp⟩ := s
  obtain ⟨os, ⟨h1, h2, h3, h4, h5⟩, h6⟩ := hk
  simp only at h1 h2 h4
  subst h1
  subst h2
  exact fn_good TQRok.ctx (fn := Try.f11) (by kernel_rfl) (by kernel_rfl) (rf_good os sp k ⟨h3, h4, h5, h6⟩) hR hb
end Go.Proofs.Ytjacnjecggedhaa
namespace Go.Proofs.Ytjacnjecggedhaa
set_option linter.unusedVariables false
set_option linter.unusedSimpArgs false
open Go.RowKit Ev
structure Hyp (sp : Int) (fin : List UInt8 → List Int → Prop) (cs : List CutR) (ds : List BoolR) (F : FSt) (S : List Int) (i : Nat) : Prop where
  h1 : ∀ l F' c', PackRun sp F (cs.getD i noCut) l F' c' false → fin F'.L S
  h2 : ∀ l F' c' l2 L S', PackRun sp F (cs.getD i noCut) l F' c' true → FillRun sp F' (cs.set i c') (ds.set i ⟨true⟩) 0 (S ++ [(i : Int) + 1]) l2 L S' → fin L S'
theorem hyp_of {sp : Int} {fin : List UInt8 → List Int → Prop} {cs : List CutR} {ds : List BoolR} {F : FSt} {S : List Int} {fv : Int} (h : ∀ l L S', FillRun sp F cs ds fv S l L S' → fin L S') {i : Nat} (hm : moreM ds fv = some i) : Hyp sp fin cs ds F S i :=
  ⟨fun l F' c' hp => h _ _ _ (.stop hm hp), fun l F' c' l2 L S' hp hr => h _ _ _ (.pack hm hp hr)⟩
def fOut (n : Nat) (sp : Int) (fin : List UInt8 → List Int → Prop) (m : Nat) (E : Env) (H : AHeap) : Prop :=
  ∃ cs ds F S no sm, m = cntF ds ∧ ((F.L = [] ∧ S = [] ∧ E = (g00 n sp cs ds 0 F (f14 no sm)).1 ∧ H = (g00 n sp cs ds 0 F (f14 no sm)).2) ∨ (F.L ≠ [] ∧ S ≠ [] ∧ E = (g11 n sp cs ds 0 F S (f14 no sm)).1 ∧ H = (g11 n sp cs ds 0 F S (f14 no sm)).2)) ∧
    (sm = true → ∃ i : Nat, no = (i : Int) + 1 ∧ i < n ∧ (ds.getD i ⟨false⟩).b = false ∧ FFact n sp cs ds F S ∧ Hyp sp fin cs ds F S i) ∧ (sm = false → fin F.L S)
def fQo (n : Nat) (sp : Int) (fin : List UInt8 → List Int → Prop) : AExit → Env → AHeap → Prop := fun x E H => match x with
  | .exit 0 => fStop n sp fin E H
  | _ => False
theorem sIn (p : List Bool) : InFn (TX2.ctx Try.prog) 9 (codeAt p fillB) :=
  inFn_at TX2ok.ctx (fn := Try.f9) (by kernel_rfl) (by kernel_rfl) p
set_option maxRecDepth 100000 in
theorem f_rest (H0 : AHeap) (hH0 : H0.next ≤ 3) (n : Nat) (sp : Int) (fin : List UInt8 → List Int → Prop) (m0 m : Nat) (E : Env) (H : AHeap) (hI : fMid n sp fin m0 m E H) :
    SGd H0 (.seq (.block 1 (.block 2 (.loop fillL))) (seqR (seqR fillO))) (fun x E H => match x with
      | .normal => ∃ m', m' < m0 ∧ fOut n sp fin m' E H
      | x => fQo n sp fin x E H) E H := by
  refine Gd.seq (Gd.block (Gd.block (Gd.mono (f_inner H0 hH0 n sp fin m0 m E H hI) (fun x E H h => ?_))))
  unfold fQi at h
  split at h
  · exact h
  · obtain ⟨cs, ds, F, S, i, hf, hc, hL, hS, hh, rfl, rfl⟩ := h
    refine Gd.walkC TX2ok.ctx 3 ts14 hH0 (sIn [true, false, true, true, true, true, true, false, true, false, false, true, true]) (Eq.mpr (w_f8_11 n sp cs ds 0 F S i _) ?_)
    refine ⟨cs, ds, ⟨⟨rfl, rfl⟩, ⟨hf.ecs.symm, hf.eds.symm⟩, by rw [hf.ecs, hf.eds], by have := hf.n30; rw [hf.eds]; exact this⟩, fun j hj => ?_, fun hj => ?_⟩
    · have := moreM_ok hj
      exact ⟨cntF ds, hc, cs, ds, F, S, (j : Int) + 1, true, rfl, .inr ⟨hL, hS, rfl, rfl⟩, fun _ => ⟨j, rfl, by rw [← hf.eds]; exact this.2, this.1, hf, hyp_of hh hj⟩, (fun h => by cases h)⟩
    · exact ⟨cntF ds, hc, cs, ds, F, S, 0, false, rfl, .inr ⟨hL, hS, rfl, rfl⟩, (fun h => by cases h), fun _ => hh _ _ _ (.done hj)⟩
  · exact h.elim
set_option maxRecDepth 100000 in
theorem f_outer (H0 : AHeap) (hH0 : H0.next ≤ 3) (n : Nat) (sp : Int) (fin : List UInt8 → List Int → Prop) : ∀ m E H, fOut n sp fin m E H → SGd H0 (.loop fillO) (fQo n sp fin) E H := by
  refine Gd.loop (fOut n sp fin) (fun m E H hI => ?_)
  rw [fillO_eq]
  obtain ⟨cs, ds, F, S, no, sm, hm, hs, ht, hfl⟩ := hI
  subst hm
  rcases hs with ⟨hL, hS, rfl, rfl⟩ | ⟨hL, hS, rfl, rfl⟩
  · refine Gd.seq (Gd.walkC TX2ok.ctx 3 ts13 hH0 (sIn [true, false, true, true, true, true, true, false, true, false, false, false]) (Eq.mpr (w_f7_00 n sp cs ds 0 F no sm _) ?_))
    refine br_mk (fun h => ?_) (fun h => ?_)
    · obtain ⟨i, rfl, hi, hd, hf, hh⟩ := ht h
      exact f_rest H0 hH0 n sp fin (cntF ds) _ _ _ ⟨cs, ds, F, S, i, rfl, hf, Nat.le_refl _, hi, hd, hh.h1, hh.h2, .inl ⟨hL, hS, rfl, rfl⟩⟩
    · exact ⟨cs, ds, F, S, no, hfl h, .inl ⟨hL, hS, rfl, rfl⟩⟩
  · refine Gd.seq (Gd.walkC TX2ok.ctx 3 ts13 hH0 (sIn [true, false, true, true, true, true, true, false, true, false, false, false]) (Eq.mpr (w_f7_11 n sp cs ds 0 F S no sm _) ?_))
    refine br_mk (fun h => ?_) (fun h => ?_)
    · obtain ⟨i, rfl, hi, hd, hf, hh⟩ := ht h
      exact f_rest H0 hH0 n sp fin (cntF ds) _ _ _ ⟨cs, ds, F, S, i, rfl, hf, Nat.le_refl _, hi, hd, hh.h1, hh.h2, .inr (.inr ⟨hL, hS, rfl, rfl⟩)⟩
    · exact ⟨cs, ds, F, S, no, hfl h, .inr (.inr ⟨hL, hS, rfl, rfl⟩)⟩
def fillFin (n : Nat) (K : Out → AHeap → Prop) (L : List UInt8) (S : List Int) : Prop := ∀ cs ds,
  (S = [] → K (.ret (.tup [.str L, .nils])) ⟨3, srcN n cs ds⟩) ∧
  (S ≠ [] → K (.ret (.tup [.str L, .sl 3 0 1 0 S.length none])) ⟨4, srcN n cs ds ++ [(3, sRow S)]⟩)
set_option maxRecDepth 100000 in
theorem f_end (H0 : AHeap) (hH0 : H0.next ≤ 3) (n : Nat) (sp : Int) (K : Out → AHeap → Prop) (E : Env) (H : AHeap) (h : fStop n sp (fillFin n K) E H) : SGd H0 (seqR (tailN 5 fillI)) (endA (TX2.ctx Try.prog).P Try.f9 K) E H := by
  obtain ⟨cs, ds, F, S, no, hK, ⟨hL, hS, rfl, rfl⟩ | ⟨hL, hS, rfl, rfl⟩ | ⟨hL, hS, rfl, rfl⟩⟩ := h
  · refine Gd.walkC TX2ok.ctx 3 ts89 hH0 (sIn [true, false, true, true, true, true, true, true]) (Eq.mpr (w_f9_00 n sp cs ds 0 F no K) ?_)
    have := (hK cs ds).1 hS
    rw [hL] at this
    exact this
  · refine Gd.walkC TX2ok.ctx 3 ts89 hH0 (sIn [true, false, true, true, true, true, true, true]) (Eq.mpr (w_f9_10 n sp cs ds 0 F no K) ?_)
    rw [List.drop_zero, List.take_length]
    exact obl_dec (by omega) ((hK cs ds).1 hS)
  · refine Gd.walkC TX2ok.ctx 3 ts89 hH0 (sIn [true, false, true, true, true, true, true, true]) (Eq.mpr (w_f9_11 n sp cs ds 0 F S no K) ?_)
    rw [List.drop_zero, List.take_length]
    exact obl_dec (by omega) ((hK cs ds).2 hS)
structure FillK (n : Nat) (cs : List CutR) (ds : List BoolR) (first sp : Int) (K : Out → AHeap → Prop) : Prop where
  ecs : cs.length = n
  eds : ds.length = n
  n30 : n ≤ 30
  sp1 : sp ≤ 7300
  hc : ∀ j, CSm (cs.getD j noCut)
  none : sp < 1 → fillFin n K [] []
  some : 1 ≤ sp → ∀ l L S, FillRun sp F0 cs ds first [] l L S → fillFin n K L S
set_option maxRecDepth 100000 in
theorem f_fill (n : Nat) (cs : List CutR) (ds : List BoolR) (first sp : Int) (K : Out → AHeap → Prop) (hK : FillK n cs ds first sp K) : SGd ⟨3, srcN n cs ds⟩ fillB (endA (TX2.ctx Try.prog).P Try.f9 K) (env0 (fA first sp) 0) ⟨3, srcN n cs ds⟩ := by
  have hH0 : (AHeap.mk 3 (srcN n cs ds)).next ≤ 3 := Nat.le_refl _
  rw [fillB_eq]
  refine Gd.seq (Gd.walkC TX2ok.ctx 3 ts0 hH0 (sIn [false]) (Eq.mpr (w_fe0 n cs ds first sp _) ?_))
  refine Gd.scope ?_
  rw [fillI_eq]
  refine Gd.seq (Gd.mono (Gd.walkC TX2ok.ctx (Q := qRet (endA (TX2.ctx Try.prog).P Try.f9 K) (fun x E H => match x with
    | .normal => SGd ⟨3, srcN n cs ds⟩ (seqR fillI) (endA (TX2.ctx Try.prog).P Try.f9 K) E H
    | _ => False)) 3 tsA hH0 (sIn [true, false, false]) (Eq.mpr (w_fe1 n cs ds first sp K _) ?_)) (fun x E H h => ?_))
  rotate_left
  · cases x <;> first | exact h | exact h.elim
  refine br_dec (fun hsp => ((hK.none hsp) cs ds).1 rfl) (fun hsp => ?_)
  refine Gd.walkN TX2ok.ctx (base := 3) hH0 (It := fun E H => canonK 3 [4, 5, 6, 10, 11, 12] E H (fun E H => E = (g00 n sp cs ds first F0 []).1 ∧ H = (g00 n sp cs ds first F0 []).2)) 4 400 _ _ _ (by kernel_rfl) (sIn [true, false, true]) (Eq.mpr (w_fe1b n cs ds first sp _ _) ⟨rfl, rfl⟩) (fun E H h => ?_)
  obtain ⟨E', H', σ, ⟨rfl, rfl⟩, g2, g3, g4, g5, g6⟩ := canonK_ok h
  refine Gd.sub (base := 3) hH0 g6 ?_ g2 g3 g4 g5
  rw [fillT_eq]
  have hcnt : cntF ds ≤ n := by rw [← hK.eds]; exact List.countP_le_length
  have hf : FFact n sp cs ds F0 [] := ⟨hK.ecs, hK.eds, hK.n30, by omega, hK.sp1, by show ((0 : Nat) : Int) ≤ sp; omega, Nat.le_refl _, hK.hc, by have := hK.n30; show 0 + cntF ds ≤ 30; omega⟩
  refine Gd.seq (Gd.seq (Gd.mono (Gd.walkC TX2ok.ctx (Q := fun x E H => match x with
    | .normal => ∃ m, fOut n sp (fillFin n K) m E H
    | _ => False) 3 ts14 hH0 (sIn [true, false, true, true, true, true, true, false, false]) (Eq.mpr (w_fe2 n sp cs ds first _) ?_)) (fun x E H h => ?_)))
  · refine ⟨cs, ds, ⟨⟨rfl, rfl⟩, ⟨hK.ecs.symm, hK.eds.symm⟩, by rw [hK.ecs, hK.eds], by rw [hK.eds]; exact hK.n30⟩, fun j hj => ?_, fun hj => ?_⟩
    · have := moreM_ok hj
      exact ⟨cntF ds, cs, ds, F0, [], (j : Int) + 1, true, rfl, .inl ⟨rfl, rfl, rfl, rfl⟩, fun _ => ⟨j, rfl, by rw [← hK.eds]; exact this.2, this.1, hf, hyp_of (hK.some (by omega)) hj⟩, (fun h => by cases h)⟩
    · exact ⟨cntF ds, cs, ds, F0, [], 0, false, rfl, .inl ⟨rfl, rfl, rfl, rfl⟩, (fun h => by cases h), fun _ => hK.some (by omega) _ _ _ (.done hj)⟩
  · cases x with
    | normal =>
      obtain ⟨m, h⟩ := h
      refine Gd.block (Gd.mono (f_outer ⟨3, srcN n cs ds⟩ hH0 n sp (fillFin n K) m E H h) (fun x E H h => ?_))
      unfold fQo at h
      split at h
      · exact f_end _ hH0 n sp K E H h
      · exact h.elim
    | exit i => exact h.elim
    | ret => exact h.elim
    | panic v => exact h.elim
end Go.Proofs.Ytjacnjecggedhaa
namespace Go.Proofs.Ytjacnjecggedhaa
set_option linter.unusedVariables false
set_option linter.unusedSimpArgs false
open Go.RowKit Ev
set_option maxRecDepth 100000 in
theorem w_fnil (first sp : Int) (K : Out → AHeap → Prop) : (wpC (TF.ctx Try.prog) 400 9 1 fillB (env0 (fA first sp) 0) ⟨1, [(0, srcB .nils .nils)]⟩ (canQ 1 ts89 (endA (TF.ctx Try.prog).P Try.f9 K))
) =  (same (decide (sp < (1 : Int))) (K (Out.ret (AVal.tup [AVal.str [], AVal.nils])) (AHeap.mk 1 [(0, ABlk.cells 29 [AVal.nils, AVal.nils])]))) := by kernel_rfl
end Go.Proofs.Ytjacnjecggedhaa
namespace Go.Proofs.Ytjacnjecggedhaa
set_option linter.unusedVariables false
set_option linter.unusedSimpArgs false
open Go.RowKit Ev
def FillOut (cs : List CutR) (ds : List BoolR) (first sp : Int) (l : List NextR) (L : List UInt8) (S : List Int) : Prop :=
  (sp < 1 ∧ l = [] ∧ L = [] ∧ S = []) ∨ (1 ≤ sp ∧ FillRun sp F0 cs ds first [] l L S)
structure FillS where
  nil : Bool
  l : ABlk
  d : ABlk
  n1 : Nat
  n2 : Nat
  first : Int
  sp : Int
def decFill (args : List AVal) (H : AHeap) : Option (List (Nat × Nat) × FillS) := match args with
  | [.iface t (.ptr b 0 0 0), .int .u64 first, .int .i64 (.ofNat 7), .int .i64 sp] => match Nat.beq t 24 with
    | true => match H.get b with
      | some (.cells e [.nils, .nils]) => match Nat.beq e 29 with
        | true => some ([(0, b)], ⟨true, .dead, .dead, 0, 0, first, sp⟩)
        | false => none
      | some (.cells e [.sl b1 0 6 0 n1 none, .sl b2 0 1 0 n2 none]) => match H.get b1, H.get b2 with
        | some (.row e1 T1 l1 m1), some (.row e2 T2 l2 m2) => match Nat.beq e 29 && !(Nat.beq b1 b2) with
          | true => some ([(0, b), (1, b1), (2, b2)], ⟨false, .row e1 T1 l1 m1, .row e2 T2 l2 m2, n1, n2, first, sp⟩)
          | false => none
        | _, _ => none
      | _ => none
    | false => none
  | _ => none
def fillC (s : FillS) : AHeap := match s.nil with
  | true => ⟨1, [(0, srcB .nils .nils)]⟩
  | false => ⟨3, [(0, srcB (.sl 1 0 6 0 s.n1 none) (.sl 2 0 1 0 s.n2 none)), (1, s.l), (2, s.d)]⟩
theorem decFill_ok : DecOk decFill (fun s => fA s.first s.sp) fillC := by
  refine ⟨fun args H σ s h hb hH => ?_⟩
  unfold decFill at h
  split at h
  · rename_i t b first sp
    split at h
    · rename_i ht
      have ht := nat_beq_eq.1 ht
      subst ht
      split at h
      · rename_i e hg
        split at h
        · rename_i he
          have he := nat_beq_eq.1 he
          subst he
          simp only [Option.some.injEq, Prod.mk.injEq] at h
          obtain ⟨rfl, rfl⟩ := h
          refine ⟨rfl, rfl, fun c x hx => ?_, fun c c' hc hc' hne => ?_, fun c hc => ?_⟩
          · obtain ⟨rfl, hx⟩ := get_one hx
            cases hx
            exact ⟨Nat.one_pos, rfl, hg⟩
          · have h1 : c < 1 := hc
            have h2 : c' < 1 := hc'
            omega
          · have h1 : c < 1 := hc
            obtain rfl : c = 0 := by omega
            exact (hH b _ hg).1
        · cases h
      · rename_i e b1 n1 b2 n2 hg
        split at h
        · rename_i e1 T1 l1 m1 e2 T2 l2 m2 hg1 hg2
          split at h
          · rename_i hc
            simp only [Bool.and_eq_true, Bool.not_eq_true'] at hc
            have he := nat_beq_eq.1 hc.1
            have hne := nat_beq_ne.1 hc.2
            subst he
            simp only [Option.some.injEq, Prod.mk.injEq] at h
            obtain ⟨rfl, rfl⟩ := h
            have n01 : b ≠ b1 := by rintro rfl; rw [hg] at hg1; cases hg1
            have n02 : b ≠ b2 := by rintro rfl; rw [hg] at hg2; cases hg2
            refine ⟨rfl, rfl, fun c x hx => ?_, fun c c' hc hc' hne' => ?_, fun c hc => ?_⟩
            · rcases get_three hx with ⟨rfl, hx⟩ | ⟨rfl, hx⟩ | ⟨rfl, hx⟩
              · cases hx; exact ⟨(by decide : 0 < 3), rfl, hg⟩
              · cases hx; exact ⟨(by decide : 1 < 3), rfl, hg1⟩
              · cases hx; exact ⟨(by decide : 2 < 3), rfl, hg2⟩
            · rcases three_cases hc with rfl | rfl | rfl <;> rcases three_cases hc' with rfl | rfl | rfl <;> first | exact absurd rfl hne' | exact n01 | exact n02 | exact hne | exact n01.symm | exact n02.symm | exact fun h => hne h.symm
            · rcases three_cases hc with rfl | rfl | rfl
              · exact (hH b _ hg).1
              · exact (hH b1 _ hg1).1
              · exact (hH b2 _ hg2).1
          · cases h
        · cases h
      · cases h
    · cases h
  · cases h
def fFill (s : FillS) (K : Out → AHeap → Prop) : Prop := match s.nil with
  | true => K (.ret (.tup [.str [], .nils])) ⟨1, [(0, srcB .nils .nils)]⟩
  | false => ∃ (cs : List CutR) (ds : List BoolR), ((s.l = cRow cs ∧ s.d = dRow ds) ∧ s.n2 = s.n1 ∧ cs.length = s.n1 ∧ ds.length = s.n1 ∧ s.n1 ≤ 30 ∧ s.sp ≤ 7300 ∧ ∀ j, CSm (cs.getD j noCut)) ∧
    ∀ l L S, FillOut cs ds s.first s.sp l L S → ∀ cs' ds',
      (S = [] → K (.ret (.tup [.str L, .nils])) ⟨3, [(0, srcB (.sl 1 0 6 0 s.n1 none) (.sl 2 0 1 0 s.n1 none)), (1, cRow cs'), (2, dRow ds')]⟩) ∧
      (S ≠ [] → K (.ret (.tup [.str L, .sl 3 0 1 0 S.length none])) ⟨4, [(0, srcB (.sl 1 0 6 0 s.n1 none) (.sl 2 0 1 0 s.n1 none)), (1, cRow cs'), (2, dRow ds'), (3, sRow S)]⟩)
set_option maxRecDepth 100000 in
theorem fill_sound : GcSound Try.prog 9 (gcSub decFill fillC fFill) := by
  refine gc_sub Try.call9 decFill_ok (fun s k hk ρ w hR hb => ?_)
  obtain ⟨nl, l, d, n1, n2, first, sp⟩ := s
  cases nl with
  | true =>
    refine fn_good TFok.ctx (fn := Try.f9) (c := fillB) (by kernel_rfl) (by kernel_rfl) ?_ hR hb
    refine Gd.walkC TFok.ctx 1 ts89 (Nat.le_refl _) (inFn_at TFok.ctx (fn := Try.f9) (by kernel_rfl) (by kernel_rfl) []) (Eq.mpr (w_fnil first sp k) ((same_iff _ _).2 hk))
  | false =>
    obtain ⟨cs, ds, ⟨⟨h1, h2⟩, h3, h4, h5, h6, h7, h8⟩, hk⟩ := hk
    simp only at h1 h2 h3 h4 h5 h6 h7
    subst h1 h2 h3
    exact fn_good TX2ok.ctx (fn := Try.f9) (by kernel_rfl) (by kernel_rfl) (f_fill n2 cs ds first sp k ⟨h4, h5, h6, h7, h8, fun hs cs' ds' => hk [] [] [] (.inl ⟨hs, rfl, rfl, rfl⟩) cs' ds', fun hs l L S hr cs' ds' => hk l L S (.inr ⟨hs, hr⟩) cs' ds'⟩) hR hb
end Go.Proofs.Ytjacnjecggedhaa
namespace Go.Proofs.Ytjacnjecggedhaa
set_option linter.unusedVariables false
set_option linter.unusedSimpArgs false
open Go.RowKit Ev
universe u
theorem gcSub_imp {P : Program} {f : FuncId} {S : Type u} {dec : List AVal → AHeap → Option (List (Nat × Nat) × S)} {cheap : S → AHeap} {F F' : S → (Out → AHeap → Prop) → Prop} (h : ∀ s K, F' s K → F s K) (hs : GcSound P f (gcSub dec cheap F)) : GcSound P f (gcSub dec cheap F') := by
  intro args H K hK ρ w hR ha
  refine hs args H K ?_ ρ w hR ha
  unfold gcSub at hK ⊢
  split at hK
  · exact h _ _ hK
  · exact hK
def fOf1 (hs : List PackR) (md : RowMd) (s : ABlk × Nat) (K : Out → AHeap → Prop) : Prop := (s.1 = pRow hs md ∧ s.2 = hs.length) ∧ (pOk hs ∧ hs.length ≠ 0) ∧ ∀ cs, cs = ofN hs (min hs.length 30) →
  K (.ret (.ptr 1 0 0 0)) ⟨4, [(0, s.1), (1, srcB (.sl 2 0 6 0 cs.length none) (.sl 3 0 1 0 cs.length none)), (2, cRow cs), (3, dRow (dsN cs.length))]⟩
noncomputable def gcOf1 (hs : List PackR) (md : RowMd) : GC := gcSub decOf (fun (s : ABlk × Nat) => ⟨1, [(0, s.1)]⟩) (fOf1 hs md)
theorem gcOf1_sound (hs : List PackR) (md : RowMd) : GcSound Try.prog 8 (gcOf1 hs md) := by
  refine gcSub_imp (fun s K h => ?_) (gcOf_sound hs md)
  obtain ⟨⟨h1, h2⟩, ⟨h3, h4⟩, h5⟩ := h
  refine ⟨⟨h1, h2⟩, h3, branch_iff.2 ⟨fun h => absurd (of_decide_eq_true h) h4, fun _ => ?_⟩⟩
  have := h5 _ rfl
  rw [h1, ofN_length] at this
  rw [ofN_length, dsN_length]
  exact this
def fFill1 (s : FillS) (K : Out → AHeap → Prop) : Prop := s.nil = false ∧ ∃ cs : List CutR, ((s.l = cRow cs ∧ s.d = dRow (dsN cs.length)) ∧ (s.n1 = cs.length ∧ s.n2 = cs.length) ∧ cs.length ≤ 30 ∧ s.sp ≤ 7300 ∧ ∀ j, CSm (cs.getD j noCut)) ∧
    ∀ l L S, FillOut cs (dsN cs.length) s.first s.sp l L S → ∀ cs' ds',
      (S = [] → K (.ret (.tup [.str L, .nils])) ⟨3, [(0, srcB (.sl 1 0 6 0 s.n1 none) (.sl 2 0 1 0 s.n1 none)), (1, cRow cs'), (2, dRow ds')]⟩) ∧
      (S ≠ [] → K (.ret (.tup [.str L, .sl 3 0 1 0 S.length none])) ⟨4, [(0, srcB (.sl 1 0 6 0 s.n1 none) (.sl 2 0 1 0 s.n1 none)), (1, cRow cs'), (2, dRow ds'), (3, sRow S)]⟩)
theorem fill1_sound : GcSound Try.prog 9 (gcSub decFill fillC fFill1) := by
  refine gcSub_imp (fun s K h => ?_) fill_sound
  obtain ⟨nl, l, d, n1, n2, first, sp⟩ := s
  obtain ⟨h0, cs, ⟨⟨h1, h2⟩, ⟨h3, h4⟩, h5, h6, h7⟩, h8⟩ := h
  simp only at h0 h1 h2 h3 h4 h6
  subst h0
  refine ⟨cs, dsN cs.length, ⟨⟨h1, h2⟩, by rw [h3]; exact h4, h3.symm, by rw [dsN_length]; exact h3.symm, by rw [show FillS.n1 ⟨false, l, d, n1, n2, first, sp⟩ = n1 from rfl, h3]; exact h5, h6, h7⟩, h8⟩
end Go.Proofs.Ytjacnjecggedhaa
namespace Go.Proofs.Ytjacnjecggedhaa
set_option linter.unusedVariables false
set_option linter.unusedSimpArgs false
open Go.RowKit Ev
theorem pack_det {sp : Int} {F : FSt} {c : CutR} {l1 : List NextR} {F1 : FSt} {c1 : CutR} {b1 : Bool} (h1 : PackRun sp F c l1 F1 c1 b1) : ∀ {l2 : List NextR} {F2 : FSt} {c2 : CutR} {b2 : Bool}, PackRun sp F c l2 F2 c2 b2 → b1 = b2 ∧ F1.L = F2.L ∧ (b1 = true → F1 = F2) := by
  induction h1 with
  | fail hn hL =>
    intro l2 F2 c2 b2 h2
    cases h2 with
    | fail _ hL2 => exact ⟨rfl, hL.trans hL2.symm, fun h => by cases h⟩
    | last hok _ => exact absurd hok hn
    | more hok _ _ => exact absurd hok hn
  | last hok he =>
    intro l2 F2 c2 b2 h2
    cases h2 with
    | fail hn _ => exact absurd hok hn
    | last _ _ => exact ⟨rfl, rfl, fun _ => rfl⟩
    | more _ he2 _ => rw [he] at he2; cases he2
  | more hok he _ ih =>
    intro l2 F2 c2 b2 h2
    cases h2 with
    | fail hn _ => exact absurd hok hn
    | last _ he2 => rw [he] at he2; cases he2
    | more _ _ h => exact ih h
theorem moreR_min (ds : List BoolR) : ∀ m i j, moreR ds 0 m i = some j → ∀ t, i ≤ t → t < j → (ds.getD t ⟨false⟩).b = true
  | 0, i, j, h => by cases h
  | m + 1, i, j, h => by
    intro t ht htj
    unfold moreR at h
    split at h
    · cases h; omega
    · rename_i hc
      by_cases hti : t = i
      · subst hti
        cases hb : (ds.getD t ⟨false⟩).b with
        | true => rfl
        | false => exact absurd ⟨hb, .inl rfl⟩ hc
      · exact moreR_min ds m (i + 1) j h t (by omega) htj
theorem moreR_none (ds : List BoolR) : ∀ m i, moreR ds 0 m i = none → ∀ t, i ≤ t → t < i + m → (ds.getD t ⟨false⟩).b = true
  | 0, i, h => fun t h1 h2 => by omega
  | m + 1, i, h => by
    intro t ht htj
    unfold moreR at h
    split at h
    · cases h
    · rename_i hc
      by_cases hti : t = i
      · subst hti
        cases hb : (ds.getD t ⟨false⟩).b with
        | true => rfl
        | false => exact absurd ⟨hb, .inl rfl⟩ hc
      · exact moreR_none ds m (i + 1) h t (by omega) (by omega)
structure DK (n k a : Nat) (ds : List BoolR) : Prop where
  len : ds.length = n
  b : ∀ i, i < n → (ds.getD i ⟨false⟩).b = decide (i < a ∨ i = k)
def restK (cs : List CutR) (k a : Nat) : List RefR := ((List.range' a (cs.length - a)).filter fun i => !decide (i = k)).map (refAt cs)
theorem rest_nil (cs : List CutR) (k a : Nat) (h : ∀ t, a ≤ t → t < cs.length → t = k) : restK cs k a = [] := by
  unfold restK
  rw [List.filter_eq_nil_iff.2, List.map_nil]
  intro t ht
  rw [List.mem_range'_1] at ht
  simp [h t ht.1 (by omega)]
theorem rest_cons (cs : List CutR) (k : Nat) : ∀ d a i, i = a + d → i < cs.length → i ≠ k → (∀ t, a ≤ t → t < i → t = k) → restK cs k a = refAt cs i :: restK cs k (i + 1)
  | 0, a, i, hd, hi, hk, _ => by
    obtain rfl : i = a := by omega
    unfold restK
    rw [show cs.length - i = (cs.length - (i + 1)) + 1 by omega, List.range'_succ, List.filter_cons_of_pos (by simp [hk]), List.map_cons]
  | d + 1, a, i, hd, hi, hk, hall => by
    have hak := hall a (Nat.le_refl _) (by omega)
    have ih := rest_cons cs k d (a + 1) i (by omega) hi hk (fun t h1 h2 => hall t (by omega) h2)
    rw [← ih]
    unfold restK
    rw [show cs.length - a = (cs.length - (a + 1)) + 1 by omega, List.range'_succ, List.filter_cons_of_neg (by simp [hak])]
theorem ord_eq (cs : List CutR) (k : Nat) : ∀ j, ordN cs k j = refAt cs k :: ((List.range j).filter fun i => !decide (i = k)).map (refAt cs)
  | 0 => rfl
  | j + 1 => by
    have ih := ord_eq cs k j
    unfold ordN
    rw [List.range_succ, List.filter_append]
    by_cases h : j = k
    · rw [if_pos h, ih]; simp [h]
    · rw [if_neg h, ih]; simp [h]
theorem ord_rest (cs : List CutR) (k : Nat) : ordN cs k cs.length = refAt cs k :: restK cs k 0 := by
  rw [ord_eq]; unfold restK; rw [Nat.sub_zero, List.range_eq_range']
theorem run_eq {sp : Int} (cs0 : List CutR) (k : Nat) {F : FSt} {cs : List CutR} {ds : List BoolR} {fv : Int} {S : List Int} {l : List NextR} {L : List UInt8} {S' : List Int} (h : FillRun sp F cs ds fv S l L S') :
    ∀ a, fv = 0 → DK cs0.length k a ds → (∀ j, a ≤ j → j ≠ k → cs.getD j noCut = cs0.getD j noCut) → ∀ L2 S2, RefRun sp F (restK cs0 k a) S L2 S2 → L = L2 ∧ S' = S2 := by
  induction h with
  | @done F cs ds fv S hm =>
    intro a hfv hd hcs L2 S2 hr
    subst hfv
    have hall := moreR_none ds _ _ hm
    rw [rest_nil cs0 k a (fun t h1 h2 => by
      have := hall t (Nat.zero_le _) (by rw [hd.len]; omega)
      rw [hd.b t h2] at this
      rcases of_decide_eq_true this with h | h
      · omega
      · exact h)] at hr
    cases hr
    exact ⟨rfl, rfl⟩
  | @stop F cs ds fv S i l F' c' hm hp =>
    intro a hfv hd hcs L2 S2 hr
    subst hfv
    obtain ⟨o1, o2⟩ := moreM_ok hm
    rw [hd.len] at o2
    rw [hd.b i o2] at o1
    have o3 := of_decide_eq_false o1
    have hall := moreR_min ds _ _ _ hm
    rw [rest_cons cs0 k (i - a) a i (by omega) o2 (by omega) (fun t h1 h2 => by
      have := hall t (Nat.zero_le _) h2
      rw [hd.b t (by omega)] at this
      rcases of_decide_eq_true this with h | h
      · omega
      · exact h)] at hr
    rw [hcs i (by omega) (by omega)] at hp
    cases hr with
    | stop hp2 => exact ⟨(pack_det hp hp2).2.1, rfl⟩
    | pack hp2 _ => have := (pack_det hp hp2).1; cases this
  | @pack F cs ds fv S i l l2 F' c' L S' hm hp hr' ih =>
    intro a hfv hd hcs L2 S2 hr
    subst hfv
    obtain ⟨o1, o2⟩ := moreM_ok hm
    have o2' := o2
    rw [hd.len] at o2
    rw [hd.b i o2] at o1
    have o3 := of_decide_eq_false o1
    have hall := moreR_min ds _ _ _ hm
    have hbet : ∀ t, a ≤ t → t < i → t = k := fun t h1 h2 => by
      have := hall t (Nat.zero_le _) h2
      rw [hd.b t (by omega)] at this
      rcases of_decide_eq_true this with h | h
      · omega
      · exact h
    rw [rest_cons cs0 k (i - a) a i (by omega) o2 (by omega) hbet] at hr
    rw [hcs i (by omega) (by omega)] at hp
    cases hr with
    | stop hp2 => have := (pack_det hp hp2).1; cases this
    | pack hp2 hr2 =>
      obtain rfl := (pack_det hp hp2).2.2 rfl
      refine ih (i + 1) rfl ⟨by rw [List.length_set]; exact hd.len, fun t ht => ?_⟩ (fun j hj hjk => ?_) L2 S2 hr2
      · by_cases hti : i = t
        · subst hti
          rw [List.getD_eq_getElem?_getD, List.getElem?_set_self o2']
          simp
        · rw [List.getD_eq_getElem?_getD, List.getElem?_set_ne hti, ← List.getD_eq_getElem?_getD, hd.b t ht, decide_eq_decide]
          constructor
          · rintro (h | h)
            · exact .inl (by omega)
            · exact .inr h
          · rintro (h | h)
            · by_cases hta : t < a
              · exact .inl hta
              · exact .inr (hbet t (by omega) (by omega))
            · exact .inr h
      · rw [List.getD_eq_getElem?_getD, List.getElem?_set_ne (by omega), ← List.getD_eq_getElem?_getD]
        exact hcs j (by omega) hjk
theorem moreR_first (n k : Nat) (hk : k < n) : ∀ m i, i + m = n → i ≤ k → moreR (dsN n) ((k : Int) + 1) m i = some k
  | 0, i, h, hi => by omega
  | m + 1, i, h, hi => by
    unfold moreR
    have hb : ((dsN n).getD i ⟨false⟩).b = false := by
      unfold dsN
      rw [List.getD_eq_getElem?_getD, List.getElem?_replicate]
      split <;> rfl
    by_cases hik : i = k
    · subst hik; rw [if_pos ⟨hb, .inr rfl⟩]
    · rw [if_neg (by rintro ⟨_, h | h⟩ <;> omega)]
      exact moreR_first n k hk m (i + 1) (by omega) (by omega)
theorem same_answer {cs : List CutR} {k : Nat} (hk : k < cs.length) {sp : Int} {l : List NextR} {L L2 : List UInt8} {S S2 : List Int} (h : FillOut cs (dsN cs.length) ((k : Int) + 1) sp l L S) (h2 : RefOut (ordN cs k cs.length) sp L2 S2) : L = L2 ∧ S = S2 := by
  rcases h with ⟨h0, _, rfl, rfl⟩ | ⟨h0, h⟩
  · rcases h2 with ⟨_, rfl, rfl⟩ | ⟨h1, _⟩
    · exact ⟨rfl, rfl⟩
    · omega
  rcases h2 with ⟨h1, _⟩ | ⟨_, h2⟩
  · omega
  rw [ord_rest] at h2
  have hm : moreM (dsN cs.length) ((k : Int) + 1) = some k := by
    unfold moreM
    rw [dsN_length]
    exact moreR_first _ k hk _ 0 (by omega) (Nat.zero_le _)
  cases h with
  | done hm2 => rw [hm] at hm2; cases hm2
  | stop hm2 hp =>
    rw [hm] at hm2
    cases hm2
    cases h2 with
    | stop hp2 => exact ⟨(pack_det hp hp2).2.1, rfl⟩
    | pack hp2 _ => have := (pack_det hp hp2).1; cases this
  | @pack _ _ _ _ _ i l l2 F' c' _ _ hm2 hp hr =>
    rw [hm] at hm2
    cases hm2
    cases h2 with
    | stop hp2 => have := (pack_det hp hp2).1; cases this
    | pack hp2 hr2 =>
      obtain rfl := (pack_det hp hp2).2.2 rfl
      refine run_eq cs k hr 0 rfl ⟨by rw [List.length_set]; exact dsN_length _, fun t ht => ?_⟩ (fun j _ hjk => ?_) _ _ hr2
      · by_cases hti : k = t
        · subst hti
          rw [List.getD_eq_getElem?_getD, List.getElem?_set_self (by rw [dsN_length]; exact ht)]
          simp
        · rw [List.getD_eq_getElem?_getD, List.getElem?_set_ne hti]
          unfold dsN
          rw [List.getElem?_replicate, if_pos ht]
          simp; omega
      · rw [List.getD_eq_getElem?_getD, List.getElem?_set_ne (by omega), ← List.getD_eq_getElem?_getD]
end Go.Proofs.Ytjacnjecggedhaa
namespace Go.Proofs.Ytjacnjecggedhaa
set_option linter.unusedVariables false
set_option linter.unusedSimpArgs false
open Go.RowKit Ev
noncomputable def TIs (hs : List PackR) : Tabs := (((TF.addGc 8 (gcOf1 hs .ro)).addGc 9 (gcSub decFill fillC fFill1)).addGc 12 (gcSub decOrd srcC fOrd)).addGc 11 (gcSub decRef (fun (s : ABlk × Nat × Int) => ⟨1, [(0, s.1)]⟩) fRef)
theorem TIsok (hs : List PackR) : TabsOk (TIs hs) Try.prog := (((TFok.addGc (gcOf1_sound hs .ro)).addGc fill1_sound).addGc ord_sound).addGc ref_sound
noncomputable abbrev isB : Code := bodyC Try.f3
noncomputable abbrev isR : Code := codeAt [true, true, true, true, true, true, true, false, true, false, false] isB
def tsS : AExit → List Nat := fun x => match x with
  | .ret => [6]
  | _ => [12, 14, 15]
def i0 (hs : List PackR) (r : Env) : Env × AHeap := ((12, .nils) :: (14, .nils) :: r, ⟨1, [(0, pRow hs .ro)]⟩)
def i1 (hs : List PackR) (S : List Int) (r : Env) : Env × AHeap := ((12, .sl 1 0 1 0 S.length none) :: (14, .sl 2 0 1 0 S.length none) :: r, ⟨3, [(0, pRow hs .ro), (1, sRow S), (2, sRow S)]⟩)
def i15 (i : Int) : Env := [(15, .int .i64 i)]
end Go.Proofs.Ytjacnjecggedhaa
namespace Go.Proofs.Ytjacnjecggedhaa
set_option linter.unusedVariables false
set_option linter.unusedSimpArgs false
open Go.RowKit Ev
set_option maxRecDepth 100000 in
theorem w_is_nil (first sp : Int) (K : Out → Prop) : (callC (TF.ctx Try.prog) 400 3 [.nils, .int .u8 first, .int .u16 sp] ⟨0, []⟩ (fun o _ => K o)
) =  (obl (inI64 sp) (same (decide (sp < (1 : Int))) (K (Out.ret (AVal.bool true))))) := by kernel_rfl
set_option maxRecDepth 100000 in
theorem w_is_emp (first sp : Int) (K : Out → Prop) : (callC (TF.ctx Try.prog) 400 3 [.sl 0 0 5 0 0 none, .int .u8 first, .int .u16 sp] ⟨1, [(0, pRow [] .ro)]⟩ (fun o _ => K o)
) =  (obl (inI64 sp) (same (decide (sp < (1 : Int))) (K (Out.ret (AVal.bool true))))) := by kernel_rfl
set_option maxRecDepth 100000 in
theorem w_is (hs : List PackR) (first sp : Int) (It : Env → AHeap → Prop) (K : Out → Prop) : (wpN ((TIs hs).ctx Try.prog) 7 400 3 1 isB (env0 [.sl 0 0 5 0 hs.length none, .int .u8 first, .int .u16 sp] 0) ⟨1, [(0, pRow hs .ro)]⟩ (fun E H => canonK 1 [12, 14] E H It) (endA ((TIs hs).ctx Try.prog).P Try.f3 (fun o _ => K o))
) =  ((ABlk.row 51 packRow hs RowMd.ro = ABlk.row 51 packRow hs RowMd.ro ∧ hs.length = hs.length) ∧ ((∀ (x : PackR), List.Mem x hs → PackOk x) ∧ (hs.length = 0 → False)) ∧ ∀ (cs : List CutR), cs = ofN hs
 (min hs.length 30) → branch (decide ((↑cs.length : Int) = (0 : Int))) (obl (inI64 sp) (false = false ∧ ∃ (cs_1 : List CutR), ((ABlk.row 48 cutRow cs RowMd.plain = ABlk.row 48 cutRow cs_1 RowMd.plain ∧
 ABlk.row 4 boolRow (dsN cs.length) RowMd.plain = ABlk.row 4 boolRow (dsN cs_1.length) RowMd.plain) ∧ twice (cs.length = cs_1.length) ∧ cs_1.length.le 30 ∧ ((7300 : Int) - sp).NonNeg ∧ ∀ (j : Nat), CSm
 (cs_1.getD j noCut)) ∧ ∀ (l : List NextR) (L : List UInt8) (S : List Int), sp < (1 : Int) ∧ l = [] ∧ L = [] ∧ S = [] ∨ (1 : Int) ≤ sp ∧ FillRun sp F0 cs_1 (dsN cs_1.length) (0 : Int) [] l L S → ∀ (cs'
 : List CutR) (ds' : List BoolR), (S = [] → branch (decide (L = [])) (K (Out.ret (AVal.bool true))) (K (Out.ret (AVal.bool false)))) ∧ ((S = [] → False) → branch (decide (L = [])) (branch (decide
 ((↑S.length : Int) = (0 : Int))) (K (Out.ret (AVal.bool true))) (K (Out.ret (AVal.bool false)))) (K (Out.ret (AVal.bool false)))))) (obl (inI64 first) (obl (decide ((0 : Int) ≤ first ∧ (0 : Int) <
 (↑cs.length : Int))) (∃ (cs_1 : List CutR) (ds : List BoolR) (k : Nat), ((ABlk.row 48 cutRow cs RowMd.plain = ABlk.row 48 cutRow cs_1 RowMd.plain ∧ ABlk.row 4 boolRow (dsN cs.length) RowMd.plain =
 ABlk.row 4 boolRow ds RowMd.plain) ∧ twice (cs.length = cs_1.length) ∧ first % (↑cs.length : Int) = (↑k : Int) ∧ k.succ.le cs_1.length ∧ cs_1.length.le 30) ∧ ∀ (os : List RefR), os = ordN cs_1 k
 cs_1.length → obl (inI64 sp) (obl (decide ((0 : Int) ≤ sp ∧ (0 : Int) < (7300 : Int))) (∃ (os_1 : List RefR), (ABlk.row 80 refRow os RowMd.plain = ABlk.row 80 refRow os_1 RowMd.plain ∧ os.length =
 os_1.length ∧ os_1.length.le 30 ∧ ((7300 : Int) - (sp % (7300 : Int))).NonNeg ∧ ∀ (j : Nat), CSm (refC (os_1.getD j noRef))) ∧ ∀ (L : List UInt8) (S : List Int), (sp % (7300 : Int)) < (1 : Int) ∧ L =
 [] ∧ S = [] ∨ (1 : Int) ≤ (sp % (7300 : Int)) ∧ RefRun (sp % (7300 : Int)) F0 os_1 [] L S → (S = [] → obl (inI64 sp) (obl (decide ((0 : Int) ≤ sp ∧ (0 : Int) < (7300 : Int))) (false = false ∧ ∃ (cs_2
 : List CutR), ((ABlk.row 48 cutRow cs RowMd.plain = ABlk.row 48 cutRow cs_2 RowMd.plain ∧ ABlk.row 4 boolRow (dsN cs.length) RowMd.plain = ABlk.row 4 boolRow (dsN cs_2.length) RowMd.plain) ∧ twice
 (cs.length = cs_2.length) ∧ cs_2.length.le 30 ∧ ((7300 : Int) - (sp % (7300 : Int))).NonNeg ∧ ∀ (j : Nat), CSm (cs_2.getD j noCut)) ∧ ∀ (l : List NextR) (L_1 : List UInt8) (S : List Int), (sp % (7300
 : Int)) < (1 : Int) ∧ l = [] ∧ L_1 = [] ∧ S = [] ∨ (1 : Int) ≤ (sp % (7300 : Int)) ∧ FillRun (sp % (7300 : Int)) F0 cs_2 (dsN cs_2.length) ((first % (↑cs.length : Int) % (18446744073709551616 : Int) +
 (1 : Int)) % (18446744073709551616 : Int)) [] l L_1 S → ∀ (cs' : List CutR) (ds' : List BoolR), (S = [] → branch (!decide (L = L_1)) (K (Out.ret (AVal.bool false))) (It [(12, AVal.nils), (14,
 AVal.nils)] (AHeap.mk 1 [(0, ABlk.row 51 packRow hs RowMd.ro)]))) ∧ ((S = [] → False) → branch (!decide (L = L_1)) (K (Out.ret (AVal.bool false))) (branch (!decide ((0 : Int) = (↑S.length : Int))) (K
 (Out.ret (AVal.bool false))) (It [(12, AVal.nils), (14, AVal.sl 1 0 1 0 S.length none)] (AHeap.mk 2 [(0, ABlk.row 51 packRow hs RowMd.ro), (1, ABlk.row 33 (intRow IntKind.u64) S RowMd.plain)]))))))) ∧
 ((S = [] → False) → obl (inI64 sp) (obl (decide ((0 : Int) ≤ sp ∧ (0 : Int) < (7300 : Int))) (false = false ∧ ∃ (cs_2 : List CutR), ((ABlk.row 48 cutRow cs RowMd.plain = ABlk.row 48 cutRow cs_2
 RowMd.plain ∧ ABlk.row 4 boolRow (dsN cs.length) RowMd.plain = ABlk.row 4 boolRow (dsN cs_2.length) RowMd.plain) ∧ twice (cs.length = cs_2.length) ∧ cs_2.length.le 30 ∧ ((7300 : Int) - (sp % (7300 :
 Int))).NonNeg ∧ ∀ (j : Nat), CSm (cs_2.getD j noCut)) ∧ ∀ (l : List NextR) (L_1 : List UInt8) (S_1 : List Int), (sp % (7300 : Int)) < (1 : Int) ∧ l = [] ∧ L_1 = [] ∧ S_1 = [] ∨ (1 : Int) ≤ (sp % (7300
 : Int)) ∧ FillRun (sp % (7300 : Int)) F0 cs_2 (dsN cs_2.length) ((first % (↑cs.length : Int) % (18446744073709551616 : Int) + (1 : Int)) % (18446744073709551616 : Int)) [] l L_1 S_1 → ∀ (cs' : List
 CutR) (ds' : List BoolR), (S_1 = [] → branch (!decide (L = L_1)) (K (Out.ret (AVal.bool false))) (branch (!decide ((↑S.length : Int) = (0 : Int))) (K (Out.ret (AVal.bool false))) (It [(12, AVal.sl 1 0
 1 0 S.length none), (14, AVal.nils)] (AHeap.mk 2 [(0, ABlk.row 51 packRow hs RowMd.ro), (1, ABlk.row 33 (intRow IntKind.u64) S RowMd.plain)])))) ∧ ((S_1 = [] → False) → branch (!decide (L = L_1)) (K
 (Out.ret (AVal.bool false))) (branch (!decide ((↑S.length : Int) = (↑S_1.length : Int))) (K (Out.ret (AVal.bool false))) (It [(12, AVal.sl 1 0 1 0 S.length none), (14, AVal.sl 2 0 1 0 S_1.length
 none)] (AHeap.mk 3 [(0, ABlk.row 51 packRow hs RowMd.ro), (1, ABlk.row 33 (intRow IntKind.u64) S RowMd.plain), (2, ABlk.row 33 (intRow IntKind.u64) S_1 RowMd.plain)]))))))))))))) := by kernel_rfl
set_option maxRecDepth 100000 in
theorem w_is_set0 (hs : List PackR) (Q : AExit → Env → AHeap → Prop) : (wpC ((TIs hs).ctx Try.prog) 400 3 1 (seqL (seqL (tailN 7 isB))) (i0 hs []).1 (i0 hs []).2 (canQ 1 tsS Q)
) =  (Q AExit.normal [(12, AVal.nils), (14, AVal.nils), (15, AVal.int IntKind.i64 (0 : Int))] (AHeap.mk 1 [(0, ABlk.row 51 packRow hs RowMd.ro)])) := by kernel_rfl
set_option maxRecDepth 100000 in
theorem w_is_set1 (hs : List PackR) (S : List Int) (Q : AExit → Env → AHeap → Prop) : (wpC ((TIs hs).ctx Try.prog) 400 3 1 (seqL (seqL (tailN 7 isB))) (i1 hs S []).1 (i1 hs S []).2 (canQ 1 tsS Q)
) =  (Q AExit.normal [(12, AVal.sl 1 0 1 0 S.length none), (14, AVal.sl 2 0 1 0 S.length none), (15, AVal.int IntKind.i64 (0 : Int))] (AHeap.mk 3 [(0, ABlk.row 51 packRow hs RowMd.ro), (1, ABlk.row 33
 (intRow IntKind.u64) S RowMd.plain), (2, ABlk.row 33 (intRow IntKind.u64) S RowMd.plain)])) := by kernel_rfl
set_option maxRecDepth 100000 in
theorem w_is_r0 (hs : List PackR) (Q : AExit → Env → AHeap → Prop) : (wpC ((TIs hs).ctx Try.prog) 400 3 1 isR (i0 hs (i15 0)).1 (i0 hs (i15 0)).2 (canQ 1 tsS Q)
) =  (Q (AExit.exit 0) [(12, AVal.nils), (14, AVal.nils), (15, AVal.int IntKind.i64 (0 : Int))] (AHeap.mk 1 [(0, ABlk.row 51 packRow hs RowMd.ro)])) := by kernel_rfl
set_option maxRecDepth 100000 in
theorem w_is_r1 (hs : List PackR) (S : List Int) (i : Nat) (Q : AExit → Env → AHeap → Prop) : (wpC ((TIs hs).ctx Try.prog) 400 3 1 isR (i1 hs S (i15 i)).1 (i1 hs S (i15 i)).2 (canQ 1 tsS Q)
) =  (branch (decide ((↑i : Int) < (↑S.length : Int))) (obl (decide ((0 : Int) ≤ (↑i : Int) ∧ (↑i : Int) < (↑S.length : Int))) (obl (decide (0 + (↑i : Int).toNat < S.length)) (obl (decide ((0 : Int) ≤ (↑i
 : Int) ∧ (↑i : Int) < (↑S.length : Int))) (obl (decide (0 + (↑i : Int).toNat < S.length)) (branch (!decide (S.getD (0 + (↑i : Int).toNat) (0 : Int) = S.getD (0 + (↑i : Int).toNat) (0 : Int))) (Q
 AExit.ret [(6, AVal.bool false)] (AHeap.mk 1 [(0, ABlk.row 51 packRow hs RowMd.ro)])) (obl (inI64 ((↑i : Int) + (1 : Int))) (Q AExit.normal [(12, AVal.sl 1 0 1 0 S.length none), (14, AVal.sl 2 0 1 0
 S.length none), (15, AVal.int IntKind.i64 ((↑i : Int) + (1 : Int)))] (AHeap.mk 3 [(0, ABlk.row 51 packRow hs RowMd.ro), (1, ABlk.row 33 (intRow IntKind.u64) S RowMd.plain), (2, ABlk.row 33 (intRow
 IntKind.u64) S RowMd.plain)])))))))) (Q (AExit.exit 0) [(12, AVal.sl 1 0 1 0 S.length none), (14, AVal.sl 2 0 1 0 S.length none), (15, AVal.int IntKind.i64 (↑i : Int))] (AHeap.mk 3 [(0, ABlk.row 51
 packRow hs RowMd.ro), (1, ABlk.row 33 (intRow IntKind.u64) S RowMd.plain), (2, ABlk.row 33 (intRow IntKind.u64) S RowMd.plain)]))) := by kernel_rfl
set_option maxRecDepth 100000 in
theorem w_is_end0 (hs : List PackR) (K : Out → Prop) : (wpC ((TIs hs).ctx Try.prog) 400 3 1 (seqR (tailN 7 isB)) (i0 hs (i15 0)).1 (i0 hs (i15 0)).2 (endA ((TIs hs).ctx Try.prog).P Try.f3 (fun o _ => K o))
) =  (K (Out.ret (AVal.bool true))) := by kernel_rfl
set_option maxRecDepth 100000 in
theorem w_is_end1 (hs : List PackR) (S : List Int) (i : Int) (K : Out → Prop) : (wpC ((TIs hs).ctx Try.prog) 400 3 1 (seqR (tailN 7 isB)) (i1 hs S (i15 i)).1 (i1 hs S (i15 i)).2 (endA ((TIs hs).ctx Try.prog).P Try.f3 (fun o _ => K o))
) =  (K (Out.ret (AVal.bool true))) := by kernel_rfl
end Go.Proofs.Ytjacnjecggedhaa
namespace Go.Proofs.Ytjacnjecggedhaa
set_option linter.unusedVariables false
set_option linter.unusedSimpArgs false
open Go.RowKit Ev
def errP (p : PieceR) : Int := gErr p.st p.en p.id p.total p.typ p.k p.lb p.data p.sum
def encP (p : PieceR) : List UInt8 := gEnc p.st p.en p.id p.total p.typ p.k p.lb p.data p.sum
theorem u8_nat {n : Int} (h0 : 0 ≤ n) (h1 : n < 256) : ((UInt8.ofNat n.toNat).toNat : Int) = n := by
  rw [UInt8.toNat_ofNat']; omega
theorem by8_zero (x : UInt8) (r : List UInt8) : by8 (x :: r) 0 = (x.toNat : Int) := rfl
theorem w16_zero (x y : UInt8) (r : List UInt8) : w16 (x :: y :: r) 0 = (x.toNat : Int) * 256 + (y.toNat : Int) := rfl
theorem w16_succ (x : UInt8) (r : List UInt8) (i : Nat) : w16 (x :: r) (i + 1) = w16 r i := rfl
theorem w16_two {n : Int} (h0 : 0 ≤ n) (h1 : n < 65536) (r : List UInt8) : w16 (UInt8.ofNat (n / 256 % 256).toNat :: UInt8.ofNat (n % 256).toNat :: r) 0 = n := by
  rw [w16_zero, u8_nat (by omega) (by omega), u8_nat (by omega) (by omega)]; omega
theorem parts_of {st en : Bool} {id total typ k : Int} {lb data sum : List UInt8} (hm : gMay st en id total typ k lb sum = true) (q : Int) (hq : st = true → q = k) :
    rOk st en q (gBody st en id total typ lb data sum) = true ∧ dPiece st en q (gBody st en id total typ lb data sum) = ⟨st, en, id, total, typ, k, lb, data, sum⟩ := by
  obtain ⟨z, hz⟩ : ∃ z : Nat, lSize k = (z : Int) := ⟨(lSize k).toNat, by have := lSize_nn k; omega⟩
  have hzn : (lSize k).toNat = z := by omega
  unfold gMay at hm
  simp only [Bool.and_eq_true, decide_eq_true_eq] at hm
  obtain ⟨⟨i0, i1, t0, t1, y0, y1⟩, hm⟩ := hm
  cases st <;> cases en
  · simp only [decide_eq_true_eq] at hm
    obtain ⟨rfl, rfl, rfl, rfl, rfl⟩ := hm
    have e : gBody false false id 0 0 [] data [] = UInt8.ofNat (id % 256).toNat :: data := by simp [gBody]
    rw [e]
    refine ⟨by simp [rOk, rC, rB, rA], ?_⟩
    unfold dPiece
    simp only [rId, rTotal, rTyp, rK, rLb, rData, rSum, rC, rB, rA, Bool.and_false, Bool.false_and, Bool.false_eq_true, if_false, Bool.not_false, Nat.add_zero, by8_zero]
    rw [u8_nat (by omega) (by omega), show id % 256 = id by omega]
    rfl
  · simp only [decide_eq_true_eq] at hm
    obtain ⟨rfl, rfl, rfl, rfl, hs⟩ := hm
    have e : gBody false true id 0 0 [] data sum = UInt8.ofNat (id % 256).toNat :: (data ++ sum) := by simp [gBody]
    rw [e]
    refine ⟨by simp [rOk, rC, rB, rA]; omega, ?_⟩
    unfold dPiece
    simp only [rId, rTotal, rTyp, rK, rLb, rData, rSum, rC, rB, rA, Bool.and_true, Bool.false_and, Bool.false_eq_true, if_false, if_true, Bool.not_false, Nat.add_zero, by8_zero, List.length_cons, List.length_append, hs, List.drop_succ_cons, List.drop_zero]
    rw [u8_nat (by omega) (by omega), show id % 256 = id by omega, show data.length + 4 + 1 - 5 = data.length by omega, show data.length + 4 + 1 - 4 = data.length + 1 by omega, List.drop_succ_cons, List.take_left, List.drop_left]
  · simp only [Bool.and_eq_true, decide_eq_true_eq, lOk] at hm
    obtain ⟨⟨k0, k1, hl⟩, rfl⟩ := hm
    have := hq rfl
    subst this
    have hlz : lb.length = z := by omega
    have e : gBody true false id total typ lb data [] = UInt8.ofNat (id % 256).toNat :: UInt8.ofNat (total / 256 % 256).toNat :: UInt8.ofNat (total % 256).toNat :: UInt8.ofNat (typ / 256 % 256).toNat :: UInt8.ofNat (typ % 256).toNat :: (lb ++ data) := by simp [gBody, two]
    rw [e]
    refine ⟨by simp [rOk, rC, rB, rA, hzn]; omega, ?_⟩
    unfold dPiece
    simp only [rId, rTotal, rTyp, rK, rLb, rData, rSum, rC, rB, rA, Bool.and_false, Bool.and_true, Bool.true_and, Bool.false_eq_true, if_false, if_true, Bool.not_false, Bool.not_true, by8_zero, hzn]
    rw [u8_nat (by omega) (by omega), show id % 256 = id by omega, w16_succ, w16_two t0 t1, show 1 + 2 = 2 + 1 by rfl, w16_succ, w16_succ, w16_succ, w16_two y0 y1, show 2 + 1 + 2 = 4 + 1 by rfl, show 2 + 1 + (2 + z) = z + 5 by omega]
    simp only [List.drop_succ_cons, List.drop_zero]
    rw [← hlz, List.take_left, List.drop_left]
  · simp only [Bool.and_eq_true, decide_eq_true_eq, lOk] at hm
    obtain ⟨⟨⟨rfl, rfl⟩, k0, k1, hl⟩, rfl⟩ := hm
    have := hq rfl
    subst this
    have hlz : lb.length = z := by omega
    have e : gBody true true 0 0 typ lb data [] = UInt8.ofNat (typ / 256 % 256).toNat :: UInt8.ofNat (typ % 256).toNat :: (lb ++ data) := by simp [gBody, two]
    rw [e]
    refine ⟨by simp [rOk, rC, rB, rA, hzn]; omega, ?_⟩
    unfold dPiece
    simp only [rId, rTotal, rTyp, rK, rLb, rData, rSum, rC, rB, rA, Bool.and_false, Bool.and_true, Bool.true_and, Bool.false_eq_true, if_false, if_true, Bool.not_false, Bool.not_true, hzn, Nat.zero_add, Nat.add_zero]
    rw [w16_two y0 y1, show 2 + z = z + 2 by omega]
    simp only [List.drop_succ_cons, List.drop_zero]
    rw [← hlz, List.take_left, List.drop_left]
theorem dec_enc {p : PieceR} (h : errP p = 0) (rest : List UInt8) : dec (encP p ++ rest) = ⟨p, (encP p).length, 0⟩ := by
  obtain ⟨st, en, id, total, typ, k, lb, data, sum⟩ := p
  unfold errP at h
  simp only at h
  obtain ⟨hm, hb, _⟩ := gErr_len h
  have hk := gMay_k hm
  have ee : encP ⟨st, en, id, total, typ, k, lb, data, sum⟩ = two (gHead st en k (gBody st en id total typ lb data sum).length) ++ gBody st en id total typ lb data sum := by
    unfold encP gEnc; simp only; rw [if_pos h]
  have hh : 4096 ≤ gHead st en k (gBody st en id total typ lb data sum).length ∧ gHead st en k (gBody st en id total typ lb data sum).length < 65536 := by
    unfold gHead; cases st <;> cases en <;> simp only [if_true, Bool.false_eq_true, if_false] <;> omega
  have parts := fun q hq => parts_of (data := data) hm q hq
  have e0 : ((encP ⟨st, en, id, total, typ, k, lb, data, sum⟩).length : Int) = 2 + ((gBody st en id total typ lb data sum).length : Int) := by
    rw [ee, List.length_append, show (two (gHead st en k (gBody st en id total typ lb data sum).length)).length = 2 from rfl]; omega
  rw [e0, ee]
  generalize hB : gBody st en id total typ lb data sum = B at *
  generalize hH : gHead st en k B.length = G at *
  have es : two G ++ B ++ rest = UInt8.ofNat (G / 256 % 256).toNat :: UInt8.ofNat (G % 256).toNat :: (B ++ rest) := by simp [two]
  rw [es]
  generalize hs : UInt8.ofNat (G / 256 % 256).toNat :: UInt8.ofNat (G % 256).toNat :: (B ++ rest) = s
  have w : w16 s 0 = G := by rw [← hs]; exact w16_two (by omega) hh.2 _
  have b : by8 s 0 = G / 256 := by rw [← hs, by8_zero, u8_nat (by omega) (by omega)]; omega
  have hl : s.length = 2 + (B.length + rest.length) := by rw [← hs]; simp only [List.length_cons, List.length_append]; omega
  have dl : dLen s = B.length := by
    unfold dLen
    rw [w, ← hH]
    unfold gHead
    cases st <;> cases en <;> simp only [if_true, Bool.false_eq_true, if_false] <;> omega
  have ds : dSt s = st := by
    unfold dSt
    rw [b, ← hH]
    unfold gHead
    cases st <;> cases en <;> simp only [if_true, Bool.false_eq_true, if_false, decide_eq_true_eq, decide_eq_false_iff_not] <;> omega
  have de : dEn s = en := by
    unfold dEn
    rw [b, ← hH]
    unfold gHead
    cases st <;> cases en <;> simp only [if_true, Bool.false_eq_true, if_false, decide_eq_true_eq, decide_eq_false_iff_not] <;> omega
  have dk : dKind s = if st then k else 3 := by
    unfold dKind
    rw [w, ← hH]
    unfold gHead
    cases st <;> cases en <;> simp only [if_true, Bool.false_eq_true, if_false] <;> omega
  have db : dBody s = B := by
    unfold dBody
    rw [dl, ← hs]
    simp only [List.drop_succ_cons, List.drop_zero, List.take_left]
  obtain ⟨p1, p2⟩ := parts (dKind s) (fun h => by rw [dk, h]; rfl)
  have hne : s ≠ [] := by rw [← hs]; simp
  rw [dec_good, ds, de, db, dl, p2]
  · rintro (h1 | h1)
    · exact hne h1
    · omega
  · rintro (h1 | h1 | h1 | h1)
    · omega
    · omega
    · rw [ds, dk] at h1
      obtain ⟨h1, h2⟩ := h1
      rw [h1] at h2
      exact h2 rfl
    · rw [ds, de, db, p1] at h1; cases h1
end Go.Proofs.Ytjacnjecggedhaa
namespace Go.Proofs.Ytjacnjecggedhaa
set_option linter.unusedVariables false
set_option linter.unusedSimpArgs false
open Go.RowKit Ev
def pieceOf (R : NextR) : PieceR := ⟨R.st, R.en, R.id, R.total, R.typ, R.k, R.lb, R.data, R.sum⟩
structure Byt (sp : Int) (L : List UInt8) (l : List NextR) (L' : List UInt8) : Prop where
  eq : L' = L ++ (l.map pieceOf).flatMap encP
  ok : ∀ p ∈ l.map pieceOf, errP p = 0
  len : (L.length : Int) ≤ sp → (L'.length : Int) ≤ sp
theorem Byt.nil (sp : Int) {L L' : List UInt8} (h : L' = L) : Byt sp L [] L' := ⟨by rw [h]; simp, by simp, by rw [h]; exact id⟩
theorem Byt.cons {sp : Int} {F : FSt} {c : CutR} (hok : OkR sp F (stepR sp F c)) {l : List NextR} {L' : List UInt8} (h : Byt sp (stepF F c (stepR sp F c)).L l L') : Byt sp F.L (stepR sp F c :: l) L' := by
  obtain ⟨h1, h2, h3⟩ := h
  refine ⟨?_, ?_, fun _ => h3 ?_⟩
  · rw [h1]
    show (F.L ++ encR (stepR sp F c)) ++ _ = F.L ++ (encP (pieceOf (stepR sp F c)) ++ _)
    rw [List.append_assoc]; rfl
  · intro p hp
    rcases List.mem_cons.1 hp with rfl | hp
    · exact hok.enc
    · exact h2 p hp
  · have := hok.len
    show ((F.L ++ encR (stepR sp F c)).length : Int) ≤ sp
    rw [List.length_append]; omega
theorem Byt.append {sp : Int} {L L1 L2 : List UInt8} {l1 l2 : List NextR} (h1 : Byt sp L l1 L1) (h2 : Byt sp L1 l2 L2) : Byt sp L (l1 ++ l2) L2 := by
  refine ⟨?_, ?_, fun h => h2.len (h1.len h)⟩
  · rw [h2.eq, h1.eq, List.map_append, List.flatMap_append, List.append_assoc]
  · intro p hp
    rw [List.map_append] at hp
    rcases List.mem_append.1 hp with hp | hp
    · exact h1.ok p hp
    · exact h2.ok p hp
theorem cut_small {hs : List PackR} (hp : pOk hs) (n : Nat) (hn : n ≤ hs.length) : ∀ j, CSm ((ofN hs n).getD j noCut) ∧ ((ofN hs n).getD j noCut).data.length ≤ 5300 := by
  intro j
  unfold ofN
  by_cases hj : j < n
  · rw [List.getD_eq_getElem?_getD, List.getElem?_map, List.getElem?_range hj]
    have hx := getD_ok hp (i := j) (by omega)
    have hd := (ofD_length hx).2
    have hl : (cutOf j (hs.getD j noPack)).lb.length ≤ 20 := by
      show (List.getD [[97, 98, 99], [97, 98, 99, 100, 101, 102], [120, 121, 122]] _ []).length ≤ 20
      obtain ⟨q, hq⟩ : ∃ q, ((hs.getD j noPack).lab % 3).toNat = q := ⟨_, rfl⟩
      rw [hq]
      match q with
      | 0 => decide
      | 1 => decide
      | 2 => decide
      | q + 3 => simp
    exact ⟨⟨hd, hl⟩, hd⟩
  · rw [List.getD_eq_getElem?_getD, List.getElem?_eq_none (by simp; omega)]
    exact ⟨⟨by simp [noCut], by simp [noCut]⟩, by simp [noCut]⟩
end Go.Proofs.Ytjacnjecggedhaa
namespace Go.Proofs.Ytjacnjecggedhaa
set_option linter.unusedVariables false
set_option linter.unusedSimpArgs false
open Go.RowKit Ev
noncomputable abbrev isQ (hs : List PackR) : AExit → Env → AHeap → Prop := endA ((TIs hs).ctx Try.prog).P Try.f3 (fun o _ => o = .ret (.bool true))
abbrev IGd (hs : List PackR) (c : Code) (Q : AExit → Env → AHeap → Prop) (E : Env) (H : AHeap) : Prop := Gd ((TIs hs).ctx Try.prog) 3 ⟨1, [(0, pRow hs .ro)]⟩ c Q E H
theorem isT_eq : tailN 7 isB = .seq (.seq (seqL (seqL (tailN 7 isB))) (.block 0 (.loop isR))) (seqR (tailN 7 isB)) := by kernel_rfl
theorem iIn (hs : List PackR) (p : List Bool) : InFn ((TIs hs).ctx Try.prog) 3 (codeAt p isB) :=
  inFn_at (TIsok hs).ctx (fn := Try.f3) (by kernel_rfl) (by kernel_rfl) p
theorem ordN_len2 (cs : List CutR) (k : Nat) : ∀ j, k < j → (ordN cs k j).length ≤ j
  | 0, h => by omega
  | j + 1, h => by
    unfold ordN
    split
    · rename_i hj
      have := ordN_len cs k j
      omega
    · rename_i hj
      have := ordN_len2 cs k j (by omega)
      rw [List.length_append]
      simp only [List.length_cons, List.length_nil]
      omega
theorem ordN_small {cs : List CutR} (h : ∀ j, CSm (cs.getD j noCut)) (k n : Nat) : ∀ j, CSm (refC ((ordN cs k n).getD j noRef)) := by
  have ha : ∀ n, ∀ o, o ∈ ordN cs k n → CSm (refC o) := by
    intro n
    induction n with
    | zero => intro o ho; simp only [ordN, List.mem_singleton] at ho; subst ho; exact h k
    | succ n ih =>
      intro o ho
      unfold ordN at ho
      split at ho
      · exact ih o ho
      · rcases List.mem_append.1 ho with ho | ho
        · exact ih o ho
        · simp only [List.mem_singleton] at ho
          subst ho
          exact h n
  intro j
  by_cases hj : j < (ordN cs k n).length
  · rw [List.getD_eq_getElem?_getD, List.getElem?_eq_getElem hj]
    exact ha n _ (List.getElem_mem hj)
  · rw [List.getD_eq_getElem?_getD, List.getElem?_eq_none (by omega)]
    exact ⟨by simp [noRef, refC], by simp [noRef, refC]⟩
def isI (hs : List PackR) (S : List Int) (m : Nat) (E : Env) (H : AHeap) : Prop := ∃ i : Nat, i ≤ S.length ∧ m = S.length - i ∧ E = (i1 hs S (i15 (i : Int))).1 ∧ H = (i1 hs S (i15 (i : Int))).2
def isF (hs : List PackR) (S : List Int) : AExit → Env → AHeap → Prop := fun x E H => match x with
  | .exit 0 => ∃ i : Int, E = (i1 hs S (i15 i)).1 ∧ H = (i1 hs S (i15 i)).2
  | _ => False
set_option maxRecDepth 100000 in
theorem is_loop (hs : List PackR) (S : List Int) (hS : S.length ≤ 1000000) : ∀ m E H, isI hs S m E H → IGd hs (.loop isR) (isF hs S) E H := by
  refine Gd.loop (isI hs S) (fun m E H hI => ?_)
  obtain ⟨i, hi, hm, rfl, rfl⟩ := hI
  have idx : 0 + (i : Int).toNat = i := by omega
  refine Gd.walkC (TIsok hs).ctx 1 tsS (Nat.le_refl _) (iIn hs [true, true, true, true, true, true, true, false, true, false, false]) (Eq.mpr (w_is_r1 hs S i _) ?_)
  refine br_dec (fun hl => ?_) (fun hl => ⟨_, rfl, rfl⟩)
  refine obl_dec (by omega) (obl_dec (by omega) (obl_dec (by omega) (obl_dec (by omega) (br_mk (fun h => by simp at h) (fun _ => ?_)))))
  exact obl_int (by omega) ⟨S.length - (i + 1), by omega, i + 1, by omega, rfl, rfl, rfl⟩
def isM (hs : List PackR) (E : Env) (H : AHeap) : Prop := (E = (i0 hs []).1 ∧ H = (i0 hs []).2) ∨ ∃ S : List Int, S.length ≤ 1000000 ∧ E = (i1 hs S []).1 ∧ H = (i1 hs S []).2
set_option maxRecDepth 100000 in
theorem is_rest (hs : List PackR) : ∀ E H, isM hs E H → IGd hs (tailN 7 isB) (isQ hs) E H := by
  intro E H h
  rw [isT_eq]
  rcases h with ⟨rfl, rfl⟩ | ⟨S, hS, rfl, rfl⟩
  · refine Gd.seq (Gd.seq (Gd.walkC (TIsok hs).ctx 1 tsS (Nat.le_refl _) (iIn hs [true, true, true, true, true, true, true, false, false]) (Eq.mpr (w_is_set0 hs _) ?_)))
    refine Gd.block (Gd.loop (fun m E H => E = (i0 hs (i15 0)).1 ∧ H = (i0 hs (i15 0)).2) (fun m E H hI => ?_) 0 _ _ ⟨rfl, rfl⟩)
    obtain ⟨rfl, rfl⟩ := hI
    refine Gd.walkC (TIsok hs).ctx 1 tsS (Nat.le_refl _) (iIn hs [true, true, true, true, true, true, true, false, true, false, false]) (Eq.mpr (w_is_r0 hs _) ?_)
    exact Gd.walk (TIsok hs).ctx (Nat.le_refl _) (iIn hs [true, true, true, true, true, true, true, true]) (Eq.mpr (w_is_end0 hs _) rfl)
  · refine Gd.seq (Gd.seq (Gd.walkC (TIsok hs).ctx 1 tsS (Nat.le_refl _) (iIn hs [true, true, true, true, true, true, true, false, false]) (Eq.mpr (w_is_set1 hs S _) ?_)))
    refine Gd.block (Gd.mono (is_loop hs S hS S.length _ _ ⟨0, Nat.zero_le _, rfl, rfl, rfl⟩) (fun x E H h => ?_))
    unfold isF at h
    split at h
    · obtain ⟨i, rfl, rfl⟩ := h
      exact Gd.walk (TIsok hs).ctx (Nat.le_refl _) (iIn hs [true, true, true, true, true, true, true, true]) (Eq.mpr (w_is_end1 hs S i _) rfl)
    · exact h.elim
theorem run_S {sp : Int} {F : FSt} {cs : List CutR} {ds : List BoolR} {fv : Int} {S : List Int} {l : List NextR} {L : List UInt8} {S' : List Int} (h : FillRun sp F cs ds fv S l L S') : S'.length ≤ S.length + cntF ds := by
  induction h with
  | done _ => omega
  | stop _ _ => omega
  | pack hm _ _ ih =>
    obtain ⟨h1, h2⟩ := moreM_ok hm
    have := cntF_set _ _ h2 h1
    rw [List.length_append] at ih
    simp only [List.length_cons, List.length_nil] at ih
    omega
theorem sums_len {cs : List CutR} {k sp : Int} {l : List NextR} {L : List UInt8} {S : List Int} (hc : cs.length ≤ 30) (h : FillOut cs (dsN cs.length) k sp l L S) : S.length ≤ 1000000 := by
  rcases h with ⟨_, _, _, rfl⟩ | ⟨_, h⟩
  · exact Nat.zero_le _
  · have h1 := run_S h
    have h2 : cntF (dsN cs.length) ≤ (dsN cs.length).length := List.countP_le_length
    rw [dsN_length] at h2
    simp only [List.length_nil] at h1
    omega
set_option maxRecDepth 100000 in
theorem is_good (hs : List PackR) (hp : pOk hs) (hne : hs.length ≠ 0) (first sp : Int) (f0 : 0 ≤ first) (f1 : first ≤ 255) (s0 : 0 ≤ sp) (s1 : sp ≤ 65535) :
    IGd hs isB (isQ hs) (env0 [.sl 0 0 5 0 hs.length none, .int .u8 first, .int .u16 sp] 0) ⟨1, [(0, pRow hs .ro)]⟩ := by
  refine Gd.walkN (TIsok hs).ctx (base := 1) (Nat.le_refl _) (It := fun E H => canonK 1 [12, 14] E H (isM hs)) 7 400 _ _ _ (by kernel_rfl) (iIn hs []) (Eq.mpr (w_is hs first sp _ _) ?_) (fun E H h => ?_)
  rotate_left
  · obtain ⟨E', H', σ, hm, g2, g3, g4, g5, g6⟩ := canonK_ok h
    exact Gd.sub (base := 1) (Nat.le_refl _) g6 (is_rest hs _ _ hm) g2 g3 g4 g5
  refine ⟨⟨rfl, rfl⟩, ⟨hp, hne⟩, fun cs hcs => ?_⟩
  have hcl : cs.length = min hs.length 30 := by rw [hcs, ofN_length]
  have hc0 : 0 < cs.length := by omega
  have hc30 : cs.length ≤ 30 := by omega
  have hsm : ∀ j, CSm (cs.getD j noCut) := by rw [hcs]; exact fun j => (cut_small hp (min hs.length 30) (Nat.min_le_left _ _) j).1
  refine br_dec (fun h => absurd h (by omega)) (fun _ => ?_)
  refine obl_int (by omega) (obl_dec (by omega) ?_)
  have k0 : 0 ≤ first % (cs.length : Int) := Int.emod_nonneg _ (by omega)
  have k1 : first % (cs.length : Int) < (cs.length : Int) := Int.emod_lt_of_pos _ (by omega)
  obtain ⟨k, hk⟩ : ∃ k : Nat, first % (cs.length : Int) = (k : Int) := ⟨(first % (cs.length : Int)).toNat, by omega⟩
  have hkl : k < cs.length := by omega
  refine ⟨cs, dsN cs.length, k, ⟨⟨rfl, rfl⟩, (twice_iff _).2 rfl, hk, hkl, hc30⟩, fun os hos => ?_⟩
  have hos30 : os.length ≤ 30 := by rw [hos]; exact Nat.le_trans (ordN_len2 cs k cs.length hkl) hc30
  have e1 : (first % (cs.length : Int) % 18446744073709551616 + 1) % 18446744073709551616 = (k : Int) + 1 := by omega
  have hsp : sp % 7300 ≤ 7300 := by omega
  refine obl_int (by omega) (obl_dec (by omega) ⟨os, ⟨rfl, rfl, hos30, hsp, by rw [hos]; exact ordN_small hsm k cs.length⟩, fun L S hL => ⟨fun hS => ?_, fun hS => ?_⟩⟩)
  · refine obl_int (by omega) (obl_dec (by omega) ⟨rfl, cs, ⟨⟨rfl, rfl⟩, (twice_iff _).2 rfl, hc30, hsp, hsm⟩, fun l L1 S1 hF cs' ds' => ?_⟩)
    have hF' : FillOut cs (dsN cs.length) ((k : Int) + 1) (sp % 7300) l L1 S1 := by rw [← e1]; exact hF
    obtain ⟨rfl, rfl⟩ := same_answer hkl hF' (by rw [← hos]; exact hL)
    subst hS
    exact ⟨fun _ => br_mk (fun h => by simp at h) (fun _ => .inl ⟨rfl, rfl⟩), fun h => absurd rfl h⟩
  · refine obl_int (by omega) (obl_dec (by omega) ⟨rfl, cs, ⟨⟨rfl, rfl⟩, (twice_iff _).2 rfl, hc30, hsp, hsm⟩, fun l L1 S1 hF cs' ds' => ?_⟩)
    have hF' : FillOut cs (dsN cs.length) ((k : Int) + 1) (sp % 7300) l L1 S1 := by rw [← e1]; exact hF
    obtain ⟨rfl, rfl⟩ := same_answer hkl hF' (by rw [← hos]; exact hL)
    exact ⟨fun h => absurd h hS, fun _ => br_mk (fun h => by simp at h) (fun _ => br_mk (fun h => by simp at h) (fun _ => .inr ⟨S1, sums_len hc30 hF', rfl, rfl⟩))⟩
end Go.Proofs.Ytjacnjecggedhaa
