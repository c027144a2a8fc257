/-
  The loop of ExtBack: its law.
-/
import Derived.Test.YtddjaneacmdkmaaExtBR
namespace Go.Proofs.Ytddjaneacmdkmaa
set_option linter.unusedVariables false
set_option linter.unusedSimpArgs false
open Go.RowKit Ev

def mk9 (x : List UInt8) : List UInt8 := List.take (min ((([110] : List UInt8) ++ x).length : Int) 9).toNat (([110] : List UInt8) ++ x)
/-- A head brought to a length that may be. -/
def mkH (x : List UInt8) : List UInt8 := if ((mk9 x).length : Int) % 2 = 0 then (mk9 x).drop 1 else mk9 x

theorem mk9_length (x : List UInt8) : (mk9 x).length = min (1 + x.length) 9 := by
  unfold mk9
  rw [List.length_take]
  simp only [List.length_append, List.length_cons, List.length_nil]
  omega

structure SB where
  data : List UInt8
  n : Nat
  t : Int
  i : Int
  l : Option (List (List UInt8))

def stB (hs : List (List UInt8)) : SB → Env × AHeap
  | ⟨data, n, t, i, none⟩ => ([(1, .str data), (2, .sl 0 0 1 0 n none), (7, .int .i64 t), (8, .nils), (9, .int .i64 i)], ⟨2, [(0, .row 9 strRow hs .ro)]⟩)
  | ⟨data, n, t, i, some l⟩ => ([(1, .str data), (2, .sl 0 0 1 0 n none), (7, .int .i64 t), (8, .sl 1 0 1 0 l.length none), (9, .int .i64 i)], ⟨2, [(1, .row 9 strRow l .plain), (0, .row 9 strRow hs .ro)]⟩)

def rowsB (hs : List (List UInt8)) (H : AHeap) : Prop := H.get 0 = some (.row 9 strRow hs .ro)

def findB (E : Env) (H : AHeap) : Option SB := (getE E 1).bind fun v0 => (unS v0).bind fun data => (getE E 2).bind fun v1 => (unR 0 1 v1).bind fun n => (getE E 7).bind fun v2 => (unI .i64 v2).bind fun t => (getE E 8).bind fun v3 => (unNil v3).bind fun _ => (getE E 9).bind fun v4 => (unI .i64 v4).bind fun i => some ⟨data, n, t, i, none⟩

theorem findB_ok (hs : List (List UInt8)) (E : Env) (H : AHeap) (s : SB) (hr : rowsB hs H) (h : findB E H = some s) : subE 2 (stB hs s).1 E ∧ subH 2 (stB hs s).2.bs H := by
  unfold findB at h
  simp only [Option.bind_eq_some_iff] at h
  obtain ⟨v0, e0, data, e1, v1, e2, n, e3, v2, e4, t, e5, v3, e6, _, e7, v4, e8, i, e9, e10⟩ := h
  cases e10
  have f0 := unS_ok e1
  subst f0
  have f1 := unR_ok e3
  subst f1
  have f2 := unI_ok e5
  subst f2
  have f3 := unNil_ok e7
  subst f3
  have f4 := unI_ok e9
  subst f4
  exact ⟨subE_cons e0 rfl rfl (subE_cons e2 rfl rfl (subE_cons e4 rfl rfl (subE_cons e6 rfl rfl (subE_cons e8 rfl rfl subE_nil)))), subH_cons hr rfl rfl rfl subH_nil⟩

structure GoodB (hs : List (List UInt8)) (s : SB) : Prop where
  n : s.n = hs.length
  i0 : 0 ≤ s.i
  i1 : s.i ≤ (hs.length : Int)
  i2 : s.i ≤ 10
  l : match s.l with
    | none => s.i = 0
    | some l => l = (hs.take s.i.toNat).map mkH ∧ 0 < s.i
  small : ∀ x ∈ hs, x.length ≤ 140737488355327

def preB (hs : List (List UInt8)) (s : SB) : Bool := decide (s.n = hs.length) && (decide (s.i = 0) && ((match s.l with | none => true | some _ => false) && hs.all (fun x => decide (x.length ≤ 140737488355327))))

theorem preB_ok (hs : List (List UInt8)) (s : SB) (h : preB hs s = true) : GoodB hs s := by
  unfold preB at h
  simp only [Bool.and_eq_true, decide_eq_true_eq, List.all_eq_true] at h
  obtain ⟨h1, h2, h3, h4⟩ := h
  refine ⟨h1, by omega, by omega, by omega, ?_, h4⟩
  cases hl : s.l with
  | none => exact h2
  | some l => rw [hl] at h3; cases h3

def finB (hs : List (List UInt8)) : List (List UInt8) := (hs.take 10).map mkH

def TtB (hs : List (List UInt8)) : SB → (AExit → Env → AHeap → Prop) → Prop
  | ⟨data, n, t, i, l⟩, Q => (finB hs = [] → contSt (stB hs ⟨data, n, t, 0, none⟩) Q) ∧ (finB hs ≠ [] → contSt (stB hs ⟨data, n, t, ((finB hs).length : Int), some (finB hs)⟩) Q)

noncomputable def lcB (hs : List (List UInt8)) : LC := lcRow (rowsB hs) 1 2 findB (preB hs) (TtB hs)

theorem inI64_iffE {n : Int} : inI64 n = true ↔ -9223372036854775808 ≤ n ∧ n ≤ 9223372036854775807 := by simp [inI64]

theorem take_snoc (hs : List (List UInt8)) (i : Int) (h0 : 0 ≤ i) (h1 : i < (hs.length : Int)) : (hs.take (i + 1).toNat).map mkH = (hs.take i.toNat).map mkH ++ [mkH (hs.getD (0 + i.toNat) [])] := by
  have e : (i + 1).toNat = i.toNat + 1 := by omega
  have hlt : i.toNat < hs.length := by omega
  rw [e, List.take_add_one, List.getElem?_eq_getElem hlt, Option.toList_some, List.map_append, Nat.zero_add, List.getD_eq_getElem?_getD, List.getElem?_eq_getElem hlt]
  rfl

/-- A round, whatever it is left with. -/
theorem round_B {X : List UInt8} {i : Int} {n : Nat} {L : Nat} {c1 c2 : Bool} {A B C D : Prop} (hn : n = L) (g0 : 0 ≤ i) (small : i < (n : Int) → X.length ≤ 140737488355327)
    (hev : i < (n : Int) → i < 10 → mkH X = (mk9 X).drop 1 → c1 = true ∧ A) (hod : i < (n : Int) → i < 10 → mkH X = mk9 X → c2 = true ∧ B) (h1 : ¬ i < (n : Int) → C) (h2 : i < (n : Int) → ¬ i < 10 → D) (hL : i < (n : Int) → 0 + i.toNat < L) :
    branch (decide (i < (n : Int))) (branch (decide (i < 10)) (obl (decide (0 ≤ i ∧ i < (n : Int))) (obl (decide (0 + i.toNat < L)) (obl (decide (((1 + X.length : Nat) : Int) ≤ 9223372036854775807)) (obl (decide (0 ≤ min ((([110] : List UInt8) ++ X).length : Int) 9 ∧ min ((([110] : List UInt8) ++ X).length : Int) 9 ≤ ((([110] : List UInt8) ++ X).length : Int)))
      (branch (decide (((mk9 X).length : Int) % 2 = 0)) (obl (decide (0 ≤ (1 : Int) ∧ (1 : Int) ≤ ((mk9 X).length : Int))) (obl c1 (obl (inI64 (i + 1)) A))) (obl c2 (obl (inI64 (i + 1)) B))))))) D) C := by
  have hl9 := mk9_length X
  simp only [branch_iff, obl_iff, decide_eq_true_eq, decide_eq_false_iff_not, inI64_iffE]
  refine ⟨fun q1 => ⟨fun q2 => ?_, fun q2 => h2 q1 q2⟩, fun q1 => h1 q1⟩
  have sm := small q1
  refine ⟨⟨g0, q1⟩, hL q1, by omega, by simp only [List.length_append, List.length_cons, List.length_nil]; omega, fun q3 => ?_, fun q3 => ?_⟩
  · have e : mkH X = (mk9 X).drop 1 := by unfold mkH; rw [if_pos q3]
    obtain ⟨r1, r2⟩ := hev q1 q2 e
    exact ⟨by omega, r1, by omega, r2⟩
  · have e : mkH X = mk9 X := by unfold mkH; rw [if_neg q3]
    obtain ⟨r1, r2⟩ := hod q1 q2 e
    exact ⟨r1, by omega, r2⟩

theorem lcB_sound (hs : List (List UInt8)) : LcSound Try.prog TE.fns 5 0 (lcB hs) := by
  refine lcRow_sound TEok (fn := Try.f5) (n := 100) rfl (by kernel_rfl) (rowsB hs) (stB hs) (fun s => by obtain ⟨_, _, _, _, l⟩ := s; cases l <;> rfl) (findB_ok hs) (GoodB hs) (preB_ok hs) (fun s => (10 - s.i).toNat) [1, 2, 7, 8, 9] [1, 3, 0] 2 ?_
  rintro base ⟨data, n, t, i, l⟩ Q hb1 hg hb hT
  have hsig : sigOk base [(1, 3)] = true := by unfold sigOk; simp only [List.all_cons, List.all_nil, Bool.and_true]; exact Nat.ble_eq_true_of_le hb1
  obtain ⟨hn, g0, g1, g2, gl, gs⟩ := hg
  simp only at hn g0 g1 g2 gl
  subst hn
  have small : i < (hs.length : Int) → (hs.getD (0 + i.toNat) []).length ≤ 140737488355327 := by
    intro h
    rw [Nat.zero_add, List.getD_eq_getElem?_getD, List.getElem?_eq_getElem (by omega)]
    exact gs _ (List.getElem_mem _)
  -- what follows a round
  have next : ∀ (l' : List (List UInt8)) (σ : List (Nat × Nat)) (E : Env) (H : AHeap), i < (hs.length : Int) → i < 10 → l' = (hs.take (i + 1).toNat).map mkH → sigOk base σ = true →
      subER 2 σ (stB hs ⟨data, hs.length, t, i + 1, some l'⟩).1 E → subHR 2 σ (stB hs ⟨data, hs.length, t, i + 1, some l'⟩).2.bs H → sigInj σ (stB hs ⟨data, hs.length, t, i + 1, some l'⟩).2.bs = true →
      Round base 0 (stB hs) (GoodB hs) (fun s => (10 - s.i).toNat) (fun s' => TtB hs s' Q) ⟨data, hs.length, t, i, l⟩ Q .normal E H := by
    intro l' σ E H h1 h2 hl' hs1 hs2 hs3 hs4
    exact ⟨⟨data, hs.length, t, i + 1, some l'⟩, ⟨rfl, by show 0 ≤ i + 1; omega, by show i + 1 ≤ _; omega, by show i + 1 ≤ 10; omega, ⟨hl', by show 0 < i + 1; omega⟩, gs⟩, by show (10 - (i + 1)).toNat < (10 - i).toNat; omega, hT, .inr ⟨σ, hs1, hs4, hs2, hs3⟩⟩
  have fin10 : ¬ (i < (hs.length : Int) ∧ i < 10) → hs.take i.toNat = hs.take 10 := by
    intro h
    by_cases h1 : i < (hs.length : Int)
    · have : i = 10 := by omega
      rw [this]; rfl
    · rw [List.take_of_length_le (by omega), List.take_of_length_le (by omega)]
  cases l with
  | none =>
    simp only at gl
    subst gl
    show wpC _ _ _ _ _ _ _ _
    simp only [stB]
    rw [w_bk0 data hs hs.length t 0 base (Round base 0 (stB hs) (GoodB hs) (fun s => (10 - s.i).toNat) (fun s' => TtB hs s' Q) ⟨data, hs.length, t, 0, none⟩ Q)]
    have out : ¬ ((0 : Int) < (hs.length : Int)) → Round base 0 (stB hs) (GoodB hs) (fun s => (10 - s.i).toNat) (fun s' => TtB hs s' Q) ⟨data, hs.length, t, 0, none⟩ Q (.exit 0) (stB hs ⟨data, hs.length, t, 0, none⟩).1 (stB hs ⟨data, hs.length, t, 0, none⟩).2 := by
      intro h
      have hnil : finB hs = [] := by
        have : hs = [] := List.length_eq_zero_iff.1 (by omega)
        rw [this]; rfl
      refine ⟨_, (stB hs ⟨data, hs.length, t, 0, none⟩).2, hb, ?_, ?_, trivial, contSt_iff.1 (hT.1 hnil)⟩
      · repeat' (first | exact subE_nil | refine subE_cons rfl rfl rfl ?_)
      · repeat' (first | exact subH_nil | refine subH_cons rfl rfl rfl rfl ?_)
    have key : ∀ (x : List UInt8), mkH (hs.getD (0 + (0 : Int).toNat) []) = x → (0 : Int) < (hs.length : Int) → (0 : Int) < 10 → Round base 0 (stB hs) (GoodB hs) (fun s => (10 - s.i).toNat) (fun s' => TtB hs s' Q) ⟨data, hs.length, t, 0, none⟩ Q .normal
        [(1, .str data), (2, .sl 0 0 1 0 hs.length none), (7, .int .i64 t), (8, .sl 3 0 1 0 1 none), (9, .int .i64 (0 + 1))] ⟨2, [(3, .row 9 strRow [x] .plain), (0, .row 9 strRow hs .ro)]⟩ := by
      intro x hx h1 h2
      refine next [x] [(1, 3)] _ _ h1 h2 (by rw [take_snoc hs 0 (by omega) h1, hx]; rfl) hsig ?_ ?_ rfl
      · repeat' (first | exact subER_nil | refine subER_cons rfl rfl rfl ?_)
      · repeat' (first | exact subHR_nil | refine subHR_cons rfl rfl rfl rfl ?_)
    have := round_B (X := hs.getD (0 + (0 : Int).toNat) []) (i := 0) (n := hs.length) (L := hs.length) (c1 := true) (c2 := true) rfl (by decide) small (fun q1 q2 e => ⟨rfl, key _ e q1 q2⟩) (fun q1 q2 e => ⟨rfl, key _ e q1 q2⟩) (fun q => out q) (fun q1 q2 => out (absurd (by decide) q2)) (fun q => by omega)
    exact this
  | some l =>
    obtain ⟨rfl, hpos⟩ := gl
    show wpC _ _ _ _ _ _ _ _
    simp only [stB]
    rw [w_bk1 data hs ((hs.take i.toNat).map mkH) hs.length ((hs.take i.toNat).map mkH).length t i base (Round base 0 (stB hs) (GoodB hs) (fun s => (10 - s.i).toNat) (fun s' => TtB hs s' Q) ⟨data, hs.length, t, i, some ((hs.take i.toNat).map mkH)⟩ Q)]
    have out : ¬ (i < (hs.length : Int) ∧ i < 10) → Round base 0 (stB hs) (GoodB hs) (fun s => (10 - s.i).toNat) (fun s' => TtB hs s' Q) ⟨data, hs.length, t, i, some ((hs.take i.toNat).map mkH)⟩ Q (.exit 0) (stB hs ⟨data, hs.length, t, i, some ((hs.take i.toNat).map mkH)⟩).1 (stB hs ⟨data, hs.length, t, i, some ((hs.take i.toNat).map mkH)⟩).2 := by
      intro h
      have e := fin10 h
      have hf : finB hs = (hs.take i.toNat).map mkH := by unfold finB; rw [e]
      have hlen : ((hs.take i.toNat).map mkH).length = i.toNat := by rw [List.length_map, List.length_take]; omega
      have hne : finB hs ≠ [] := by
        intro h0
        rw [hf] at h0
        have := congrArg List.length h0
        rw [hlen] at this
        simp at this; omega
      have hi : ((finB hs).length : Int) = i := by rw [hf, hlen]; omega
      have hT2 := hT.2 hne
      rw [hi, hf] at hT2
      refine ⟨_, (stB hs ⟨data, hs.length, t, i, some ((hs.take i.toNat).map mkH)⟩).2, hb, ?_, ?_, trivial, contSt_iff.1 hT2⟩
      · repeat' (first | exact subE_nil | refine subE_cons rfl rfl rfl ?_)
      · repeat' (first | exact subH_nil | refine subH_cons rfl rfl rfl rfl ?_)
    have key : ∀ (x : List UInt8), mkH (hs.getD (0 + i.toNat) []) = x → i < (hs.length : Int) → i < 10 → Round base 0 (stB hs) (GoodB hs) (fun s => (10 - s.i).toNat) (fun s' => TtB hs s' Q) ⟨data, hs.length, t, i, some ((hs.take i.toNat).map mkH)⟩ Q .normal
        [(1, .str data), (2, .sl 0 0 1 0 hs.length none), (7, .int .i64 t), (8, .sl 3 0 1 0 ((hs.take i.toNat).map mkH ++ [x]).length none), (9, .int .i64 (i + 1))] ⟨2, [(3, .row 9 strRow ((hs.take i.toNat).map mkH ++ [x]) .plain), (0, .row 9 strRow hs .ro)]⟩ := by
      intro x hx h1 h2
      refine next ((hs.take i.toNat).map mkH ++ [x]) [(1, 3)] _ _ h1 h2 (by rw [take_snoc hs i (by omega) h1, hx]) hsig ?_ ?_ rfl
      · repeat' (first | exact subER_nil | refine subER_cons rfl rfl rfl ?_)
      · repeat' (first | exact subHR_nil | refine subHR_cons rfl rfl rfl rfl ?_)
    have app : ∀ (x : List UInt8), i < (hs.length : Int) → i < 10 → (true && decide (((hs.take i.toNat).map mkH).length = ((hs.take i.toNat).map mkH).length ∧ 1 = 1 ∧ 1 = 1 ∧ 0 < 1 ∧ ((hs.take i.toNat).map mkH ++ [x]).length ≤ 9223372036854775807 ∧ ((hs.take i.toNat).map mkH ++ [x]).length * 16 ≤ 140737488355328)) = true := by
      intro x h1 h2
      have hlen : ((hs.take i.toNat).map mkH).length ≤ 10 := by rw [List.length_map, List.length_take]; omega
      rw [Bool.true_and, decide_eq_true_eq]
      refine ⟨rfl, rfl, rfl, by decide, ?_, ?_⟩ <;> simp only [List.length_append, List.length_cons, List.length_nil] <;> omega
    have := round_B (X := hs.getD (0 + i.toNat) []) (i := i) (n := hs.length) (L := hs.length) rfl g0 small (fun q1 q2 e => ⟨app ((mk9 (hs.getD (0 + i.toNat) [])).drop 1) q1 q2, key ((mk9 (hs.getD (0 + i.toNat) [])).drop 1) e q1 q2⟩) (fun q1 q2 e => ⟨app (mk9 (hs.getD (0 + i.toNat) [])) q1 q2, key (mk9 (hs.getD (0 + i.toNat) [])) e q1 q2⟩) (fun q => out (fun h => q h.1)) (fun q1 q2 => out (fun h => q2 h.2)) (fun q => by omega)
    exact this

end Go.Proofs.Ytddjaneacmdkmaa
