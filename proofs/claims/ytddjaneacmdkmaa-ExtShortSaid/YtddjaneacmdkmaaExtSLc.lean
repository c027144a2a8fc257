/-
  The loop of ExtShort: its law.
-/
import Derived.Test.YtddjaneacmdkmaaExtBLc
namespace Go.Proofs.Ytddjaneacmdkmaa
set_option linter.unusedVariables false
set_option linter.unusedSimpArgs false
open Go.RowKit Ev

def hd2 (l : List (List UInt8)) : Nat := (l.map fun x => x.length + 1).sum

theorem mkH_len9 (x : List UInt8) : (mkH x).length ≤ 9 := by
  have h := mk9_length x
  unfold mkH
  split
  · rw [List.length_drop]; omega
  · omega

theorem hd2_le (hs : List (List UInt8)) : ∀ l : List (List UInt8), hd2 (l.map mkH) ≤ 10 * l.length
  | [] => by simp [hd2]
  | x :: l => by
    have h1 := hd2_le hs l
    have h2 := mkH_len9 x
    simp only [hd2, List.map_cons, List.sum_cons, List.length_cons] at h1 ⊢
    omega

theorem hd2_snoc (l : List (List UInt8)) (x : List UInt8) : hd2 (l ++ [x]) = hd2 l + (x.length + 1) := by
  simp [hd2]

structure SS where
  n : Nat
  a : Int
  t : Int
  i : Int
  l : Option (List (List UInt8))

def stS (hs : List (List UInt8)) : SS → Env × AHeap
  | ⟨n, a, t, i, none⟩ => ([(0, .sl 0 0 1 0 n none), (1, .int .u8 a), (5, .nils), (6, .int .i64 t), (7, .int .i64 i)], ⟨2, [(0, .row 9 strRow hs .ro)]⟩)
  | ⟨n, a, t, i, some l⟩ => ([(0, .sl 0 0 1 0 n none), (1, .int .u8 a), (5, .sl 1 0 1 0 l.length none), (6, .int .i64 t), (7, .int .i64 i)], ⟨2, [(1, .row 9 strRow l .plain), (0, .row 9 strRow hs .ro)]⟩)

def rowsS (hs : List (List UInt8)) (H : AHeap) : Prop := H.get 0 = some (.row 9 strRow hs .ro)

def findS (E : Env) (H : AHeap) : Option SS := (getE E 0).bind fun v0 => (unR 0 1 v0).bind fun n => (getE E 1).bind fun v1 => (unI .u8 v1).bind fun a => (getE E 5).bind fun v3 => (unNil v3).bind fun _ => (getE E 6).bind fun v2 => (unI .i64 v2).bind fun t => (getE E 7).bind fun v4 => (unI .i64 v4).bind fun i => some ⟨n, a, t, i, none⟩

theorem findS_ok (hs : List (List UInt8)) (E : Env) (H : AHeap) (s : SS) (hr : rowsS hs H) (h : findS E H = some s) : subE 2 (stS hs s).1 E ∧ subH 2 (stS hs s).2.bs H := by
  unfold findS at h
  simp only [Option.bind_eq_some_iff] at h
  obtain ⟨v0, e0, n, e1, v1, e2, a, e3, v3, e4, _, e5, v2, e6, t, e7, v4, e8, i, e9, e10⟩ := h
  cases e10
  have f0 := unR_ok e1
  subst f0
  have f1 := unI_ok e3
  subst f1
  have f2 := unNil_ok e5
  subst f2
  have f3 := unI_ok e7
  subst f3
  have f4 := unI_ok e9
  subst f4
  exact ⟨subE_cons e0 rfl rfl (subE_cons e2 rfl rfl (subE_cons e4 rfl rfl (subE_cons e6 rfl rfl (subE_cons e8 rfl rfl subE_nil)))), subH_cons hr rfl rfl rfl subH_nil⟩

structure GoodS (hs : List (List UInt8)) (s : SS) : Prop where
  n : s.n = hs.length
  i0 : 0 ≤ s.i
  i1 : s.i ≤ (hs.length : Int)
  i2 : s.i ≤ 10
  t : s.t = (hd2 ((hs.take s.i.toNat).map mkH) : Int)
  l : match s.l with
    | none => s.i = 0
    | some l => l = (hs.take s.i.toNat).map mkH ∧ 0 < s.i
  small : ∀ x ∈ hs, x.length ≤ 140737488355327

def preS (hs : List (List UInt8)) (s : SS) : Bool := decide (s.n = hs.length) && (decide (s.i = 0) && (decide (s.t = 0) && ((match s.l with | none => true | some _ => false) && hs.all (fun x => decide (x.length ≤ 140737488355327)))))

theorem preS_ok (hs : List (List UInt8)) (s : SS) (h : preS hs s = true) : GoodS hs s := by
  unfold preS at h
  simp only [Bool.and_eq_true, decide_eq_true_eq, List.all_eq_true] at h
  obtain ⟨h1, h2, ht, h3, h4⟩ := h
  refine ⟨h1, by omega, by omega, by omega, by rw [h2, ht]; rfl, ?_, h4⟩
  cases hl : s.l with
  | none => exact h2
  | some l => rw [hl] at h3; cases h3

def TtS (hs : List (List UInt8)) : SS → (AExit → Env → AHeap → Prop) → Prop
  | ⟨n, a, t, i, l⟩, Q => (finB hs = [] → contSt (stS hs ⟨n, a, 0, 0, none⟩) Q) ∧ (finB hs ≠ [] → contSt (stS hs ⟨n, a, (hd2 (finB hs) : Int), ((finB hs).length : Int), some (finB hs)⟩) Q)

noncomputable def lcS (hs : List (List UInt8)) : LC := lcRow (rowsS hs) 1 2 findS (preS hs) (TtS hs)

/-- A round, whatever it is left with. -/
theorem round_S {X : List UInt8} {i t : Int} {n : Nat} {L : Nat} {c1 c2 : Bool} {A B C D : Prop} (hn : n = L) (g0 : 0 ≤ i) (t0 : 0 ≤ t) (t1 : t ≤ 100) (small : i < (n : Int) → X.length ≤ 140737488355327)
    (hev : i < (n : Int) → i < 10 → mkH X = (mk9 X).drop 1 → c1 = true ∧ A) (hod : i < (n : Int) → i < 10 → mkH X = mk9 X → c2 = true ∧ B) (h1 : ¬ i < (n : Int) → C) (h2 : i < (n : Int) → ¬ i < 10 → D) (hL : i < (n : Int) → 0 + i.toNat < L) :
    branch (decide (i < (n : Int))) (branch (decide (i < 10)) (obl (decide (0 ≤ i ∧ i < (n : Int))) (obl (decide (0 + i.toNat < L)) (obl (decide (((1 + X.length : Nat) : Int) ≤ 9223372036854775807)) (obl (decide (0 ≤ min ((([110] : List UInt8) ++ X).length : Int) 9 ∧ min ((([110] : List UInt8) ++ X).length : Int) 9 ≤ ((([110] : List UInt8) ++ X).length : Int)))
      (branch (decide (((mk9 X).length : Int) % 2 = 0)) (obl (decide (0 ≤ (1 : Int) ∧ (1 : Int) ≤ ((mk9 X).length : Int))) (obl c1 (obl (inI64 (t + (((mk9 X).drop 1).length : Int))) (obl (inI64 (t + (((mk9 X).drop 1).length : Int) + 1)) (obl (inI64 (i + 1)) A))))) (obl c2 (obl (inI64 (t + ((mk9 X).length : Int))) (obl (inI64 (t + ((mk9 X).length : Int) + 1)) (obl (inI64 (i + 1)) B))))))))) D) C := by
  have hl9 := mk9_length X
  have hd : ((mk9 X).drop 1).length = (mk9 X).length - 1 := List.length_drop ..
  simp only [branch_iff, obl_iff, decide_eq_true_eq, decide_eq_false_iff_not, inI64_iffE]
  refine ⟨fun q1 => ⟨fun q2 => ?_, fun q2 => h2 q1 q2⟩, fun q1 => h1 q1⟩
  have sm := small q1
  refine ⟨⟨g0, q1⟩, hL q1, by omega, by simp only [List.length_append, List.length_cons, List.length_nil]; omega, fun q3 => ?_, fun q3 => ?_⟩
  · have e : mkH X = (mk9 X).drop 1 := by unfold mkH; rw [if_pos q3]
    obtain ⟨r1, r2⟩ := hev q1 q2 e
    exact ⟨by omega, r1, by omega, by omega, by omega, r2⟩
  · have e : mkH X = mk9 X := by unfold mkH; rw [if_neg q3]
    obtain ⟨r1, r2⟩ := hod q1 q2 e
    exact ⟨r1, by omega, by omega, by omega, r2⟩

theorem lcS_sound (hs : List (List UInt8)) : LcSound Try.prog TE.fns 6 0 (lcS hs) := by
  refine lcRow_sound TEok (fn := Try.f6) (n := 100) rfl (by kernel_rfl) (rowsS hs) (stS hs) (fun s => by obtain ⟨_, _, _, _, l⟩ := s; cases l <;> rfl) (findS_ok hs) (GoodS hs) (preS_ok hs) (fun s => (10 - s.i).toNat) [0, 1, 5, 6, 7] [1, 3, 0] 2 ?_
  rintro base ⟨n, a, t, i, l⟩ Q hb1 hg hb hT
  have hsig : sigOk base [(1, 3)] = true := by unfold sigOk; simp only [List.all_cons, List.all_nil, Bool.and_true]; exact Nat.ble_eq_true_of_le hb1
  obtain ⟨hn, g0, g1, g2, gt, gl, gs⟩ := hg
  simp only at hn g0 g1 g2 gt gl
  subst hn
  have t01 : 0 ≤ t ∧ t ≤ 100 := by
    have := hd2_le hs (hs.take i.toNat)
    rw [List.length_take] at this
    omega
  have small : i < (hs.length : Int) → (hs.getD (0 + i.toNat) []).length ≤ 140737488355327 := by
    intro h
    rw [Nat.zero_add, List.getD_eq_getElem?_getD, List.getElem?_eq_getElem (by omega)]
    exact gs _ (List.getElem_mem _)
  -- what follows a round
  have next : ∀ (x : List UInt8) (l' : List (List UInt8)) (σ : List (Nat × Nat)) (E : Env) (H : AHeap), i < (hs.length : Int) → i < 10 → mkH (hs.getD (0 + i.toNat) []) = x → l' = (hs.take (i + 1).toNat).map mkH → sigOk base σ = true →
      subER 2 σ (stS hs ⟨hs.length, a, t + (x.length : Int) + 1, i + 1, some l'⟩).1 E → subHR 2 σ (stS hs ⟨hs.length, a, t + (x.length : Int) + 1, i + 1, some l'⟩).2.bs H → sigInj σ (stS hs ⟨hs.length, a, t + (x.length : Int) + 1, i + 1, some l'⟩).2.bs = true →
      Round base 0 (stS hs) (GoodS hs) (fun s => (10 - s.i).toNat) (fun s' => TtS hs s' Q) ⟨hs.length, a, t, i, l⟩ Q .normal E H := by
    intro x l' σ E H h1 h2 hx hl' hs1 hs2 hs3 hs4
    refine ⟨⟨hs.length, a, t + (x.length : Int) + 1, i + 1, some l'⟩, ⟨rfl, by show 0 ≤ i + 1; omega, by show i + 1 ≤ _; omega, by show i + 1 ≤ 10; omega, ?_, ⟨hl', by show 0 < i + 1; omega⟩, gs⟩, by show (10 - (i + 1)).toNat < (10 - i).toNat; omega, hT, .inr ⟨σ, hs1, hs4, hs2, hs3⟩⟩
    show t + (x.length : Int) + 1 = (hd2 ((hs.take (i + 1).toNat).map mkH) : Int)
    rw [take_snoc hs i g0 h1, hx, hd2_snoc, gt]
    omega
  have fin10 : ¬ (i < (hs.length : Int) ∧ i < 10) → hs.take i.toNat = hs.take 10 := by
    intro h
    by_cases h1 : i < (hs.length : Int)
    · have : i = 10 := by omega
      rw [this]; rfl
    · rw [List.take_of_length_le (by omega), List.take_of_length_le (by omega)]
  cases l with
  | none =>
    simp only at gl
    subst gl
    have ht0 : t = 0 := by rw [gt]; rfl
    subst ht0
    show wpC _ _ _ _ _ _ _ _
    simp only [stS]
    rw [w_sh0 hs hs.length a 0 0 base (Round base 0 (stS hs) (GoodS hs) (fun s => (10 - s.i).toNat) (fun s' => TtS hs s' Q) ⟨hs.length, a, 0, 0, none⟩ Q)]
    have out : ¬ ((0 : Int) < (hs.length : Int)) → Round base 0 (stS hs) (GoodS hs) (fun s => (10 - s.i).toNat) (fun s' => TtS hs s' Q) ⟨hs.length, a, 0, 0, none⟩ Q (.exit 0) (stS hs ⟨hs.length, a, 0, 0, none⟩).1 (stS hs ⟨hs.length, a, 0, 0, none⟩).2 := by
      intro h
      have hnil : finB hs = [] := by
        have : hs = [] := List.length_eq_zero_iff.1 (by omega)
        rw [this]; rfl
      refine ⟨_, (stS hs ⟨hs.length, a, 0, 0, none⟩).2, hb, ?_, ?_, trivial, contSt_iff.1 (hT.1 hnil)⟩
      · repeat' (first | exact subE_nil | refine subE_cons rfl rfl rfl ?_)
      · repeat' (first | exact subH_nil | refine subH_cons rfl rfl rfl rfl ?_)
    have key : ∀ (x : List UInt8), mkH (hs.getD (0 + (0 : Int).toNat) []) = x → (0 : Int) < (hs.length : Int) → (0 : Int) < 10 → Round base 0 (stS hs) (GoodS hs) (fun s => (10 - s.i).toNat) (fun s' => TtS hs s' Q) ⟨hs.length, a, 0, 0, none⟩ Q .normal
        [(0, .sl 0 0 1 0 hs.length none), (1, .int .u8 a), (5, .sl 3 0 1 0 1 none), (6, .int .i64 (0 + (x.length : Int) + 1)), (7, .int .i64 (0 + 1))] ⟨2, [(3, .row 9 strRow [x] .plain), (0, .row 9 strRow hs .ro)]⟩ := by
      intro x hx h1 h2
      refine next x [x] [(1, 3)] _ _ h1 h2 hx (by rw [take_snoc hs 0 (by omega) h1, hx]; rfl) hsig ?_ ?_ rfl
      · repeat' (first | exact subER_nil | refine subER_cons rfl rfl rfl ?_)
      · repeat' (first | exact subHR_nil | refine subHR_cons rfl rfl rfl rfl ?_)
    have := round_S (X := hs.getD (0 + (0 : Int).toNat) []) (i := 0) (t := 0) (n := hs.length) (L := hs.length) (c1 := true) (c2 := true) rfl (by decide) (by decide) (by decide) small (fun q1 q2 e => ⟨rfl, key ((mk9 (hs.getD (0 + (0 : Int).toNat) [])).drop 1) e q1 q2⟩) (fun q1 q2 e => ⟨rfl, key (mk9 (hs.getD (0 + (0 : Int).toNat) [])) e q1 q2⟩) (fun q => out q) (fun q1 q2 => out (absurd (by decide) q2)) (fun q => by omega)
    exact this
  | some l =>
    obtain ⟨rfl, hpos⟩ := gl
    show wpC _ _ _ _ _ _ _ _
    simp only [stS]
    rw [w_sh1 hs ((hs.take i.toNat).map mkH) hs.length ((hs.take i.toNat).map mkH).length a t i base (Round base 0 (stS hs) (GoodS hs) (fun s => (10 - s.i).toNat) (fun s' => TtS hs s' Q) ⟨hs.length, a, t, i, some ((hs.take i.toNat).map mkH)⟩ Q)]
    have out : ¬ (i < (hs.length : Int) ∧ i < 10) → Round base 0 (stS hs) (GoodS hs) (fun s => (10 - s.i).toNat) (fun s' => TtS hs s' Q) ⟨hs.length, a, t, i, some ((hs.take i.toNat).map mkH)⟩ Q (.exit 0) (stS hs ⟨hs.length, a, t, i, some ((hs.take i.toNat).map mkH)⟩).1 (stS hs ⟨hs.length, a, t, i, some ((hs.take i.toNat).map mkH)⟩).2 := by
      intro h
      have e := fin10 h
      have hf : finB hs = (hs.take i.toNat).map mkH := by unfold finB; rw [e]
      have hlen : ((hs.take i.toNat).map mkH).length = i.toNat := by rw [List.length_map, List.length_take]; omega
      have hne : finB hs ≠ [] := by
        intro h0
        rw [hf] at h0
        have := congrArg List.length h0
        rw [hlen] at this
        simp at this; omega
      have hi : ((finB hs).length : Int) = i := by rw [hf, hlen]; omega
      have hT2 := hT.2 hne
      rw [hi, hf, ← gt] at hT2
      refine ⟨_, (stS hs ⟨hs.length, a, t, i, some ((hs.take i.toNat).map mkH)⟩).2, hb, ?_, ?_, trivial, contSt_iff.1 hT2⟩
      · repeat' (first | exact subE_nil | refine subE_cons rfl rfl rfl ?_)
      · repeat' (first | exact subH_nil | refine subH_cons rfl rfl rfl rfl ?_)
    have key : ∀ (x : List UInt8), mkH (hs.getD (0 + i.toNat) []) = x → i < (hs.length : Int) → i < 10 → Round base 0 (stS hs) (GoodS hs) (fun s => (10 - s.i).toNat) (fun s' => TtS hs s' Q) ⟨hs.length, a, t, i, some ((hs.take i.toNat).map mkH)⟩ Q .normal
        [(0, .sl 0 0 1 0 hs.length none), (1, .int .u8 a), (5, .sl 3 0 1 0 ((hs.take i.toNat).map mkH ++ [x]).length none), (6, .int .i64 (t + (x.length : Int) + 1)), (7, .int .i64 (i + 1))] ⟨2, [(3, .row 9 strRow ((hs.take i.toNat).map mkH ++ [x]) .plain), (0, .row 9 strRow hs .ro)]⟩ := by
      intro x hx h1 h2
      refine next x ((hs.take i.toNat).map mkH ++ [x]) [(1, 3)] _ _ h1 h2 hx (by rw [take_snoc hs i (by omega) h1, hx]) hsig ?_ ?_ rfl
      · repeat' (first | exact subER_nil | refine subER_cons rfl rfl rfl ?_)
      · repeat' (first | exact subHR_nil | refine subHR_cons rfl rfl rfl rfl ?_)
    have app : ∀ (x : List UInt8), i < (hs.length : Int) → i < 10 → (true && decide (((hs.take i.toNat).map mkH).length = ((hs.take i.toNat).map mkH).length ∧ 1 = 1 ∧ 1 = 1 ∧ 0 < 1 ∧ ((hs.take i.toNat).map mkH ++ [x]).length ≤ 9223372036854775807 ∧ ((hs.take i.toNat).map mkH ++ [x]).length * 16 ≤ 140737488355328)) = true := by
      intro x h1 h2
      have hlen : ((hs.take i.toNat).map mkH).length ≤ 10 := by rw [List.length_map, List.length_take]; omega
      rw [Bool.true_and, decide_eq_true_eq]
      refine ⟨rfl, rfl, rfl, by decide, ?_, ?_⟩ <;> simp only [List.length_append, List.length_cons, List.length_nil] <;> omega
    have := round_S (X := hs.getD (0 + i.toNat) []) (i := i) (t := t) (n := hs.length) (L := hs.length) rfl g0 t01.1 t01.2 small (fun q1 q2 e => ⟨app ((mk9 (hs.getD (0 + i.toNat) [])).drop 1) q1 q2, key ((mk9 (hs.getD (0 + i.toNat) [])).drop 1) e q1 q2⟩) (fun q1 q2 e => ⟨app (mk9 (hs.getD (0 + i.toNat) [])) q1 q2, key (mk9 (hs.getD (0 + i.toNat) [])) e q1 q2⟩) (fun q => out (fun h => q h.1)) (fun q1 q2 => out (fun h => q2 h.2)) (fun q => by omega)
    exact this

end Go.Proofs.Ytddjaneacmdkmaa
