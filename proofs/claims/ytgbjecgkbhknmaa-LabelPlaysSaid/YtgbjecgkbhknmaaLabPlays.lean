/-
  The walk of LabelPlays.
-/
import Derived.Test.YtgbjecgkbhknmaaLabR
import Derived.Test.YtgbjecgkbhknmaaLabW
import Derived.Test.YtgbjecgkbhknmaaLabPlaysO
import Derived.Deep.DeepCutAuto
import Derived.Deep.RegionHeld3
namespace Go.Proofs.Ytgbjecgkbhknmaa
set_option linter.unusedVariables false
open Go.RowKit

theorem HasRLab.setIs {w : World} {g o : Nat} {m : RLab} (h : HasRLab w g o m) (l : Lab) (f : Bool) : HasRLab (((w.setCell ⟨g, o, none⟩ (.int .i64 l.k)).setCell ⟨g, o + 1, none⟩ (.string l.b)).setCell ⟨g, o + 2, none⟩ (.bool f)) g o ⟨l, f⟩ := by
  have h1 := h.lab.set l
  have e : ∀ (W : World) (v : Value) j, j ≠ o + 2 → (W.setCell ⟨g, o + 2, none⟩ v).cell? ⟨g, j, none⟩ = W.cell? ⟨g, j, none⟩ := fun W v j hj =>
    World.cell?_setCell_other _ _ _ _ (fun e => by simp only [Addr.mk.injEq] at e; omega)
  refine ⟨⟨(e _ _ _ (by omega)).trans h1.kind, (e _ _ _ (by omega)).trans h1.text, by rw [World.frozen?_setCell]; exact h1.free0, by rw [World.frozen?_setCell]; exact h1.free1⟩, ?_, by rw [World.frozen?_setCell, World.frozen?_setCell, World.frozen?_setCell]; exact h.free⟩
  refine World.cell?_setCell_same' _ _ _ ?_
  rw [World.cell?_setCell_other _ _ _ _ (fun e => by simp only [Addr.mk.injEq] at e; omega), World.cell?_setCell_other _ _ _ _ (fun e => by simp only [Addr.mk.injEq] at e; omega), h.is]; rfl


set_option maxRecDepth 100000 in
set_option maxHeartbeats 1000000 in
theorem plays_any (a : Option Addr) (len cap : Nat) (w : World) (hl : len ≤ maxLen) (hacts : ∀ i, i < len → ActAt w a i) :
    Calls Try.prog 5 #[.slice a len cap] w fun e w' => e = .returned (.bool true) ∧ Below w.heap.size w w' := by
  unfold maxLen at hl
  have heq := label_eql
  have hne := label_neq
  go_enter Try.func5, Try.ntmps5
  go_wp2
  have hB : Below w.heap.size w ((w.alloc (.cells #[.int .i64 0, .string ⟨#[]⟩] 26)).alloc (.cells #[.int .i64 0, .string ⟨#[]⟩, .bool false] 38)) := ((Below.refl _ _).alloc (Nat.le_refl _) _).alloc (by simp) _
  have hm := (HasLab.new w 0 ⟨#[]⟩ 26).alloc (.cells #[.int .i64 0, .string ⟨#[]⟩, .bool false] 38)
  have hr : HasRLab ((w.alloc (.cells #[.int .i64 0, .string ⟨#[]⟩] 26)).alloc (.cells #[.int .i64 0, .string ⟨#[]⟩, .bool false] 38)) (w.heap.size + 1) 0 ⟨⟨0, ByteArray.empty⟩, false⟩ := ⟨⟨by simp, by simp; rfl, by simp, by simp⟩, by simp, by simp⟩
  generalize ((w.alloc (.cells #[.int .i64 0, .string ⟨#[]⟩] 26)).alloc (.cells #[.int .i64 0, .string ⟨#[]⟩, .bool false] 38)) = w1 at hB hm hr ⊢
  go_loopw [5] (fun i wr => ∃ (k : Nat) (m : Lab) (r : RLab), k ≤ len ∧ k ≤ 60 ∧ i = .int .i64 k ∧ Like m r ∧ HasLab wr w.heap.size 0 m ∧ HasRLab wr (w.heap.size + 1) 0 r ∧ Below w.heap.size w wr) (fun i _ => len - (intOf i).toNat)
  case atStart => exact ⟨0, _, _, by omega, by omega, rfl, Like.none, hm, hr, hB⟩
  case round =>
    obtain ⟨k, m, r, hk, hk60, rfl, hI, hm1, hr1, hb1⟩ := hrel
    clear hB hm hr
    by_cases hlt : k < len ∧ k < 60
    · obtain ⟨hlt1, hlt2⟩ := hlt
      have hd1 : decide ((k : Int) < (len : Int)) = true := by simp; omega
      have hd2 : decide ((k : Int) < 60) = true := by simp; omega
      obtain ⟨b, off, what, xk, xb, rfl, hbl, h0, h1, h2, hxs⟩ := hacts k hlt1
      have c0 := (hb1.cell (p := ⟨b, off + k * 3, none⟩) hbl).trans h0
      have c1 := (hb1.cell (p := ⟨b, off + k * 3 + 1, none⟩) hbl).trans h1
      have c2 := (hb1.cell (p := ⟨b, off + k * 3 + 2, none⟩) hbl).trans h2
      clear hacts h0 h1 h2
      go_wp2_with fail
      refine (short_any xk xb _ hxs).mono ?_
      rintro e w2 ⟨rfl, hb2⟩
      have hs10 := short10_size xb
      generalize short10 xb = yb at hs10 ⊢
      have hys : yb.size ≤ maxLen := by unfold maxLen; omega
      have c3 := (hb2.cell (p := ⟨b, off + k * 3, none⟩) (block_lt c0)).trans c0
      have l3 := block_lt c3
      have HX := Lib.hid (HasLab.new w2 xk yb 24)
      have HM := Lib.hid ((hm1.below hb2 hm1.lt).alloc (.cells #[.int .i64 xk, .string yb] 24))
      have HR := Lib.hid ((hr1.below hb2 hr1.lt).alloc (.cells #[.int .i64 xk, .string yb] 24))
      have HB := Lib.hid ((hb1.trans (hb2.mono hb1.size)).alloc (Nat.le_trans hb1.size hb2.size) (.cells #[.int .i64 xk, .string yb] 24))
      have hs2 := hb2.size
      have hs3 := hr1.lt
      clear hm1 hr1 hb1 hb2 c0 c1 c2
      by_cases hw01 : what = 0 ∨ what = 1
      · have g0 : (what == 0) = true ∨ (what == 0) = false ∧ (what == 1) = true := by rcases hw01 with rfl | rfl <;> simp
        clear hw01
        rcases g0 with g0 | ⟨g0, g1⟩
        all_goals
          go_upto_region 12 with fail
          have hx := HX.out.drew
          have hm := HM.out.drew
          have hr := HR.out.drew
          have hb := HB.out.drew
          have HX1 := Lib.hid HX
          clear HX HM HR HB
          generalize (w2.alloc (.cells #[.int .i64 xk, .string yb] 24)) = w3 at hx hm hr hb ⊢
          go_region_held3 (fun w' => w'.cell? ⟨w2.heap.size, 0, none⟩ = some (.int .i64 xk) ∧ w'.cell? ⟨w2.heap.size, 1, none⟩ = some (.string yb))
            (first | exact ⟨hx2.kind, hx2.text⟩ | exact ⟨hx1.kind, hx1.text⟩ | exact ⟨hx.kind, hx.text⟩)
            (first
              | (go_at_call 10; refine (next_any w.heap.size 0 m xk yb _ hys hm).mono ?_; rintro e w4 ⟨rfl, hw4, hm4⟩; have hx1 := hx.wrote hw4 (by omega))
              | (go_at_call 17; refine (rnext_any (w.heap.size + 1) 0 r xk yb _ hys (hr.wrote hw4 (by omega))).mono ?_; rintro e w5 ⟨rfl, hw5, hr5⟩; have hx2 := hx1.wrote hw5 (by omega)))
          obtain ⟨hn1, hn2⟩ := hI.next ⟨xk, yb⟩
          generalize memNext m ⟨xk, yb⟩ = N at hn1 hn2 hm4 ⊢
          generalize refNext r ⟨xk, yb⟩ = R at hn1 hn2 hr5 ⊢
          obtain ⟨y, m'⟩ := N
          obtain ⟨y', r'⟩ := R
          simp only at hn1 hn2 hm4 hr5 ⊢
          subst hn1
          rw [labEq_self]
          have hm5 := hm4.wrote hw5 (by omega)
          have hb5 := Wrote.below (Wrote.below hb hw4 hb.size (Nat.le_refl _)) hw5 (Nat.le_trans hb.size hw4.size) (by omega)
          clear hx hm hr hb hw4 hm4 hx1 hw5 hx2 c3 l3
          go_wp2_with fail
          refine ⟨⟨k + 1, _, _, by omega, by omega, by simp, hn2, hm5, hr5, hb5⟩, ?_⟩
          show len - (((k : Int) + 1).toNat) < len - (k : Int).toNat
          omega
      · have g0 : (what == 0) = false := by rw [beq_eq_false_iff_ne]; omega
        have g1 : (what == 1) = false := by rw [beq_eq_false_iff_ne]; omega
        by_cases hw23 : what = 2 ∨ what = 3
        · have g2 : (what == 2) = true ∨ (what == 2) = false ∧ (what == 3) = true := by rcases hw23 with rfl | rfl <;> simp
          clear hw23 hw01
          rcases g2 with g2 | ⟨g2, g3⟩
          all_goals
            have x0 := HX.out.kind
            have x1 := HX.out.text
            go_wp2_with fail
            refine (read_any w.heap.size 0 m xk yb _ hys HM.out).mono ?_
            rintro e w4 ⟨rfl, hw4, hm4⟩
            have hx4 := HX.out.wrote hw4 (by omega)
            have hr4 := HR.out.wrote hw4 (by omega)
            have hb4 := Wrote.below HB.out hw4 HB.out.size (Nat.le_refl _)
            obtain ⟨hn1, hn2⟩ := hI.read ⟨xk, yb⟩
            generalize memRead m ⟨xk, yb⟩ = N at hn1 hn2 hm4 ⊢
            generalize hRR : refRead r ⟨xk, yb⟩ = R at hn1 hn2
            obtain ⟨⟨y, ye⟩, m'⟩ := N
            obtain ⟨⟨y', ye'⟩, r'⟩ := R
            simp only [Prod.mk.injEq] at hn1
            obtain ⟨rfl, rfl⟩ := hn1
            simp only at hn2 hm4 ⊢
            have hx5 := hx4.alloc (.cells #[.int .i64 y.k, .string y.b] 24)
            have hm5 := hm4.alloc (.cells #[.int .i64 y.k, .string y.b] 24)
            have hr5 := hr4.alloc (.cells #[.int .i64 y.k, .string y.b] 24)
            have hb5 := hb4.alloc (Nat.le_trans HB.out.size hw4.size) (.cells #[.int .i64 y.k, .string y.b] 24)
            have hy5 := HasLab.new w4 y.k y.b 24
            have hs4 := hx4.lt
            have hs5 := hw4.size
            clear hx4 hm4 hr4 hb4 hw4 HX HM HR HB x0 x1 c3
            have x0 := hx5.kind
            have x1 := hx5.text
            go_wp2_with fail
            refine (rread_any (w.heap.size + 1) 0 r xk yb _ hys hr5).mono ?_
            rintro e w5 ⟨rfl, hw5, hr6⟩
            rw [hRR] at hr6 ⊢
            simp only at hr6 ⊢
            have hm6 := hm5.wrote hw5 (by omega)
            have hb6 := Wrote.below hb5 hw5 hb5.size (by omega)
            have hy6 := hy5.wrote hw5 (by omega)
            have hs6 := hw5.size
            rw [World.size_alloc] at hs6
            clear hx5 hm5 hr5 hb5 hy5 hw5 x0 x1 hRR
            have y0 := hy6.kind
            have y1 := hy6.text
            simp only [Nat.zero_add] at y1
            have hyy := labEq_self y.k y.b
            have HM := Lib.hid (hm6.alloc (.cells #[.int .i64 y.k, .string y.b] 24))
            have HR := Lib.hid (hr6.alloc (.cells #[.int .i64 y.k, .string y.b] 24))
            have HB := Lib.hid (hb6.alloc hb6.size (.cells #[.int .i64 y.k, .string y.b] 24))
            have hs7 : w4.heap.size < w5.heap.size := by omega
            clear hm6 hr6 hb6 hy6
            go_wp2_with fail
            refine ⟨⟨k + 1, _, _, by omega, by omega, by simp, hn2, HM.out, HR.out, HB.out⟩, ?_⟩
            show len - (((k : Int) + 1).toNat) < len - (k : Int).toNat
            omega
        · have g2 : (what == 2) = false := by rw [beq_eq_false_iff_ne]; omega
          have g3 : (what == 3) = false := by rw [beq_eq_false_iff_ne]; omega
          clear hw01 hw23
          go_wp2_with fail
          refine (reset_any w.heap.size 0 m _ HM.out).mono ?_
          rintro e w4 ⟨rfl, hw4, hm4⟩
          have hr4 := HR.out.wrote hw4 (by omega)
          have hb4 := Wrote.below HB.out hw4 HB.out.size (Nat.le_refl _)
          clear HM HR HB HX c3
          have z0 := hr4.lab.free0
          have z1 := hr4.lab.free1
          have z2 := hr4.free
          have d0 := hr4.lab.kind
          have d1 := hr4.lab.text
          have d2 := hr4.is
          simp only [Nat.zero_add] at z1 z2 d1 d2
          have HR := Lib.hid hr4
          have HM := Lib.hid hm4
          have HB := Lib.hid hb4
          clear hr4 hm4 hb4 hw4
          go_wp2_with fail
          have hr6 := HR.out.setIs ⟨0, ByteArray.empty⟩ false
          have hm6 := ((HM.out.setOther (p := ⟨w.heap.size + 1, 0, none⟩) (by simp) (.int .i64 0)).setOther (p := ⟨w.heap.size + 1, 1, none⟩) (by simp) (.string ⟨#[]⟩)).setOther (p := ⟨w.heap.size + 1, 2, none⟩) (by simp) (.bool false)
          simp only [Nat.zero_add] at hr6 hm6
          refine ⟨⟨k + 1, _, _, by omega, by omega, by simp, Like.none, hm6, hr6, ((HB.out.setCell (by simp) _).setCell (by simp) _).setCell (by simp) _⟩, ?_⟩
          show len - (((k : Int) + 1).toNat) < len - (k : Int).toNat
          omega
    · by_cases hlt1 : k < len
      · have hd1 : decide ((k : Int) < (len : Int)) = true := by simp; omega
        have hd2 : decide ((k : Int) < 60) = false := by simp; omega
        go_wp2_with fail
        refine (works_any _).mono ?_
        rintro e w2 ⟨rfl, hb2⟩
        go_wp2
        go_ret
        exact ⟨rfl, hb1.trans (hb2.mono hb1.size)⟩
      · have hd1 : decide ((k : Int) < (len : Int)) = false := by simp; omega
        go_wp2_with fail
        refine (works_any _).mono ?_
        rintro e w2 ⟨rfl, hb2⟩
        go_wp2
        go_ret
        exact ⟨rfl, hb1.trans (hb2.mono hb1.size)⟩

theorem plays_raw {H : Type} {enc : TypeId × Value → H} {base : Nat} {d : DataW H} {p : List MemPlace} (v : Value) (W : World)
    (hv : Value.okWide Try.prog W .any base 36 v) (h : DataW.Trod enc Try.prog W 0 (fun _ => true) true 36 v d p) (_ : ∀ x ∈ p, x.block < W.heap.size) :
    Calls Try.prog 5 #[v] W fun e w' => e = .returned (.bool true) ∧ Below W.heap.size W w' := by
  obtain ⟨a, len, cap, rfl, hl, hacts⟩ := open_acts hv h
  exact plays_any a len cap W hl hacts

end Go.Proofs.Ytgbjecgkbhknmaa
