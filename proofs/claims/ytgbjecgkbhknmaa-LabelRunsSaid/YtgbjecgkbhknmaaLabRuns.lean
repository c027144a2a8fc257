/-
  The walk of LabelRuns.
-/
import Derived.Test.YtgbjecgkbhknmaaLabO
import Derived.Test.YtgbjecgkbhknmaaBytesIn
namespace Go.Proofs.Ytgbjecgkbhknmaa
set_option linter.unusedVariables false
open Go.RowKit

theorem memHit_full (m x : Lab) (hx : ¬ x.b.size = 0) : memHit m x = labEq x.k x.b m.k m.b := by
  unfold memHit
  rw [labEq_comm]
  cases h : labEq x.k x.b m.k m.b with
  | false => simp
  | true =>
    have e := (labEq_iff _ _ _ _).1 h
    have : ¬ m.b.size = 0 := by rw [← e.2]; exact hx
    simp [this]

set_option maxRecDepth 100000 in
set_option maxHeartbeats 1000000 in
theorem runs_any (v : Value) (z : List UInt8) (w : World) (hz : BytesIn w v z) :
    Calls Try.prog 3 #[v] w fun e w' => e = .returned (.bool true) ∧ Below w.heap.size w w' := by
  obtain ⟨a, cap, rfl, hcells⟩ := hz.form
  have hl := hz.1
  unfold maxLen at hl
  clear hz
  have heq := label_eql
  have hne := label_neq
  go_enter Try.func3, Try.ntmps3
  go_wp2
  have hB : Below w.heap.size w ((w.alloc (.cells #[.int .i64 0, .string ⟨#[]⟩] 26)).alloc (.cells #[.int .i64 0, .string ⟨#[]⟩] 24)) := ((Below.refl _ _).alloc (Nat.le_refl _) _).alloc (by simp) _
  have hm := (HasLab.new w 0 ⟨#[]⟩ 26).alloc (.cells #[.int .i64 0, .string ⟨#[]⟩] 24)
  have hq := HasLab.new (w.alloc (.cells #[.int .i64 0, .string ⟨#[]⟩] 26)) 0 ⟨#[]⟩ 24
  rw [World.size_alloc] at hq
  generalize ((w.alloc (.cells #[.int .i64 0, .string ⟨#[]⟩] 26)).alloc (.cells #[.int .i64 0, .string ⟨#[]⟩] 24)) = w1 at hB hm hq ⊢
  go_loopw [4, 5, 7] (fun s t i wr => ∃ (k : Nat) (q : Int) (m : Lab), k ≤ z.length ∧ k ≤ 60 ∧ i = .int .i64 k ∧ s = .int .i64 q ∧ t = .int .i64 q ∧ 0 ≤ q ∧ q ≤ 6 * k ∧ HasLab wr w.heap.size 0 m ∧ HasLab wr (w.heap.size + 1) 0 m ∧ Below w.heap.size w wr) (fun _ _ i _ => z.length - (intOf i).toNat)
  case atStart => exact ⟨0, 0, _, by omega, by omega, rfl, rfl, rfl, by omega, by omega, hm, hq, hB⟩
  case round =>
    obtain ⟨k, q, m, hk, hk60, rfl, rfl, rfl, hq0, hq1, hm1, hq1', hb1⟩ := hrel
    clear hB hm hq
    by_cases hlt : k < z.length ∧ k < 60
    · obtain ⟨hlt1, hlt2⟩ := hlt
      have hd1 : decide ((k : Int) < (z.length : Int)) = true := by simp; omega
      have hd2 : decide ((k : Int) < 60) = true := by simp; omega
      obtain ⟨b, off, rfl, hbl, hc⟩ := hcells k hlt1
      have hc1 := (hb1.cell (p := ⟨b, off + k, none⟩) hbl).trans hc
      clear hcells hc
      generalize z[k] = n at hc1
      go_wp2_with fail
      refine (of_any n.toNat _ (UInt8.toNat_lt n)).mono ?_
      rintro e w2 ⟨rfl, hb2⟩
      have ho := ofLab_ok n.toNat
      have hsz := ofLab_size n.toNat
      generalize ofLab n.toNat = x at ho hsz ⊢
      clear hc1
      have hB2 : Below w.heap.size w w2 := hb1.trans (hb2.mono hb1.size)
      have hm2 := hm1.below hb2 hm1.lt
      have hq2 := hq1'.below hb2 hq1'.lt
      have hs2 := Nat.le_trans hb1.size hb2.size
      have hs3 := hq2.lt
      clear hb1 hb2 hm1 hq1'
      have hx0 := HasLab.new w2 x.k x.b 24
      have hm0 := hm2.alloc (.cells #[.int .i64 x.k, .string x.b] 24)
      have hq0' := hq2.alloc (.cells #[.int .i64 x.k, .string x.b] 24)
      have hB3 := hB2.alloc hs2 (.cells #[.int .i64 x.k, .string x.b] 24)
      clear hm2 hq2 hB2
      go_wp2_with fail
      refine (check_lit _ _ _ true (by unfold maxLen; omega) ho).mono ?_
      rintro e w3 ⟨rfl, hb3⟩
      have hx1 := hx0.below hb3 hx0.lt
      have hm1 := hm0.below hb3 hm0.lt
      have hl1 := hq0'.below hb3 hq0'.lt
      have hB1 := hB3.trans (hb3.mono hB3.size)
      have hs4 := hx1.lt
      clear hb3 hx0 hm0 hq0' hB3
      have c0 := hx1.kind
      have c1 := hx1.text
      simp only [Nat.zero_add] at c1
      by_cases hz : x.b.size = 0
      · have e1 := isEmpty_of_size hz
        have e2 : x.b.toList = [] := by simpa using e1
        go_wp2
        refine ⟨⟨k + 1, q, m, by omega, by omega, by simp, rfl, rfl, by omega, by omega, hm1, hl1, hB1⟩, ?_⟩
        show z.length - (((k : Int) + 1).toNat) < z.length - (k : Int).toNat
        omega
      · have e1 := notEmpty_of_size hz
        have e2 : ¬ x.b.toList = [] := by intro h; rw [h] at e1; cases e1
        cases hh : memHit m ⟨x.k, x.b⟩ with
        | true =>
          have hE := (memHit_full m x hz).symm.trans hh
          have hEl : x = m := by
            obtain ⟨h1, h2⟩ := (labEq_iff _ _ _ _).1 hE
            cases x; cases m; simp_all
          subst hEl
          go_wp2_with fail
          refine (next_hit w.heap.size 0 x x.k x.b _ (by unfold maxLen; omega) hm1 hh).mono ?_
          rintro e w4 ⟨rfl, hb4⟩
          have hx2 := (hx1.below hb4 hx1.lt).alloc (.cells #[.int .i64 3, .string ⟨#[]⟩] 24)
          have hm2 := (hm1.below hb4 hm1.lt).alloc (.cells #[.int .i64 3, .string ⟨#[]⟩] 24)
          have hl2 := (hl1.below hb4 hl1.lt).alloc (.cells #[.int .i64 3, .string ⟨#[]⟩] 24)
          have hy2 := HasLab.new w4 3 ⟨#[]⟩ 24
          have hB2 := (hB1.trans (hb4.mono hB1.size)).alloc (Nat.le_trans hB1.size hb4.size) (.cells #[.int .i64 3, .string ⟨#[]⟩] 24)
          clear hx1 hm1 hl1 hB1 hb4 c0 c1
          go_wp2_with fail
          refine (size_any 3 _).mono ?_
          rintro e w5 ⟨rfl, hb5⟩
          have hx3 := hx2.below hb5 hx2.lt
          have hm3 := hm2.below hb5 hm2.lt
          have hl3 := hl2.below hb5 hl2.lt
          have hy3 := hy2.below hb5 hy2.lt
          have hB3 := hB2.trans (hb5.mono hB2.size)
          have hs5 := hl3.lt
          have hs6 := hx3.lt
          have hs7 := hy3.lt
          clear hx2 hm2 hl2 hy2 hB2 hb5
          have c0 := hx3.kind
          have c1 := hx3.text
          have d0 := hl3.kind
          have d1 := hl3.text
          have z0 := hl3.free0
          have z1 := hl3.free1
          have y0 := hy3.kind
          simp only [Nat.zero_add] at c1 d1 z1
          have HM := Lib.hid hm3
          have HL := Lib.hid hl3
          have hl0 : labSize 3 = 0 := rfl
          clear hm3 hl3 hx3 hy3 
          rw [hl0]
          go_wp2
          go_quiet (fail)
          go_wp2_with fail
          have hl4 := (HL.out.draws nq).set x
          have hm4 := ((HM.out.draws nq).setOther (p := ⟨w.heap.size + 1, 0, none⟩) (by simp) (.int .i64 x.k)).setOther (p := ⟨w.heap.size + 1, 1, none⟩) (by simp) (.string x.b)
          simp only [Nat.zero_add] at hl4 hm4
          refine ⟨⟨k + 1, q, x, by omega, by omega, by simp, by simp, by simp, by omega, by omega, hm4, hl4, ((below_draws hB3 nq).setCell (by simp) _).setCell (by simp) _⟩, ?_⟩
          show z.length - (((k : Int) + 1).toNat) < z.length - (k : Int).toNat
          omega
        | false =>
          have hE : labEq x.k x.b m.k m.b = false := (memHit_full m x hz).symm.trans hh
          have hok := (labOk_iff _ _).1 ho
          have hk3 : (x.k == 3) = false := by
            rw [beq_eq_false_iff_ne]; intro h
            have : labSize x.k = 0 := by rw [h]; rfl
            omega
          have hkeep : memKeep m ⟨x.k, x.b⟩ = x := by
            rw [memKeep, if_pos ⟨by show 0 < labSize x.k; omega, ho⟩]
          go_wp2_with fail
          refine (next_miss w.heap.size 0 m x.k x.b _ (by unfold maxLen; omega) hm1 hh).mono ?_
          rintro e w4 ⟨rfl, hw4, hm4⟩
          rw [hkeep] at hm4
          have hx2 := (hx1.wrote hw4 (by omega)).alloc (.cells #[.int .i64 x.k, .string x.b] 24)
          have hm2 := hm4.alloc (.cells #[.int .i64 x.k, .string x.b] 24)
          have hl2 := (hl1.wrote hw4 (by omega)).alloc (.cells #[.int .i64 x.k, .string x.b] 24)
          have hy2 := HasLab.new w4 x.k x.b 24
          have hB2 := (Wrote.below hB1 hw4 hB1.size (Nat.le_refl _)).alloc (Nat.le_trans hB1.size hw4.size) (.cells #[.int .i64 x.k, .string x.b] 24)
          clear hx1 hm1 hl1 hB1 hw4 hm4 c0 c1
          have e0 := hy2.kind
          go_wp2_with fail
          refine (size_any x.k _).mono ?_
          rintro e w5 ⟨rfl, hb5⟩
          have hx3 := hx2.below hb5 hx2.lt
          have hm3 := hm2.below hb5 hm2.lt
          have hl3 := hl2.below hb5 hl2.lt
          have hy3 := hy2.below hb5 hy2.lt
          have hB3 := hB2.trans (hb5.mono hB2.size)
          have hs5 := hl3.lt
          have hs6 := hx3.lt
          have hs7 := hy3.lt
          clear hx2 hm2 hl2 hy2 hB2 hb5 e0
          have c0 := hx3.kind
          have c1 := hx3.text
          have d0 := hl3.kind
          have d1 := hl3.text
          have z0 := hl3.free0
          have z1 := hl3.free1
          have y0 := hy3.kind
          simp only [Nat.zero_add] at c1 d1 z1
          have HM := Lib.hid hm3
          have HL := Lib.hid hl3
          have hl0 : labSize x.k = (x.b.size : Int) := hok.2.2.symm
          have hr0 : (0 : Int) ≤ x.b.size ∧ (x.b.size : Int) ≤ 6 := by omega
          clear hm3 hl3 hx3 hy3 hok ho hkeep hh
          rw [hl0]
          clear hl0
          generalize hrr : (x.b.size : Int) = r at hr0
          obtain ⟨hr0, hr6⟩ := hr0
          go_wp2
          go_quiet (fail)
          go_wp2_with fail
          have hl4 := (HL.out.draws nq).set x
          have hm4 := ((HM.out.draws nq).setOther (p := ⟨w.heap.size + 1, 0, none⟩) (by simp) (.int .i64 x.k)).setOther (p := ⟨w.heap.size + 1, 1, none⟩) (by simp) (.string x.b)
          simp only [Nat.zero_add] at hl4 hm4
          refine ⟨⟨k + 1, q + r, x, by omega, by omega, by simp, by simp, by simp, by omega, by omega, hm4, hl4, ((below_draws hB3 nq).setCell (by simp) _).setCell (by simp) _⟩, ?_⟩
          show z.length - (((k : Int) + 1).toNat) < z.length - (k : Int).toNat
          omega
    · by_cases hlt1 : k < z.length
      · have hd1 : decide ((k : Int) < (z.length : Int)) = true := by simp; omega
        have hd2 : decide ((k : Int) < 60) = false := by simp; omega
        go_wp2_with fail
        refine (works_any _).mono ?_
        rintro e w2 ⟨rfl, hb2⟩
        go_wp2
        go_ret
        exact ⟨rfl, hb1.trans (hb2.mono hb1.size)⟩
      · have hd1 : decide ((k : Int) < (z.length : Int)) = false := by simp; omega
        go_wp2_with fail
        refine (works_any _).mono ?_
        rintro e w2 ⟨rfl, hb2⟩
        go_wp2
        go_ret
        exact ⟨rfl, hb1.trans (hb2.mono hb1.size)⟩

theorem runs_raw {H : Type} {enc : TypeId × Value → H} {base : Nat} {d : DataW H} {p : List MemPlace} (v : Value) (W : World)
    (hv : Value.okWide Try.prog W .any base 22 v) (h : DataW.Trod enc Try.prog W 0 (fun _ => true) true 22 v d p) (_ : ∀ x ∈ p, x.block < W.heap.size) :
    Calls Try.prog 3 #[v] W fun e w' => e = .returned (.bool true) ∧ Below W.heap.size W w' := by
  obtain ⟨z, hz⟩ := open_bytes hv h
  exact runs_any v z W hz

end Go.Proofs.Ytgbjecgkbhknmaa
