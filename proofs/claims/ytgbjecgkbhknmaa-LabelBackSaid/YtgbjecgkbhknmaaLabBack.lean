/-
  The walk of LabelBack.
-/
import Derived.Test.YtgbjecgkbhknmaaLabO
import Derived.Test.YtgbjecgkbhknmaaBytesIn
import Derived.Deep.DeepCutAuto
namespace Go.Proofs.Ytgbjecgkbhknmaa
set_option linter.unusedVariables false
open Go.RowKit

/-- The writer's memory and the reader's are m; the last label with a kind of its own that was laid since a reset is z, or none (then z has kind 2). -/
def BackInv (m z : Lab) : Prop := (m.b.size = 0 ∧ z.k = 2) ∨ (¬ m.b.size = 0 ∧ z = m)

theorem memHit_full' (m x : Lab) (hx : ¬ x.b.size = 0) : memHit m x = labEq x.k x.b m.k m.b := by
  unfold memHit
  rw [labEq_comm]
  cases h : labEq x.k x.b m.k m.b with
  | false => simp
  | true =>
    have e := (labEq_iff _ _ _ _).1 h
    have : ¬ m.b.size = 0 := by rw [← e.2]; exact hx
    simp [this]

theorem back_law (m q x : Lab) (hI : BackInv m q) (ho : labOk x.k x.b = true) (h3 : ¬ x.k = 3) :
    labOk (memNext m x).1.k (memNext m x).1.b = true ∧ memRead m (memNext m x).1 = ((x, 0), (memNext m x).2) ∧
    (¬ x.k = 2 → ((memNext m x).1.k == 3) = labEq x.k x.b q.k q.b ∧ BackInv (memNext m x).2 x) ∧
    (x.k = 2 → labEq (memNext m x).1.k (memNext m x).1.b x.k x.b = true ∧ BackInv (memNext m x).2 q) := by
  have hok := (labOk_iff _ _).1 ho
  unfold memNext
  cases hh : memHit m x with
  | true =>
    rw [if_pos rfl]
    have hh' := hh
    simp only [memHit, Bool.and_eq_true, decide_eq_true_eq] at hh'
    obtain ⟨h1, h2⟩ := hh'
    have hm : m = x := by
      obtain ⟨h4, h5⟩ := (labEq_iff _ _ _ _).1 h2
      cases x; cases m; simp_all
    subst hm
    refine ⟨rfl, ?_, fun h2 => ⟨?_, .inr ⟨h1, rfl⟩⟩, fun h => absurd ?_ h1⟩
    · show memRead m ⟨3, ByteArray.empty⟩ = _
      unfold memRead
      show (if labOk 3 ByteArray.empty = true then (if (3 : Int) = 3 then (if m.b.size = 0 then (((⟨0, ByteArray.empty⟩ : Lab), (17 : Int)), m) else ((m, 0), m)) else ((⟨3, ByteArray.empty⟩, 0), memKeep m ⟨3, ByteArray.empty⟩)) else ((⟨0, ByteArray.empty⟩, 2), m)) = ((m, 0), m)
      have e3 : labOk 3 ByteArray.empty = true := rfl
      rw [if_pos e3, if_pos (rfl : (3 : Int) = 3), if_neg h1]
    · rcases hI with ⟨h0, _⟩ | ⟨_, rfl⟩
      · exact absurd h0 h1
      · rw [labEq_self]; rfl
    · have := hok.2.2
      rw [h] at this
      have e : labSize 2 = 0 := rfl
      omega
  | false =>
    rw [if_neg (by simp)]
    refine ⟨ho, ?_, fun h2 => ⟨?_, ?_⟩, fun h => ⟨labEq_self _ _, ?_⟩⟩
    · show memRead m x = ((x, 0), memKeep m x)
      unfold memRead
      rw [if_pos ho, if_neg h3]
    · have hz : 0 < labSize x.k := by unfold labSize; rcases (by omega : x.k = 0 ∨ x.k = 1) with h | h <;> rw [h] <;> simp
      have e : (x.k == 3) = false := by rw [beq_eq_false_iff_ne]; exact h3
      show (x.k == 3) = _
      rw [e]
      rcases hI with ⟨_, hq⟩ | ⟨_, rfl⟩
      · symm; unfold labEq; rw [decide_eq_false_iff_not]; rintro ⟨h, _⟩; exact h2 (h.trans hq)
      · rw [← memHit_full' q x (by omega), hh]
    · have hz : 0 < labSize x.k := by unfold labSize; rcases (by omega : x.k = 0 ∨ x.k = 1) with h | h <;> rw [h] <;> simp
      show BackInv (memKeep m x) x
      unfold memKeep
      rw [if_pos ⟨hz, ho⟩]
      exact .inr ⟨by omega, rfl⟩
    · show BackInv (memKeep m x) q
      unfold memKeep
      rw [if_neg (by rw [h]; intro h'; exact absurd h'.1 (by decide))]
      exact hI

set_option maxRecDepth 100000 in
set_option maxHeartbeats 1000000 in
theorem back_any (v v' : Value) (z z' : List UInt8) (w : World) (hz : BytesIn w v z) (hz' : BytesIn w v' z') :
    Calls Try.prog 6 #[v, v'] w fun e w' => e = .returned (.bool true) ∧ Below w.heap.size w w' := by
  obtain ⟨a, cap, rfl, hcells⟩ := hz.form
  obtain ⟨a', cap', rfl, hcells'⟩ := hz'.form
  have hl := hz.1
  have hl' := hz'.1
  unfold maxLen at hl hl'
  clear hz hz'
  have heq := label_eql
  have hne := label_neq
  go_enter Try.func6, Try.ntmps6
  go_wp2
  have hB : Below w.heap.size w (((w.alloc (.cells #[.int .i64 0, .string ⟨#[]⟩] 26)).alloc (.cells #[.int .i64 0, .string ⟨#[]⟩] 26)).alloc (.cells #[.int .i64 2, .string ⟨#[]⟩] 24)) := (((Below.refl _ _).alloc (Nat.le_refl _) _).alloc (by simp) _).alloc (by simp; omega) _
  have hm := ((HasLab.new w 0 ⟨#[]⟩ 26).alloc (.cells #[.int .i64 0, .string ⟨#[]⟩] 26)).alloc (.cells #[.int .i64 2, .string ⟨#[]⟩] 24)
  have hr := (HasLab.new (w.alloc (.cells #[.int .i64 0, .string ⟨#[]⟩] 26)) 0 ⟨#[]⟩ 26).alloc (.cells #[.int .i64 2, .string ⟨#[]⟩] 24)
  have hq := HasLab.new ((w.alloc (.cells #[.int .i64 0, .string ⟨#[]⟩] 26)).alloc (.cells #[.int .i64 0, .string ⟨#[]⟩] 26)) 2 ⟨#[]⟩ 24
  simp only [World.size_alloc] at hq hr
  generalize (((w.alloc (.cells #[.int .i64 0, .string ⟨#[]⟩] 26)).alloc (.cells #[.int .i64 0, .string ⟨#[]⟩] 26)).alloc (.cells #[.int .i64 2, .string ⟨#[]⟩] 24)) = w1 at hB hm hr hq ⊢
  go_loopw [8] (fun i wr => ∃ (k : Nat) (m q : Lab), k ≤ z.length ∧ k ≤ 80 ∧ i = .int .i64 k ∧ BackInv m q ∧ HasLab wr w.heap.size 0 m ∧ HasLab wr (w.heap.size + 1) 0 m ∧ HasLab wr (w.heap.size + 2) 0 q ∧ Below w.heap.size w wr) (fun i _ => z.length - (intOf i).toNat)
  case atStart => exact ⟨0, _, _, by omega, by omega, rfl, .inl ⟨rfl, rfl⟩, hm, hr, hq, hB⟩
  case round =>
    obtain ⟨k, m, q, hk, hk80, rfl, hI, hm1, hr1, hq1, hb1⟩ := hrel
    clear hB hm hq hr
    by_cases hlt : k < z.length ∧ k < 80
    · obtain ⟨hlt1, hlt2⟩ := hlt
      have hd1 : decide ((k : Int) < (z.length : Int)) = true := by simp; omega
      have hd2 : decide ((k : Int) < 80) = true := by simp; omega
      obtain ⟨b, off, rfl, hbl, hc⟩ := hcells k hlt1
      have hc1 := (hb1.cell (p := ⟨b, off + k, none⟩) hbl).trans hc
      have HC := Lib.hid hc
      clear hcells hc
      generalize z[k] = n at hc1 HC
      go_upto_region 6 with fail
      go_cut [35] (fun s35 wx => ∃ r, s35 = .bool r ∧ wx = wr)
      case first =>
        by_cases hg : k < z'.length
        · have hg1 : decide ((k : Int) < (z'.length : Int)) = true := by simp; omega
          obtain ⟨b', off', rfl, hbl', hc'⟩ := hcells' k hg
          have hc2 := (hb1.cell (p := ⟨b', off' + k, none⟩) hbl').trans hc'
          generalize z'[k] = n' at hc2
          go_wp2_with fail
          go_meet
          exact ⟨_, rfl, rfl⟩
        · have hg1 : decide ((k : Int) < (z'.length : Int)) = false := by simp; omega
          go_wp2_with fail
          go_meet
          exact ⟨_, rfl, rfl⟩
      case rest =>
        obtain ⟨r, rfl, rfl⟩ := hcut
        go_upto_if 35 with fail
        go_cut [] (fun wx => ∃ (m q : Lab), BackInv m q ∧ HasLab wx w.heap.size 0 m ∧ HasLab wx (w.heap.size + 1) 0 m ∧ HasLab wx (w.heap.size + 2) 0 q ∧ Below w.heap.size w wx)
        case first =>
          cases r with
          | true =>
            go_wp2_with fail
            refine (reset_any w.heap.size 0 m _ hm1).mono ?_
            rintro e w2 ⟨rfl, hw2, hm2⟩
            have hr2 := hr1.wrote hw2 (by omega)
            have hq2 := hq1.wrote hw2 (by omega)
            have hb2 := Wrote.below hb1 hw2 hb1.size (Nat.le_refl _)
            clear hm1 hr1 hq1 hb1 hw2
            go_wp2_with fail
            refine (reset_any (w.heap.size + 1) 0 m _ hr2).mono ?_
            rintro e w3 ⟨rfl, hw3, hr3⟩
            have hm3 := hm2.wrote hw3 (by omega)
            have hq3 := hq2.wrote hw3 (by omega)
            have hb3 := Wrote.below hb2 hw3 hb2.size (by omega)
            clear hm2 hr2 hq2 hb2 hw3
            have d0 := hq3.kind
            have d1 := hq3.text
            have z0 := hq3.free0
            have z1 := hq3.free1
            simp only [Nat.zero_add] at d1 z1
            have HQ := Lib.hid hq3
            go_wp2_with fail
            go_meet
            have hq4 := HQ.out.set ⟨2, ⟨#[]⟩⟩
            have hm4 := (hm3.setOther (p := ⟨w.heap.size + 2, 0, none⟩) (by simp) (.int .i64 2)).setOther (p := ⟨w.heap.size + 2, 1, none⟩) (by simp) (.string ⟨#[]⟩)
            have hr4 := (hr3.setOther (p := ⟨w.heap.size + 2, 0, none⟩) (by simp) (.int .i64 2)).setOther (p := ⟨w.heap.size + 2, 1, none⟩) (by simp) (.string ⟨#[]⟩)
            exact ⟨_, _, .inl ⟨rfl, rfl⟩, hm4, hr4, hq4, (hb3.setCell (by simp; omega) _).setCell (by simp; omega) _⟩
          | false =>
            go_wp2_with fail
            go_meet
            exact ⟨m, q, hI, hm1, hr1, hq1, hb1⟩
        case rest =>
          clear hI hm1 hr1 hq1 hb1 hc1
          obtain ⟨m, q, hI, hm1, hr1, hq1, hb1⟩ := hcut
          have hc1 := (hb1.cell (p := ⟨b, off + k, none⟩) hbl).trans HC.out
          go_wp2_with fail
          refine (of_any n.toNat _ (UInt8.toNat_lt n)).mono ?_
          rintro e w2 ⟨rfl, hb2⟩
          have ho := ofLab_ok n.toNat
          have hsz := ofLab_size n.toNat
          have h3 := ofLab_not_same n.toNat
          generalize ofLab n.toNat = x at ho hsz h3 ⊢
          obtain ⟨hl1, hl2, hl3, hl4⟩ := back_law m q x hI ho h3
          have hm2 := (hm1.below hb2 hm1.lt).alloc (.cells #[.int .i64 x.k, .string x.b] 24)
          have hr2 := (hr1.below hb2 hr1.lt).alloc (.cells #[.int .i64 x.k, .string x.b] 24)
          have hq2 := (hq1.below hb2 hq1.lt).alloc (.cells #[.int .i64 x.k, .string x.b] 24)
          have hB2 := (hb1.trans (hb2.mono hb1.size)).alloc (Nat.le_trans hb1.size hb2.size) (.cells #[.int .i64 x.k, .string x.b] 24)
          have hx2 := HasLab.new w2 x.k x.b 24
          have hs1 := hq1.lt
          have hs2 := hb2.size
          clear hc1 hI hm1 hr1 hq1 hb1 hb2 ho h3
          go_wp2_with fail
          refine (next_any w.heap.size 0 m x.k x.b _ (by unfold maxLen; omega) hm2).mono ?_
          rintro e w3 ⟨rfl, hw3, hm3⟩
          have ex : (⟨x.k, x.b⟩ : Lab) = x := rfl
          rw [ex] at hm3 ⊢
          generalize hN : memNext m x = N at hl1 hl2 hl3 hl4 hm3 ⊢
          obtain ⟨y, m'⟩ := N
          simp only at hl1 hl2 hl3 hl4 hm3 ⊢
          have hysz : y.b.size ≤ maxLen := by
            have h1 := (labOk_iff _ _).1 hl1
            have h2 := labSize_bd y.k
            unfold maxLen; omega
          have hr3 := (hr2.wrote hw3 (by omega)).alloc (.cells #[.int .i64 y.k, .string y.b] 24)
          have hq3 := (hq2.wrote hw3 (by omega)).alloc (.cells #[.int .i64 y.k, .string y.b] 24)
          have hx3 := (hx2.wrote hw3 (by omega)).alloc (.cells #[.int .i64 y.k, .string y.b] 24)
          have hB3 := (Wrote.below hB2 hw3 hB2.size (Nat.le_refl _)).alloc (Nat.le_trans hB2.size hw3.size) (.cells #[.int .i64 y.k, .string y.b] 24)
          replace hm3 := hm3.alloc (.cells #[.int .i64 y.k, .string y.b] 24)
          have hy3 := HasLab.new w3 y.k y.b 24
          have hs3 := hx2.lt
          have hs4 := hw3.size
          clear hr2 hq2 hx2 hB2 hw3 hm2 hN
          have e0 := hy3.kind
          have e1 := hy3.text
          simp only [Nat.zero_add] at e1
          go_wp2_with fail
          refine (check_lit y.k y.b _ true hysz hl1).mono ?_
          rintro e w4 ⟨rfl, hb4⟩
          have hm4 := hm3.below hb4 hm3.lt
          have hr4 := hr3.below hb4 hr3.lt
          have hq4 := hq3.below hb4 hq3.lt
          have hx4 := hx3.below hb4 hx3.lt
          have hy4 := hy3.below hb4 hy3.lt
          have hB4 := hB3.trans (hb4.mono hB3.size)
          clear hm3 hr3 hq3 hx3 hB3 hy3 e0 e1 hb4
          have e0 := hy4.kind
          have e1 := hy4.text
          simp only [Nat.zero_add] at e1
          go_wp2_with fail
          refine (read_any (w.heap.size + 1) 0 m y.k y.b _ hysz hr4).mono ?_
          rintro e w5 ⟨rfl, hw5, hr5⟩
          have ey : (⟨y.k, y.b⟩ : Lab) = y := rfl
          rw [ey, hl2] at hr5 ⊢
          simp only at hr5 ⊢
          clear ex ey
          have hy5 := hy4.wrote hw5 (by omega)
          have hm5 := hm4.wrote hw5 (by omega)
          have hq5 := hq4.wrote hw5 (by omega)
          have hx5 := hx4.wrote hw5 (by omega)
          have hB5 := Wrote.below hB4 hw5 hB4.size (by omega)
          have hs5 := hy4.lt
          have hs6 := hw5.size
          clear hy4 hm4 hq4 hx4 hB4 hw5 e0 e1 hr4
          have c0 := hx5.kind
          have c1 := hx5.text
          have d0 := hq5.kind
          have d1 := hq5.text
          have z0 := hq5.free0
          have z1 := hq5.free1
          have y0 := hy5.kind
          have y1 := hy5.text
          simp only [Nat.zero_add] at c1 d1 z1 y1
          have n0 := block_lt c0
          have n1 := block_lt d0
          have n2 := block_lt y0
          have HM := Lib.hid (hm5.alloc (.cells #[.int .i64 x.k, .string x.b] 24))
          have HR := Lib.hid (hr5.alloc (.cells #[.int .i64 x.k, .string x.b] 24))
          have HQ := Lib.hid (hq5.alloc (.cells #[.int .i64 x.k, .string x.b] 24))
          have HB := Lib.hid (hB5.alloc hB5.size (.cells #[.int .i64 x.k, .string x.b] 24))
          clear hm5 hr5 hq5 hx5 hy5 hB5 hl1 hl2
          have hxx := labEq_self x.k x.b
          by_cases hk2 : x.k = 2
          · obtain ⟨hl5, hl6⟩ := hl4 hk2
            have hk3 : (x.k == 2) = true := by rw [beq_iff_eq]; exact hk2
            clear hl3 hl4
            clear hk2
            go_wp2_with fail
            refine ⟨⟨k + 1, m', q, by omega, by omega, by simp, hl6, HM.out, HR.out, HQ.out, HB.out⟩, ?_⟩
            show z.length - (((k : Int) + 1).toNat) < z.length - (k : Int).toNat
            omega
          · obtain ⟨hl5, hl6⟩ := hl3 hk2
            have hk3 : (x.k == 2) = false := by rw [beq_eq_false_iff_ne]; exact hk2
            clear hl3 hl4
            go_wp2_with fail
            go_quiet (fail)
            go_wp2_with fail
            have hq6 := (HQ.out.draws nq).set x
            have hm6 := ((HM.out.draws nq).setOther (p := ⟨w.heap.size + 2, 0, none⟩) (by simp) (.int .i64 x.k)).setOther (p := ⟨w.heap.size + 2, 1, none⟩) (by simp) (.string x.b)
            have hr6 := ((HR.out.draws nq).setOther (p := ⟨w.heap.size + 2, 0, none⟩) (by simp) (.int .i64 x.k)).setOther (p := ⟨w.heap.size + 2, 1, none⟩) (by simp) (.string x.b)
            simp only [Nat.zero_add] at hq6 hm6 hr6
            refine ⟨⟨k + 1, m', x, by omega, by omega, by simp, hl6, hm6, hr6, hq6, ((below_draws HB.out nq).setCell (by simp; omega) _).setCell (by simp; omega) _⟩, ?_⟩
            show z.length - (((k : Int) + 1).toNat) < z.length - (k : Int).toNat
            omega
    · by_cases hlt1 : k < z.length
      · have hd1 : decide ((k : Int) < (z.length : Int)) = true := by simp; omega
        have hd2 : decide ((k : Int) < 80) = false := by simp; omega
        go_wp2_with fail
        refine (works_any _).mono ?_
        rintro e w2 ⟨rfl, hb2⟩
        go_wp2
        go_ret
        exact ⟨rfl, hb1.trans (hb2.mono hb1.size)⟩
      · have hd1 : decide ((k : Int) < (z.length : Int)) = false := by simp; omega
        go_wp2_with fail
        refine (works_any _).mono ?_
        rintro e w2 ⟨rfl, hb2⟩
        go_wp2
        go_ret
        exact ⟨rfl, hb1.trans (hb2.mono hb1.size)⟩

theorem back_raw {H : Type} {enc : TypeId × Value → H} {base base' : Nat} {d d' : DataW H} {p p' : List MemPlace} (v v' : Value) (W : World)
    (hv : Value.okWide Try.prog W .any base 22 v) (h : DataW.Trod enc Try.prog W 0 (fun _ => true) true 22 v d p) (_ : ∀ x ∈ p, x.block < W.heap.size)
    (hv' : Value.okWide Try.prog W .any base' 22 v') (h' : DataW.Trod enc Try.prog W 0 (fun _ => true) true 22 v' d' p') (_ : ∀ x ∈ p', x.block < W.heap.size) :
    Calls Try.prog 6 #[v, v'] W fun e w' => e = .returned (.bool true) ∧ Below W.heap.size W w' := by
  obtain ⟨z, hz⟩ := open_bytes hv h
  obtain ⟨z', hz'⟩ := open_bytes hv' h'
  exact back_any v v' z z' W hz hz'

end Go.Proofs.Ytgbjecgkbhknmaa
