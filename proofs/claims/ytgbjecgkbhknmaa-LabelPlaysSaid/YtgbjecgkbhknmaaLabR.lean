/-
  The walks of the reference's memory of a label: keep, Next, Read.
-/
import Derived.Test.YtgbjecgkbhknmaaLabM
import Derived.Test.YtgbjecgkbhknmaaLabLike
namespace Go.Proofs.Ytgbjecgkbhknmaa
set_option linter.unusedVariables false
open Go.RowKit

/-- The three cells of the reference's memory. -/
structure HasRLab (w : World) (g o : Nat) (m : RLab) : Prop where
  lab : HasLab w g o m.l
  is : w.cell? ⟨g, o + 2, none⟩ = some (.bool m.is)
  free : w.frozen? ⟨g, o + 2, none⟩ = false

theorem HasRLab.lt {w : World} {g o : Nat} {m : RLab} (h : HasRLab w g o m) : g < w.heap.size := h.lab.lt

theorem HasRLab.below {w w' : World} {g o B : Nat} {m : RLab} (h : HasRLab w g o m) (hb : Below B w w') (hg : g < B) : HasRLab w' g o m :=
  ⟨h.lab.below hb hg, (hb.cell (p := ⟨g, o + 2, none⟩) hg).trans h.is, (hb.frozen (p := ⟨g, o + 2, none⟩) hg).trans h.free⟩

theorem HasRLab.setOther {w : World} {g o : Nat} {m : RLab} (h : HasRLab w g o m) {p : Addr} (hp : p.block ≠ g) (v : Value) : HasRLab (w.setCell p v) g o m :=
  ⟨h.lab.setOther hp v, (World.cell?_setCell_other _ _ _ _ (fun e => hp (by rw [e]))).trans h.is, by rw [World.frozen?_setCell]; exact h.free⟩

theorem HasRLab.wrote {w w' : World} {g o : Nat} {m : RLab} {g' o' n : Nat} (h : HasRLab w g o m) (hw : Wrote w w' g' o' n) (hne : g ≠ g') : HasRLab w' g o m :=
  ⟨h.lab.wrote hw hne, (hw.other (p := ⟨g, o + 2, none⟩) h.lt hne).trans h.is, (hw.other_frozen (p := ⟨g, o + 2, none⟩) h.lt hne).trans h.free⟩

theorem HasRLab.alloc {w : World} {g o : Nat} {m : RLab} (h : HasRLab w g o m) (x : Obj) : HasRLab (w.alloc x) g o m :=
  h.below ((Below.refl w.heap.size w).alloc (Nat.le_refl _) x) h.lt

theorem HasRLab.drew {w : World} {g o : Nat} {m : RLab} (h : HasRLab w g o m) : HasRLab w.drew g o m := ⟨h.lab.drew, h.is, h.free⟩

theorem HasRLab.set {w : World} {g o : Nat} {m : RLab} (h : HasRLab w g o m) (l : Lab) : HasRLab (((w.setCell ⟨g, o, none⟩ (.int .i64 l.k)).setCell ⟨g, o + 1, none⟩ (.string l.b)).setCell ⟨g, o + 2, none⟩ (.bool true)) g o ⟨l, true⟩ := by
  have h1 := h.lab.set l
  have e : ∀ (W : World) (v : Value) j, j ≠ o + 2 → (W.setCell ⟨g, o + 2, none⟩ v).cell? ⟨g, j, none⟩ = W.cell? ⟨g, j, none⟩ := fun W v j hj =>
    World.cell?_setCell_other _ _ _ _ (fun e => by simp only [Addr.mk.injEq] at e; omega)
  refine ⟨⟨(e _ _ _ (by omega)).trans h1.kind, (e _ _ _ (by omega)).trans h1.text, by rw [World.frozen?_setCell]; exact h1.free0, by rw [World.frozen?_setCell]; exact h1.free1⟩, ?_, by rw [World.frozen?_setCell, World.frozen?_setCell, World.frozen?_setCell]; exact h.free⟩
  refine World.cell?_setCell_same' _ _ _ ?_
  rw [World.cell?_setCell_other _ _ _ _ (fun e => by simp only [Addr.mk.injEq] at e; omega), World.cell?_setCell_other _ _ _ _ (fun e => by simp only [Addr.mk.injEq] at e; omega), h.is]; rfl

set_option maxHeartbeats 400000 in
theorem rkeep_any (g o : Nat) (m : RLab) (k : Int) (b : ByteArray) (w : World) (hb : b.size ≤ maxLen) (hm : HasRLab w g o m) :
    Calls Try.prog 23 #[.pointer (some ⟨g, o, none⟩), .agg #[.int .i64 k, .string b]] w fun e w' => e = .returned (.tuple #[]) ∧ Wrote w w' g o 3 ∧ HasRLab w' g o (refKeep m ⟨k, b⟩) := by
  have hg := hm.lt
  have HL := Lib.hid hm
  clear hm
  go_enter Try.func23, Try.ntmps23
  go_wp2_with fail
  refine (may_any _ _ _ hb).mono ?_
  rintro e w1 ⟨rfl, hb1⟩
  have hB : Below w.heap.size w w1 := ((Below.refl _ _).alloc (Nat.le_refl _) _).trans (hb1.mono (by simp))
  have p := (HasLab.new w k b 24).below hb1 (by simp)
  have f0 := p.kind
  have f1 := p.text
  simp only [Nat.zero_add] at f1
  have hm2 := HL.out.below hB hg
  clear hb1 p
  cases hO : labOk k b with
  | true =>
    by_cases hz : 0 < b.size
    · have c0 := hm2.lab.kind
      have c1 := hm2.lab.text
      have c2 := hm2.is
      have z0 := hm2.lab.free0
      have z1 := hm2.lab.free1
      have z2 := hm2.free
      have HM := Lib.hid hm2
      clear hm2
      have hz' : (0 : Int) < (b.size : Int) := by omega
      go_wp2
      go_end0
      refine ⟨rfl, (((Wrote.of_below hB hg).set (Nat.le_refl _) (by omega) _).set (by omega) (by omega) _).set (by omega) (by omega) _, ?_⟩
      rw [refKeep, if_pos ⟨hO, hz⟩]
      exact HM.out.set ⟨k, b⟩
    · have hz' : (b.size : Int) = 0 := by omega
      have hz2 : b.size = 0 := by omega
      have HM := Lib.hid hm2
      clear hm2
      go_wp2
      go_end0
      refine ⟨rfl, Wrote.of_below hB hg, ?_⟩
      rw [refKeep, if_neg (fun h => by have h2 : 0 < b.size := h.2; omega)]
      exact HM.out
  | false =>
    have HM := Lib.hid hm2
    clear hm2
    go_wp2
    go_end0
    refine ⟨rfl, Wrote.of_below hB hg, ?_⟩
    rw [refKeep, if_neg (by rw [hO]; simp)]
    exact HM.out

set_option maxHeartbeats 400000 in
theorem rnext_hit (g o : Nat) (m : RLab) (k : Int) (b : ByteArray) (w : World) (hb : b.size ≤ maxLen) (hm : HasRLab w g o m) (hh : refHit m ⟨k, b⟩ = true) :
    Calls Try.prog 17 #[.pointer (some ⟨g, o, none⟩), .agg #[.int .i64 k, .string b]] w fun e w' => e = .returned (.agg #[.int .i64 3, .string ByteArray.empty]) ∧ Below w.heap.size w w' := by
  have hg := hm.lt
  have c0 := hm.lab.kind
  have c1 := hm.lab.text
  have c2 := hm.is
  simp only [refHit, Bool.and_eq_true] at hh
  obtain ⟨h1, h2⟩ := hh
  rw [h1] at c2
  have heq := label_eql
  have HL := Lib.hid hm
  clear hm h1
  go_enter Try.func17, Try.ntmps17
  go_wp2
  go_quiet (fail)
  go_wp2
  exact bodyPost_ret (v := .agg #[.int .i64 3, .string ⟨#[]⟩]) (by simp [results, Try.results17, go_sem]) rfl
    ⟨rfl, ((below_draws (((Below.refl _ _).alloc (Nat.le_refl _) _).alloc (by simp) _) nq).setCell (by simp) _).setCell (by simp) _⟩

set_option maxHeartbeats 400000 in
theorem rnext_miss (g o : Nat) (m : RLab) (k : Int) (b : ByteArray) (w : World) (hb : b.size ≤ maxLen) (hm : HasRLab w g o m) (hh : refHit m ⟨k, b⟩ = false) :
    Calls Try.prog 17 #[.pointer (some ⟨g, o, none⟩), .agg #[.int .i64 k, .string b]] w fun e w' => e = .returned (.agg #[.int .i64 k, .string b]) ∧ Wrote w w' g o 3 ∧ HasRLab w' g o (refKeep m ⟨k, b⟩) := by
  have hg := hm.lt
  have c0 := hm.lab.kind
  have c1 := hm.lab.text
  have c2 := hm.is
  have heq := label_eql
  have HL := Lib.hid hm
  clear hm
  cases h1 : m.is with
  | false =>
    rw [h1] at c2
    clear h1 hh
    go_enter Try.func17, Try.ntmps17
    go_wp2
    go_quiet (fail)
    go_wp2_with fail
    have hB : Below w.heap.size w (((w.alloc (.cells #[.int .i64 k, .string b] 24)).alloc (.cells #[.int .i64 0, .string ⟨#[]⟩] 24)).drewN nq) := below_draws (((Below.refl _ _).alloc (Nat.le_refl _) _).alloc (by simp) _) nq
    have hp : HasLab (((w.alloc (.cells #[.int .i64 k, .string b] 24)).alloc (.cells #[.int .i64 0, .string ⟨#[]⟩] 24)).drewN nq) w.heap.size 0 ⟨k, b⟩ :=
      ((HasLab.new w k b 24).alloc _).draws nq
    have hq : HasLab (((w.alloc (.cells #[.int .i64 k, .string b] 24)).alloc (.cells #[.int .i64 0, .string ⟨#[]⟩] 24)).drewN nq) (w.heap.size + 1) 0 ⟨0, ⟨#[]⟩⟩ := by
      have := (HasLab.new (w.alloc (.cells #[.int .i64 k, .string b] 24)) 0 ⟨#[]⟩ 24).draws nq
      rwa [World.size_alloc] at this
    have hm := HL.out.below hB hg
    refine (rkeep_any g o m k b _ hb hm).mono ?_
    rintro e w1 ⟨rfl, hw1, hm1⟩
    have hp1 := hp.wrote hw1 (by omega)
    have hq1 := hq.wrote hw1 (by omega)
    have f0 := hp1.kind
    have f1 := hp1.text
    have q0 := hq1.kind
    have q1 := hq1.text
    have z0 := hq1.free0
    have z1 := hq1.free1
    have hs1 := hq1.lt
    simp only [Nat.zero_add] at f1 q1 z1
    have HW := Lib.hid ((Wrote.of_below (o := o) (n := 3) hB hg).trans hw1)
    have HQ := Lib.hid hq1
    clear hB hm hw1 hp hq hp1 hq1
    go_wp2
    have hr := HQ.out.set ⟨k, b⟩
    have r0 := hr.kind
    have r1 := hr.text
    exact bodyPost_ret (v := .agg #[.int .i64 k, .string b]) (by simp [results, Try.results17, go_sem, r0, r1]) rfl
      ⟨rfl, (HW.out.setNew hg (by simp) _).setNew hg (by simp) _, (hm1.setOther (by simp; omega) _).setOther (by simp; omega) _⟩
  | true =>
    rw [h1] at c2
    simp only [refHit, h1, Bool.true_and] at hh
    clear h1
    go_enter Try.func17, Try.ntmps17
    go_wp2
    go_quiet (fail)
    go_wp2_with fail
    have hB : Below w.heap.size w (((w.alloc (.cells #[.int .i64 k, .string b] 24)).alloc (.cells #[.int .i64 0, .string ⟨#[]⟩] 24)).drewN nq) := below_draws (((Below.refl _ _).alloc (Nat.le_refl _) _).alloc (by simp) _) nq
    have hp : HasLab (((w.alloc (.cells #[.int .i64 k, .string b] 24)).alloc (.cells #[.int .i64 0, .string ⟨#[]⟩] 24)).drewN nq) w.heap.size 0 ⟨k, b⟩ :=
      ((HasLab.new w k b 24).alloc _).draws nq
    have hq : HasLab (((w.alloc (.cells #[.int .i64 k, .string b] 24)).alloc (.cells #[.int .i64 0, .string ⟨#[]⟩] 24)).drewN nq) (w.heap.size + 1) 0 ⟨0, ⟨#[]⟩⟩ := by
      have := (HasLab.new (w.alloc (.cells #[.int .i64 k, .string b] 24)) 0 ⟨#[]⟩ 24).draws nq
      rwa [World.size_alloc] at this
    have hm := HL.out.below hB hg
    refine (rkeep_any g o m k b _ hb hm).mono ?_
    rintro e w1 ⟨rfl, hw1, hm1⟩
    have hp1 := hp.wrote hw1 (by omega)
    have hq1 := hq.wrote hw1 (by omega)
    have f0 := hp1.kind
    have f1 := hp1.text
    have q0 := hq1.kind
    have q1 := hq1.text
    have z0 := hq1.free0
    have z1 := hq1.free1
    have hs1 := hq1.lt
    simp only [Nat.zero_add] at f1 q1 z1
    have HW := Lib.hid ((Wrote.of_below (o := o) (n := 3) hB hg).trans hw1)
    have HQ := Lib.hid hq1
    clear hB hm hw1 hp hq hp1 hq1
    go_wp2
    have hr := HQ.out.set ⟨k, b⟩
    have r0 := hr.kind
    have r1 := hr.text
    exact bodyPost_ret (v := .agg #[.int .i64 k, .string b]) (by simp [results, Try.results17, go_sem, r0, r1]) rfl
      ⟨rfl, (HW.out.setNew hg (by simp) _).setNew hg (by simp) _, (hm1.setOther (by simp; omega) _).setOther (by simp; omega) _⟩

theorem rnext_any (g o : Nat) (m : RLab) (k : Int) (b : ByteArray) (w : World) (hb : b.size ≤ maxLen) (hm : HasRLab w g o m) :
    Calls Try.prog 17 #[.pointer (some ⟨g, o, none⟩), .agg #[.int .i64 k, .string b]] w fun e w' => e = .returned (.agg #[.int .i64 (refNext m ⟨k, b⟩).1.k, .string (refNext m ⟨k, b⟩).1.b]) ∧ Wrote w w' g o 3 ∧ HasRLab w' g o (refNext m ⟨k, b⟩).2 := by
  cases hh : refHit m ⟨k, b⟩ with
  | true =>
    rw [refNext, if_pos hh]
    exact (rnext_hit g o m k b w hb hm hh).mono fun e w' ⟨he, hw⟩ => ⟨he, Wrote.of_below hw hm.lt, hm.below hw hm.lt⟩
  | false =>
    rw [refNext, if_neg (by rw [hh]; simp)]
    exact rnext_miss g o m k b w hb hm hh

set_option maxHeartbeats 400000 in
theorem rread_bad (g o : Nat) (k : Int) (b : ByteArray) (w : World) (hb : b.size ≤ maxLen) (hO : labOk k b = false) :
    Calls Try.prog 19 #[.pointer (some ⟨g, o, none⟩), .agg #[.int .i64 k, .string b]] w fun e w' => e = .returned (.tuple #[.agg #[.int .i64 0, .string ByteArray.empty], .int .i64 2]) ∧ Below w.heap.size w w' := by
  go_enter Try.func19, Try.ntmps19
  go_wp2_with fail
  refine (may_any _ _ _ hb).mono ?_
  rintro e w1 ⟨rfl, hb1⟩
  rw [hO]
  have hB : Below w.heap.size w w1 := (((Below.refl _ _).alloc (Nat.le_refl _) _).alloc (by simp) _).trans (hb1.mono (by simp; omega))
  have q := (HasLab.new (w.alloc (.cells #[.int .i64 k, .string b] 24)) 0 ⟨#[]⟩ 24).below hb1 (by simp)
  rw [World.size_alloc] at q
  have q0 := q.kind
  have q1 := q.text
  have z0 := q.free0
  have z1 := q.free1
  have hs1 := q.lt
  simp only [Nat.zero_add] at q1 z1
  have HQ := Lib.hid q
  clear hb1 q hO
  go_wp2
  have hr := HQ.out.set ⟨0, ⟨#[]⟩⟩
  have r0 := hr.kind
  have r1 := hr.text
  exact bodyPost_ret (v := .tuple #[.agg #[.int .i64 0, .string ⟨#[]⟩], .int .i64 2]) (by simp [results, Try.results19, go_sem, r0, r1]) rfl
    ⟨rfl, (hB.setCell (by simp) _).setCell (by simp) _⟩

set_option maxHeartbeats 400000 in
theorem rread_keep (g o : Nat) (m : RLab) (k : Int) (b : ByteArray) (w : World) (hb : b.size ≤ maxLen) (hm : HasRLab w g o m) (hO : labOk k b = true) (hk : ¬ k = 3) :
    Calls Try.prog 19 #[.pointer (some ⟨g, o, none⟩), .agg #[.int .i64 k, .string b]] w fun e w' => e = .returned (.tuple #[.agg #[.int .i64 k, .string b], .int .i64 0]) ∧ Wrote w w' g o 3 ∧ HasRLab w' g o (refKeep m ⟨k, b⟩) := by
  have hg := hm.lt
  have HL := Lib.hid hm
  have hk3 : (k == 3) = false := by rw [beq_eq_false_iff_ne]; exact hk
  clear hm hk
  go_enter Try.func19, Try.ntmps19
  go_wp2_with fail
  refine (may_any _ _ _ hb).mono ?_
  rintro e w1 ⟨rfl, hb1⟩
  rw [hO]
  have hB : Below w.heap.size w w1 := (((Below.refl _ _).alloc (Nat.le_refl _) _).alloc (by simp) _).trans (hb1.mono (by simp; omega))
  have p := ((HasLab.new w k b 24).alloc (.cells #[.int .i64 0, .string ⟨#[]⟩] 24)).below hb1 (by simp; omega)
  have q := (HasLab.new (w.alloc (.cells #[.int .i64 k, .string b] 24)) 0 ⟨#[]⟩ 24).below hb1 (by simp)
  rw [World.size_alloc] at q
  have p0 := p.kind
  have p1 := p.text
  simp only [Nat.zero_add] at p1
  have hm := HL.out.below hB hg
  clear hb1 hO
  go_wp2_with fail
  refine (rkeep_any g o m k b _ hb hm).mono ?_
  rintro e w2 ⟨rfl, hw2, hm2⟩
  have hp1 := p.wrote hw2 (by omega)
  have hq1 := q.wrote hw2 (by omega)
  have f0 := hp1.kind
  have f1 := hp1.text
  have q0 := hq1.kind
  have q1 := hq1.text
  have z0 := hq1.free0
  have z1 := hq1.free1
  have hs1 := hq1.lt
  simp only [Nat.zero_add] at f1 q1 z1
  have HW := Lib.hid ((Wrote.of_below (o := o) (n := 3) hB hg).trans hw2)
  have HQ := Lib.hid hq1
  clear hB hm hw2 p q hp1 hq1 p0 p1
  go_wp2
  have hr := HQ.out.set ⟨k, b⟩
  have r0 := hr.kind
  have r1 := hr.text
  exact bodyPost_ret (v := .tuple #[.agg #[.int .i64 k, .string b], .int .i64 0]) (by simp [results, Try.results19, go_sem, r0, r1]) rfl
    ⟨rfl, (HW.out.setNew hg (by simp) _).setNew hg (by simp) _, (hm2.setOther (by simp; omega) _).setOther (by simp; omega) _⟩

set_option maxHeartbeats 400000 in
theorem rread_none (g o : Nat) (m : RLab) (b : ByteArray) (w : World) (hb : b.size ≤ maxLen) (hm : HasRLab w g o m) (hO : labOk 3 b = true) (hz : m.is = false) :
    Calls Try.prog 19 #[.pointer (some ⟨g, o, none⟩), .agg #[.int .i64 3, .string b]] w fun e w' => e = .returned (.tuple #[.agg #[.int .i64 0, .string ⟨#[]⟩], .int .i64 17]) ∧ Below w.heap.size w w' := by
  have hg := hm.lt
  have HL := Lib.hid hm
  clear hm
  go_enter Try.func19, Try.ntmps19
  go_wp2_with fail
  refine (may_any _ _ _ hb).mono ?_
  rintro e w1 ⟨rfl, hb1⟩
  rw [hO]
  have hB : Below w.heap.size w w1 := (((Below.refl _ _).alloc (Nat.le_refl _) _).alloc (by simp) _).trans (hb1.mono (by simp; omega))
  have p := ((HasLab.new w 3 b 24).alloc (.cells #[.int .i64 0, .string ⟨#[]⟩] 24)).below hb1 (by simp; omega)
  have q := (HasLab.new (w.alloc (.cells #[.int .i64 3, .string b] 24)) 0 ⟨#[]⟩ 24).below hb1 (by simp)
  rw [World.size_alloc] at q
  have p0 := p.kind
  have p1 := p.text
  have q0 := q.kind
  have q1 := q.text
  have z0 := q.free0
  have z1 := q.free1
  have hs1 := q.lt
  simp only [Nat.zero_add] at p1 q1 z1
  have hm := HL.out.below hB hg
  have c0 := hm.lab.kind
  have c1 := hm.lab.text
  have c2 := hm.is
  rw [hz] at c2
  have HQ := Lib.hid q
  clear hb1 hO p q hm hz
  go_wp2
  have hr := HQ.out.set ⟨0, ⟨#[]⟩⟩
  have r0 := hr.kind
  have r1 := hr.text
  exact bodyPost_ret (v := .tuple #[.agg #[.int .i64 0, .string ⟨#[]⟩], .int .i64 17]) (by simp [results, Try.results19, go_sem, r0, r1]) rfl
    ⟨rfl, (hB.setCell (by simp) _).setCell (by simp) _⟩

set_option maxHeartbeats 400000 in
theorem rread_same (g o : Nat) (m : RLab) (b : ByteArray) (w : World) (hb : b.size ≤ maxLen) (hm : HasRLab w g o m) (hO : labOk 3 b = true) (hz : m.is = true) :
    Calls Try.prog 19 #[.pointer (some ⟨g, o, none⟩), .agg #[.int .i64 3, .string b]] w fun e w' => e = .returned (.tuple #[.agg #[.int .i64 m.l.k, .string m.l.b], .int .i64 0]) ∧ Below w.heap.size w w' := by
  have hg := hm.lt
  have HL := Lib.hid hm
  clear hm
  go_enter Try.func19, Try.ntmps19
  go_wp2_with fail
  refine (may_any _ _ _ hb).mono ?_
  rintro e w1 ⟨rfl, hb1⟩
  rw [hO]
  have hB : Below w.heap.size w w1 := (((Below.refl _ _).alloc (Nat.le_refl _) _).alloc (by simp) _).trans (hb1.mono (by simp; omega))
  have p := ((HasLab.new w 3 b 24).alloc (.cells #[.int .i64 0, .string ⟨#[]⟩] 24)).below hb1 (by simp; omega)
  have q := (HasLab.new (w.alloc (.cells #[.int .i64 3, .string b] 24)) 0 ⟨#[]⟩ 24).below hb1 (by simp)
  rw [World.size_alloc] at q
  have p0 := p.kind
  have p1 := p.text
  have q0 := q.kind
  have q1 := q.text
  have z0 := q.free0
  have z1 := q.free1
  have hs1 := q.lt
  simp only [Nat.zero_add] at p1 q1 z1
  have hm := HL.out.below hB hg
  have c0 := hm.lab.kind
  have c1 := hm.lab.text
  have c2 := hm.is
  rw [hz] at c2
  have HQ := Lib.hid q
  clear hb1 hO p q hm hz
  go_wp2
  have hr := HQ.out.set m.l
  have r0 := hr.kind
  have r1 := hr.text
  exact bodyPost_ret (v := .tuple #[.agg #[.int .i64 m.l.k, .string m.l.b], .int .i64 0]) (by simp [results, Try.results19, go_sem, r0, r1]) rfl
    ⟨rfl, (hB.setCell (by simp) _).setCell (by simp) _⟩

theorem rread_any (g o : Nat) (m : RLab) (k : Int) (b : ByteArray) (w : World) (hb : b.size ≤ maxLen) (hm : HasRLab w g o m) :
    Calls Try.prog 19 #[.pointer (some ⟨g, o, none⟩), .agg #[.int .i64 k, .string b]] w fun e w' =>
      e = .returned (.tuple #[.agg #[.int .i64 (refRead m ⟨k, b⟩).1.1.k, .string (refRead m ⟨k, b⟩).1.1.b], .int .i64 (refRead m ⟨k, b⟩).1.2]) ∧ Wrote w w' g o 3 ∧ HasRLab w' g o (refRead m ⟨k, b⟩).2 := by
  cases hO : labOk k b with
  | false =>
    rw [refRead, if_neg (by rw [hO]; simp)]
    exact (rread_bad g o k b w hb hO).mono fun e w' ⟨he, hw⟩ => ⟨he, Wrote.of_below hw hm.lt, hm.below hw hm.lt⟩
  | true =>
    rw [refRead, if_pos hO]
    by_cases hk : k = 3
    · subst hk
      rw [if_pos rfl]
      cases hz : m.is with
      | false =>
        rw [if_neg (by simp)]
        exact (rread_none g o m b w hb hm hO hz).mono fun e w' ⟨he, hw⟩ => ⟨he, Wrote.of_below hw hm.lt, hm.below hw hm.lt⟩
      | true =>
        rw [if_pos rfl]
        exact (rread_same g o m b w hb hm hO hz).mono fun e w' ⟨he, hw⟩ => ⟨he, Wrote.of_below hw hm.lt, hm.below hw hm.lt⟩
    · rw [if_neg hk]
      exact rread_keep g o m k b w hb hm hO hk

end Go.Proofs.Ytgbjecgkbhknmaa
