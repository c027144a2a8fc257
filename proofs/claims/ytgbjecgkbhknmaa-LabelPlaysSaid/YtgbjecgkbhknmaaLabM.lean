/-
  The walks of label.Memory: keep, Next, Read, Reset.
-/
import Derived.Test.YtgbjecgkbhknmaaLabB
namespace Go.Proofs.Ytgbjecgkbhknmaa
set_option linter.unusedVariables false
open Go.RowKit

/-- The two cells of a label's memory. -/
structure HasLab (w : World) (g o : Nat) (m : Lab) : Prop where
  kind : w.cell? ⟨g, o, none⟩ = some (.int .i64 m.k)
  text : w.cell? ⟨g, o + 1, none⟩ = some (.string m.b)
  free0 : w.frozen? ⟨g, o, none⟩ = false
  free1 : w.frozen? ⟨g, o + 1, none⟩ = false

theorem HasLab.lt {w : World} {g o : Nat} {m : Lab} (h : HasLab w g o m) : g < w.heap.size := block_lt h.kind

theorem HasLab.below {w w' : World} {g o B : Nat} {m : Lab} (h : HasLab w g o m) (hb : Below B w w') (hg : g < B) : HasLab w' g o m :=
  ⟨(hb.cell (p := ⟨g, o, none⟩) hg).trans h.kind, (hb.cell (p := ⟨g, o + 1, none⟩) hg).trans h.text, (hb.frozen (p := ⟨g, o, none⟩) hg).trans h.free0, (hb.frozen (p := ⟨g, o + 1, none⟩) hg).trans h.free1⟩

theorem HasLab.set {w : World} {g o : Nat} {m : Lab} (h : HasLab w g o m) (l : Lab) : HasLab ((w.setCell ⟨g, o, none⟩ (.int .i64 l.k)).setCell ⟨g, o + 1, none⟩ (.string l.b)) g o l := by
  have h1 : (w.setCell ⟨g, o, none⟩ (.int .i64 l.k)).cell? ⟨g, o + 1, none⟩ = some (.string m.b) := by
    rw [World.cell?_setCell_other _ _ _ _ (fun e => by simp only [Addr.mk.injEq] at e; omega)]; exact h.text
  refine ⟨?_, ?_, ?_, ?_⟩
  · rw [World.cell?_setCell_other _ _ _ _ (fun e => by simp only [Addr.mk.injEq] at e; omega)]
    exact World.cell?_setCell_same' _ _ _ (by rw [h.kind]; rfl)
  · exact World.cell?_setCell_same' _ _ _ (by rw [h1]; rfl)
  · rw [World.frozen?_setCell, World.frozen?_setCell]; exact h.free0
  · rw [World.frozen?_setCell, World.frozen?_setCell]; exact h.free1

theorem HasLab.setOther {w : World} {g o : Nat} {m : Lab} (h : HasLab w g o m) {p : Addr} (hp : p.block ≠ g) (v : Value) : HasLab (w.setCell p v) g o m := by
  have e : ∀ j, (w.setCell p v).cell? ⟨g, j, none⟩ = w.cell? ⟨g, j, none⟩ := fun j => World.cell?_setCell_other _ _ _ _ (fun e => hp (by rw [e]))
  exact ⟨(e _).trans h.kind, (e _).trans h.text, by rw [World.frozen?_setCell]; exact h.free0, by rw [World.frozen?_setCell]; exact h.free1⟩

theorem HasLab.wrote {w w' : World} {g o : Nat} {m : Lab} {g' o' n : Nat} (h : HasLab w g o m) (hw : Wrote w w' g' o' n) (hne : g ≠ g') : HasLab w' g o m :=
  ⟨(hw.other (p := ⟨g, o, none⟩) h.lt hne).trans h.kind, (hw.other (p := ⟨g, o + 1, none⟩) h.lt hne).trans h.text, (hw.other_frozen (p := ⟨g, o, none⟩) h.lt hne).trans h.free0, (hw.other_frozen (p := ⟨g, o + 1, none⟩) h.lt hne).trans h.free1⟩

theorem HasLab.draws {w : World} {g o : Nat} {m : Lab} (h : HasLab w g o m) (n : Nat) : HasLab (w.drewN n) g o m := ⟨h.kind, h.text, h.free0, h.free1⟩

theorem HasLab.drew {w : World} {g o : Nat} {m : Lab} (h : HasLab w g o m) : HasLab w.drew g o m := ⟨h.kind, h.text, h.free0, h.free1⟩

theorem HasLab.new (w : World) (k : Int) (b : ByteArray) (t : TypeId) : HasLab (w.alloc (.cells #[.int .i64 k, .string b] t)) w.heap.size 0 ⟨k, b⟩ :=
  ⟨by simp, by simp, by simp, by simp⟩

set_option maxHeartbeats 400000 in
theorem keep_any (g o : Nat) (m : Lab) (k : Int) (b : ByteArray) (w : World) (hb : b.size ≤ maxLen) (hm : HasLab w g o m) :
    Calls Try.prog 22 #[.pointer (some ⟨g, o, none⟩), .agg #[.int .i64 k, .string b]] w fun e w' => e = .returned (.tuple #[]) ∧ Wrote w w' g o 2 ∧ HasLab w' g o (memKeep m ⟨k, b⟩) := by
  have hg := hm.lt
  go_enter Try.func22, Try.ntmps22
  go_wp2_with fail
  refine (size_any _ _).mono ?_
  rintro e w1 ⟨rfl, hb1⟩
  have hB : Below w.heap.size w w1 := ((Below.refl _ _).alloc (Nat.le_refl _) _).trans (hb1.mono (by simp))
  have f0 : w1.cell? ⟨w.heap.size, 0, none⟩ = some (.int .i64 k) := (hb1.cell (p := ⟨w.heap.size, 0, none⟩) (by simp)).trans (by simp)
  have f1 : w1.cell? ⟨w.heap.size, 1, none⟩ = some (.string b) := (hb1.cell (p := ⟨w.heap.size, 1, none⟩) (by simp)).trans (by simp)
  have hs1 : w.heap.size < w1.heap.size := by have := hb1.size; simp at this; omega
  clear hb1
  by_cases hz : 0 < labSize k
  · go_wp2_with fail
    refine (check_any _ _ _ hb).mono ?_
    rintro e w2 ⟨rfl, hb2⟩
    have hB2 : Below w.heap.size w w2 := hB.trans (hb2.mono hB.size)
    have f0' := (hb2.cell (p := ⟨w.heap.size, 0, none⟩) hs1).trans f0
    have f1' := (hb2.cell (p := ⟨w.heap.size, 1, none⟩) hs1).trans f1
    clear hb2 f0 f1 hB
    have hm2 := hm.below hB2 hg
    cases hO : labOk k b with
    | true =>
      have c0 := hm2.kind
      have c1 := hm2.text
      have z0 := hm2.free0
      have z1 := hm2.free1
      go_wp2
      go_end0
      refine ⟨rfl, ((Wrote.of_below hB2 hg).set (Nat.le_refl _) (by omega) _).set (by omega) (by omega) _, ?_⟩
      rw [memKeep, if_pos ⟨hz, hO⟩]
      exact hm2.set ⟨k, b⟩
    | false =>
      go_wp2
      go_end0
      refine ⟨rfl, Wrote.of_below hB2 hg, ?_⟩
      rw [memKeep, if_neg (by rw [hO]; simp)]
      exact hm2
  · go_wp2
    go_end0
    refine ⟨rfl, Wrote.of_below hB hg, ?_⟩
    rw [memKeep, if_neg (fun h => by have h1 : 0 < labSize k := h.1; omega)]
    exact hm.below hB hg

theorem HasLab.alloc {w : World} {g o : Nat} {m : Lab} (h : HasLab w g o m) (x : Obj) : HasLab (w.alloc x) g o m :=
  h.below ((Below.refl w.heap.size w).alloc (Nat.le_refl _) x) h.lt

set_option maxHeartbeats 400000 in
theorem next_hit (g o : Nat) (m : Lab) (k : Int) (b : ByteArray) (w : World) (hb : b.size ≤ maxLen) (hm : HasLab w g o m) (hh : memHit m ⟨k, b⟩ = true) :
    Calls Try.prog 10 #[.pointer (some ⟨g, o, none⟩), .agg #[.int .i64 k, .string b]] w fun e w' => e = .returned (.agg #[.int .i64 3, .string ByteArray.empty]) ∧ Below w.heap.size w w' := by
  have hg := hm.lt
  have c0 := hm.kind
  have c1 := hm.text
  simp only [memHit, Bool.and_eq_true, decide_eq_true_eq] at hh
  obtain ⟨h1, h2⟩ := hh
  have heq := label_eql
  have e1 : m.b.toList.isEmpty = false := by
    rw [ByteArray.toList_eq]; cases h : m.b.data.toList with
    | nil => exact absurd (by have := congrArg List.length h; simpa using this : m.b.data.size = 0) h1
    | cons x l => rfl
  have e2 : ¬ m.b.toList = [] := by intro h; rw [h] at e1; cases e1
  have HL := Lib.hid hm
  clear hm h1
  go_enter Try.func10, Try.ntmps10
  go_wp2
  go_quiet (fail)
  go_wp2
  exact bodyPost_ret (v := .agg #[.int .i64 3, .string ⟨#[]⟩]) (by simp [results, Try.results10, go_sem]) rfl
    ⟨rfl, ((below_draws (((Below.refl _ _).alloc (Nat.le_refl _) _).alloc (by simp) _) nq).setCell (by simp) _).setCell (by simp) _⟩

set_option maxHeartbeats 400000 in
theorem next_miss (g o : Nat) (m : Lab) (k : Int) (b : ByteArray) (w : World) (hb : b.size ≤ maxLen) (hm : HasLab w g o m) (hh : memHit m ⟨k, b⟩ = false) :
    Calls Try.prog 10 #[.pointer (some ⟨g, o, none⟩), .agg #[.int .i64 k, .string b]] w fun e w' => e = .returned (.agg #[.int .i64 k, .string b]) ∧ Wrote w w' g o 2 ∧ HasLab w' g o (memKeep m ⟨k, b⟩) := by
  have hg := hm.lt
  have c0 := hm.kind
  have c1 := hm.text
  have heq := label_eql
  have HL := Lib.hid hm
  clear hm
  by_cases h1 : m.b.size = 0
  · have e1 : m.b.toList.isEmpty = true := by
      have h0 : m.b.data.size = 0 := h1
      rw [ByteArray.toList_eq, Array.eq_empty_of_size_eq_zero h0]; rfl
    have e2 : m.b.toList = [] := by simpa using e1
    clear h1 hh
    go_enter Try.func10, Try.ntmps10
    go_wp2
    go_quiet (fail)
    go_wp2_with fail
    have hB : Below w.heap.size w (((w.alloc (.cells #[.int .i64 k, .string b] 24)).alloc (.cells #[.int .i64 0, .string ⟨#[]⟩] 24)).drewN nq) := below_draws (((Below.refl _ _).alloc (Nat.le_refl _) _).alloc (by simp) _) nq
    have hp : HasLab (((w.alloc (.cells #[.int .i64 k, .string b] 24)).alloc (.cells #[.int .i64 0, .string ⟨#[]⟩] 24)).drewN nq) w.heap.size 0 ⟨k, b⟩ :=
      ((HasLab.new w k b 24).alloc _).draws nq
    have hq : HasLab (((w.alloc (.cells #[.int .i64 k, .string b] 24)).alloc (.cells #[.int .i64 0, .string ⟨#[]⟩] 24)).drewN nq) (w.heap.size + 1) 0 ⟨0, ⟨#[]⟩⟩ := by
      have := (HasLab.new (w.alloc (.cells #[.int .i64 k, .string b] 24)) 0 ⟨#[]⟩ 24).draws nq
      rwa [World.size_alloc] at this
    have hm := HL.out.below hB hg
    refine (keep_any g o m k b _ hb hm).mono ?_
    rintro e w1 ⟨rfl, hw1, hm1⟩
    have hp1 := hp.wrote hw1 (by omega)
    have hq1 := hq.wrote hw1 (by omega)
    have f0 := hp1.kind
    have f1 := hp1.text
    have q0 := hq1.kind
    have q1 := hq1.text
    have z0 := hq1.free0
    have z1 := hq1.free1
    have hs1 := hq1.lt
    simp only [Nat.zero_add] at f1 q1 z1
    have HW := Lib.hid ((Wrote.of_below (o := o) (n := 2) hB hg).trans hw1)
    have HQ := Lib.hid hq1
    clear hB hm hw1 hp hq hp1 hq1
    go_wp2
    have hr := HQ.out.set ⟨k, b⟩
    have r0 := hr.kind
    have r1 := hr.text
    exact bodyPost_ret (v := .agg #[.int .i64 k, .string b]) (by simp [results, Try.results10, go_sem, r0, r1]) rfl
      ⟨rfl, (HW.out.setNew hg (by simp) _).setNew hg (by simp) _, (hm1.setOther (by simp; omega) _).setOther (by simp; omega) _⟩
  · have h2 : labEq m.k m.b k b = false := by
      simp only [memHit, Bool.and_eq_false_iff, decide_eq_false_iff_not] at hh
      rcases hh with hh | hh
      · exact absurd h1 hh
      · exact hh
    have e1 : m.b.toList.isEmpty = false := by
      rw [ByteArray.toList_eq]; cases h : m.b.data.toList with
      | nil => exact absurd (by have := congrArg List.length h; simpa using this : m.b.data.size = 0) h1
      | cons x l => rfl
    have e2 : ¬ m.b.toList = [] := by intro h; rw [h] at e1; cases e1
    clear h1 hh
    go_enter Try.func10, Try.ntmps10
    go_wp2
    go_quiet (fail)
    go_wp2_with fail
    have hB : Below w.heap.size w (((w.alloc (.cells #[.int .i64 k, .string b] 24)).alloc (.cells #[.int .i64 0, .string ⟨#[]⟩] 24)).drewN nq) := below_draws (((Below.refl _ _).alloc (Nat.le_refl _) _).alloc (by simp) _) nq
    have hp : HasLab (((w.alloc (.cells #[.int .i64 k, .string b] 24)).alloc (.cells #[.int .i64 0, .string ⟨#[]⟩] 24)).drewN nq) w.heap.size 0 ⟨k, b⟩ :=
      ((HasLab.new w k b 24).alloc _).draws nq
    have hq : HasLab (((w.alloc (.cells #[.int .i64 k, .string b] 24)).alloc (.cells #[.int .i64 0, .string ⟨#[]⟩] 24)).drewN nq) (w.heap.size + 1) 0 ⟨0, ⟨#[]⟩⟩ := by
      have := (HasLab.new (w.alloc (.cells #[.int .i64 k, .string b] 24)) 0 ⟨#[]⟩ 24).draws nq
      rwa [World.size_alloc] at this
    have hm := HL.out.below hB hg
    refine (keep_any g o m k b _ hb hm).mono ?_
    rintro e w1 ⟨rfl, hw1, hm1⟩
    have hp1 := hp.wrote hw1 (by omega)
    have hq1 := hq.wrote hw1 (by omega)
    have f0 := hp1.kind
    have f1 := hp1.text
    have q0 := hq1.kind
    have q1 := hq1.text
    have z0 := hq1.free0
    have z1 := hq1.free1
    have hs1 := hq1.lt
    simp only [Nat.zero_add] at f1 q1 z1
    have HW := Lib.hid ((Wrote.of_below (o := o) (n := 2) hB hg).trans hw1)
    have HQ := Lib.hid hq1
    clear hB hm hw1 hp hq hp1 hq1
    go_wp2
    have hr := HQ.out.set ⟨k, b⟩
    have r0 := hr.kind
    have r1 := hr.text
    exact bodyPost_ret (v := .agg #[.int .i64 k, .string b]) (by simp [results, Try.results10, go_sem, r0, r1]) rfl
      ⟨rfl, (HW.out.setNew hg (by simp) _).setNew hg (by simp) _, (hm1.setOther (by simp; omega) _).setOther (by simp; omega) _⟩

theorem next_any (g o : Nat) (m : Lab) (k : Int) (b : ByteArray) (w : World) (hb : b.size ≤ maxLen) (hm : HasLab w g o m) :
    Calls Try.prog 10 #[.pointer (some ⟨g, o, none⟩), .agg #[.int .i64 k, .string b]] w fun e w' => e = .returned (.agg #[.int .i64 (memNext m ⟨k, b⟩).1.k, .string (memNext m ⟨k, b⟩).1.b]) ∧ Wrote w w' g o 2 ∧ HasLab w' g o (memNext m ⟨k, b⟩).2 := by
  cases hh : memHit m ⟨k, b⟩ with
  | true =>
    rw [memNext, if_pos hh]
    exact (next_hit g o m k b w hb hm hh).mono fun e w' ⟨he, hw⟩ => ⟨he, Wrote.of_below hw hm.lt, hm.below hw hm.lt⟩
  | false =>
    rw [memNext, if_neg (by rw [hh]; simp)]
    exact next_miss g o m k b w hb hm hh

theorem isEmpty_of_size {b : ByteArray} (h : b.size = 0) : b.toList.isEmpty = true := by
  have h0 : b.data.size = 0 := h
  rw [ByteArray.toList_eq, Array.eq_empty_of_size_eq_zero h0]; rfl

theorem notEmpty_of_size {b : ByteArray} (h : ¬ b.size = 0) : b.toList.isEmpty = false := by
  rw [ByteArray.toList_eq]; cases hd : b.data.toList with
  | nil => exact absurd (by have := congrArg List.length hd; simpa using this : b.data.size = 0) h
  | cons x l => rfl

set_option maxHeartbeats 400000 in
theorem read_bad (g o : Nat) (k : Int) (b : ByteArray) (w : World) (hb : b.size ≤ maxLen) (hO : labOk k b = false) :
    Calls Try.prog 18 #[.pointer (some ⟨g, o, none⟩), .agg #[.int .i64 k, .string b]] w fun e w' => e = .returned (.tuple #[.agg #[.int .i64 0, .string ByteArray.empty], .int .i64 2]) ∧ Below w.heap.size w w' := by
  go_enter Try.func18, Try.ntmps18
  go_wp2_with fail
  refine (check_any _ _ _ hb).mono ?_
  rintro e w1 ⟨rfl, hb1⟩
  rw [hO]
  have hB : Below w.heap.size w w1 := (((Below.refl _ _).alloc (Nat.le_refl _) _).alloc (by simp) _).trans (hb1.mono (by simp; omega))
  have q := (HasLab.new (w.alloc (.cells #[.int .i64 k, .string b] 24)) 0 ⟨#[]⟩ 24).below hb1 (by simp)
  rw [World.size_alloc] at q
  have q0 := q.kind
  have q1 := q.text
  have z0 := q.free0
  have z1 := q.free1
  have hs1 := q.lt
  simp only [Nat.zero_add] at q1 z1
  have HQ := Lib.hid q
  clear hb1 q hO
  go_wp2
  have hr := HQ.out.set ⟨0, ⟨#[]⟩⟩
  have r0 := hr.kind
  have r1 := hr.text
  exact bodyPost_ret (v := .tuple #[.agg #[.int .i64 0, .string ⟨#[]⟩], .int .i64 2]) (by simp [results, Try.results18, go_sem, r0, r1]) rfl
    ⟨rfl, (hB.setCell (by simp) _).setCell (by simp) _⟩

set_option maxHeartbeats 400000 in
theorem read_keep (g o : Nat) (m : Lab) (k : Int) (b : ByteArray) (w : World) (hb : b.size ≤ maxLen) (hm : HasLab w g o m) (hO : labOk k b = true) (hk : ¬ k = 3) :
    Calls Try.prog 18 #[.pointer (some ⟨g, o, none⟩), .agg #[.int .i64 k, .string b]] w fun e w' => e = .returned (.tuple #[.agg #[.int .i64 k, .string b], .int .i64 0]) ∧ Wrote w w' g o 2 ∧ HasLab w' g o (memKeep m ⟨k, b⟩) := by
  have hg := hm.lt
  have HL := Lib.hid hm
  have hk3 : (k != 3) = true := by rw [bne_iff_ne]; exact hk
  clear hm hk
  go_enter Try.func18, Try.ntmps18
  go_wp2_with fail
  refine (check_any _ _ _ hb).mono ?_
  rintro e w1 ⟨rfl, hb1⟩
  rw [hO]
  have hB : Below w.heap.size w w1 := (((Below.refl _ _).alloc (Nat.le_refl _) _).alloc (by simp) _).trans (hb1.mono (by simp; omega))
  have p := ((HasLab.new w k b 24).alloc (.cells #[.int .i64 0, .string ⟨#[]⟩] 24)).below hb1 (by simp; omega)
  have q := (HasLab.new (w.alloc (.cells #[.int .i64 k, .string b] 24)) 0 ⟨#[]⟩ 24).below hb1 (by simp)
  rw [World.size_alloc] at q
  have p0 := p.kind
  have p1 := p.text
  simp only [Nat.zero_add] at p1
  have hm := HL.out.below hB hg
  clear hb1 hO
  go_wp2_with fail
  refine (keep_any g o m k b _ hb hm).mono ?_
  rintro e w2 ⟨rfl, hw2, hm2⟩
  have hp1 := p.wrote hw2 (by omega)
  have hq1 := q.wrote hw2 (by omega)
  have f0 := hp1.kind
  have f1 := hp1.text
  have q0 := hq1.kind
  have q1 := hq1.text
  have z0 := hq1.free0
  have z1 := hq1.free1
  have hs1 := hq1.lt
  simp only [Nat.zero_add] at f1 q1 z1
  have HW := Lib.hid ((Wrote.of_below (o := o) (n := 2) hB hg).trans hw2)
  have HQ := Lib.hid hq1
  clear hB hm hw2 p q hp1 hq1 p0 p1
  go_wp2
  have hr := HQ.out.set ⟨k, b⟩
  have r0 := hr.kind
  have r1 := hr.text
  exact bodyPost_ret (v := .tuple #[.agg #[.int .i64 k, .string b], .int .i64 0]) (by simp [results, Try.results18, go_sem, r0, r1]) rfl
    ⟨rfl, (HW.out.setNew hg (by simp) _).setNew hg (by simp) _, (hm2.setOther (by simp; omega) _).setOther (by simp; omega) _⟩

set_option maxHeartbeats 400000 in
theorem read_none (g o : Nat) (m : Lab) (b : ByteArray) (w : World) (hb : b.size ≤ maxLen) (hm : HasLab w g o m) (hO : labOk 3 b = true) (hz : m.b.size = 0) :
    Calls Try.prog 18 #[.pointer (some ⟨g, o, none⟩), .agg #[.int .i64 3, .string b]] w fun e w' =>
      e = .returned (.tuple #[.agg #[.int .i64 0, .string ByteArray.empty], .int .i64 17]) ∧ Below w.heap.size w w' := by
  have hg := hm.lt
  have e1 := isEmpty_of_size hz
  have e2 : m.b.toList = [] := by simpa using e1
  clear hz
  have HL := Lib.hid hm
  clear hm
  go_enter Try.func18, Try.ntmps18
  go_wp2_with fail
  refine (check_any _ _ _ hb).mono ?_
  rintro e w1 ⟨rfl, hb1⟩
  rw [hO]
  have hB : Below w.heap.size w w1 := (((Below.refl _ _).alloc (Nat.le_refl _) _).alloc (by simp) _).trans (hb1.mono (by simp; omega))
  have p := ((HasLab.new w 3 b 24).alloc (.cells #[.int .i64 0, .string ⟨#[]⟩] 24)).below hb1 (by simp; omega)
  have q := (HasLab.new (w.alloc (.cells #[.int .i64 3, .string b] 24)) 0 ⟨#[]⟩ 24).below hb1 (by simp)
  rw [World.size_alloc] at q
  have p0 := p.kind
  have p1 := p.text
  have q0 := q.kind
  have q1 := q.text
  have z0 := q.free0
  have z1 := q.free1
  have hs1 := q.lt
  simp only [Nat.zero_add] at p1 q1 z1
  have hm := HL.out.below hB hg
  have c0 := hm.kind
  have c1 := hm.text
  have HQ := Lib.hid q
  clear hb1 hO p q hm
  go_wp2
  have hr := HQ.out.set ⟨0, ⟨#[]⟩⟩
  have r0 := hr.kind
  have r1 := hr.text
  exact bodyPost_ret (v := .tuple #[.agg #[.int .i64 0, .string ⟨#[]⟩], .int .i64 17]) (by simp [results, Try.results18, go_sem, r0, r1]) rfl
    ⟨rfl, (hB.setCell (by simp) _).setCell (by simp) _⟩

set_option maxHeartbeats 400000 in
theorem read_same (g o : Nat) (m : Lab) (b : ByteArray) (w : World) (hb : b.size ≤ maxLen) (hm : HasLab w g o m) (hO : labOk 3 b = true) (hz : ¬ m.b.size = 0) :
    Calls Try.prog 18 #[.pointer (some ⟨g, o, none⟩), .agg #[.int .i64 3, .string b]] w fun e w' =>
      e = .returned (.tuple #[.agg #[.int .i64 m.k, .string m.b], .int .i64 0]) ∧ Below w.heap.size w w' := by
  have hg := hm.lt
  have e1 := notEmpty_of_size hz
  have e2 : ¬ m.b.toList = [] := by intro h; rw [h] at e1; cases e1
  clear hz
  have HL := Lib.hid hm
  clear hm
  go_enter Try.func18, Try.ntmps18
  go_wp2_with fail
  refine (check_any _ _ _ hb).mono ?_
  rintro e w1 ⟨rfl, hb1⟩
  rw [hO]
  have hB : Below w.heap.size w w1 := (((Below.refl _ _).alloc (Nat.le_refl _) _).alloc (by simp) _).trans (hb1.mono (by simp; omega))
  have p := ((HasLab.new w 3 b 24).alloc (.cells #[.int .i64 0, .string ⟨#[]⟩] 24)).below hb1 (by simp; omega)
  have q := (HasLab.new (w.alloc (.cells #[.int .i64 3, .string b] 24)) 0 ⟨#[]⟩ 24).below hb1 (by simp)
  rw [World.size_alloc] at q
  have p0 := p.kind
  have p1 := p.text
  have q0 := q.kind
  have q1 := q.text
  have z0 := q.free0
  have z1 := q.free1
  have hs1 := q.lt
  simp only [Nat.zero_add] at p1 q1 z1
  have hm := HL.out.below hB hg
  have c0 := hm.kind
  have c1 := hm.text
  have HQ := Lib.hid q
  clear hb1 hO p q hm
  go_wp2
  have hr := HQ.out.set m
  have r0 := hr.kind
  have r1 := hr.text
  exact bodyPost_ret (v := .tuple #[.agg #[.int .i64 m.k, .string m.b], .int .i64 0]) (by simp [results, Try.results18, go_sem, r0, r1]) rfl
    ⟨rfl, (hB.setCell (by simp) _).setCell (by simp) _⟩

theorem read_any (g o : Nat) (m : Lab) (k : Int) (b : ByteArray) (w : World) (hb : b.size ≤ maxLen) (hm : HasLab w g o m) :
    Calls Try.prog 18 #[.pointer (some ⟨g, o, none⟩), .agg #[.int .i64 k, .string b]] w fun e w' =>
      e = .returned (.tuple #[.agg #[.int .i64 (memRead m ⟨k, b⟩).1.1.k, .string (memRead m ⟨k, b⟩).1.1.b], .int .i64 (memRead m ⟨k, b⟩).1.2]) ∧ Wrote w w' g o 2 ∧ HasLab w' g o (memRead m ⟨k, b⟩).2 := by
  cases hO : labOk k b with
  | false =>
    rw [memRead, if_neg (by rw [hO]; simp)]
    exact (read_bad g o k b w hb hO).mono fun e w' ⟨he, hw⟩ => ⟨he, Wrote.of_below hw hm.lt, hm.below hw hm.lt⟩
  | true =>
    rw [memRead, if_pos hO]
    by_cases hk : k = 3
    · subst hk
      rw [if_pos rfl]
      by_cases hz : m.b.size = 0
      · rw [if_pos hz]
        exact (read_none g o m b w hb hm hO hz).mono fun e w' ⟨he, hw⟩ => ⟨he, Wrote.of_below hw hm.lt, hm.below hw hm.lt⟩
      · rw [if_neg hz]
        exact (read_same g o m b w hb hm hO hz).mono fun e w' ⟨he, hw⟩ => ⟨he, Wrote.of_below hw hm.lt, hm.below hw hm.lt⟩
    · rw [if_neg hk]
      exact read_keep g o m k b w hb hm hO hk

set_option maxHeartbeats 400000 in
theorem reset_any (g o : Nat) (m : Lab) (w : World) (hm : HasLab w g o m) :
    Calls Try.prog 20 #[.pointer (some ⟨g, o, none⟩)] w fun e w' => e = .returned (.tuple #[]) ∧ Wrote w w' g o 2 ∧ HasLab w' g o ⟨0, ByteArray.empty⟩ := by
  have hg := hm.lt
  have c0 := hm.kind
  have c1 := hm.text
  have z0 := hm.free0
  have z1 := hm.free1
  have HL := Lib.hid hm
  clear hm
  go_enter Try.func20, Try.ntmps20
  go_wp2
  go_end0
  exact ⟨rfl, ((Wrote.of_below (Below.refl _ _) hg).set (Nat.le_refl _) (by omega) _).set (by omega) (by omega) _, HL.out.set ⟨0, ⟨#[]⟩⟩⟩

end Go.Proofs.Ytgbjecgkbhknmaa
