/-
  The walks of the label laws' helpers: short, of, works.
-/
import Derived.Test.YtgbjecgkbhknmaaLabR
namespace Go.Proofs.Ytgbjecgkbhknmaa
set_option linter.unusedVariables false
open Go.RowKit

/-- Ten bytes at most. -/
def short10 (b : ByteArray) : ByteArray := b.extract 0 (min b.size 10)

theorem short10_size (b : ByteArray) : (short10 b).size ≤ 10 := by unfold short10; rw [ByteArray.size_extract]; omega

set_option maxHeartbeats 400000 in
theorem short_any (k : Int) (b : ByteArray) (w : World) (hb : b.size ≤ maxLen) :
    Calls Try.prog 13 #[.agg #[.int .i64 k, .string b]] w fun e w' => e = .returned (.agg #[.int .i64 k, .string (short10 b)]) ∧ Below w.heap.size w w' := by
  unfold maxLen at hb
  obtain ⟨m, hm1, hm2, hm, hmin⟩ := min_at (P := Try.prog) #[3, 3] 3 b.size 10 (by decide)
  have hs : b.extract 0 m = short10 b := by unfold short10; congr 1; omega
  have HS := Lib.hid hs
  clear hs hm
  go_enter Try.func13, Try.ntmps13
  go_wp2
  rw [← HS.out]
  exact bodyPost_ret (v := .agg #[.int .i64 k, .string (b.extract 0 m)]) (by simp [results, Try.results13, go_sem]) rfl
    ⟨rfl, ((Below.refl _ _).alloc (Nat.le_refl _) _).alloc (by simp) _⟩

theorem HasLab.at {w : World} {g : Nat} {m : Lab} (h : HasLab w g 0 m) : w.cell? ⟨g, 0, none⟩ = some (.int .i64 m.k) ∧ w.cell? ⟨g, 1, none⟩ = some (.string m.b) := ⟨h.kind, h.text⟩

theorem w_next1 : memNext ⟨0, ⟨#[]⟩⟩ ⟨1, ⟨#[97, 98, 99]⟩⟩ = (⟨1, ⟨#[97, 98, 99]⟩⟩, ⟨1, ⟨#[97, 98, 99]⟩⟩) := by kernel_rfl
theorem w_next2 : memNext ⟨1, ⟨#[97, 98, 99]⟩⟩ ⟨1, ⟨#[97, 98, 99]⟩⟩ = (⟨3, ⟨#[]⟩⟩, ⟨1, ⟨#[97, 98, 99]⟩⟩) := by kernel_rfl
theorem w_read1 : memRead ⟨0, ⟨#[]⟩⟩ ⟨1, ⟨#[97, 98, 99]⟩⟩ = ((⟨1, ⟨#[97, 98, 99]⟩⟩, 0), ⟨1, ⟨#[97, 98, 99]⟩⟩) := by kernel_rfl
theorem w_read2 : memRead ⟨1, ⟨#[97, 98, 99]⟩⟩ ⟨3, ⟨#[]⟩⟩ = ((⟨1, ⟨#[97, 98, 99]⟩⟩, 0), ⟨1, ⟨#[97, 98, 99]⟩⟩) := by kernel_rfl

/-- The blocks of 'works' and what they hold. -/
structure WorksAt (w W : World) (m n : Lab) : Prop where
  hm : HasLab W w.heap.size 0 m
  hn : HasLab W (w.heap.size + 1) 0 n
  ha : HasLab W (w.heap.size + 1 + 1) 0 ⟨1, ⟨#[97, 98, 99]⟩⟩
  hs : HasLab W (w.heap.size + 1 + 1 + 1) 0 ⟨3, ⟨#[]⟩⟩
  below : Below w.heap.size w W

theorem works_start (w : World) : WorksAt w ((((w.alloc (.cells #[.int .i64 0, .string ⟨#[]⟩] 26)).alloc (.cells #[.int .i64 0, .string ⟨#[]⟩] 26)).alloc (.cells #[.int .i64 1, .string ⟨#[97, 98, 99]⟩] 24)).alloc (.cells #[.int .i64 3, .string ⟨#[]⟩] 24)) ⟨0, ⟨#[]⟩⟩ ⟨0, ⟨#[]⟩⟩ := by
  have n1 := HasLab.new w 0 ⟨#[]⟩ 26
  have n2 := HasLab.new (w.alloc (.cells #[.int .i64 0, .string ⟨#[]⟩] 26)) 0 ⟨#[]⟩ 26
  have n3 := HasLab.new ((w.alloc (.cells #[.int .i64 0, .string ⟨#[]⟩] 26)).alloc (.cells #[.int .i64 0, .string ⟨#[]⟩] 26)) 1 ⟨#[97, 98, 99]⟩ 24
  have n4 := HasLab.new (((w.alloc (.cells #[.int .i64 0, .string ⟨#[]⟩] 26)).alloc (.cells #[.int .i64 0, .string ⟨#[]⟩] 26)).alloc (.cells #[.int .i64 1, .string ⟨#[97, 98, 99]⟩] 24)) 3 ⟨#[]⟩ 24
  simp only [World.size_alloc] at n2 n3 n4
  exact ⟨((n1.alloc _).alloc _).alloc _, (n2.alloc _).alloc _, n3.alloc _, n4, ((((Below.refl _ _).alloc (Nat.le_refl _) _).alloc (by simp) _).alloc (by simp; omega) _).alloc (by simp; omega) _⟩

theorem WorksAt.alloc {w W : World} {m n : Lab} (h : WorksAt w W m n) (o : Obj) : WorksAt w (W.alloc o) m n :=
  ⟨h.hm.alloc o, h.hn.alloc o, h.ha.alloc o, h.hs.alloc o, h.below.alloc h.below.size o⟩

theorem WorksAt.wroteM {w W W' : World} {m n m' : Lab} (h : WorksAt w W m n) (hw : Wrote W W' w.heap.size 0 2) (hm' : HasLab W' w.heap.size 0 m') : WorksAt w W' m' n :=
  ⟨hm', h.hn.wrote hw (by omega), h.ha.wrote hw (by omega), h.hs.wrote hw (by omega), Wrote.below h.below hw h.below.size (Nat.le_refl _)⟩

theorem WorksAt.wroteN {w W W' : World} {m n n' : Lab} (h : WorksAt w W m n) (hw : Wrote W W' (w.heap.size + 1) 0 2) (hn' : HasLab W' (w.heap.size + 1) 0 n') : WorksAt w W' m n' :=
  ⟨h.hm.wrote hw (by omega), hn', h.ha.wrote hw (by omega), h.hs.wrote hw (by omega), Wrote.below h.below hw h.below.size (by omega)⟩

set_option maxHeartbeats 1000000 in
theorem works_any (w : World) : Calls Try.prog 12 #[] w fun e w' => e = .returned (.bool true) ∧ Below w.heap.size w w' := by
  have heq := label_eql
  go_enter Try.func12, Try.ntmps12
  go_wp2_with fail
  have h1 := works_start w
  generalize ((((w.alloc (.cells #[.int .i64 0, .string ⟨#[]⟩] 26)).alloc (.cells #[.int .i64 0, .string ⟨#[]⟩] 26)).alloc (.cells #[.int .i64 1, .string ⟨#[97, 98, 99]⟩] 24)).alloc (.cells #[.int .i64 3, .string ⟨#[]⟩] 24)) = W1 at h1 ⊢
  refine (next_any w.heap.size 0 ⟨0, ⟨#[]⟩⟩ 1 ⟨#[97, 98, 99]⟩ _ (by decide) h1.hm).mono ?_
  rintro e w1 ⟨rfl, hw, hm⟩
  rw [w_next1] at hm ⊢
  have h2 := h1.wroteM hw hm
  clear h1 hw hm
  have hb := HasLab.new w1 1 ⟨#[97, 98, 99]⟩ 24
  have h3 := h2.alloc (.cells #[.int .i64 1, .string ⟨#[97, 98, 99]⟩] 24)
  have hgb := h2.hs.lt
  obtain ⟨a0, a1⟩ := h3.ha.at
  have H3 := Lib.hid h3
  have HB := Lib.hid hb
  clear h2 h3 hb
  go_wp2_with fail
  clear a0 a1
  generalize w1.alloc (.cells #[.int .i64 1, .string ⟨#[97, 98, 99]⟩] 24) = W2 at H3 HB ⊢
  generalize w1.heap.size = gb at HB hgb ⊢
  refine (next_any w.heap.size 0 ⟨1, ⟨#[97, 98, 99]⟩⟩ 1 ⟨#[97, 98, 99]⟩ _ (by decide) H3.out.hm).mono ?_
  rintro e w2 ⟨rfl, hw, hm⟩
  rw [w_next2] at hm ⊢
  have h2 := H3.out.wroteM hw hm
  have hc := HasLab.new w2 3 ⟨#[]⟩ 24
  have h3 := h2.alloc (.cells #[.int .i64 3, .string ⟨#[]⟩] 24)
  have hb := (HB.out.wrote hw (by omega)).alloc (.cells #[.int .i64 3, .string ⟨#[]⟩] 24)
  have hgc := (HB.out.wrote hw (by omega)).lt
  obtain ⟨b0, b1⟩ := hb.at
  clear H3 HB
  have H3 := Lib.hid h3
  have HB := Lib.hid hb
  have HC := Lib.hid hc
  clear h2 h3 hb hc hw hm
  go_wp2_with fail
  clear b0 b1
  generalize w2.alloc (.cells #[.int .i64 3, .string ⟨#[]⟩] 24) = W3 at H3 HB HC ⊢
  generalize w2.heap.size = gc at HC hgc ⊢
  refine (read_any (w.heap.size + 1) 0 ⟨0, ⟨#[]⟩⟩ 1 ⟨#[97, 98, 99]⟩ _ (by decide) H3.out.hn).mono ?_
  rintro e w3 ⟨rfl, hw, hm⟩
  rw [w_read1] at hm ⊢
  have h2 := H3.out.wroteN hw hm
  have hd := HasLab.new w3 1 ⟨#[97, 98, 99]⟩ 24
  have h3 := h2.alloc (.cells #[.int .i64 1, .string ⟨#[97, 98, 99]⟩] 24)
  have hb := (HB.out.wrote hw (by omega)).alloc (.cells #[.int .i64 1, .string ⟨#[97, 98, 99]⟩] 24)
  have hc := (HC.out.wrote hw (by omega)).alloc (.cells #[.int .i64 1, .string ⟨#[97, 98, 99]⟩] 24)
  have hgd := (HC.out.wrote hw (by omega)).lt
  obtain ⟨b0, b1⟩ := hc.at
  clear H3 HB HC
  have H3 := Lib.hid h3
  have HB := Lib.hid hb
  have HC := Lib.hid hc
  have HD := Lib.hid hd
  clear h2 h3 hb hc hd hw hm
  go_wp2_with fail
  clear b0 b1
  generalize w3.alloc (.cells #[.int .i64 1, .string ⟨#[97, 98, 99]⟩] 24) = W4 at H3 HB HC HD ⊢
  generalize w3.heap.size = gd at HD hgd ⊢
  refine (read_any (w.heap.size + 1) 0 ⟨1, ⟨#[97, 98, 99]⟩⟩ 3 ⟨#[]⟩ _ (by decide) H3.out.hn).mono ?_
  rintro e w4 ⟨rfl, hw, hm⟩
  rw [w_read2] at hm ⊢
  have h2 := H3.out.wroteN hw hm
  have hf := HasLab.new w4 1 ⟨#[97, 98, 99]⟩ 24
  have h3 := h2.alloc (.cells #[.int .i64 1, .string ⟨#[97, 98, 99]⟩] 24)
  have hb := (HB.out.wrote hw (by omega)).alloc (.cells #[.int .i64 1, .string ⟨#[97, 98, 99]⟩] 24)
  have hc := (HC.out.wrote hw (by omega)).alloc (.cells #[.int .i64 1, .string ⟨#[97, 98, 99]⟩] 24)
  have hd := (HD.out.wrote hw (by omega)).alloc (.cells #[.int .i64 1, .string ⟨#[97, 98, 99]⟩] 24)
  obtain ⟨a0, a1⟩ := h3.ha.at
  obtain ⟨s0, s1⟩ := h3.hs.at
  obtain ⟨b0, b1⟩ := hb.at
  obtain ⟨c0, c1⟩ := hc.at
  obtain ⟨d0, d1⟩ := hd.at
  obtain ⟨f0, f1⟩ := hf.at
  have hB := h3.below
  have e1 := labEq_self 1 ⟨#[97, 98, 99]⟩
  have e2 := labEq_self 3 ⟨#[]⟩
  clear H3 HB HC HD h2 h3 hb hc hd hf hw hm
  go_wp2_with fail
  refine (size_any _ _).mono ?_
  rintro e w5 ⟨rfl, hb5⟩
  rw [show labSize 0 = 6 from rfl]
  go_wp2
  go_ret
  exact ⟨rfl, hB.trans (hb5.mono hB.size)⟩

end Go.Proofs.Ytgbjecgkbhknmaa
