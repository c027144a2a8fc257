/-
  The walk of LabelTells.
-/
import Derived.Test.YtgbjecgkbhknmaaLabW
namespace Go.Proofs.Ytgbjecgkbhknmaa
set_option linter.unusedVariables false
open Go.RowKit

set_option maxRecDepth 100000 in
set_option maxHeartbeats 1000000 in
theorem tells_0 (k k' : Int) (b b' : ByteArray) (w : World) (hb : b.size ≤ maxLen) (hb' : b'.size ≤ maxLen) (h1 : labOk k (short10 b) = false) (h2 : labOk k' (short10 b') = false) (h3 : labEq k (short10 b) k' (short10 b') = false) :
    Calls Try.prog 4 #[.agg #[.int .i64 k, .string b], .agg #[.int .i64 k', .string b']] w fun e w' => e = .returned (.bool true) ∧ Below w.heap.size w w' := by
  have heq := label_eql
  have hs1 : (short10 b).size ≤ maxLen := Nat.le_trans (short10_size b) (by decide)
  have hs2 : (short10 b').size ≤ maxLen := Nat.le_trans (short10_size b') (by decide)
  go_enter Try.func4, Try.ntmps4
  go_wp2_with fail
  refine (short_any k b _ hb).mono ?_
  rintro e w1 ⟨rfl, hb1⟩
  have hB : Below w.heap.size w w1 := (((Below.refl _ _).alloc (Nat.le_refl _) _).alloc (by simp) _).trans (hb1.mono (by simp; omega))
  have p := ((HasLab.new w k b 24).alloc (.cells #[.int .i64 k', .string b'] 24)).below hb1 (by simp; omega)
  have r := (HasLab.new (w.alloc (.cells #[.int .i64 k, .string b] 24)) k' b' 24).below hb1 (by simp)
  rw [World.size_alloc] at r
  have p0 := p.kind
  have p1 := p.text
  have z0 := p.free0
  have z1 := p.free1
  have r0 := r.kind
  have r1 := r.text
  simp only [Nat.zero_add] at p1 z1 r1
  have HP := Lib.hid p
  have HR := Lib.hid r
  clear hb1 p r
  go_wp2_with fail
  have hB2 := (hB.setCell (p := ⟨w.heap.size, 0, none⟩) (Nat.le_refl _) (.int .i64 k)).setCell (p := ⟨w.heap.size, 1, none⟩) (Nat.le_refl _) (.string (short10 b))
  have p := HP.out.set ⟨k, short10 b⟩
  have r := (HR.out.setOther (p := ⟨w.heap.size, 0, none⟩) (by simp) (.int .i64 k)).setOther (p := ⟨w.heap.size, 1, none⟩) (by simp) (.string (short10 b))
  simp only [Nat.zero_add] at p
  generalize (w1.setCell ⟨w.heap.size, 0, none⟩ (.int .i64 k)).setCell ⟨w.heap.size, 1, none⟩ (.string (short10 b)) = w2 at hB2 p r ⊢
  clear HP HR hB p0 p1 z0 z1 r0 r1 w1
  refine (short_any k' b' _ hb').mono ?_
  rintro e w1 ⟨rfl, hb1⟩
  have hB := hB2.trans (hb1.mono hB2.size)
  replace p := p.below hb1 p.lt
  replace r := r.below hb1 r.lt
  have p0 := p.kind
  have p1 := p.text
  have r0 := r.kind
  have r1 := r.text
  have z0 := r.free0
  have z1 := r.free1
  simp only [Nat.zero_add] at p1 z1 r1
  have HP := Lib.hid p
  have HR := Lib.hid r
  clear hb1 p r hB2
  go_wp2_with fail
  have hB2 := (hB.setCell (p := ⟨w.heap.size + 1, 0, none⟩) (by simp) (.int .i64 k')).setCell (p := ⟨w.heap.size + 1, 1, none⟩) (by simp) (.string (short10 b'))
  have r := HR.out.set ⟨k', short10 b'⟩
  have p := (HP.out.setOther (p := ⟨w.heap.size + 1, 0, none⟩) (by simp) (.int .i64 k')).setOther (p := ⟨w.heap.size + 1, 1, none⟩) (by simp) (.string (short10 b'))
  simp only [Nat.zero_add] at r
  generalize (w1.setCell ⟨w.heap.size + 1, 0, none⟩ (.int .i64 k')).setCell ⟨w.heap.size + 1, 1, none⟩ (.string (short10 b')) = w3 at hB2 p r ⊢
  clear HP HR hB p0 p1 z0 z1 r0 r1 w1 w2
  refine (may_any k (short10 b) _ hs1).mono ?_
  rintro e W ⟨rfl, hb1⟩
  rw [h1]
  have hB := hB2.trans (hb1.mono hB2.size)
  replace p := p.below hb1 p.lt
  replace r := r.below hb1 r.lt
  have HF := Lib.hid (show ∀ w', Since W w' → (w'.cell? ⟨w.heap.size, 0, none⟩ = some (.int .i64 k) ∧ w'.cell? ⟨w.heap.size, 1, none⟩ = some (.string (short10 b))) ∧ w'.cell? ⟨w.heap.size + 1, 0, none⟩ = some (.int .i64 k') ∧ w'.cell? ⟨w.heap.size + 1, 1, none⟩ = some (.string (short10 b')) from
    fun w' hw' => ⟨(p.below hw' p.lt).at, (r.below hw' r.lt).at⟩)
  clear hb1 p r hB2
  have e1 := labEq_self k (short10 b)
  have CK := Lib.hid (show ∀ w', Calls Try.prog 9 #[.agg #[.int .i64 k, .string (short10 b)]] w' fun e w'' => e = .returned (.int .i64 2) ∧ Below w'.heap.size w' w'' from fun w' => by
    have := check_any k (short10 b) w' hs1; rw [h1] at this; simpa using this)
  go_wp2
  refine wp_region_class (Since W) (by kernel_rfl) (by kernel_rfl) (Below.drew (Below.refl _ _)) ?_
  repeat (first | go_big_quiet_step ((first | (intro hs; go_at_call 9; exact Since.call hs (CK.out _)) | (intro hs; go_at_call 11; exact Since.call hs (size_any _ _)) | (intro hs; go_at_call 15; exact Since.call hs (rsize_below _ _)) | (intro hs; go_at_call 16; exact Since.call hs (same_any _ _ _ _ _ hs1)) | (intro hs; go_at_call 14; exact Since.call hs (may_lit _ _ _ _ (by first | exact hs1 | exact hs2) (by first | exact h1 | exact h2))) | (intro hs; go_at_call 12; exact Since.call hs (works_any _)) | (intro _; rfl))) | (refine BigFrame.wpQuiet_want rfl (fun K hK => ?_); refine quiet_ex ?_; apply Exists.intro; refine ⟨fun w' hw' => ?_, hK _ ?_⟩; (focus (obtain ⟨⟨f0, f1⟩, f2, f3⟩ := HF.out w' hw'; go_simp; rfl)); clear hK K; simp only [Act.put, List.setIfInBounds_toArray, List.set_cons_succ, List.set_cons_zero]) | quiet_step ((first | (intro hs; go_at_call 9; exact Since.call hs (CK.out _)) | (intro hs; go_at_call 11; exact Since.call hs (size_any _ _)) | (intro hs; go_at_call 15; exact Since.call hs (rsize_below _ _)) | (intro hs; go_at_call 16; exact Since.call hs (same_any _ _ _ _ _ hs1)) | (intro hs; go_at_call 14; exact Since.call hs (may_lit _ _ _ _ (by first | exact hs1 | exact hs2) (by first | exact h1 | exact h2))) | (intro hs; go_at_call 12; exact Since.call hs (works_any _)) | (intro _; rfl))))
  refine wpQuiet_nil ?_
  intro wq hwq
  go_wp2
  go_ret
  exact ⟨rfl, hB.trans (Below.mono hwq hB.size)⟩

set_option maxRecDepth 100000 in
set_option maxHeartbeats 1000000 in
theorem tells_1 (k k' : Int) (b b' : ByteArray) (w : World) (hb : b.size ≤ maxLen) (hb' : b'.size ≤ maxLen) (h1 : labOk k (short10 b) = false) (h2 : labOk k' (short10 b') = false) (h3 : labEq k (short10 b) k' (short10 b') = true) :
    Calls Try.prog 4 #[.agg #[.int .i64 k, .string b], .agg #[.int .i64 k', .string b']] w fun e w' => e = .returned (.bool true) ∧ Below w.heap.size w w' := by
  have heq := label_eql
  have hs1 : (short10 b).size ≤ maxLen := Nat.le_trans (short10_size b) (by decide)
  have hs2 : (short10 b').size ≤ maxLen := Nat.le_trans (short10_size b') (by decide)
  go_enter Try.func4, Try.ntmps4
  go_wp2_with fail
  refine (short_any k b _ hb).mono ?_
  rintro e w1 ⟨rfl, hb1⟩
  have hB : Below w.heap.size w w1 := (((Below.refl _ _).alloc (Nat.le_refl _) _).alloc (by simp) _).trans (hb1.mono (by simp; omega))
  have p := ((HasLab.new w k b 24).alloc (.cells #[.int .i64 k', .string b'] 24)).below hb1 (by simp; omega)
  have r := (HasLab.new (w.alloc (.cells #[.int .i64 k, .string b] 24)) k' b' 24).below hb1 (by simp)
  rw [World.size_alloc] at r
  have p0 := p.kind
  have p1 := p.text
  have z0 := p.free0
  have z1 := p.free1
  have r0 := r.kind
  have r1 := r.text
  simp only [Nat.zero_add] at p1 z1 r1
  have HP := Lib.hid p
  have HR := Lib.hid r
  clear hb1 p r
  go_wp2_with fail
  have hB2 := (hB.setCell (p := ⟨w.heap.size, 0, none⟩) (Nat.le_refl _) (.int .i64 k)).setCell (p := ⟨w.heap.size, 1, none⟩) (Nat.le_refl _) (.string (short10 b))
  have p := HP.out.set ⟨k, short10 b⟩
  have r := (HR.out.setOther (p := ⟨w.heap.size, 0, none⟩) (by simp) (.int .i64 k)).setOther (p := ⟨w.heap.size, 1, none⟩) (by simp) (.string (short10 b))
  simp only [Nat.zero_add] at p
  generalize (w1.setCell ⟨w.heap.size, 0, none⟩ (.int .i64 k)).setCell ⟨w.heap.size, 1, none⟩ (.string (short10 b)) = w2 at hB2 p r ⊢
  clear HP HR hB p0 p1 z0 z1 r0 r1 w1
  refine (short_any k' b' _ hb').mono ?_
  rintro e w1 ⟨rfl, hb1⟩
  have hB := hB2.trans (hb1.mono hB2.size)
  replace p := p.below hb1 p.lt
  replace r := r.below hb1 r.lt
  have p0 := p.kind
  have p1 := p.text
  have r0 := r.kind
  have r1 := r.text
  have z0 := r.free0
  have z1 := r.free1
  simp only [Nat.zero_add] at p1 z1 r1
  have HP := Lib.hid p
  have HR := Lib.hid r
  clear hb1 p r hB2
  go_wp2_with fail
  have hB2 := (hB.setCell (p := ⟨w.heap.size + 1, 0, none⟩) (by simp) (.int .i64 k')).setCell (p := ⟨w.heap.size + 1, 1, none⟩) (by simp) (.string (short10 b'))
  have r := HR.out.set ⟨k', short10 b'⟩
  have p := (HP.out.setOther (p := ⟨w.heap.size + 1, 0, none⟩) (by simp) (.int .i64 k')).setOther (p := ⟨w.heap.size + 1, 1, none⟩) (by simp) (.string (short10 b'))
  simp only [Nat.zero_add] at r
  generalize (w1.setCell ⟨w.heap.size + 1, 0, none⟩ (.int .i64 k')).setCell ⟨w.heap.size + 1, 1, none⟩ (.string (short10 b')) = w3 at hB2 p r ⊢
  clear HP HR hB p0 p1 z0 z1 r0 r1 w1 w2
  refine (may_any k (short10 b) _ hs1).mono ?_
  rintro e W ⟨rfl, hb1⟩
  rw [h1]
  have hB := hB2.trans (hb1.mono hB2.size)
  replace p := p.below hb1 p.lt
  replace r := r.below hb1 r.lt
  have HF := Lib.hid (show ∀ w', Since W w' → (w'.cell? ⟨w.heap.size, 0, none⟩ = some (.int .i64 k) ∧ w'.cell? ⟨w.heap.size, 1, none⟩ = some (.string (short10 b))) ∧ w'.cell? ⟨w.heap.size + 1, 0, none⟩ = some (.int .i64 k') ∧ w'.cell? ⟨w.heap.size + 1, 1, none⟩ = some (.string (short10 b')) from
    fun w' hw' => ⟨(p.below hw' p.lt).at, (r.below hw' r.lt).at⟩)
  clear hb1 p r hB2
  have e1 := labEq_self k (short10 b)
  have CK := Lib.hid (show ∀ w', Calls Try.prog 9 #[.agg #[.int .i64 k, .string (short10 b)]] w' fun e w'' => e = .returned (.int .i64 2) ∧ Below w'.heap.size w' w'' from fun w' => by
    have := check_any k (short10 b) w' hs1; rw [h1] at this; simpa using this)
  go_wp2
  refine wp_region_class (Since W) (by kernel_rfl) (by kernel_rfl) (Below.drew (Below.refl _ _)) ?_
  repeat (first | go_big_quiet_step ((first | (intro hs; go_at_call 9; exact Since.call hs (CK.out _)) | (intro hs; go_at_call 11; exact Since.call hs (size_any _ _)) | (intro hs; go_at_call 15; exact Since.call hs (rsize_below _ _)) | (intro hs; go_at_call 16; exact Since.call hs (same_any _ _ _ _ _ hs1)) | (intro hs; go_at_call 14; exact Since.call hs (may_lit _ _ _ _ (by first | exact hs1 | exact hs2) (by first | exact h1 | exact h2))) | (intro hs; go_at_call 12; exact Since.call hs (works_any _)) | (intro _; rfl))) | (refine BigFrame.wpQuiet_want rfl (fun K hK => ?_); refine quiet_ex ?_; apply Exists.intro; refine ⟨fun w' hw' => ?_, hK _ ?_⟩; (focus (obtain ⟨⟨f0, f1⟩, f2, f3⟩ := HF.out w' hw'; go_simp; rfl)); clear hK K; simp only [Act.put, List.setIfInBounds_toArray, List.set_cons_succ, List.set_cons_zero]) | quiet_step ((first | (intro hs; go_at_call 9; exact Since.call hs (CK.out _)) | (intro hs; go_at_call 11; exact Since.call hs (size_any _ _)) | (intro hs; go_at_call 15; exact Since.call hs (rsize_below _ _)) | (intro hs; go_at_call 16; exact Since.call hs (same_any _ _ _ _ _ hs1)) | (intro hs; go_at_call 14; exact Since.call hs (may_lit _ _ _ _ (by first | exact hs1 | exact hs2) (by first | exact h1 | exact h2))) | (intro hs; go_at_call 12; exact Since.call hs (works_any _)) | (intro _; rfl))))
  refine wpQuiet_nil ?_
  intro wq hwq
  go_wp2
  go_ret
  exact ⟨rfl, hB.trans (Below.mono hwq hB.size)⟩

set_option maxRecDepth 100000 in
set_option maxHeartbeats 1000000 in
theorem tells_2 (k k' : Int) (b b' : ByteArray) (w : World) (hb : b.size ≤ maxLen) (hb' : b'.size ≤ maxLen) (h1 : labOk k (short10 b) = false) (h2 : labOk k' (short10 b') = true) (h3 : labEq k (short10 b) k' (short10 b') = false) :
    Calls Try.prog 4 #[.agg #[.int .i64 k, .string b], .agg #[.int .i64 k', .string b']] w fun e w' => e = .returned (.bool true) ∧ Below w.heap.size w w' := by
  have heq := label_eql
  have hs1 : (short10 b).size ≤ maxLen := Nat.le_trans (short10_size b) (by decide)
  have hs2 : (short10 b').size ≤ maxLen := Nat.le_trans (short10_size b') (by decide)
  go_enter Try.func4, Try.ntmps4
  go_wp2_with fail
  refine (short_any k b _ hb).mono ?_
  rintro e w1 ⟨rfl, hb1⟩
  have hB : Below w.heap.size w w1 := (((Below.refl _ _).alloc (Nat.le_refl _) _).alloc (by simp) _).trans (hb1.mono (by simp; omega))
  have p := ((HasLab.new w k b 24).alloc (.cells #[.int .i64 k', .string b'] 24)).below hb1 (by simp; omega)
  have r := (HasLab.new (w.alloc (.cells #[.int .i64 k, .string b] 24)) k' b' 24).below hb1 (by simp)
  rw [World.size_alloc] at r
  have p0 := p.kind
  have p1 := p.text
  have z0 := p.free0
  have z1 := p.free1
  have r0 := r.kind
  have r1 := r.text
  simp only [Nat.zero_add] at p1 z1 r1
  have HP := Lib.hid p
  have HR := Lib.hid r
  clear hb1 p r
  go_wp2_with fail
  have hB2 := (hB.setCell (p := ⟨w.heap.size, 0, none⟩) (Nat.le_refl _) (.int .i64 k)).setCell (p := ⟨w.heap.size, 1, none⟩) (Nat.le_refl _) (.string (short10 b))
  have p := HP.out.set ⟨k, short10 b⟩
  have r := (HR.out.setOther (p := ⟨w.heap.size, 0, none⟩) (by simp) (.int .i64 k)).setOther (p := ⟨w.heap.size, 1, none⟩) (by simp) (.string (short10 b))
  simp only [Nat.zero_add] at p
  generalize (w1.setCell ⟨w.heap.size, 0, none⟩ (.int .i64 k)).setCell ⟨w.heap.size, 1, none⟩ (.string (short10 b)) = w2 at hB2 p r ⊢
  clear HP HR hB p0 p1 z0 z1 r0 r1 w1
  refine (short_any k' b' _ hb').mono ?_
  rintro e w1 ⟨rfl, hb1⟩
  have hB := hB2.trans (hb1.mono hB2.size)
  replace p := p.below hb1 p.lt
  replace r := r.below hb1 r.lt
  have p0 := p.kind
  have p1 := p.text
  have r0 := r.kind
  have r1 := r.text
  have z0 := r.free0
  have z1 := r.free1
  simp only [Nat.zero_add] at p1 z1 r1
  have HP := Lib.hid p
  have HR := Lib.hid r
  clear hb1 p r hB2
  go_wp2_with fail
  have hB2 := (hB.setCell (p := ⟨w.heap.size + 1, 0, none⟩) (by simp) (.int .i64 k')).setCell (p := ⟨w.heap.size + 1, 1, none⟩) (by simp) (.string (short10 b'))
  have r := HR.out.set ⟨k', short10 b'⟩
  have p := (HP.out.setOther (p := ⟨w.heap.size + 1, 0, none⟩) (by simp) (.int .i64 k')).setOther (p := ⟨w.heap.size + 1, 1, none⟩) (by simp) (.string (short10 b'))
  simp only [Nat.zero_add] at r
  generalize (w1.setCell ⟨w.heap.size + 1, 0, none⟩ (.int .i64 k')).setCell ⟨w.heap.size + 1, 1, none⟩ (.string (short10 b')) = w3 at hB2 p r ⊢
  clear HP HR hB p0 p1 z0 z1 r0 r1 w1 w2
  refine (may_any k (short10 b) _ hs1).mono ?_
  rintro e W ⟨rfl, hb1⟩
  rw [h1]
  have hB := hB2.trans (hb1.mono hB2.size)
  replace p := p.below hb1 p.lt
  replace r := r.below hb1 r.lt
  have HF := Lib.hid (show ∀ w', Since W w' → (w'.cell? ⟨w.heap.size, 0, none⟩ = some (.int .i64 k) ∧ w'.cell? ⟨w.heap.size, 1, none⟩ = some (.string (short10 b))) ∧ w'.cell? ⟨w.heap.size + 1, 0, none⟩ = some (.int .i64 k') ∧ w'.cell? ⟨w.heap.size + 1, 1, none⟩ = some (.string (short10 b')) from
    fun w' hw' => ⟨(p.below hw' p.lt).at, (r.below hw' r.lt).at⟩)
  clear hb1 p r hB2
  have e1 := labEq_self k (short10 b)
  have CK := Lib.hid (show ∀ w', Calls Try.prog 9 #[.agg #[.int .i64 k, .string (short10 b)]] w' fun e w'' => e = .returned (.int .i64 2) ∧ Below w'.heap.size w' w'' from fun w' => by
    have := check_any k (short10 b) w' hs1; rw [h1] at this; simpa using this)
  go_wp2
  refine wp_region_class (Since W) (by kernel_rfl) (by kernel_rfl) (Below.drew (Below.refl _ _)) ?_
  repeat (first | go_big_quiet_step ((first | (intro hs; go_at_call 9; exact Since.call hs (CK.out _)) | (intro hs; go_at_call 11; exact Since.call hs (size_any _ _)) | (intro hs; go_at_call 15; exact Since.call hs (rsize_below _ _)) | (intro hs; go_at_call 16; exact Since.call hs (same_any _ _ _ _ _ hs1)) | (intro hs; go_at_call 14; exact Since.call hs (may_lit _ _ _ _ (by first | exact hs1 | exact hs2) (by first | exact h1 | exact h2))) | (intro hs; go_at_call 12; exact Since.call hs (works_any _)) | (intro _; rfl))) | (refine BigFrame.wpQuiet_want rfl (fun K hK => ?_); refine quiet_ex ?_; apply Exists.intro; refine ⟨fun w' hw' => ?_, hK _ ?_⟩; (focus (obtain ⟨⟨f0, f1⟩, f2, f3⟩ := HF.out w' hw'; go_simp; rfl)); clear hK K; simp only [Act.put, List.setIfInBounds_toArray, List.set_cons_succ, List.set_cons_zero]) | quiet_step ((first | (intro hs; go_at_call 9; exact Since.call hs (CK.out _)) | (intro hs; go_at_call 11; exact Since.call hs (size_any _ _)) | (intro hs; go_at_call 15; exact Since.call hs (rsize_below _ _)) | (intro hs; go_at_call 16; exact Since.call hs (same_any _ _ _ _ _ hs1)) | (intro hs; go_at_call 14; exact Since.call hs (may_lit _ _ _ _ (by first | exact hs1 | exact hs2) (by first | exact h1 | exact h2))) | (intro hs; go_at_call 12; exact Since.call hs (works_any _)) | (intro _; rfl))))
  refine wpQuiet_nil ?_
  intro wq hwq
  go_wp2
  go_ret
  exact ⟨rfl, hB.trans (Below.mono hwq hB.size)⟩

set_option maxRecDepth 100000 in
set_option maxHeartbeats 1000000 in
theorem tells_4 (k k' : Int) (b b' : ByteArray) (w : World) (hb : b.size ≤ maxLen) (hb' : b'.size ≤ maxLen) (h1 : labOk k (short10 b) = true) (h2 : labOk k' (short10 b') = false) (h3 : labEq k (short10 b) k' (short10 b') = false) :
    Calls Try.prog 4 #[.agg #[.int .i64 k, .string b], .agg #[.int .i64 k', .string b']] w fun e w' => e = .returned (.bool true) ∧ Below w.heap.size w w' := by
  have heq := label_eql
  have hs1 : (short10 b).size ≤ maxLen := Nat.le_trans (short10_size b) (by decide)
  have hs2 : (short10 b').size ≤ maxLen := Nat.le_trans (short10_size b') (by decide)
  go_enter Try.func4, Try.ntmps4
  go_wp2_with fail
  refine (short_any k b _ hb).mono ?_
  rintro e w1 ⟨rfl, hb1⟩
  have hB : Below w.heap.size w w1 := (((Below.refl _ _).alloc (Nat.le_refl _) _).alloc (by simp) _).trans (hb1.mono (by simp; omega))
  have p := ((HasLab.new w k b 24).alloc (.cells #[.int .i64 k', .string b'] 24)).below hb1 (by simp; omega)
  have r := (HasLab.new (w.alloc (.cells #[.int .i64 k, .string b] 24)) k' b' 24).below hb1 (by simp)
  rw [World.size_alloc] at r
  have p0 := p.kind
  have p1 := p.text
  have z0 := p.free0
  have z1 := p.free1
  have r0 := r.kind
  have r1 := r.text
  simp only [Nat.zero_add] at p1 z1 r1
  have HP := Lib.hid p
  have HR := Lib.hid r
  clear hb1 p r
  go_wp2_with fail
  have hB2 := (hB.setCell (p := ⟨w.heap.size, 0, none⟩) (Nat.le_refl _) (.int .i64 k)).setCell (p := ⟨w.heap.size, 1, none⟩) (Nat.le_refl _) (.string (short10 b))
  have p := HP.out.set ⟨k, short10 b⟩
  have r := (HR.out.setOther (p := ⟨w.heap.size, 0, none⟩) (by simp) (.int .i64 k)).setOther (p := ⟨w.heap.size, 1, none⟩) (by simp) (.string (short10 b))
  simp only [Nat.zero_add] at p
  generalize (w1.setCell ⟨w.heap.size, 0, none⟩ (.int .i64 k)).setCell ⟨w.heap.size, 1, none⟩ (.string (short10 b)) = w2 at hB2 p r ⊢
  clear HP HR hB p0 p1 z0 z1 r0 r1 w1
  refine (short_any k' b' _ hb').mono ?_
  rintro e w1 ⟨rfl, hb1⟩
  have hB := hB2.trans (hb1.mono hB2.size)
  replace p := p.below hb1 p.lt
  replace r := r.below hb1 r.lt
  have p0 := p.kind
  have p1 := p.text
  have r0 := r.kind
  have r1 := r.text
  have z0 := r.free0
  have z1 := r.free1
  simp only [Nat.zero_add] at p1 z1 r1
  have HP := Lib.hid p
  have HR := Lib.hid r
  clear hb1 p r hB2
  go_wp2_with fail
  have hB2 := (hB.setCell (p := ⟨w.heap.size + 1, 0, none⟩) (by simp) (.int .i64 k')).setCell (p := ⟨w.heap.size + 1, 1, none⟩) (by simp) (.string (short10 b'))
  have r := HR.out.set ⟨k', short10 b'⟩
  have p := (HP.out.setOther (p := ⟨w.heap.size + 1, 0, none⟩) (by simp) (.int .i64 k')).setOther (p := ⟨w.heap.size + 1, 1, none⟩) (by simp) (.string (short10 b'))
  simp only [Nat.zero_add] at r
  generalize (w1.setCell ⟨w.heap.size + 1, 0, none⟩ (.int .i64 k')).setCell ⟨w.heap.size + 1, 1, none⟩ (.string (short10 b')) = w3 at hB2 p r ⊢
  clear HP HR hB p0 p1 z0 z1 r0 r1 w1 w2
  refine (may_any k (short10 b) _ hs1).mono ?_
  rintro e W ⟨rfl, hb1⟩
  rw [h1]
  have hB := hB2.trans (hb1.mono hB2.size)
  replace p := p.below hb1 p.lt
  replace r := r.below hb1 r.lt
  have HF := Lib.hid (show ∀ w', Since W w' → (w'.cell? ⟨w.heap.size, 0, none⟩ = some (.int .i64 k) ∧ w'.cell? ⟨w.heap.size, 1, none⟩ = some (.string (short10 b))) ∧ w'.cell? ⟨w.heap.size + 1, 0, none⟩ = some (.int .i64 k') ∧ w'.cell? ⟨w.heap.size + 1, 1, none⟩ = some (.string (short10 b')) from
    fun w' hw' => ⟨(p.below hw' p.lt).at, (r.below hw' r.lt).at⟩)
  clear hb1 p r hB2
  have e1 := labEq_self k (short10 b)
  have CK := Lib.hid (show ∀ w', Calls Try.prog 9 #[.agg #[.int .i64 k, .string (short10 b)]] w' fun e w'' => e = .returned (.int .i64 0) ∧ Below w'.heap.size w' w'' from fun w' => by
    have := check_any k (short10 b) w' hs1; rw [h1] at this; simpa using this)
  go_wp2
  refine wp_region_class (Since W) (by kernel_rfl) (by kernel_rfl) (Below.drew (Below.refl _ _)) ?_
  repeat (first | go_big_quiet_step ((first | (intro hs; go_at_call 9; exact Since.call hs (CK.out _)) | (intro hs; go_at_call 11; exact Since.call hs (size_any _ _)) | (intro hs; go_at_call 15; exact Since.call hs (rsize_below _ _)) | (intro hs; go_at_call 16; exact Since.call hs (same_any _ _ _ _ _ hs1)) | (intro hs; go_at_call 14; exact Since.call hs (may_lit _ _ _ _ (by first | exact hs1 | exact hs2) (by first | exact h1 | exact h2))) | (intro hs; go_at_call 12; exact Since.call hs (works_any _)) | (intro _; rfl))) | (refine BigFrame.wpQuiet_want rfl (fun K hK => ?_); refine quiet_ex ?_; apply Exists.intro; refine ⟨fun w' hw' => ?_, hK _ ?_⟩; (focus (obtain ⟨⟨f0, f1⟩, f2, f3⟩ := HF.out w' hw'; go_simp; rfl)); clear hK K; simp only [Act.put, List.setIfInBounds_toArray, List.set_cons_succ, List.set_cons_zero]) | quiet_step ((first | (intro hs; go_at_call 9; exact Since.call hs (CK.out _)) | (intro hs; go_at_call 11; exact Since.call hs (size_any _ _)) | (intro hs; go_at_call 15; exact Since.call hs (rsize_below _ _)) | (intro hs; go_at_call 16; exact Since.call hs (same_any _ _ _ _ _ hs1)) | (intro hs; go_at_call 14; exact Since.call hs (may_lit _ _ _ _ (by first | exact hs1 | exact hs2) (by first | exact h1 | exact h2))) | (intro hs; go_at_call 12; exact Since.call hs (works_any _)) | (intro _; rfl))))
  refine wpQuiet_nil ?_
  intro wq hwq
  go_wp2
  go_ret
  exact ⟨rfl, hB.trans (Below.mono hwq hB.size)⟩

set_option maxRecDepth 100000 in
set_option maxHeartbeats 1000000 in
theorem tells_6 (k k' : Int) (b b' : ByteArray) (w : World) (hb : b.size ≤ maxLen) (hb' : b'.size ≤ maxLen) (h1 : labOk k (short10 b) = true) (h2 : labOk k' (short10 b') = true) (h3 : labEq k (short10 b) k' (short10 b') = false) :
    Calls Try.prog 4 #[.agg #[.int .i64 k, .string b], .agg #[.int .i64 k', .string b']] w fun e w' => e = .returned (.bool true) ∧ Below w.heap.size w w' := by
  have heq := label_eql
  have hs1 : (short10 b).size ≤ maxLen := Nat.le_trans (short10_size b) (by decide)
  have hs2 : (short10 b').size ≤ maxLen := Nat.le_trans (short10_size b') (by decide)
  go_enter Try.func4, Try.ntmps4
  go_wp2_with fail
  refine (short_any k b _ hb).mono ?_
  rintro e w1 ⟨rfl, hb1⟩
  have hB : Below w.heap.size w w1 := (((Below.refl _ _).alloc (Nat.le_refl _) _).alloc (by simp) _).trans (hb1.mono (by simp; omega))
  have p := ((HasLab.new w k b 24).alloc (.cells #[.int .i64 k', .string b'] 24)).below hb1 (by simp; omega)
  have r := (HasLab.new (w.alloc (.cells #[.int .i64 k, .string b] 24)) k' b' 24).below hb1 (by simp)
  rw [World.size_alloc] at r
  have p0 := p.kind
  have p1 := p.text
  have z0 := p.free0
  have z1 := p.free1
  have r0 := r.kind
  have r1 := r.text
  simp only [Nat.zero_add] at p1 z1 r1
  have HP := Lib.hid p
  have HR := Lib.hid r
  clear hb1 p r
  go_wp2_with fail
  have hB2 := (hB.setCell (p := ⟨w.heap.size, 0, none⟩) (Nat.le_refl _) (.int .i64 k)).setCell (p := ⟨w.heap.size, 1, none⟩) (Nat.le_refl _) (.string (short10 b))
  have p := HP.out.set ⟨k, short10 b⟩
  have r := (HR.out.setOther (p := ⟨w.heap.size, 0, none⟩) (by simp) (.int .i64 k)).setOther (p := ⟨w.heap.size, 1, none⟩) (by simp) (.string (short10 b))
  simp only [Nat.zero_add] at p
  generalize (w1.setCell ⟨w.heap.size, 0, none⟩ (.int .i64 k)).setCell ⟨w.heap.size, 1, none⟩ (.string (short10 b)) = w2 at hB2 p r ⊢
  clear HP HR hB p0 p1 z0 z1 r0 r1 w1
  refine (short_any k' b' _ hb').mono ?_
  rintro e w1 ⟨rfl, hb1⟩
  have hB := hB2.trans (hb1.mono hB2.size)
  replace p := p.below hb1 p.lt
  replace r := r.below hb1 r.lt
  have p0 := p.kind
  have p1 := p.text
  have r0 := r.kind
  have r1 := r.text
  have z0 := r.free0
  have z1 := r.free1
  simp only [Nat.zero_add] at p1 z1 r1
  have HP := Lib.hid p
  have HR := Lib.hid r
  clear hb1 p r hB2
  go_wp2_with fail
  have hB2 := (hB.setCell (p := ⟨w.heap.size + 1, 0, none⟩) (by simp) (.int .i64 k')).setCell (p := ⟨w.heap.size + 1, 1, none⟩) (by simp) (.string (short10 b'))
  have r := HR.out.set ⟨k', short10 b'⟩
  have p := (HP.out.setOther (p := ⟨w.heap.size + 1, 0, none⟩) (by simp) (.int .i64 k')).setOther (p := ⟨w.heap.size + 1, 1, none⟩) (by simp) (.string (short10 b'))
  simp only [Nat.zero_add] at r
  generalize (w1.setCell ⟨w.heap.size + 1, 0, none⟩ (.int .i64 k')).setCell ⟨w.heap.size + 1, 1, none⟩ (.string (short10 b')) = w3 at hB2 p r ⊢
  clear HP HR hB p0 p1 z0 z1 r0 r1 w1 w2
  refine (may_any k (short10 b) _ hs1).mono ?_
  rintro e W ⟨rfl, hb1⟩
  rw [h1]
  have hB := hB2.trans (hb1.mono hB2.size)
  replace p := p.below hb1 p.lt
  replace r := r.below hb1 r.lt
  have HF := Lib.hid (show ∀ w', Since W w' → (w'.cell? ⟨w.heap.size, 0, none⟩ = some (.int .i64 k) ∧ w'.cell? ⟨w.heap.size, 1, none⟩ = some (.string (short10 b))) ∧ w'.cell? ⟨w.heap.size + 1, 0, none⟩ = some (.int .i64 k') ∧ w'.cell? ⟨w.heap.size + 1, 1, none⟩ = some (.string (short10 b')) from
    fun w' hw' => ⟨(p.below hw' p.lt).at, (r.below hw' r.lt).at⟩)
  clear hb1 p r hB2
  have e1 := labEq_self k (short10 b)
  have CK := Lib.hid (show ∀ w', Calls Try.prog 9 #[.agg #[.int .i64 k, .string (short10 b)]] w' fun e w'' => e = .returned (.int .i64 0) ∧ Below w'.heap.size w' w'' from fun w' => by
    have := check_any k (short10 b) w' hs1; rw [h1] at this; simpa using this)
  go_wp2
  refine wp_region_class (Since W) (by kernel_rfl) (by kernel_rfl) (Below.drew (Below.refl _ _)) ?_
  repeat (first | go_big_quiet_step ((first | (intro hs; go_at_call 9; exact Since.call hs (CK.out _)) | (intro hs; go_at_call 11; exact Since.call hs (size_any _ _)) | (intro hs; go_at_call 15; exact Since.call hs (rsize_below _ _)) | (intro hs; go_at_call 16; exact Since.call hs (same_any _ _ _ _ _ hs1)) | (intro hs; go_at_call 14; exact Since.call hs (may_lit _ _ _ _ (by first | exact hs1 | exact hs2) (by first | exact h1 | exact h2))) | (intro hs; go_at_call 12; exact Since.call hs (works_any _)) | (intro _; rfl))) | (refine BigFrame.wpQuiet_want rfl (fun K hK => ?_); refine quiet_ex ?_; apply Exists.intro; refine ⟨fun w' hw' => ?_, hK _ ?_⟩; (focus (obtain ⟨⟨f0, f1⟩, f2, f3⟩ := HF.out w' hw'; go_simp; rfl)); clear hK K; simp only [Act.put, List.setIfInBounds_toArray, List.set_cons_succ, List.set_cons_zero]) | quiet_step ((first | (intro hs; go_at_call 9; exact Since.call hs (CK.out _)) | (intro hs; go_at_call 11; exact Since.call hs (size_any _ _)) | (intro hs; go_at_call 15; exact Since.call hs (rsize_below _ _)) | (intro hs; go_at_call 16; exact Since.call hs (same_any _ _ _ _ _ hs1)) | (intro hs; go_at_call 14; exact Since.call hs (may_lit _ _ _ _ (by first | exact hs1 | exact hs2) (by first | exact h1 | exact h2))) | (intro hs; go_at_call 12; exact Since.call hs (works_any _)) | (intro _; rfl))))
  refine wpQuiet_nil ?_
  intro wq hwq
  go_wp2
  go_ret
  exact ⟨rfl, hB.trans (Below.mono hwq hB.size)⟩

set_option maxRecDepth 100000 in
set_option maxHeartbeats 1000000 in
theorem tells_7 (k k' : Int) (b b' : ByteArray) (w : World) (hb : b.size ≤ maxLen) (hb' : b'.size ≤ maxLen) (h1 : labOk k (short10 b) = true) (h2 : labOk k' (short10 b') = true) (h3 : labEq k (short10 b) k' (short10 b') = true) :
    Calls Try.prog 4 #[.agg #[.int .i64 k, .string b], .agg #[.int .i64 k', .string b']] w fun e w' => e = .returned (.bool true) ∧ Below w.heap.size w w' := by
  have heq := label_eql
  have hs1 : (short10 b).size ≤ maxLen := Nat.le_trans (short10_size b) (by decide)
  have hs2 : (short10 b').size ≤ maxLen := Nat.le_trans (short10_size b') (by decide)
  go_enter Try.func4, Try.ntmps4
  go_wp2_with fail
  refine (short_any k b _ hb).mono ?_
  rintro e w1 ⟨rfl, hb1⟩
  have hB : Below w.heap.size w w1 := (((Below.refl _ _).alloc (Nat.le_refl _) _).alloc (by simp) _).trans (hb1.mono (by simp; omega))
  have p := ((HasLab.new w k b 24).alloc (.cells #[.int .i64 k', .string b'] 24)).below hb1 (by simp; omega)
  have r := (HasLab.new (w.alloc (.cells #[.int .i64 k, .string b] 24)) k' b' 24).below hb1 (by simp)
  rw [World.size_alloc] at r
  have p0 := p.kind
  have p1 := p.text
  have z0 := p.free0
  have z1 := p.free1
  have r0 := r.kind
  have r1 := r.text
  simp only [Nat.zero_add] at p1 z1 r1
  have HP := Lib.hid p
  have HR := Lib.hid r
  clear hb1 p r
  go_wp2_with fail
  have hB2 := (hB.setCell (p := ⟨w.heap.size, 0, none⟩) (Nat.le_refl _) (.int .i64 k)).setCell (p := ⟨w.heap.size, 1, none⟩) (Nat.le_refl _) (.string (short10 b))
  have p := HP.out.set ⟨k, short10 b⟩
  have r := (HR.out.setOther (p := ⟨w.heap.size, 0, none⟩) (by simp) (.int .i64 k)).setOther (p := ⟨w.heap.size, 1, none⟩) (by simp) (.string (short10 b))
  simp only [Nat.zero_add] at p
  generalize (w1.setCell ⟨w.heap.size, 0, none⟩ (.int .i64 k)).setCell ⟨w.heap.size, 1, none⟩ (.string (short10 b)) = w2 at hB2 p r ⊢
  clear HP HR hB p0 p1 z0 z1 r0 r1 w1
  refine (short_any k' b' _ hb').mono ?_
  rintro e w1 ⟨rfl, hb1⟩
  have hB := hB2.trans (hb1.mono hB2.size)
  replace p := p.below hb1 p.lt
  replace r := r.below hb1 r.lt
  have p0 := p.kind
  have p1 := p.text
  have r0 := r.kind
  have r1 := r.text
  have z0 := r.free0
  have z1 := r.free1
  simp only [Nat.zero_add] at p1 z1 r1
  have HP := Lib.hid p
  have HR := Lib.hid r
  clear hb1 p r hB2
  go_wp2_with fail
  have hB2 := (hB.setCell (p := ⟨w.heap.size + 1, 0, none⟩) (by simp) (.int .i64 k')).setCell (p := ⟨w.heap.size + 1, 1, none⟩) (by simp) (.string (short10 b'))
  have r := HR.out.set ⟨k', short10 b'⟩
  have p := (HP.out.setOther (p := ⟨w.heap.size + 1, 0, none⟩) (by simp) (.int .i64 k')).setOther (p := ⟨w.heap.size + 1, 1, none⟩) (by simp) (.string (short10 b'))
  simp only [Nat.zero_add] at r
  generalize (w1.setCell ⟨w.heap.size + 1, 0, none⟩ (.int .i64 k')).setCell ⟨w.heap.size + 1, 1, none⟩ (.string (short10 b')) = w3 at hB2 p r ⊢
  clear HP HR hB p0 p1 z0 z1 r0 r1 w1 w2
  refine (may_any k (short10 b) _ hs1).mono ?_
  rintro e W ⟨rfl, hb1⟩
  rw [h1]
  have hB := hB2.trans (hb1.mono hB2.size)
  replace p := p.below hb1 p.lt
  replace r := r.below hb1 r.lt
  have HF := Lib.hid (show ∀ w', Since W w' → (w'.cell? ⟨w.heap.size, 0, none⟩ = some (.int .i64 k) ∧ w'.cell? ⟨w.heap.size, 1, none⟩ = some (.string (short10 b))) ∧ w'.cell? ⟨w.heap.size + 1, 0, none⟩ = some (.int .i64 k') ∧ w'.cell? ⟨w.heap.size + 1, 1, none⟩ = some (.string (short10 b')) from
    fun w' hw' => ⟨(p.below hw' p.lt).at, (r.below hw' r.lt).at⟩)
  clear hb1 p r hB2
  have e1 := labEq_self k (short10 b)
  have CK := Lib.hid (show ∀ w', Calls Try.prog 9 #[.agg #[.int .i64 k, .string (short10 b)]] w' fun e w'' => e = .returned (.int .i64 0) ∧ Below w'.heap.size w' w'' from fun w' => by
    have := check_any k (short10 b) w' hs1; rw [h1] at this; simpa using this)
  go_wp2
  refine wp_region_class (Since W) (by kernel_rfl) (by kernel_rfl) (Below.drew (Below.refl _ _)) ?_
  repeat (first | go_big_quiet_step ((first | (intro hs; go_at_call 9; exact Since.call hs (CK.out _)) | (intro hs; go_at_call 11; exact Since.call hs (size_any _ _)) | (intro hs; go_at_call 15; exact Since.call hs (rsize_below _ _)) | (intro hs; go_at_call 16; exact Since.call hs (same_any _ _ _ _ _ hs1)) | (intro hs; go_at_call 14; exact Since.call hs (may_lit _ _ _ _ (by first | exact hs1 | exact hs2) (by first | exact h1 | exact h2))) | (intro hs; go_at_call 12; exact Since.call hs (works_any _)) | (intro _; rfl))) | (refine BigFrame.wpQuiet_want rfl (fun K hK => ?_); refine quiet_ex ?_; apply Exists.intro; refine ⟨fun w' hw' => ?_, hK _ ?_⟩; (focus (obtain ⟨⟨f0, f1⟩, f2, f3⟩ := HF.out w' hw'; go_simp; rfl)); clear hK K; simp only [Act.put, List.setIfInBounds_toArray, List.set_cons_succ, List.set_cons_zero]) | quiet_step ((first | (intro hs; go_at_call 9; exact Since.call hs (CK.out _)) | (intro hs; go_at_call 11; exact Since.call hs (size_any _ _)) | (intro hs; go_at_call 15; exact Since.call hs (rsize_below _ _)) | (intro hs; go_at_call 16; exact Since.call hs (same_any _ _ _ _ _ hs1)) | (intro hs; go_at_call 14; exact Since.call hs (may_lit _ _ _ _ (by first | exact hs1 | exact hs2) (by first | exact h1 | exact h2))) | (intro hs; go_at_call 12; exact Since.call hs (works_any _)) | (intro _; rfl))))
  refine wpQuiet_nil ?_
  intro wq hwq
  go_wp2
  go_ret
  exact ⟨rfl, hB.trans (Below.mono hwq hB.size)⟩

theorem tells_any (k k' : Int) (b b' : ByteArray) (w : World) (hb : b.size ≤ maxLen) (hb' : b'.size ≤ maxLen) :
    Calls Try.prog 4 #[.agg #[.int .i64 k, .string b], .agg #[.int .i64 k', .string b']] w fun e w' => e = .returned (.bool true) ∧ Below w.heap.size w w' := by
  cases h1 : labOk k (short10 b) <;> cases h2 : labOk k' (short10 b') <;> cases h3 : labEq k (short10 b) k' (short10 b')
  · exact tells_0 k k' b b' w hb hb' h1 h2 h3
  · exact tells_1 k k' b b' w hb hb' h1 h2 h3
  · exact tells_2 k k' b b' w hb hb' h1 h2 h3
  · have e := (labEq_iff _ _ _ _).1 h3
    rw [e.1, e.2, h2] at h1; cases h1
  · exact tells_4 k k' b b' w hb hb' h1 h2 h3
  · have e := (labEq_iff _ _ _ _).1 h3
    rw [e.1, e.2, h2] at h1; cases h1
  · exact tells_6 k k' b b' w hb hb' h1 h2 h3
  · exact tells_7 k k' b b' w hb hb' h1 h2 h3

end Go.Proofs.Ytgbjecgkbhknmaa
