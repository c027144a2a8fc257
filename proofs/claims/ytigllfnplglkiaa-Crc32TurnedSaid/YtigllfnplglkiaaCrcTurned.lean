/-
  The walk of Crc32Turned.
-/
import Derived.Test.YtigllfnplglkiaaCrcLaw
import Derived.Test.YtigllfnplglkiaaCrcTurn
namespace Go.Proofs.Ytigllfnplglkiaa
set_option linter.unusedVariables false
open Go.RowKit

set_option maxRecDepth 100000 in
set_option maxHeartbeats 400000 in
theorem turned_small (s : ByteArray) (at_ t : Int) (w : World) (hs : s.size ≤ maxLen) (h : s.size < 5) :
    Calls Try.prog 5 #[.string s, .int .u16 at_, .int .u32 t] w fun e w' => e = .returned (.bool true) ∧ Below w.heap.size w w' := by
  unfold maxLen at hs
  go_enter Try.func5, Try.ntmps5
  go_wp2_with fail
  refine (works_any _).mono ?_
  rintro e w2 ⟨rfl, hb2⟩
  go_wp2
  go_ret
  exact ⟨rfl, hb2⟩

set_option maxRecDepth 100000 in
set_option maxHeartbeats 400000 in
theorem turned_none (s : ByteArray) (at_ : Int) (w : World) (hs : s.size ≤ maxLen) (h : 5 ≤ s.size) :
    Calls Try.prog 5 #[.string s, .int .u16 at_, .int .u32 0] w fun e w' => e = .returned (.bool true) ∧ Below w.heap.size w w' := by
  unfold maxLen at hs
  go_enter Try.func5, Try.ntmps5
  go_wp2_with fail
  all_goals
    refine (works_any _).mono ?_
    rintro e w2 ⟨rfl, hb2⟩
    go_wp2
    go_ret
    exact ⟨rfl, hb2⟩

theorem min_at (x : Nat) (c : Int) (hc : 0 ≤ c) : ∃ m : Nat, (m : Int) ≤ (x : Int) ∧ (m : Int) ≤ c ∧ ((m : Int) = (x : Int) ∨ (m : Int) = c) ∧ ∀ w, (Builtin.min_ #[3, 3] 3 #[.int .i64 (x : Int), .int .i64 c]).run Try.prog w = .ok (.int .i64 (m : Int)) w := by
  by_cases h : c < (x : Int)
  · refine ⟨c.toNat, by omega, by omega, by omega, fun w => ?_⟩
    rw [run_min_int2, if_pos h, Int.toNat_of_nonneg hc]
  · refine ⟨x, by omega, by omega, by omega, fun w => ?_⟩
    rw [run_min_int2, if_neg h]

set_option maxRecDepth 100000 in
set_option maxHeartbeats 400000 in
theorem turned_walk (s : ByteArray) (p t : Nat) (w : World) (hs : s.size ≤ maxLen) (h : 5 ≤ s.size) (hp : p < 65536) (ht : t < 4294967296) (h0 : t ≠ 0) :
    Calls Try.prog 5 #[.string s, .int .u16 (p : Int), .int .u32 (t : Int)] w fun e w' => e = .returned (.bool true) ∧ Below w.heap.size w w' := by
  unfold maxLen at hs
  have hz : ((t : Int) == 0) = false := by simp; omega
  obtain ⟨m, hm1, hm2, hm, hmin⟩ := min_at s.size 500 (by decide)
  have hm5 : 5 ≤ m := by omega
  have hm500 : m ≤ 500 := by omega
  have hsz : (s.extract 0 m).size = m := by rw [ByteArray.size_extract]; omega
  have hd5 : decide ((m : Int) < 5) = false := by simp; omega
  clear hm
  have hcs := fun (w : World) (s : ByteArray) => run_bytes_of_string (P := Try.prog) w 9 28 5 s Try.underlying9 Try.underlying28 Try.underlying5
  go_enter Try.func5, Try.ntmps5
  go_wp2
  have hB : Below w.heap.size w (w.alloc (.cells (bytesRow (s.extract 0 m) (grownCap w m 0 5)) 5 ((bytesRow (s.extract 0 m) (grownCap w m 0 5)).size, (bytesRow (s.extract 0 m) (grownCap w m 0 5)).size + 1))).drew := ((Below.refl _ _).alloc (Nat.le_refl _) _).drew
  have hh : HasBytes (w.alloc (.cells (bytesRow (s.extract 0 m) (grownCap w m 0 5)) 5 ((bytesRow (s.extract 0 m) (grownCap w m 0 5)).size, (bytesRow (s.extract 0 m) (grownCap w m 0 5)).size + 1))).drew w.heap.size (s.extract 0 m).data.toList := HasBytes.ofString w 5 (s.extract 0 m) (grownCap w m 0 5)
  have hS : w.heap.size < (w.alloc (.cells (bytesRow (s.extract 0 m) (grownCap w m 0 5)) 5 ((bytesRow (s.extract 0 m) (grownCap w m 0 5)).size, (bytesRow (s.extract 0 m) (grownCap w m 0 5)).size + 1))).drew.heap.size := by simp
  generalize (w.alloc (.cells (bytesRow (s.extract 0 m) (grownCap w m 0 5)) 5 ((bytesRow (s.extract 0 m) (grownCap w m 0 5)).size, (bytesRow (s.extract 0 m) (grownCap w m 0 5)).size + 1))).drew = w1 at hB hh hS ⊢
  generalize grownCap w m 0 5 = cap
  generalize s.extract 0 m = s1 at hh hsz ⊢
  clear hcs hmin hm1
  have hq0 : 0 ≤ (p : Int) % (8 * (m : Int) - 31) := Int.emod_nonneg _ (by omega)
  have hq1 : (p : Int) % (8 * (m : Int) - 31) < 8 * (m : Int) - 31 := Int.emod_lt_of_pos _ (by omega)
  generalize (p : Int) % (8 * (m : Int) - 31) = q at hq0 hq1 ⊢
  obtain ⟨n, rfl⟩ := Int.eq_ofNat_of_zero_le hq0
  have hln : s1.data.toList.length = m := by rw [Array.length_toList]; exact hsz
  go_loopw [9] (fun i wr => ∃ k : Nat, k ≤ 32 ∧ i = .int .i64 k ∧ (∃ l : List UInt8, l.length = s1.data.toList.length ∧ HasBytes wr w.heap.size l ∧ Crc.sum l = Crc.sum s1.data.toList ^^^ Crc.turns (8 * s1.data.toList.length - n) (Crc.tops t k)) ∧ Below w.heap.size w wr ∧ w.heap.size < wr.heap.size) (fun i _ => 32 - (intOf i).toNat)
  case atStart => exact ⟨0, by omega, rfl, ⟨_, rfl, hh, by rw [Crc.tops_zero t ht, Crc.turns_zero, BitVec.xor_zero]⟩, hB, hS⟩
  case round =>
    obtain ⟨i, hi, rfl, ⟨l, hl, hh1, hl2⟩, hb1, hs1⟩ := hrel
    clear hh hB hS hq0
    by_cases hlt : i < 32
    · have hk8 : (n + i) / 8 < l.length := by omega
      have hround := Crc.sum_round l s1.data.toList n i t ht hlt hl (by omega) hl2 hk8 (l[(n + i) / 8] ^^^ UInt8.ofNat (t / 2 ^ (31 - i) % 2 * 2 ^ (7 - (n + i) % 8)))
      have hcell := (hh1 _ hk8).1
      have hfro := (hh1 _ hk8).2
      generalize l[(n + i) / 8] = old at hround hcell
      obtain ⟨j, hj⟩ : ∃ j, j = (n + i) / 8 := ⟨_, rfl⟩
      obtain ⟨e, he⟩ : ∃ e, e = 7 - (n + i) % 8 := ⟨_, rfl⟩
      obtain ⟨f, hf⟩ : ∃ f, f = 31 - i := ⟨_, rfl⟩
      obtain ⟨b, hb⟩ : ∃ b, b = t / 2 ^ f % 2 := ⟨_, rfl⟩
      obtain ⟨d, hd⟩ : ∃ d, d = b * 2 ^ e := ⟨_, rfl⟩
      rw [← hj, ← he, ← hf, ← hb, ← hd] at hround
      rw [← hj] at hcell hfro hk8
      have hb1' : b ≤ 1 := by omega
      have he7 : e ≤ 7 := by omega
      have hd8 : d < 256 := by
        have h1 : b * 2 ^ e ≤ 1 * 2 ^ e := Nat.mul_le_mul_right _ hb1'
        have h2 : 2 ^ e ≤ 2 ^ 7 := Nat.pow_le_pow_right (by decide) he7
        omega
      have r1 : IntKind.i64.wrap (((n : Int) + (i : Int)).tdiv 8) = (j : Int) := by
        rw [Int.tdiv_eq_ediv_of_nonneg (by omega), IntWalk.i64_in _ (by omega)]; omega
      have r2 : ((n : Int) + (i : Int)).tmod 8 = ((7 - e : Nat) : Int) := by
        rw [Int.tmod_eq_emod_of_nonneg (by omega)]; omega
      have r3 : IntKind.i64.wrap (7 - ((7 - e : Nat) : Int)) = (e : Int) := by
        rw [IntWalk.i64_in _ (by omega)]; omega
      have r4 : IntKind.i64.wrap (31 - (i : Int)) = (f : Int) := by
        rw [IntWalk.i64_in _ (by omega)]; omega
      have r5 : bits .and .u32 ((t : Int) / (2 : Int) ^ f) 1 = (b : Int) := by
        have e1 : ((t : Int) / (2 : Int) ^ f) = ((t / 2 ^ f : Nat) : Int) := by simp
        rw [e1, show (1 : Int) = ((1 : Nat) : Int) from rfl, u32_and_nat _ _ (Nat.lt_of_le_of_lt (Nat.div_le_self _ _) ht) (by decide), Nat.and_one_is_mod, ← hb]
      have r6 : IntKind.u8.wrap (b : Int) = (b : Int) := by rw [IntKind.wrap_u8]; omega
      have r7 : IntKind.u8.wrap ((b : Int) * (2 : Int) ^ e) = (d : Int) := by
        have e1 : ((b : Int) * (2 : Int) ^ e) = (d : Int) := by rw [hd]; simp
        rw [e1, IntKind.wrap_u8]; omega
      have r8 : bits .xor .u8 (old.toNat : Int) (d : Int) = ((old.toNat ^^^ d : Nat) : Int) := u8_xor_nat _ _ old.toNat_lt hd8
      have m1 : min f 32 = f := by omega
      have m2 : min e 8 = e := by omega
      have hjm : (j : Int) < (m : Int) := by omega
      have hxn : (old ^^^ UInt8.ofNat d).toNat = old.toNat ^^^ d := by
        rw [UInt8.toNat_xor, UInt8.toNat_ofNat', Nat.mod_eq_of_lt hd8]
      clear hj he hf hb hd
      have HX := Lib.hid hxn
      clear hxn
      have HR := Lib.hid hround
      have HL := Lib.hid hl
      have HL2 := Lib.hid hl2
      have HZ := Lib.hid hsz
      have HN := Lib.hid hln
      clear hround hl hl2 hsz hln
      go_wp2
      go_still_tail 17, (by kernel_rfl)
      change wpList _ _ _ _ _ wr.drew
      go_wp2
      refine ⟨⟨i + 1, by omega, by go_num, ⟨_, ?_, (hh1.set j hk8 (old ^^^ UInt8.ofNat d) _ (by rw [HX.out])).drew, HR.out HX.out⟩, (hb1.setCell (Nat.le_refl _) _).drew, by simpa using hs1⟩, by simp [intOf]; omega⟩
      rw [List.length_set, HL.out]
    · obtain rfl : i = 32 := by omega
      have hcv := hh1.string (P := Try.prog) 28 9 5 Try.underlying28 Try.underlying5 Try.underlying9 cap
      rw [hl, hln] at hcv
      have hne : (((Crc.sum l).toNat : Int) != ((Crc.sum s1.data.toList).toNat : Int)) = true := by
        rw [bne_iff_ne]
        intro he
        exact Crc.sum_turned l s1.data.toList n t ht h0 hl2 (BitVec.eq_of_toNat_eq (by omega))
      have sl : (ByteArray.mk l.toArray).size ≤ maxLen := by
        show l.toArray.size ≤ _
        rw [List.size_toArray, hl, hln]; unfold maxLen; omega
      have s1' : s1.size ≤ maxLen := by unfold maxLen; omega
      clear hl hln hl2 hh1 hsz
      have HE := Lib.hid hne
      clear hne
      go_wp2_with fail
      refine (sum_any _ _ sl).mono ?_
      rintro e w2 ⟨rfl, hb2⟩
      go_wp2_with fail
      refine (sum_any _ _ s1').mono ?_
      rintro e w3 ⟨rfl, hb3⟩
      have hne := HE.out
      go_wp2_with fail
      refine (works_any _).mono ?_
      rintro e w4 ⟨rfl, hb4⟩
      go_wp2
      go_ret
      exact ⟨rfl, ((hb1.trans (hb2.mono hb1.size)).trans (hb3.mono (Nat.le_trans hb1.size hb2.size))).trans (hb4.mono (Nat.le_trans hb1.size (Nat.le_trans hb2.size hb3.size)))⟩

theorem turned_any (s : ByteArray) (p t : Int) (w : World) (hs : s.size ≤ maxLen) (hp : (Lit.int .u16 p).wf = true) (ht : (Lit.int .u32 t).wf = true) :
    Calls Try.prog 5 #[.string s, .int .u16 p, .int .u32 t] w fun e w' => e = .returned (.bool true) ∧ Below w.heap.size w w' := by
  have p1 : 0 ≤ p ∧ p ≤ 65535 := by simpa [Lit.wf, IntKind.min, IntKind.max, IntKind.signed, IntKind.bits] using hp
  have t1 : 0 ≤ t ∧ t ≤ 4294967295 := by simpa [Lit.wf, IntKind.min, IntKind.max, IntKind.signed, IntKind.bits] using ht
  by_cases h : s.size < 5
  · exact turned_small s p t w hs h
  · by_cases h0 : t = 0
    · subst h0
      exact turned_none s p w hs (by omega)
    · obtain ⟨p, rfl⟩ := Int.eq_ofNat_of_zero_le p1.1
      obtain ⟨t, rfl⟩ := Int.eq_ofNat_of_zero_le t1.1
      exact turned_walk s p t w hs (by omega) (by omega) (by omega) (by omega)

end Go.Proofs.Ytigllfnplglkiaa
