/-
  The walk of Crc32Adds.
-/
import Derived.Test.YtigllfnplglkiaaCrcLaw
import Derived.Deep.OwnRows
namespace Go.Proofs.Ytigllfnplglkiaa
set_option linter.unusedVariables false
open Go.RowKit

theorem min4 (x y z : Nat) : ∃ n : Nat, n ≤ x ∧ n ≤ y ∧ n ≤ z ∧ n ≤ 1000 ∧
    ∀ w, (Builtin.min_ #[3, 3, 3, 3] 3 #[.int .i64 (x : Int), .int .i64 (y : Int), .int .i64 (z : Int), .int .i64 1000]).run Try.prog w = .ok (.int .i64 (n : Int)) w := by
  refine ⟨min (min (min x y) z) 1000, by omega, by omega, by omega, by omega, fun w => ?_⟩
  simp [Builtin.min_, Builtin.min2]
  repeat' split
  all_goals omega

theorem extract_take (s : ByteArray) (k : Nat) : (s.extract 0 k).data.toList = s.data.toList.take k := by
  rw [ByteArray.data_extract]; simp

set_option maxRecDepth 100000 in
set_option maxHeartbeats 400000 in
theorem adds_walk (a b c : ByteArray) (w : World) (ha : a.size ≤ maxLen) (hb : b.size ≤ maxLen) (hc : c.size ≤ maxLen) :
    Calls Try.prog 6 #[.string a, .string b, .string c] w fun e w' => e = .returned (.bool true) ∧ Below w.heap.size w w' := by
  unfold maxLen at ha hb hc
  obtain ⟨n, hna, hnb, hnc, hn, hmin⟩ := min4 a.size b.size c.size
  have hmk := run_make_row' (P := Try.prog) 28 5 (.int .u8 0) 1 Try.underlying28 (by kernel_rfl) rfl .i64 .i64 n (by omega) (by omega)
  go_enter Try.func6, Try.ntmps6
  go_wp2
  have hB : Below w.heap.size w (w.alloc (.cells (madeCells #[.int .u8 0] n) 5)) := (Below.refl _ _).alloc (Nat.le_refl _) _
  have hh := HasBytes.make w 5 n
  have hS : w.heap.size < (w.alloc (.cells (madeCells #[.int .u8 0] n) 5)).heap.size := by simp
  generalize (w.alloc (.cells (madeCells #[.int .u8 0] n) 5)) = w1 at hB hh hS ⊢
  clear hmk hmin
  go_loopw [9] (fun i wr => ∃ k : Nat, k ≤ n ∧ i = .int .i64 k ∧ (∃ l : List UInt8, l.length = n ∧ HasBytes wr w.heap.size l ∧ l = (Crc.mixed a b c n).take k ++ List.replicate (n - k) 0) ∧ Below w.heap.size w wr ∧ w.heap.size < wr.heap.size) (fun i _ => n - (intOf i).toNat)
  case atStart => exact ⟨0, by omega, rfl, ⟨_, by simp, hh, by simp⟩, hB, hS⟩
  case round =>
    obtain ⟨k, hk, rfl, ⟨l, hl, hh1, hl2⟩, hb1, hs1⟩ := hrel
    clear hh hB hS
    by_cases hlt : k < n
    · have hka : (k : Int) < (a.size : Int) := by omega
      have hkb : (k : Int) < (b.size : Int) := by omega
      have hkc : (k : Int) < (c.size : Int) := by omega
      have hkn : (k : Int) < (n : Int) := by omega
      have hx1 : bits .xor .u8 (a[k].toNat : Int) (b[k].toNat : Int) = ((a[k].toNat ^^^ b[k].toNat : Nat) : Int) := u8_xor_nat _ _ a[k].toNat_lt b[k].toNat_lt
      have hlt2 : a[k].toNat ^^^ b[k].toNat < 256 := Nat.xor_lt_two_pow (n := 8) a[k].toNat_lt b[k].toNat_lt
      have hx2 : bits .xor .u8 ((a[k].toNat ^^^ b[k].toNat : Nat) : Int) (c[k].toNat : Int) = ((a[k].toNat ^^^ b[k].toNat ^^^ c[k].toNat : Nat) : Int) := u8_xor_nat _ _ hlt2 c[k].toNat_lt
      obtain ⟨x0, hcell⟩ : ∃ v, wr.cell? ⟨w.heap.size, k, none⟩ = some v := ⟨_, (hh1 k (by omega)).1⟩
      have hfro : wr.frozen? ⟨w.heap.size, k, none⟩ = false := (hh1 k (by omega)).2
      have HL := Lib.hid hl
      have HL2 := Lib.hid hl2
      clear hl hl2
      go_wp2
      go_still_tail 14, (by kernel_rfl)
      change wpList _ _ _ _ _ wr.drew
      go_wp2
      go_roundw
      case rel =>
        refine ⟨k + 1, by omega, by go_num, ⟨_, ?_, HasBytes.drew (hh1.set k (by rw [HL.out]; exact hlt) (a[k] ^^^ b[k] ^^^ c[k]) _ (by simp)), Crc.set_take (Crc.mixed_length a b c n hna hnb hnc) hlt HL2.out _ (Crc.mixed_get a b c n k hna hnb hnc hlt)⟩, ?_⟩
        · rw [List.length_set, HL.out]
        · exact ⟨(hb1.setCell (Nat.le_refl _) _).drew, by simpa using hs1⟩
      case measure => simp [intOf]; omega
    · obtain rfl : k = n := by omega
      have hlm : l = Crc.mixed a b c k := by rw [hl2, Nat.sub_self, List.replicate_zero, List.append_nil, List.take_of_length_le (by rw [Crc.mixed_length a b c k hna hnb hnc]; exact Nat.le_refl _)]
      clear hl2
      have hcv : ∀ w', Since wr w' → (convert 28 9 (.slice (some ⟨w.heap.size, 0, none⟩) k k)).run Try.prog w' = .ok (.string ⟨(Crc.mixed a b c k).toArray⟩) w' := fun w' hw' => by
        have := (hh1.below hw' hs1).string (P := Try.prog) 28 9 5 Try.underlying28 Try.underlying5 Try.underlying9 k
        rwa [hl, hlm] at this
      clear hh1 hl hlm
      have HV := Lib.hid hcv
      clear hcv
      go_wp2
      refine wp_region_class (Since wr) (by kernel_rfl) (by kernel_rfl) (Below.drew (Below.refl _ _)) ?_
      repeat (first | go_big_quiet_step (fail) | quiet_step (fail))
      refine BigFrame.wpQuiet_want rfl (fun K hK => ?_)
      refine quiet_run (.string ⟨(Crc.mixed a b c k).toArray⟩) (fun w' hw' => ?_) (hK _ ?_)
      · have hcv := HV.out w' hw'
        go_simp
      clear hK K
      simp only [Act.put, List.setIfInBounds_toArray, List.set_cons_succ, List.set_cons_zero]
      have sa : ∀ x : ByteArray, x.size ≤ 9223372036854775807 → (x.extract 0 k).size ≤ maxLen := fun x hx => by rw [ByteArray.size_extract]; unfold maxLen; omega
      have hka : (k : Int) ≤ (a.size : Int) := by omega
      have hkb : (k : Int) ≤ (b.size : Int) := by omega
      have hkc : (k : Int) ≤ (c.size : Int) := by omega
      have sm : (ByteArray.mk (Crc.mixed a b c k).toArray).size ≤ maxLen := by
        show (Crc.mixed a b c k).toArray.size ≤ _
        rw [List.size_toArray, Crc.mixed_length a b c k hna hnb hnc]; unfold maxLen; omega
      have hA : (a.extract 0 k).data.toList = a.data.toList.take k := extract_take a k
      have hB : (b.extract 0 k).data.toList = b.data.toList.take k := extract_take b k
      have hC : (c.extract 0 k).data.toList = c.data.toList.take k := extract_take c k
      have hM : (Crc.sum (Crc.mixed a b c k)).toNat = (Crc.sum (a.extract 0 k).data.toList).toNat ^^^ (Crc.sum (b.extract 0 k).data.toList).toNat ^^^ (Crc.sum (c.extract 0 k).data.toList).toNat := by
        rw [hA, hB, hC, Crc.sum_mixed a b c k hna hnb hnc, BitVec.toNat_xor, BitVec.toNat_xor]
      clear hA hB hC
      have hx2 : ∀ x y : BitVec 32, bits .xor .u32 (x.toNat : Int) (y.toNat : Int) = ((x.toNat ^^^ y.toNat : Nat) : Int) := fun x y => u32_xor_nat _ _ x.isLt y.isLt
      have hx3 : ∀ x y z : BitVec 32, bits .xor .u32 ((x.toNat ^^^ y.toNat : Nat) : Int) (z.toNat : Int) = ((x.toNat ^^^ y.toNat ^^^ z.toNat : Nat) : Int) := fun x y z => u32_xor_nat _ _ (by rw [← BitVec.toNat_xor]; exact (x ^^^ y).isLt) z.isLt
      repeat (first | go_big_quiet_step ((first | (intro _; rfl) | (intro hs; exact Since.call hs (sum_any _ _ (by first | exact sm | exact sa _ (by omega)))) | (intro hs; exact Since.call hs (works_any _)))) | quiet_step ((first | (intro _; rfl) | (intro hs; exact Since.call hs (sum_any _ _ (by first | exact sm | exact sa _ (by omega)))) | (intro hs; exact Since.call hs (works_any _)))))
      refine wpQuiet_nil ?_
      intro w' hw'
      go_wp2
      go_ret
      exact ⟨rfl, hb1.trans (Below.mono hw' hb1.size)⟩

end Go.Proofs.Ytigllfnplglkiaa
