/-
  Texts for RowFillIs: of the reckoner, walks, contracts and plain laws that its row stands on.
-/
import Derived.Test.YtjacnjecggedhaaProg
import Derived.Test.YtjacnjecggedhaaIb6
import Derived.Test.YtjacnjecggedhaaIb7
namespace Go.Proofs.Ytjacnjecggedhaa
set_option linter.unusedVariables false
open Go.RowKit
theorem crc_msb_true (r : BitVec 32) (h : r.msb = true) : (((r.toNat : Int) / 2147483648) == 1) = true := by
  rw [BitVec.msb_eq_true_iff_two_mul_ge] at h
  have := r.isLt
  simp; omega
theorem crc_msb_false (r : BitVec 32) (h : r.msb = false) : (((r.toNat : Int) / 2147483648) == 1) = false := by
  rw [BitVec.msb_eq_false_iff_two_mul_lt] at h
  have := r.isLt
  simp; omega
theorem ret_u32 {a b : Int} (h : a = b) : Ending.returned (.int .u32 a) = .returned (.int .u32 b) := by rw [h]
theorem crc_shl (r : BitVec 32) : ((r.toNat : Int) * (2 : Int) % (4294967296 : Int)) = ((r <<< 1).toNat : Int) := by
  rw [BitVec.toNat_shiftLeft, Nat.shiftLeft_eq]; omega
theorem crc_turn_true (r : BitVec 32) (h : r.msb = true) : bits .xor .u32 ((r.toNat : Int) * (2 : Int) % (4294967296 : Int)) 79764919 = ((Crc.turn r).toNat : Int) := by
  rw [crc_shl, show (79764919 : Int) = ((79764919 : Nat) : Int) from rfl, u32_xor_nat _ _ (r <<< 1).isLt (by decide)]
  simp [Crc.turn, h]
theorem crc_turn_false (r : BitVec 32) (h : r.msb = false) : ((r.toNat : Int) * (2 : Int) % (4294967296 : Int)) = ((Crc.turn r).toNat : Int) := by
  rw [crc_shl]; simp [Crc.turn, h]
set_option maxHeartbeats 400000 in
theorem turn_any (r : BitVec 32) (w : World) :
    Calls Try.prog 94 #[.int .u32 (r.toNat : Int)] w fun e w' => e = .returned (.int .u32 ((Crc.turn r).toNat : Int)) ∧ w = w' := by
  cases hm : r.msb with
  | true =>
    have h1 := crc_msb_true r hm
    have h2 := Lib.hid (crc_turn_true r hm)
    clear hm
    go_enter Try.func94, Try.ntmps94
    go_wp2
    go_ret
    exact ⟨ret_u32 h2.out, rfl⟩
  | false =>
    have h1 := crc_msb_false r hm
    have h2 := Lib.hid (crc_turn_false r hm)
    clear hm
    go_enter Try.func94, Try.ntmps94
    go_wp2
    go_ret
    exact ⟨ret_u32 h2.out, rfl⟩
def nTab : Nat := 256
def tabCells (k : Nat) : Array Value := ((List.range nTab).map fun i => Value.int .u32 (if i < k then ((Crc.cell i).toNat : Int) else 0)).toArray
theorem tabCells_size (k : Nat) : (tabCells k).size = 256 := by rw [tabCells, List.size_toArray, List.length_map, List.length_range]; rfl
theorem tabCells_get (k i : Nat) (hi : i < 256) : (tabCells k)[i]? = some (.int .u32 (if i < k then ((Crc.cell i).toNat : Int) else 0)) := by
  have h : i < nTab := hi
  rw [tabCells, List.getElem?_toArray, List.getElem?_map, List.getElem?_range h]; rfl
theorem tabCells_set (k : Nat) (hk : k < 256) : (tabCells k).setIfInBounds k (.int .u32 ((Crc.cell k).toNat : Int)) = tabCells (k + 1) := by
  apply Array.ext_getElem?
  intro i
  rw [Array.getElem?_setIfInBounds]
  by_cases hi : i < 256
  · rw [tabCells_get _ _ hi, tabCells_get _ _ hi, tabCells_size]
    by_cases hki : k = i
    · subst hki; simp [hk]
    · rw [if_neg hki]
      by_cases h : i < k
      · rw [if_pos h, if_pos (by omega)]
      · rw [if_neg h, if_neg (by omega)]
  · rw [if_neg (by omega)]
    have e : ∀ j, (tabCells j)[i]? = none := fun j => by rw [Array.getElem?_eq_none_iff, tabCells_size]; omega
    rw [e, e]
theorem tabCells_one (k : Nat) : (tabCells k).all (·.oneCell') = true := by
  rw [Array.all_eq_true_iff_forall_mem]
  intro v hv
  rw [tabCells, List.mem_toArray, List.mem_map] at hv
  obtain ⟨i, _, rfl⟩ := hv
  rfl
theorem zero_table (w : World) : (zeroValue 155).run Try.prog w = .ok (.agg (tabCells 0)) w := by kernel_rfl
theorem table_info (k : Nat) : (Try.prog.info? 155).map (·.size) = some (tabCells k).size := by
  rw [tabCells_size]; kernel_rfl
theorem crc_cell0 (k : Nat) (hk : k < 256) : ((k : Int) * (16777216 : Int) % (4294967296 : Int)) = ((BitVec.ofNat 32 k <<< 24).toNat : Int) := by
  rw [BitVec.toNat_shiftLeft, BitVec.toNat_ofNat, Nat.shiftLeft_eq]; omega
set_option maxRecDepth 100000 in
set_option maxHeartbeats 400000 in
theorem table_any (w : World) :
    Calls Try.prog 92 #[] w fun e w' => e = .returned (.agg (tabCells 256)) ∧ Below w.heap.size w w' := by
  have hz := zero_table
  go_enter Try.func92, Try.ntmps92
  go_wp2
  have hb0 : Below w.heap.size w (w.alloc (.cells (tabCells 0) 155)) := (Below.refl _ _).alloc (Nat.le_refl _) _
  have hh0 := heap_alloc_new w (.cells (tabCells 0) 155)
  generalize (w.alloc (.cells (tabCells 0) 155)) = w1 at hb0 hh0 ⊢
  clear hz
  go_loopw [4] (fun i wr => ∃ k : Nat, k ≤ 256 ∧ i = .int .i64 k ∧ wr.heap[w.heap.size]? = some (.cells (tabCells k) 155 (0, 0)) ∧ Below w.heap.size w wr) (fun i _ => 256 - (intOf i).toNat)
  case atStart => exact ⟨0, by omega, rfl, hh0, hb0⟩
  case round =>
    obtain ⟨k, hk, rfl, hh, hb⟩ := hrel
    clear hb0 hh0
    by_cases hlt : k < 256
    · have hc : wr.cell? ⟨w.heap.size, k, none⟩ = some (.int .u32 0) := by
        rw [cell_of_row wr _ _ _ _ _ hh, tabCells_get _ _ hlt, if_neg (Nat.lt_irrefl _)]
      have hf : wr.frozen? ⟨w.heap.size, k, none⟩ = false := frozen_of_row wr _ _ _ _ hh
      have hd : decide ((k : Int) < 256) = true := by simp; omega
      have HH := Lib.hid hh
      clear hh
      go_wp2
      go_loop [10, 3] (fun j r => ∃ n : Nat, n ≤ 8 ∧ j = .int .i64 n ∧ r = .int .u32 ((Crc.turns n (BitVec.ofNat 32 k <<< 24)).toNat : Int)) (fun j _ => 8 - (intOf j).toNat)
      case atStart => exact ⟨0, by omega, rfl, by have h := crc_cell0 k hlt; rw [Int.emod_eq_of_lt (by omega) (by omega)] at h; rw [h]; rfl⟩
      case round =>
        obtain ⟨n, hn, rfl, rfl⟩ := hrel
        by_cases hn8 : n < 8
        · go_wp2_with (go_at_call 94; refine (turn_any _ _).mono ?_; rintro e w' ⟨rfl, rfl⟩)
          go_round
          case rel => exact ⟨n + 1, by omega, by go_num, by rw [Crc.turns_succ]⟩
          case measure => simp [intOf]; omega
        · obtain rfl : n = 8 := by omega
          go_wp2
          go_roundw
          case rel => exact ⟨k + 1, by omega, by go_num, by rw [← tabCells_set k hlt]; exact heap_setCell_same _ _ _ _ _ _ HH.out, hb.setCell (Nat.le_refl _) _⟩
          case measure => simp [intOf]; omega
    · obtain rfl : k = 256 := by omega
      go_wp2_with (first | (refine wpList_load_row rfl 155 _ rfl _ rfl 155 _ _ _ hh Try.underlying155 rfl (table_info _) ?_) | (refine wpList_store_row rfl 155 _ _ rfl _ _ rfl rfl 155 _ hh (table_info _) rfl (tabCells_one _) ?_))
      rw [setRow_self _ _ _ _ _ hh]
      exact bodyPost_ret (results_cell_row rfl _ _ _ 155 _ _ _ rfl hh Try.underlying155 rfl (table_info _)) rfl ⟨rfl, hb⟩
theorem crc_idx (r : BitVec 32) (c : Nat) (hc : c < 256) : bits .xor .u8 (IntKind.u8.wrap ((r.toNat : Int) / (16777216 : Int))) (c : Int) = ((r.toNat / 16777216 ^^^ c : Nat) : Int) := by
  have hr := r.isLt
  rw [IntKind.wrap_u8, show (r.toNat : Int) / (16777216 : Int) % 256 = ((r.toNat / 16777216 : Nat) : Int) by omega, u8_xor_nat _ _ (by omega) hc]
theorem crc_new (r : BitVec 32) (c : Nat) (hc : c < 256) :
    bits .xor .u32 (IntKind.u32.wrap ((r.toNat : Int) * (256 : Int))) ((Crc.cell (r.toNat / 16777216 ^^^ c)).toNat : Int) = ((Crc.step r c).toNat : Int) := by
  have e : IntKind.u32.wrap ((r.toNat : Int) * (256 : Int)) = ((r <<< 8).toNat : Int) := by
    rw [IntKind.wrap_u32, BitVec.toNat_shiftLeft, Nat.shiftLeft_eq]; omega
  rw [e, u32_xor_nat _ _ (r <<< 8).isLt (BitVec.isLt _), Crc.step_table r c hc, BitVec.toNat_xor]
set_option maxRecDepth 100000 in
set_option maxHeartbeats 400000 in
theorem step_any (b : Nat) (r : BitVec 32) (c : Nat) (hc : c < 256) (w : World) (h0 : w.cell? ⟨b, 0, none⟩ = some (.int .u32 (r.toNat : Int))) (hf : w.frozen? ⟨b, 0, none⟩ = false)
    (ht : ∀ i, i < 256 → w.cell? ⟨b, 1 + i, none⟩ = some (.int .u32 ((Crc.cell i).toNat : Int))) :
    Calls Try.prog 93 #[.pointer (some ⟨b, 0, none⟩), .int .u8 (c : Int), .pointer (some ⟨b, 1, none⟩)] w fun e w' =>
      e = .returned (.tuple #[]) ∧ (w.setCell ⟨b, 0, none⟩ (.int .u32 ((Crc.step r c).toNat : Int))).drew = w' := by
  have hr := r.isLt
  have hx := crc_idx r c hc
  have hn0 := crc_new r c hc
  rw [IntKind.wrap_u32] at hn0
  have hn := Lib.hid hn0
  clear hn0
  have hk : r.toNat / 16777216 ^^^ c < 256 := Nat.xor_lt_two_pow (n := 8) (by omega) (by omega)
  have hck := ht _ hk
  generalize r.toNat / 16777216 ^^^ c = k at hx hn hk hck
  have hki : ((k : Nat) : Int) < 256 := by omega
  clear ht
  go_enter Try.func93, Try.ntmps93
  go_still_tail 21, (by kernel_rfl)
  change wpList _ _ _ _ _ w.drew
  go_wp2
  go_end0
  exact ⟨rfl, by rw [hn.out]⟩
end Go.Proofs.Ytjacnjecggedhaa
namespace Go.Proofs.Ytjacnjecggedhaa
set_option linter.unusedVariables false
open Go.RowKit
theorem crc_bit (x : BitVec 32) (c n : Nat) (hc : c < 256) (hn : n < 8) :
    ((((x.toNat : Int) / (2147483648 : Int)) != (bits .and .u8 ((c : Int) / (2 : Int) ^ (7 - n)) 1) % (4294967296 : Int)) = true) ↔ ¬ x.msb = (BitVec.ofNat 32 c <<< (24 + n)).msb := by
  have hx := x.isLt
  have e1 : ((c : Int) / (2 : Int) ^ (7 - n)) = ((c / 2 ^ (7 - n) : Nat) : Int) := by simp
  have hlt : c / 2 ^ (7 - n) < 256 := Nat.lt_of_le_of_lt (Nat.div_le_self _ _) hc
  rw [e1, show (1 : Int) = ((1 : Nat) : Int) from rfl, u8_and_nat _ _ hlt (by decide), Nat.and_one_is_mod, Crc.byte_msb c n hc hn, BitVec.msb_eq_decide]
  generalize c / 2 ^ (7 - n) = q
  rw [bne_iff_ne]
  by_cases h1 : 2 ^ (32 - 1) ≤ x.toNat <;> by_cases h2 : q % 2 = 1 <;> simp only [h1, h2, decide_true, decide_false] <;> simp at h1 h2 ⊢ <;> omega
theorem part_yes (r : BitVec 32) (c n : Nat) (hc : c < 256) (hn : n < 8)
    (h : ((((Crc.part r c n).toNat : Int) / (2147483648 : Int)) != (bits .and .u8 ((c : Int) / (2 : Int) ^ (7 - n)) 1) % (4294967296 : Int)) = true) :
    bits .xor .u32 (((Crc.part r c n).toNat : Int) * (2 : Int) % (4294967296 : Int)) 79764919 = ((Crc.part r c (n + 1)).toNat : Int) := by
  rw [crc_bit _ _ _ hc hn] at h
  have e : (((Crc.part r c n).toNat : Int) * (2 : Int) % (4294967296 : Int)) = (((Crc.part r c n) <<< 1).toNat : Int) := by
    rw [BitVec.toNat_shiftLeft, Nat.shiftLeft_eq]; omega
  rw [e, show (79764919 : Int) = ((79764919 : Nat) : Int) from rfl, u32_xor_nat _ _ (BitVec.isLt _) (by decide), Crc.part_succ, if_neg h, BitVec.toNat_xor]
  rfl
theorem part_no (r : BitVec 32) (c n : Nat) (hc : c < 256) (hn : n < 8)
    (h : ((((Crc.part r c n).toNat : Int) / (2147483648 : Int)) != (bits .and .u8 ((c : Int) / (2 : Int) ^ (7 - n)) 1) % (4294967296 : Int)) = false) :
    (((Crc.part r c n).toNat : Int) * (2 : Int) % (4294967296 : Int)) = ((Crc.part r c (n + 1)).toNat : Int) := by
  have h' : (Crc.part r c n).msb = (BitVec.ofNat 32 c <<< (24 + n)).msb := by
    have hb := crc_bit (Crc.part r c n) c n hc hn
    rw [h] at hb
    exact Classical.byContradiction fun hne => Bool.false_ne_true (hb.2 hne)
  have e : (((Crc.part r c n).toNat : Int) * (2 : Int) % (4294967296 : Int)) = (((Crc.part r c n) <<< 1).toNat : Int) := by
    rw [BitVec.toNat_shiftLeft, Nat.shiftLeft_eq]; omega
  rw [e, Crc.part_succ, if_pos h', BitVec.xor_zero]
theorem val_u32 {a b : Int} (h : a = b) : Value.int .u32 a = .int .u32 b := by rw [h]
set_option maxRecDepth 100000 in
set_option maxHeartbeats 400000 in
theorem rsum_any (s : ByteArray) (w : World) (hs : s.size ≤ maxLen) :
    Calls Try.prog 54 #[.string s] w fun e w' => e = .returned (.int .u32 ((Crc.sum s.data.toList).toNat : Int)) ∧ w = w' := by
  unfold maxLen at hs
  go_enter Try.func54, Try.ntmps54
  go_wp2
  go_loop [3, 4] (fun r i => ∃ k : Nat, k ≤ s.size ∧ i = .int .i64 k ∧ r = .int .u32 ((Crc.fold 0xffffffff#32 (s.data.toList.take k)).toNat : Int)) (fun _ i => s.size - (intOf i).toNat)
  case atStart => exact ⟨0, by omega, rfl, rfl⟩
  case round =>
    obtain ⟨k, hk, rfl, rfl⟩ := hrel
    by_cases hlt : k < s.size
    · have hd : decide ((k : Int) < (s.size : Int)) = true := by simp; omega
      go_wp2
      go_loop [3, 5] (fun r b => ∃ n : Nat, n ≤ 8 ∧ b = .int .i64 (7 - (n : Int)) ∧ r = .int .u32 ((Crc.part (Crc.fold 0xffffffff#32 (s.data.toList.take k)) s[k].toNat n).toNat : Int)) (fun _ b => (1 + intOf b).toNat)
      case atStart => exact ⟨0, by omega, rfl, by rw [Crc.part_zero]⟩
      case round =>
        obtain ⟨n, hn, rfl, rfl⟩ := hrel
        by_cases hn8 : n < 8
        · generalize Crc.fold 0xffffffff#32 (s.data.toList.take k) = r
          have hx := (Crc.part r s[k].toNat n).isLt
          go_wp2
          · refine ⟨⟨n + 1, by omega, by congr 1; omega, val_u32 (part_yes _ _ _ s[k].toNat_lt hn8 (by assumption))⟩, by simp [intOf]; omega⟩
          · refine ⟨⟨n + 1, by omega, by congr 1; omega, val_u32 (part_no _ _ _ s[k].toNat_lt hn8 (by assumption))⟩, by simp [intOf]; omega⟩
        · obtain rfl : n = 8 := by omega
          go_wp2
          refine ⟨⟨k + 1, by omega, by go_num, ?_⟩, by simp [intOf]; omega⟩
          rw [Crc.part_eight, ← Crc.fold_snoc, List.take_succ_eq_append_getElem (by simpa using hlt)]
          rfl
    · obtain rfl : k = s.size := by omega
      go_wp2
      go_ret
      exact ⟨by rw [List.take_of_length_le (by simp)]; rfl, rfl⟩
end Go.Proofs.Ytjacnjecggedhaa
