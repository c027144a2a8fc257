/-
  Texts for RowFillFits, part 8: the reckoner, walks, contracts and plain laws that its row stands on.
-/
import Derived.Test.YtjacnjecggedhaaFb7
import Derived.Laws.CopyOwn
import Derived.Test.YtjacnjecggedhaaProg
namespace Go.Proofs.Ytjacnjecggedhaa
set_option linter.unusedVariables false
open Go.RowKit
def makerCells (r : Int) : Array Value := (Value.int .u32 r :: (tabCells 256).toList).toArray
theorem maker_built (r : Int) : Try.prog.built 158 [(0, .agg #[.int .u32 r]), (1, .agg (tabCells 256))] = some (makerCells r) := by kernel_rfl
theorem maker_size (r : Int) : (makerCells r).size = 257 := by
  have := tabCells_size 256
  rw [makerCells, List.size_toArray, List.length_cons, Array.length_toList, this]
theorem maker_one (r : Int) : (makerCells r).all (·.oneCell') = true := by
  have h := tabCells_one 256
  rw [Array.all_eq_true_iff_forall_mem] at h ⊢
  intro v hv
  rw [makerCells, List.mem_toArray, List.mem_cons] at hv
  rcases hv with rfl | hv
  · rfl
  · exact h v (by simpa using hv)
theorem maker_info (r : Int) : (Try.prog.info? 158).map (·.size) = some (makerCells r).size := by
  rw [maker_size]; kernel_rfl
theorem maker_get0 (r : Int) : (makerCells r)[0]? = some (.int .u32 r) := by simp [makerCells]
theorem maker_get1 (r : Int) (i : Nat) (hi : i < 256) : (makerCells r)[1 + i]? = some (.int .u32 ((Crc.cell i).toNat : Int)) := by
  have h := tabCells_get 256 i hi
  rw [if_pos hi] at h
  rw [makerCells, List.getElem?_toArray, Nat.add_comm, List.getElem?_cons_succ, Array.getElem?_toList, h]
theorem maker_set (r q : Int) : (makerCells r).setIfInBounds 0 (.int .u32 q) = makerCells q := by simp [makerCells]
def maker0 : Array Value := (Value.int .u32 0 :: (tabCells 0).toList).toArray
theorem zero_maker (w : World) : (zeroValue 158).run Try.prog w = .ok (.agg maker0) w := by kernel_rfl
theorem maker0_size : maker0.size = 257 := by
  have := tabCells_size 0
  rw [maker0, List.size_toArray, List.length_cons, Array.length_toList, this]
theorem maker_new (W : World) (r : Int) : ((W.alloc (.cells maker0 158)).setRow W.heap.size (makerCells r)).heap[W.heap.size]? = some (.cells (makerCells r) 158 (0, 0)) :=
  setRow_heap _ _ _ _ _ _ (heap_alloc_new W _)
set_option maxRecDepth 100000 in
set_option maxHeartbeats 400000 in
theorem sum_any (s : ByteArray) (w : World) (hs : s.size ≤ maxLen) :
    Calls Try.prog 90 #[.string s] w fun e w' => e = .returned (.int .u32 ((Crc.sum s.data.toList).toNat : Int)) ∧ Below w.heap.size w w' := by
  unfold maxLen at hs
  have hz := zero_maker
  go_enter Try.func90, Try.ntmps90
  go_wp2_with fail
  refine (table_any _).mono ?_
  rintro e w1 ⟨rfl, hb1⟩
  have hn := maker_new w1 4294967295
  have hB : Below w.heap.size w ((w1.alloc (.cells maker0 158)).setRow w1.heap.size (makerCells 4294967295)) := below_setRow (hb1.alloc hb1.size _) hb1.size _
  have HN := Lib.hid hn
  have hsz := hb1.size
  clear hn
  go_wp2_with (first | (refine wpList_build_to rfl 158 [(0, .tmp 5), (1, .tmp 6)] rfl (makerCells 4294967295) (maker_built _) ?_) | (refine wpList_store_row rfl 158 (.tmp 3) (.tmp 7) rfl w1.heap.size (makerCells 4294967295) rfl rfl 158 maker0 (heap_alloc_new w1 _) (maker_info _) (maker0_size.trans (maker_size _).symm) (maker_one _) ?_))
  have hn := HN.out
  clear HN hz hb1
  generalize ((w1.alloc (.cells maker0 158)).setRow w1.heap.size (makerCells 4294967295)) = w2 at hn hB ⊢
  generalize w1.heap.size = g at hn hsz ⊢
  clear w1
  go_loopw [10] (fun i wr => ∃ k : Nat, k ≤ s.size ∧ i = .int .i64 k ∧ wr.heap[g]? = some (.cells (makerCells ((Crc.fold 0xffffffff#32 (s.data.toList.take k)).toNat : Int)) 158 (0, 0)) ∧ Below w.heap.size w wr) (fun i _ => s.size - (intOf i).toNat)
  case atStart => exact ⟨0, by omega, rfl, hn, hB⟩
  case round =>
    obtain ⟨k, hk, rfl, hh, hb⟩ := hrel
    clear hn hB
    by_cases hlt : k < s.size
    · have h0 := (cell_of_row wr _ 0 _ _ _ hh).trans (maker_get0 _)
      have hf : wr.frozen? ⟨g, 0, none⟩ = false := frozen_of_row wr _ _ _ _ hh
      have ht : ∀ i, i < 256 → wr.cell? ⟨g, 1 + i, none⟩ = some (.int .u32 ((Crc.cell i).toNat : Int)) := fun i hi => (cell_of_row wr _ (1 + i) _ _ _ hh).trans (maker_get1 _ i hi)
      have hs' : s.data.toList.take (k + 1) = s.data.toList.take k ++ [s[k]] := by
        rw [List.take_succ_eq_append_getElem (by simpa using hlt)]; rfl
      have hstep := step_any g _ s[k].toNat s[k].toNat_lt wr h0 hf ht
      have HH := Lib.hid hh
      have HS := Lib.hid hs'
      have HT := Lib.hid hstep
      clear hh hs' h0 hf ht hstep
      go_wp2_with fail
      refine HT.out.mono ?_
      rintro e w' ⟨rfl, rfl⟩
      go_wp2
      go_roundw
      case rel =>
        refine ⟨k + 1, by omega, by go_num, ?_, (hb.setCell hsz _).drew⟩
        rw [HS.out, Crc.fold_snoc, heap_drew]
        have := heap_setCell_same wr g 0 _ _ (.int .u32 ((Crc.step (Crc.fold (4294967295#32) (s.data.toList.take k)) s[k].toNat).toNat : Int)) HH.out
        rwa [maker_set] at this
      case measure => simp [intOf]; omega
    · obtain rfl : k = s.size := by omega
      have h0 := (cell_of_row wr _ 0 _ _ _ hh).trans (maker_get0 _)
      rw [List.take_of_length_le (by simp)] at h0
      clear hh
      go_wp2
      go_ret
      exact ⟨rfl, hb⟩
end Go.Proofs.Ytjacnjecggedhaa
namespace Go.Proofs.Ytjacnjecggedhaa
set_option linter.unusedVariables false
open Go.RowKit
theorem crc_bit (x : BitVec 32) (c n : Nat) (hc : c < 256) (hn : n < 8) :
    ((((x.toNat : Int) / (2147483648 : Int)) != (bits .and .u8 ((c : Int) / (2 : Int) ^ (7 - n)) 1) % (4294967296 : Int)) = true) ↔ ¬ x.msb = (BitVec.ofNat 32 c <<< (24 + n)).msb := by
  have hx := x.isLt
  have e1 : ((c : Int) / (2 : Int) ^ (7 - n)) = ((c / 2 ^ (7 - n) : Nat) : Int) := by simp
  have hlt : c / 2 ^ (7 - n) < 256 := Nat.lt_of_le_of_lt (Nat.div_le_self _ _) hc
  rw [e1, show (1 : Int) = ((1 : Nat) : Int) from rfl, u8_and_nat _ _ hlt (by decide), Nat.and_one_is_mod, Crc.byte_msb c n hc hn, BitVec.msb_eq_decide]
  generalize c / 2 ^ (7 - n) = q
  rw [bne_iff_ne]
  by_cases h1 : 2 ^ (32 - 1) ≤ x.toNat <;> by_cases h2 : q % 2 = 1 <;> simp only [h1, h2, decide_true, decide_false] <;> simp at h1 h2 ⊢ <;> omega
theorem part_yes (r : BitVec 32) (c n : Nat) (hc : c < 256) (hn : n < 8)
    (h : ((((Crc.part r c n).toNat : Int) / (2147483648 : Int)) != (bits .and .u8 ((c : Int) / (2 : Int) ^ (7 - n)) 1) % (4294967296 : Int)) = true) :
    bits .xor .u32 (((Crc.part r c n).toNat : Int) * (2 : Int) % (4294967296 : Int)) 79764919 = ((Crc.part r c (n + 1)).toNat : Int) := by
  rw [crc_bit _ _ _ hc hn] at h
  have e : (((Crc.part r c n).toNat : Int) * (2 : Int) % (4294967296 : Int)) = (((Crc.part r c n) <<< 1).toNat : Int) := by
    rw [BitVec.toNat_shiftLeft, Nat.shiftLeft_eq]; omega
  rw [e, show (79764919 : Int) = ((79764919 : Nat) : Int) from rfl, u32_xor_nat _ _ (BitVec.isLt _) (by decide), Crc.part_succ, if_neg h, BitVec.toNat_xor]
  rfl
theorem part_no (r : BitVec 32) (c n : Nat) (hc : c < 256) (hn : n < 8)
    (h : ((((Crc.part r c n).toNat : Int) / (2147483648 : Int)) != (bits .and .u8 ((c : Int) / (2 : Int) ^ (7 - n)) 1) % (4294967296 : Int)) = false) :
    (((Crc.part r c n).toNat : Int) * (2 : Int) % (4294967296 : Int)) = ((Crc.part r c (n + 1)).toNat : Int) := by
  have h' : (Crc.part r c n).msb = (BitVec.ofNat 32 c <<< (24 + n)).msb := by
    have hb := crc_bit (Crc.part r c n) c n hc hn
    rw [h] at hb
    exact Classical.byContradiction fun hne => Bool.false_ne_true (hb.2 hne)
  have e : (((Crc.part r c n).toNat : Int) * (2 : Int) % (4294967296 : Int)) = (((Crc.part r c n) <<< 1).toNat : Int) := by
    rw [BitVec.toNat_shiftLeft, Nat.shiftLeft_eq]; omega
  rw [e, Crc.part_succ, if_pos h', BitVec.xor_zero]
theorem val_u32 {a b : Int} (h : a = b) : Value.int .u32 a = .int .u32 b := by rw [h]
set_option maxRecDepth 100000 in
set_option maxHeartbeats 400000 in
theorem rsum_any (s : ByteArray) (w : World) (hs : s.size ≤ maxLen) :
    Calls Try.prog 54 #[.string s] w fun e w' => e = .returned (.int .u32 ((Crc.sum s.data.toList).toNat : Int)) ∧ w = w' := by
  unfold maxLen at hs
  go_enter Try.func54, Try.ntmps54
  go_wp2
  go_loop [3, 4] (fun r i => ∃ k : Nat, k ≤ s.size ∧ i = .int .i64 k ∧ r = .int .u32 ((Crc.fold 0xffffffff#32 (s.data.toList.take k)).toNat : Int)) (fun _ i => s.size - (intOf i).toNat)
  case atStart => exact ⟨0, by omega, rfl, rfl⟩
  case round =>
    obtain ⟨k, hk, rfl, rfl⟩ := hrel
    by_cases hlt : k < s.size
    · have hd : decide ((k : Int) < (s.size : Int)) = true := by simp; omega
      go_wp2
      go_loop [3, 5] (fun r b => ∃ n : Nat, n ≤ 8 ∧ b = .int .i64 (7 - (n : Int)) ∧ r = .int .u32 ((Crc.part (Crc.fold 0xffffffff#32 (s.data.toList.take k)) s[k].toNat n).toNat : Int)) (fun _ b => (1 + intOf b).toNat)
      case atStart => exact ⟨0, by omega, rfl, by rw [Crc.part_zero]⟩
      case round =>
        obtain ⟨n, hn, rfl, rfl⟩ := hrel
        by_cases hn8 : n < 8
        · generalize Crc.fold 0xffffffff#32 (s.data.toList.take k) = r
          have hx := (Crc.part r s[k].toNat n).isLt
          go_wp2
          · refine ⟨⟨n + 1, by omega, by congr 1; omega, val_u32 (part_yes _ _ _ s[k].toNat_lt hn8 (by assumption))⟩, by simp [intOf]; omega⟩
          · refine ⟨⟨n + 1, by omega, by congr 1; omega, val_u32 (part_no _ _ _ s[k].toNat_lt hn8 (by assumption))⟩, by simp [intOf]; omega⟩
        · obtain rfl : n = 8 := by omega
          go_wp2
          refine ⟨⟨k + 1, by omega, by go_num, ?_⟩, by simp [intOf]; omega⟩
          rw [Crc.part_eight, ← Crc.fold_snoc, List.take_succ_eq_append_getElem (by simpa using hlt)]
          rfl
    · obtain rfl : k = s.size := by omega
      go_wp2
      go_ret
      exact ⟨by rw [List.take_of_length_le (by simp)]; rfl, rfl⟩
end Go.Proofs.Ytjacnjecggedhaa
namespace Go.Proofs.Ytjacnjecggedhaa
set_option linter.unusedVariables false
set_option linter.unusedSimpArgs false
open Go.RowKit Ev
def crcN (l : List UInt8) : Int := ((Crc.sum l).toNat : Int)
def two (n : Int) : List UInt8 := [UInt8.ofNat (n / 256 % 256).toNat, UInt8.ofNat (n % 256).toNat]
def four (n : Int) : List UInt8 := [UInt8.ofNat (n / 16777216 % 256).toNat, UInt8.ofNat (n / 65536 % 256).toNat, UInt8.ofNat (n / 256 % 256).toNat, UInt8.ofNat (n % 256).toNat]
def fcCrc : FC := fun args _ => match args with
  | [.str l] => some (decide (l.length ≤ 9223372036854775807), .int .u32 (crcN l))
  | _ => none
def fcTwo : FC := fun args _ => match args with
  | [.int .i64 n] => some (true, .str (two n))
  | _ => none
def fcRTwo : FC := fun args _ => match args with
  | [.int .i64 n] => some (decide (0 ≤ n ∧ n ≤ 9223372036854775807), .str (two n))
  | _ => none
def fcFour : FC := fun args _ => match args with
  | [.int .u32 n] => some (true, .str (four n))
  | _ => none
def fcJoined : FC := fun args H => match args with
  | [.sl b 0 1 0 4 (some 4)] => match H.get b with
    | some (.cells _ [.str s1, .str s2, .str s3, .str s4]) => some (decide (s1.length + s2.length + s3.length + s4.length ≤ 9223372036854775807), .str (s1 ++ s2 ++ s3 ++ s4))
    | _ => none
  | _ => none
theorem crc_sound : FcSound Try.prog 90 fcCrc := by
  refine fc_of_calls Try.call90 (fun args H v h => ?_)
  unfold fcCrc at h
  split at h <;> simp only [Option.some.injEq, Prod.mk.injEq, decide_eq_true_eq, reduceCtorEq] at h
  obtain ⟨hl, rfl⟩ := h
  rename_i l
  refine ⟨rfl, rfl, fun ρ w => ?_⟩
  have := sum_any ⟨l.toArray⟩ w (by rw [str_size]; unfold maxLen; omega)
  simpa [trL, tr, crcN] using this
theorem rcrc_sound : FcSound Try.prog 54 fcCrc := by
  refine fc_of_calls Try.call54 (fun args H v h => ?_)
  unfold fcCrc at h
  split at h <;> simp only [Option.some.injEq, Prod.mk.injEq, decide_eq_true_eq, reduceCtorEq] at h
  obtain ⟨hl, rfl⟩ := h
  rename_i l
  refine ⟨rfl, rfl, fun ρ w => ?_⟩
  have := rsum_any ⟨l.toArray⟩ w (by rw [str_size]; unfold maxLen; omega)
  refine Calls.mono (by simpa [trL, tr, crcN] using this) ?_
  rintro e w' ⟨rfl, rfl⟩
  exact ⟨rfl, Below.refl _ _⟩
noncomputable def TP0 : Tabs := ((TL.addFc 90 fcCrc).addFc 54 fcCrc)
theorem TP0ok : TabsOk TP0 Try.prog := ((TLok.addFc crc_sound).addFc rcrc_sound)
end Go.Proofs.Ytjacnjecggedhaa
namespace Go.Proofs.Ytjacnjecggedhaa
set_option linter.unusedVariables false
set_option linter.unusedSimpArgs false
open Go.RowKit Ev
set_option maxRecDepth 100000 in
theorem w_two (n : Int) (K : Out → Prop) : (callC (TP0.ctx Try.prog) 100 89 [.int .i64 n] ⟨0, []⟩ (fun o _ => K o)
) = (K (Out.ret (AVal.str [UInt8.ofNat (n / (256 : Int) % (256 : Int)).toNat, UInt8.ofNat (n % (256 : Int)).toNat]))) := by kernel_rfl
set_option maxRecDepth 100000 in
theorem w_rtwo (n : Int) (K : Out → Prop) : (callC (TP0.ctx Try.prog) 100 55 [.int .i64 n] ⟨0, []⟩ (fun o _ => K o)
) = (obl (decide ((0 : Int) ≤ n ∧ (0 : Int) < (256 : Int)) && inI64 (n / (256 : Int))) (obl (decide ((0 : Int) ≤ n ∧ (0 : Int) < (256 : Int))) (K (Out.ret (AVal.str [UInt8.ofNat (n / (256 : Int) % (256 :
 Int)).toNat, UInt8.ofNat (n % (256 : Int) % (256 : Int)).toNat]))))) := by kernel_rfl
set_option maxRecDepth 100000 in
theorem w_joined (e : Nat) (s1 s2 s3 s4 : List UInt8) (K : Out → Prop) : (callC (TP0.ctx Try.prog) 100 91 [.sl 0 0 1 0 4 (some 4)] ⟨1, [(0, .row e strRow [s1, s2, s3, s4] .ro)]⟩ (fun o _ => K o)
) = (obl (decide ((↑(0 + List.length ([s1, s2, s3, s4].getD 0 [])) : Int) ≤ (9223372036854775807 : Int))) (obl (decide ((↑(([] ++ [s1, s2, s3, s4].getD 0 []).length + List.length ([s1, s2, s3, s4].getD 1
 [])) : Int) ≤ (9223372036854775807 : Int))) (obl (decide ((↑(([] ++ [s1, s2, s3, s4].getD 0 [] ++ [s1, s2, s3, s4].getD 1 []).length + List.length ([s1, s2, s3, s4].getD 2 [])) : Int) ≤
 (9223372036854775807 : Int))) (obl (decide ((↑(([] ++ [s1, s2, s3, s4].getD 0 [] ++ [s1, s2, s3, s4].getD 1 [] ++ [s1, s2, s3, s4].getD 2 []).length + List.length ([s1, s2, s3, s4].getD 3 [])) : Int)
 ≤ (9223372036854775807 : Int))) (K (Out.ret (AVal.str ([] ++ [s1, s2, s3, s4].getD 0 [] ++ [s1, s2, s3, s4].getD 1 [] ++ [s1, s2, s3, s4].getD 2 [] ++ [s1, s2, s3, s4].getD 3 [])))))))) := by kernel_rfl
set_option maxRecDepth 100000 in
theorem w_total (k : Int) (b : List UInt8) (n : Int) (K : Out → Prop) : (callC (TP0.ctx Try.prog) 100 84 [.agg [.int .i64 k, .str b], .int .i64 n] ⟨0, []⟩ (fun o _ => K o)
) = (branch (!decide ((if lOk k b = true then (0 : Int) else (2 : Int)) = (0 : Int))) (K (Out.ret (AVal.int IntKind.i64 (0 : Int)))) (branch (decide (n < (0 : Int))) (K (Out.ret (AVal.int IntKind.i64 (0 :
 Int)))) (branch (decide ((65535 : Int) < n)) (K (Out.ret (AVal.int IntKind.i64 (0 : Int)))) (obl (inI64 ((2 : Int) + lSize k)) (obl (inI64 ((2 : Int) + lSize k + n)) (K (Out.ret (AVal.int IntKind.i64
 ((2 : Int) + lSize k + n))))))))) := by kernel_rfl
set_option maxRecDepth 100000 in
theorem w_rtotal (k : Int) (b : List UInt8) (n : Int) (K : Out → Prop) : (callC (TP0.ctx Try.prog) 100 53 [.agg [.int .i64 k, .str b], .int .i64 n] ⟨0, []⟩ (fun o _ => K o)
) = (branch (!lOk k b) (K (Out.ret (AVal.int IntKind.i64 (0 : Int)))) (branch (decide (n < (0 : Int))) (K (Out.ret (AVal.int IntKind.i64 (0 : Int)))) (branch (decide ((65535 : Int) < n)) (K (Out.ret
 (AVal.int IntKind.i64 (0 : Int)))) (obl (inI64 ((2 : Int) + lSize k)) (obl (inI64 ((2 : Int) + lSize k + n)) (K (Out.ret (AVal.int IntKind.i64 ((2 : Int) + lSize k + n))))))))) := by kernel_rfl
end Go.Proofs.Ytjacnjecggedhaa
namespace Go.Proofs.Ytjacnjecggedhaa
set_option linter.unusedVariables false
set_option linter.unusedSimpArgs false
open Go.RowKit Ev
theorem inI64_iff {n : Int} : inI64 n = true ↔ -9223372036854775808 ≤ n ∧ n ≤ 9223372036854775807 := by simp [inI64]
theorem lSize_le (k : Int) : 0 ≤ lSize k ∧ lSize k ≤ 6 := by
  unfold lSize
  split
  · omega
  · split <;> omega
theorem two_sound : FcSound Try.prog 89 fcTwo := by
  refine fc_pure TP0ok.ctx (n := 100) Try.call89 (fun args H v h => ?_)
  unfold fcTwo at h
  split at h <;> cases h
  exact ⟨rfl, rfl, by rw [w_two]; rfl⟩
theorem rtwo_sound : FcSound Try.prog 55 fcRTwo := by
  refine fc_pure TP0ok.ctx (n := 100) Try.call55 (fun args H v h => ?_)
  unfold fcRTwo at h
  split at h <;> simp only [Option.some.injEq, Prod.mk.injEq, decide_eq_true_eq, reduceCtorEq] at h
  obtain ⟨hn, rfl⟩ := h
  rename_i n
  refine ⟨rfl, rfl, ?_⟩
  rw [w_rtwo]
  simp only [obl_iff, Bool.and_eq_true, decide_eq_true_eq, inI64_iff]
  refine ⟨⟨by omega, by omega, by omega⟩, by omega, ?_⟩
  unfold two
  rw [Int.emod_emod_of_dvd n (by decide : (256 : Int) ∣ 256)]
theorem joined_sound : FcSound Try.prog 91 fcJoined := by
  refine fc_reads TP0ok.ctx (n := 100) Try.call91 (fun args H v h => ?_)
  unfold fcJoined at h
  split at h <;> try cases h
  rename_i b
  split at h <;> simp only [Option.some.injEq, Prod.mk.injEq, decide_eq_true_eq, reduceCtorEq] at h
  obtain ⟨hl, rfl⟩ := h
  rename_i e s1 s2 s3 s4 hb
  refine ⟨b, _, 0, strRow, [s1, s2, s3, s4], 0, 1, 0, 4, 4, [], [], rfl, rfl, rfl, hb, ⟨e, rfl⟩, by simp, rfl, ?_⟩
  show callC (TP0.ctx Try.prog) 100 _ [.sl 0 0 1 0 4 (some 4)] _ _
  rw [w_joined]
  simp only [obl_iff, decide_eq_true_eq, List.getD_cons_zero, List.getD_cons_succ, List.nil_append, List.length_append]
  refine ⟨by omega, by simp; omega, by simp; omega, by simp; omega, ?_⟩
  trivial
def pTotal (k : Int) (b : List UInt8) (n : Int) : Int := if lOk k b = false ∨ n < 0 ∨ 65535 < n then 0 else 2 + lSize k + n
def fcTotal : FC := fun args _ => match args with
  | [.agg [.int .i64 k, .str b], .int .i64 n] => some (true, .int .i64 (pTotal k b n))
  | _ => none
theorem total_sound : FcSound Try.prog 84 fcTotal := by
  refine fc_pure TP0ok.ctx (n := 100) Try.call84 (fun args H v h => ?_)
  unfold fcTotal at h
  split at h <;> cases h
  rename_i k b n
  refine ⟨rfl, rfl, ?_⟩
  rw [w_total]
  have := lSize_le k
  unfold pTotal
  simp only [branch_iff, obl_iff, decide_eq_true_eq, decide_eq_false_iff_not, Bool.not_eq_true', Bool.not_eq_false', inI64_iff]
  cases lOk k b <;> simp
  omega
theorem rtotal_sound : FcSound Try.prog 53 fcTotal := by
  refine fc_pure TP0ok.ctx (n := 100) Try.call53 (fun args H v h => ?_)
  unfold fcTotal at h
  split at h <;> cases h
  rename_i k b n
  refine ⟨rfl, rfl, ?_⟩
  rw [w_rtotal]
  have := lSize_le k
  unfold pTotal
  simp only [branch_iff, obl_iff, decide_eq_true_eq, decide_eq_false_iff_not, Bool.not_eq_true', Bool.not_eq_false', inI64_iff]
  cases lOk k b <;> simp
  omega
def fcAbc : FC := fun args _ => match args with
  | [] => some (true, .agg [.int .i64 1, .str [97, 98, 99]])
  | _ => none
theorem textOf_ex : ∃ f : List UInt8 → Int → List UInt8, ∀ s n, f s n = s.take 70000 ++ List.replicate (n % 70000).toNat 0 := ⟨_, fun _ _ => rfl⟩
noncomputable def textOf : List UInt8 → Int → List UInt8 := Classical.choose textOf_ex
theorem textOf_eq (s : List UInt8) (n : Int) : textOf s n = s.take 70000 ++ List.replicate (n % 70000).toNat 0 := Classical.choose_spec textOf_ex s n
noncomputable def fcText : FC := fun args _ => match args with
  | [.agg [.str s, .int .u32 n]] => some (decide (0 ≤ n), .str (textOf s n))
  | _ => none
theorem take_min {α : Type} (s : List α) (c : Nat) (m : Int) (h : m = min (s.length : Int) (c : Int)) : s.take m.toNat = s.take c := by
  subst h
  rcases Nat.lt_or_ge s.length c with h | h
  · rw [List.take_of_length_le (by omega), List.take_of_length_le (by omega)]
  · congr 1; omega
def labK (kind : Int) : Int := kind % 3
def labB (kind : Int) (b : List UInt8) : List UInt8 := if kind % 3 = 0 then b else if kind % 3 = 1 then b.take 3 else []
def fcLabel : FC := fun args _ => match args with
  | [.int .u8 kind, .agg [.int .u8 b0, .int .u8 b1, .int .u8 b2, .int .u8 b3, .int .u8 b4, .int .u8 b5]] => some (decide (0 ≤ kind), .agg [.int .i64 (labK kind), .str (labB kind ([b0, b1, b2, b3, b4, b5].map fun n => UInt8.ofNat n.toNat))])
  | _ => none
noncomputable def TP1 : Tabs := (((((TP0.addFc 89 fcTwo).addFc 55 fcRTwo).addFc 91 fcJoined).addFc 84 fcTotal).addFc 53 fcTotal)
theorem TP1ok : TabsOk TP1 Try.prog := (((((TP0ok.addFc two_sound).addFc rtwo_sound).addFc joined_sound).addFc total_sound).addFc rtotal_sound)
end Go.Proofs.Ytjacnjecggedhaa
namespace Go.Proofs.Ytjacnjecggedhaa
set_option linter.unusedVariables false
set_option linter.unusedSimpArgs false
open Go.RowKit Ev
set_option maxRecDepth 100000 in
theorem w_sum (typ k : Int) (b data : List UInt8) (K : Out → Prop) : (callC (TP1.ctx Try.prog) 100 86 [.int .i64 typ, .agg [.int .i64 k, .str b], .str data] ⟨0, []⟩ (fun o _ => K o)
) = (branch (decide (typ < (0 : Int))) (K (Out.ret (AVal.tup [AVal.str [], AVal.int IntKind.i64 (2 : Int)]))) (branch (decide ((65535 : Int) < typ)) (K (Out.ret (AVal.tup [AVal.str [], AVal.int
 IntKind.i64 (2 : Int)]))) (branch (!decide ((if lOk k b = true then (0 : Int) else (2 : Int)) = (0 : Int))) (K (Out.ret (AVal.tup [AVal.str [], AVal.int IntKind.i64 (2 : Int)]))) (obl (inI64 ((2 :
 Int) + lSize k)) (obl (inI64 ((2 : Int) + lSize k + (↑data.length : Int))) (branch (decide ((65535 : Int) < (2 : Int) + lSize k + (↑data.length : Int))) (K (Out.ret (AVal.tup [AVal.str [], AVal.int
 IntKind.i64 (3 : Int)]))) (obl (decide ((two ((2 : Int) + lSize k + (↑data.length : Int))).length + (two typ).length + b.length + data.length ≤ 9223372036854775807)) (obl (decide ((two ((2 : Int) +
 lSize k + (↑data.length : Int)) ++ two typ ++ b ++ data).length ≤ 9223372036854775807)) (K (Out.ret (AVal.tup [AVal.str [UInt8.ofNat (crcN (two ((2 : Int) + lSize k + (↑data.length : Int)) ++ two typ
 ++ b ++ data) / (16777216 : Int) % (256 : Int)).toNat, UInt8.ofNat (crcN (two ((2 : Int) + lSize k + (↑data.length : Int)) ++ two typ ++ b ++ data) / (65536 : Int) % (256 : Int)).toNat, UInt8.ofNat
 (crcN (two ((2 : Int) + lSize k + (↑data.length : Int)) ++ two typ ++ b ++ data) / (256 : Int) % (256 : Int)).toNat, UInt8.ofNat (crcN (two ((2 : Int) + lSize k + (↑data.length : Int)) ++ two typ ++ b
 ++ data) % (256 : Int)).toNat], AVal.int IntKind.i64 (0 : Int)]))))))))))) := by kernel_rfl
set_option maxRecDepth 100000 in
theorem w_rsum (typ k : Int) (b data : List UInt8) (K : Out → Prop) : (callC (TP1.ctx Try.prog) 100 37 [.int .i64 typ, .agg [.int .i64 k, .str b], .str data] ⟨0, []⟩ (fun o _ => K o)
) = (branch (decide (typ < (0 : Int))) (K (Out.ret (AVal.tup [AVal.str [], AVal.int IntKind.i64 (2 : Int)]))) (branch (decide ((65535 : Int) < typ)) (K (Out.ret (AVal.tup [AVal.str [], AVal.int
 IntKind.i64 (2 : Int)]))) (branch (!lOk k b) (K (Out.ret (AVal.tup [AVal.str [], AVal.int IntKind.i64 (2 : Int)]))) (obl (inI64 ((2 : Int) + lSize k)) (obl (inI64 ((2 : Int) + lSize k + (↑data.length
 : Int))) (branch (decide ((65535 : Int) < (2 : Int) + lSize k + (↑data.length : Int))) (K (Out.ret (AVal.tup [AVal.str [], AVal.int IntKind.i64 (3 : Int)]))) (obl (decide ((0 : Int) ≤ (2 : Int) +
 lSize k + (↑data.length : Int) ∧ (2 : Int) + lSize k + (↑data.length : Int) ≤ (9223372036854775807 : Int))) (obl (decide ((0 : Int) ≤ typ ∧ typ ≤ (9223372036854775807 : Int))) (obl (decide ((↑((two
 ((2 : Int) + lSize k + (↑data.length : Int)) ++ two typ).length + b.length) : Int) ≤ (9223372036854775807 : Int))) (obl (decide ((↑((two ((2 : Int) + lSize k + (↑data.length : Int)) ++ two typ ++
 b).length + data.length) : Int) ≤ (9223372036854775807 : Int))) (obl (decide ((two ((2 : Int) + lSize k + (↑data.length : Int)) ++ two typ ++ b ++ data).length ≤ 9223372036854775807)) (obl (inI64
 (crcN (two ((2 : Int) + lSize k + (↑data.length : Int)) ++ two typ ++ b ++ data) / (65536 : Int) % (4294967296 : Int))) (obl (decide ((0 : Int) ≤ crcN (two ((2 : Int) + lSize k + (↑data.length : Int))
 ++ two typ ++ b ++ data) / (65536 : Int) % (4294967296 : Int) ∧ crcN (two ((2 : Int) + lSize k + (↑data.length : Int)) ++ two typ ++ b ++ data) / (65536 : Int) % (4294967296 : Int) ≤
 (9223372036854775807 : Int))) (obl (inI64 (crcN (two ((2 : Int) + lSize k + (↑data.length : Int)) ++ two typ ++ b ++ data) % (65536 : Int))) (obl (decide ((0 : Int) ≤ crcN (two ((2 : Int) + lSize k +
 (↑data.length : Int)) ++ two typ ++ b ++ data) % (65536 : Int) ∧ crcN (two ((2 : Int) + lSize k + (↑data.length : Int)) ++ two typ ++ b ++ data) % (65536 : Int) ≤ (9223372036854775807 : Int))) (K
 (Out.ret (AVal.tup [AVal.str (two (crcN (two ((2 : Int) + lSize k + (↑data.length : Int)) ++ two typ ++ b ++ data) / (65536 : Int) % (4294967296 : Int)) ++ two (crcN (two ((2 : Int) + lSize k +
 (↑data.length : Int)) ++ two typ ++ b ++ data) % (65536 : Int))), AVal.int IntKind.i64 (0 : Int)])))))))))))))))))) := by kernel_rfl
end Go.Proofs.Ytjacnjecggedhaa
namespace Go.Proofs.Ytjacnjecggedhaa
set_option linter.unusedVariables false
set_option linter.unusedSimpArgs false
open Go.RowKit Ev
def pErr (typ k : Int) (b : List UInt8) (n : Int) : Int := if typ < 0 ∨ 65535 < typ ∨ lOk k b = false then 2 else if 65535 < 2 + lSize k + n then 3 else 0
def pText (typ k : Int) (b data : List UInt8) : List UInt8 := two (2 + lSize k + (data.length : Int)) ++ two typ ++ b ++ data
def pSum (typ k : Int) (b data : List UInt8) : List UInt8 := if pErr typ k b (data.length : Int) = 0 then four (crcN (pText typ k b data)) else []
def fcSum : FC := fun args _ => match args with
  | [.int .i64 typ, .agg [.int .i64 k, .str b], .str data] => some (decide (data.length ≤ 9223372036854775000), .tup [.str (pSum typ k b data), .int .i64 (pErr typ k b (data.length : Int))])
  | _ => none
theorem two_length (n : Int) : (two n).length = 2 := rfl
theorem four_length (n : Int) : (four n).length = 4 := rfl
theorem crcN_bd (l : List UInt8) : 0 ≤ crcN l ∧ crcN l < 4294967296 := by
  unfold crcN
  have := (Crc.sum l).isLt
  omega
theorem pErr_2 {typ k n : Int} {b : List UInt8} (h : typ < 0 ∨ 65535 < typ ∨ lOk k b = false) : pErr typ k b n = 2 := by unfold pErr; rw [if_pos h]
theorem pErr_3 {typ k n : Int} {b : List UInt8} (h : ¬ (typ < 0 ∨ 65535 < typ ∨ lOk k b = false)) (h3 : 65535 < 2 + lSize k + n) : pErr typ k b n = 3 := by unfold pErr; rw [if_neg h, if_pos h3]
theorem pErr_0 {typ k n : Int} {b : List UInt8} (h : ¬ (typ < 0 ∨ 65535 < typ ∨ lOk k b = false)) (h3 : ¬ 65535 < 2 + lSize k + n) : pErr typ k b n = 0 := by unfold pErr; rw [if_neg h, if_neg h3]
theorem pErr_iff {typ k n : Int} {b : List UInt8} : pErr typ k b n = 0 ↔ 0 ≤ typ ∧ typ ≤ 65535 ∧ lOk k b = true ∧ 2 + lSize k + n ≤ 65535 := by
  unfold pErr
  split
  · rename_i h; cases hl : lOk k b <;> simp_all <;> omega
  · rename_i h
    split
    · simp; intros; omega
    · cases hl : lOk k b <;> simp_all <;> omega
theorem lOk_length {k : Int} {b : List UInt8} (h : lOk k b = true) : 0 ≤ k ∧ k < 4 ∧ (b.length : Int) = lSize k := by simpa [lOk] using h
theorem sum_sound : FcSound Try.prog 86 fcSum := by
  refine fc_pure TP1ok.ctx (n := 100) Try.call86 (fun args H v h => ?_)
  unfold fcSum at h
  split at h <;> simp only [Option.some.injEq, Prod.mk.injEq, decide_eq_true_eq, reduceCtorEq] at h
  obtain ⟨hl, rfl⟩ := h
  rename_i typ k b data
  refine ⟨rfl, rfl, ?_⟩
  rw [w_sum]
  have hk := lSize_le k
  simp only [branch_iff, obl_iff, decide_eq_true_eq, decide_eq_false_iff_not, Bool.not_eq_true', Bool.not_eq_false', inI64_iff, List.length_append, two_length]
  have bad : pErr typ k b (data.length : Int) ≠ 0 → pSum typ k b data = [] := fun h => by unfold pSum; rw [if_neg h]
  refine ⟨fun h0 => ?_, fun h0 => ⟨fun h1 => ?_, fun h1 => ⟨fun h2 => ?_, fun h2 => ⟨by omega, by omega, fun h3 => ?_, fun h3 => ?_⟩⟩⟩⟩
  · rw [bad (by rw [pErr_2 (.inl h0)]; decide), pErr_2 (.inl h0)]
  · rw [bad (by rw [pErr_2 (.inr (.inl h1))]; decide), pErr_2 (.inr (.inl h1))]
  · have hf : lOk k b = false := by cases hb : lOk k b <;> simp_all
    rw [bad (by rw [pErr_2 (.inr (.inr hf))]; decide), pErr_2 (.inr (.inr hf))]
  · have hf : lOk k b = true := by cases hb : lOk k b <;> simp_all
    have hn : ¬ (typ < 0 ∨ 65535 < typ ∨ lOk k b = false) := by rw [hf]; simp; omega
    rw [bad (by rw [pErr_3 hn h3]; decide), pErr_3 hn h3]
  · have hf : lOk k b = true := by cases hb : lOk k b <;> simp_all
    have hn : ¬ (typ < 0 ∨ 65535 < typ ∨ lOk k b = false) := by rw [hf]; simp; omega
    have := lOk_length hf
    refine ⟨decide_eq_true (by omega), by omega, ?_⟩
    unfold pSum
    rw [pErr_0 hn h3, if_pos rfl]
    rfl
theorem two_two (c : Int) (h0 : 0 ≤ c) (h1 : c < 4294967296) : two (c / 65536 % 4294967296) ++ two (c % 65536) = four c := by
  unfold two four
  have e1 : c / 65536 % 4294967296 / 256 % 256 = c / 16777216 % 256 := by omega
  have e2 : c / 65536 % 4294967296 % 256 = c / 65536 % 256 := by omega
  have e3 : c % 65536 / 256 % 256 = c / 256 % 256 := by omega
  have e4 : c % 65536 % 256 = c % 256 := by omega
  rw [e1, e2, e3, e4]; rfl
theorem rsum_sound : FcSound Try.prog 37 fcSum := by
  refine fc_pure TP1ok.ctx (n := 100) Try.call37 (fun args H v h => ?_)
  unfold fcSum at h
  split at h <;> simp only [Option.some.injEq, Prod.mk.injEq, decide_eq_true_eq, reduceCtorEq] at h
  obtain ⟨hl, rfl⟩ := h
  rename_i typ k b data
  refine ⟨rfl, rfl, ?_⟩
  rw [w_rsum]
  have hk := lSize_le k
  have hc := crcN_bd (two (2 + lSize k + (data.length : Int)) ++ two typ ++ b ++ data)
  simp only [branch_iff, obl_iff, decide_eq_true_eq, decide_eq_false_iff_not, Bool.not_eq_true', Bool.not_eq_false', inI64_iff, List.length_append, two_length, two_two _ hc.1 hc.2]
  have bad : pErr typ k b (data.length : Int) ≠ 0 → pSum typ k b data = [] := fun h => by unfold pSum; rw [if_neg h]
  refine ⟨fun h0 => ?_, fun h0 => ⟨fun h1 => ?_, fun h1 => ⟨fun hf => ?_, fun hf => ⟨by omega, by omega, fun h3 => ?_, fun h3 => ?_⟩⟩⟩⟩
  · rw [bad (by rw [pErr_2 (.inl h0)]; decide), pErr_2 (.inl h0)]
  · rw [bad (by rw [pErr_2 (.inr (.inl h1))]; decide), pErr_2 (.inr (.inl h1))]
  · rw [bad (by rw [pErr_2 (.inr (.inr hf))]; decide), pErr_2 (.inr (.inr hf))]
  · have hn : ¬ (typ < 0 ∨ 65535 < typ ∨ lOk k b = false) := by rw [hf]; simp; omega
    rw [bad (by rw [pErr_3 hn h3]; decide), pErr_3 hn h3]
  · have hn : ¬ (typ < 0 ∨ 65535 < typ ∨ lOk k b = false) := by rw [hf]; simp; omega
    have := lOk_length hf
    refine ⟨by omega, by omega, by omega, by omega, by omega, by omega, by omega, by omega, by omega, ?_⟩
    unfold pSum
    rw [pErr_0 hn h3, if_pos rfl]
    rfl
noncomputable def TP2 : Tabs := ((TP1.addFc 86 fcSum).addFc 37 fcSum)
theorem TP2ok : TabsOk TP2 Try.prog := ((TP1ok.addFc sum_sound).addFc rsum_sound)
end Go.Proofs.Ytjacnjecggedhaa
namespace Go.Proofs.Ytjacnjecggedhaa
set_option linter.unusedVariables false
set_option linter.unusedSimpArgs false
open Go.RowKit Ev
set_option maxRecDepth 100000 in
theorem w_gmay (st en : Bool) (id total typ k : Int) (lb data sum : List UInt8) (K : Out → Prop) : (callC (TP2.ctx Try.prog) 100 29 [.agg [.bool st, .bool en, .int .i64 id, .int .i64 total, .int .i64 typ, .int .i64 k, .str lb, .str data, .str sum]] ⟨0, []⟩ (fun o _ => K o)
) = (branch (!(st == true && (en == true && true))) (branch (decide ((0 : Int) ≤ id)) (branch (decide (id < (256 : Int))) (branch (decide ((0 : Int) ≤ total)) (branch (decide (total < (65536 : Int)))
 (branch (decide ((0 : Int) ≤ typ)) (branch (!decide (typ < (65536 : Int))) (K (Out.ret (AVal.bool false))) (branch st (branch (decide ((if lOk k lb = true then (0 : Int) else (2 : Int)) = (0 : Int)))
 (branch st (branch (st == false && (en == true && true)) (branch (decide ((↑sum.length : Int) = (4 : Int))) (K (Out.ret (AVal.bool true))) (branch (!(st == false && (en == true && true))) (branch
 (!decide (sum = [])) (K (Out.ret (AVal.bool false))) (K (Out.ret (AVal.bool true)))) (K (Out.ret (AVal.bool false))))) (branch (!(st == false && (en == true && true))) (branch (!decide (sum = [])) (K
 (Out.ret (AVal.bool false))) (K (Out.ret (AVal.bool true)))) (K (Out.ret (AVal.bool false))))) (branch (decide (typ = (0 : Int))) (branch (!decide (total = (0 : Int))) (K (Out.ret (AVal.bool false)))
 (branch (st == false && (en == true && true)) (branch (decide ((↑sum.length : Int) = (4 : Int))) (K (Out.ret (AVal.bool true))) (branch (!(st == false && (en == true && true))) (branch (!decide (sum =
 [])) (K (Out.ret (AVal.bool false))) (K (Out.ret (AVal.bool true)))) (K (Out.ret (AVal.bool false))))) (branch (!(st == false && (en == true && true))) (branch (!decide (sum = [])) (K (Out.ret
 (AVal.bool false))) (K (Out.ret (AVal.bool true)))) (K (Out.ret (AVal.bool false)))))) (K (Out.ret (AVal.bool false))))) (branch (!st) (branch (!(decide (k = (0 : Int)) && (decide (lb = []) && true)))
 (K (Out.ret (AVal.bool false))) (branch st (branch (st == false && (en == true && true)) (branch (decide ((↑sum.length : Int) = (4 : Int))) (K (Out.ret (AVal.bool true))) (branch (!(st == false && (en
 == true && true))) (branch (!decide (sum = [])) (K (Out.ret (AVal.bool false))) (K (Out.ret (AVal.bool true)))) (K (Out.ret (AVal.bool false))))) (branch (!(st == false && (en == true && true)))
 (branch (!decide (sum = [])) (K (Out.ret (AVal.bool false))) (K (Out.ret (AVal.bool true)))) (K (Out.ret (AVal.bool false))))) (branch (decide (typ = (0 : Int))) (branch (!decide (total = (0 : Int)))
 (K (Out.ret (AVal.bool false))) (branch (st == false && (en == true && true)) (branch (decide ((↑sum.length : Int) = (4 : Int))) (K (Out.ret (AVal.bool true))) (branch (!(st == false && (en == true &&
 true))) (branch (!decide (sum = [])) (K (Out.ret (AVal.bool false))) (K (Out.ret (AVal.bool true)))) (K (Out.ret (AVal.bool false))))) (branch (!(st == false && (en == true && true))) (branch (!decide
 (sum = [])) (K (Out.ret (AVal.bool false))) (K (Out.ret (AVal.bool true)))) (K (Out.ret (AVal.bool false)))))) (K (Out.ret (AVal.bool false)))))) (K (Out.ret (AVal.bool false))))) (branch (!st)
 (branch (!(decide (k = (0 : Int)) && (decide (lb = []) && true))) (K (Out.ret (AVal.bool false))) (branch st (branch (st == false && (en == true && true)) (branch (decide ((↑sum.length : Int) = (4 :
 Int))) (K (Out.ret (AVal.bool true))) (branch (!(st == false && (en == true && true))) (branch (!decide (sum = [])) (K (Out.ret (AVal.bool false))) (K (Out.ret (AVal.bool true)))) (K (Out.ret
 (AVal.bool false))))) (branch (!(st == false && (en == true && true))) (branch (!decide (sum = [])) (K (Out.ret (AVal.bool false))) (K (Out.ret (AVal.bool true)))) (K (Out.ret (AVal.bool false)))))
 (branch (decide (typ = (0 : Int))) (branch (!decide (total = (0 : Int))) (K (Out.ret (AVal.bool false))) (branch (st == false && (en == true && true)) (branch (decide ((↑sum.length : Int) = (4 :
 Int))) (K (Out.ret (AVal.bool true))) (branch (!(st == false && (en == true && true))) (branch (!decide (sum = [])) (K (Out.ret (AVal.bool false))) (K (Out.ret (AVal.bool true)))) (K (Out.ret
 (AVal.bool false))))) (branch (!(st == false && (en == true && true))) (branch (!decide (sum = [])) (K (Out.ret (AVal.bool false))) (K (Out.ret (AVal.bool true)))) (K (Out.ret (AVal.bool false))))))
 (K (Out.ret (AVal.bool false)))))) (K (Out.ret (AVal.bool false)))))) (K (Out.ret (AVal.bool false)))) (K (Out.ret (AVal.bool false)))) (K (Out.ret (AVal.bool false)))) (K (Out.ret (AVal.bool
 false)))) (K (Out.ret (AVal.bool false)))) (branch (decide (id = (0 : Int))) (branch (!decide (total = (0 : Int))) (K (Out.ret (AVal.bool false))) (branch (decide ((0 : Int) ≤ id)) (branch (decide (id
 < (256 : Int))) (branch (decide ((0 : Int) ≤ total)) (branch (decide (total < (65536 : Int))) (branch (decide ((0 : Int) ≤ typ)) (branch (!decide (typ < (65536 : Int))) (K (Out.ret (AVal.bool false)))
 (branch st (branch (decide ((if lOk k lb = true then (0 : Int) else (2 : Int)) = (0 : Int))) (branch st (branch (st == false && (en == true && true)) (branch (decide ((↑sum.length : Int) = (4 : Int)))
 (K (Out.ret (AVal.bool true))) (branch (!(st == false && (en == true && true))) (branch (!decide (sum = [])) (K (Out.ret (AVal.bool false))) (K (Out.ret (AVal.bool true)))) (K (Out.ret (AVal.bool
 false))))) (branch (!(st == false && (en == true && true))) (branch (!decide (sum = [])) (K (Out.ret (AVal.bool false))) (K (Out.ret (AVal.bool true)))) (K (Out.ret (AVal.bool false))))) (branch
 (decide (typ = (0 : Int))) (branch (!decide (total = (0 : Int))) (K (Out.ret (AVal.bool false))) (branch (st == false && (en == true && true)) (branch (decide ((↑sum.length : Int) = (4 : Int))) (K
 (Out.ret (AVal.bool true))) (branch (!(st == false && (en == true && true))) (branch (!decide (sum = [])) (K (Out.ret (AVal.bool false))) (K (Out.ret (AVal.bool true)))) (K (Out.ret (AVal.bool
 false))))) (branch (!(st == false && (en == true && true))) (branch (!decide (sum = [])) (K (Out.ret (AVal.bool false))) (K (Out.ret (AVal.bool true)))) (K (Out.ret (AVal.bool false)))))) (K (Out.ret
 (AVal.bool false))))) (branch (!st) (branch (!(decide (k = (0 : Int)) && (decide (lb = []) && true))) (K (Out.ret (AVal.bool false))) (branch st (branch (st == false && (en == true && true)) (branch
 (decide ((↑sum.length : Int) = (4 : Int))) (K (Out.ret (AVal.bool true))) (branch (!(st == false && (en == true && true))) (branch (!decide (sum = [])) (K (Out.ret (AVal.bool false))) (K (Out.ret
 (AVal.bool true)))) (K (Out.ret (AVal.bool false))))) (branch (!(st == false && (en == true && true))) (branch (!decide (sum = [])) (K (Out.ret (AVal.bool false))) (K (Out.ret (AVal.bool true)))) (K
 (Out.ret (AVal.bool false))))) (branch (decide (typ = (0 : Int))) (branch (!decide (total = (0 : Int))) (K (Out.ret (AVal.bool false))) (branch (st == false && (en == true && true)) (branch (decide
 ((↑sum.length : Int) = (4 : Int))) (K (Out.ret (AVal.bool true))) (branch (!(st == false && (en == true && true))) (branch (!decide (sum = [])) (K (Out.ret (AVal.bool false))) (K (Out.ret (AVal.bool
 true)))) (K (Out.ret (AVal.bool false))))) (branch (!(st == false && (en == true && true))) (branch (!decide (sum = [])) (K (Out.ret (AVal.bool false))) (K (Out.ret (AVal.bool true)))) (K (Out.ret
 (AVal.bool false)))))) (K (Out.ret (AVal.bool false)))))) (K (Out.ret (AVal.bool false))))) (branch (!st) (branch (!(decide (k = (0 : Int)) && (decide (lb = []) && true))) (K (Out.ret (AVal.bool
 false))) (branch st (branch (st == false && (en == true && true)) (branch (decide ((↑sum.length : Int) = (4 : Int))) (K (Out.ret (AVal.bool true))) (branch (!(st == false && (en == true && true)))
 (branch (!decide (sum = [])) (K (Out.ret (AVal.bool false))) (K (Out.ret (AVal.bool true)))) (K (Out.ret (AVal.bool false))))) (branch (!(st == false && (en == true && true))) (branch (!decide (sum =
 [])) (K (Out.ret (AVal.bool false))) (K (Out.ret (AVal.bool true)))) (K (Out.ret (AVal.bool false))))) (branch (decide (typ = (0 : Int))) (branch (!decide (total = (0 : Int))) (K (Out.ret (AVal.bool
 false))) (branch (st == false && (en == true && true)) (branch (decide ((↑sum.length : Int) = (4 : Int))) (K (Out.ret (AVal.bool true))) (branch (!(st == false && (en == true && true))) (branch
 (!decide (sum = [])) (K (Out.ret (AVal.bool false))) (K (Out.ret (AVal.bool true)))) (K (Out.ret (AVal.bool false))))) (branch (!(st == false && (en == true && true))) (branch (!decide (sum = [])) (K
 (Out.ret (AVal.bool false))) (K (Out.ret (AVal.bool true)))) (K (Out.ret (AVal.bool false)))))) (K (Out.ret (AVal.bool false)))))) (K (Out.ret (AVal.bool false)))))) (K (Out.ret (AVal.bool false))))
 (K (Out.ret (AVal.bool false)))) (K (Out.ret (AVal.bool false)))) (K (Out.ret (AVal.bool false)))) (K (Out.ret (AVal.bool false))))) (K (Out.ret (AVal.bool false))))) := by kernel_rfl
set_option maxRecDepth 100000 in
theorem w_gtwo (n : Int) (K : Out → Prop) : (callC (TP2.ctx Try.prog) 100 32 [.int .i64 n] ⟨0, []⟩ (fun o _ => K o)
) = (K (Out.ret (AVal.str [UInt8.ofNat (n / (256 : Int) % (256 : Int)).toNat, UInt8.ofNat (n % (256 : Int)).toNat]))) := by kernel_rfl
set_option maxRecDepth 100000 in
theorem w_gof (st en : Bool) (id total typ k : Int) (lb data sum : List UInt8) (K : Out → Prop) : (callC (TP2.ctx Try.prog) 100 30 [.agg [.bool st, .bool en, .int .i64 id, .int .i64 total, .int .i64 typ, .int .i64 k, .str lb, .str data, .str sum]] ⟨0, []⟩ (fun o _ => K o)
) = (K (Out.ret (AVal.agg [AVal.bool st, AVal.bool en]))) := by kernel_rfl
set_option maxRecDepth 100000 in
theorem w_gwhole (st en : Bool) (K : Out → Prop) : (callC (TP2.ctx Try.prog) 100 31 [.agg [.bool st, .bool en]] ⟨0, []⟩ (fun o _ => K o)
) = (K (Out.ret (AVal.bool (st == true && (en == true && true))))) := by kernel_rfl
set_option maxRecDepth 100000 in
theorem w_gwithin (n m : Int) (K : Out → Prop) : (callC (TP2.ctx Try.prog) 100 45 [.int .i64 n, .int .i64 m] ⟨0, []⟩ (fun o _ => K o)
) = (branch (decide ((0 : Int) ≤ n)) (K (Out.ret (AVal.bool (decide (n < m))))) (K (Out.ret (AVal.bool false)))) := by kernel_rfl
end Go.Proofs.Ytjacnjecggedhaa
namespace Go.Proofs.Ytjacnjecggedhaa
set_option linter.unusedVariables false
set_option linter.unusedSimpArgs false
open Go.RowKit Ev
theorem branch_t {T E : Prop} : branch true T E = T := rfl
theorem branch_f {T E : Prop} : branch false T E = E := rfl
def gMay (st en : Bool) (id total typ k : Int) (lb sum : List UInt8) : Bool := decide (0 ≤ id ∧ id < 256 ∧ 0 ≤ total ∧ total < 65536 ∧ 0 ≤ typ ∧ typ < 65536) && (match st, en with
  | true, true => decide (id = 0 ∧ total = 0) && lOk k lb && decide (sum = [])
  | true, false => lOk k lb && decide (sum = [])
  | false, true => decide (typ = 0 ∧ total = 0 ∧ k = 0 ∧ lb = [] ∧ sum.length = 4)
  | false, false => decide (typ = 0 ∧ total = 0 ∧ k = 0 ∧ lb = [] ∧ sum = []))
def fcGMay : FC := fun args _ => match args with
  | [.agg [.bool st, .bool en, .int .i64 id, .int .i64 total, .int .i64 typ, .int .i64 k, .str lb, .str data, .str sum]] => some (true, .bool (gMay st en id total typ k lb sum))
  | _ => none
def fcGof : FC := fun args _ => match args with
  | [.agg [.bool st, .bool en, .int .i64 id, .int .i64 total, .int .i64 typ, .int .i64 k, .str lb, .str data, .str sum]] => some (true, .agg [.bool st, .bool en])
  | _ => none
def fcGwhole : FC := fun args _ => match args with
  | [.agg [.bool st, .bool en]] => some (true, .bool (st && en))
  | _ => none
set_option maxRecDepth 20000 in
theorem gmay_sound : FcSound Try.prog 29 fcGMay := by
  refine fc_pure TP2ok.ctx (n := 100) Try.call29 (fun args H v h => ?_)
  unfold fcGMay at h
  split at h <;> cases h
  rename_i st en id total typ k lb data sum
  refine ⟨rfl, rfl, ?_⟩
  rw [w_gmay]
  have hl : (decide ((if lOk k lb = true then (0 : Int) else 2) = 0)) = lOk k lb := by cases lOk k lb <;> rfl
  have hs : (decide ((sum.length : Int) = 4)) = decide (sum.length = 4) := by rw [Bool.eq_iff_iff, decide_eq_true_eq, decide_eq_true_eq]; omega
  have t : ∀ {c : Bool}, gMay st en id total typ k lb sum = c → Out.ret (AVal.bool c) = Out.ret (AVal.bool (gMay st en id total typ k lb sum)) := fun h => by rw [h]
  simp only [hl, hs, Bool.and_true, Bool.and_assoc]
  cases st <;> cases en <;> simp only [beq_self_eq_true, Bool.and_true, Bool.true_and, Bool.and_false, Bool.false_and, Bool.not_true, Bool.not_false, show (true == false) = false from rfl, show (false == true) = false from rfl]
  all_goals
    cases hb : lOk k lb <;> simp only [branch_t, branch_f, branch_iff, decide_eq_true_eq, decide_eq_false_iff_not, Bool.not_eq_true', Bool.not_eq_false', Bool.and_eq_true, Bool.and_eq_false_iff]
  all_goals
    clear t hl hs
    (repeat' (first | apply And.intro | intro _)) <;> refine congrArg (fun c => Out.ret (AVal.bool c)) ?_ <;> unfold gMay <;> grind
theorem gof_sound : FcSound Try.prog 30 fcGof := by
  refine fc_pure TP2ok.ctx (n := 100) Try.call30 (fun args H v h => ?_)
  unfold fcGof at h
  split at h <;> cases h
  refine ⟨rfl, rfl, ?_⟩
  rw [w_gof]
theorem gwhole_sound : FcSound Try.prog 31 fcGwhole := by
  refine fc_pure TP2ok.ctx (n := 100) Try.call31 (fun args H v h => ?_)
  unfold fcGwhole at h
  split at h <;> cases h
  rename_i st en
  refine ⟨rfl, rfl, ?_⟩
  rw [w_gwhole]
  cases st <;> cases en <;> rfl
theorem gtwo_sound : FcSound Try.prog 32 fcTwo := by
  refine fc_pure TP2ok.ctx (n := 100) Try.call32 (fun args H v h => ?_)
  unfold fcTwo at h
  split at h <;> cases h
  refine ⟨rfl, rfl, ?_⟩
  rw [w_gtwo]
  rfl
noncomputable def TG1 : Tabs := ((((TP2.addFc 29 fcGMay).addFc 30 fcGof).addFc 31 fcGwhole).addFc 32 fcTwo)
theorem TG1ok : TabsOk TG1 Try.prog := ((((TP2ok.addFc gmay_sound).addFc gof_sound).addFc gwhole_sound).addFc gtwo_sound)
end Go.Proofs.Ytjacnjecggedhaa
namespace Go.Proofs.Ytjacnjecggedhaa
set_option linter.unusedVariables false
set_option linter.unusedSimpArgs false
open Go.RowKit Ev
set_option maxRecDepth 100000 in
theorem w_enc_tt (id total typ k : Int) (lb data sum : List UInt8) (K : Out → Prop) : (callC (TG1.ctx Try.prog) 100 21 [.agg [.bool true, .bool true, .int .i64 id, .int .i64 total, .int .i64 typ, .int .i64 k, .str lb, .str data, .str sum]] ⟨0, []⟩ (fun o _ => K o)
) = (branch (!gMay true true id total typ k lb sum) (K (Out.ret (AVal.tup [AVal.str [], AVal.int IntKind.i64 (2 : Int)]))) (obl (decide ((↑((two typ).length + lb.length) : Int) ≤ (9223372036854775807 :
 Int))) (obl (decide ((↑(0 + (two typ ++ lb).length) : Int) ≤ (9223372036854775807 : Int))) (obl (decide ((↑(data.length + sum.length) : Int) ≤ (9223372036854775807 : Int))) (obl (decide ((↑(([] ++
 (two typ ++ lb)).length + (data ++ sum).length) : Int) ≤ (9223372036854775807 : Int))) (branch (decide ((4095 : Int) < (↑([] ++ (two typ ++ lb) ++ (data ++ sum)).length : Int))) (K (Out.ret (AVal.tup
 [AVal.str [], AVal.int IntKind.i64 (3 : Int)]))) (obl (true && inI64 (k * (16 : Int))) (obl (decide ((↑([UInt8.ofNat (bitsA BinOp.or IntKind.u8 (bitsA BinOp.or IntKind.u8 (bitsA BinOp.or IntKind.u8
 (128 : Int) (k * (16 : Int) % (256 : Int))) (64 : Int)) ((↑([] ++ (two typ ++ lb) ++ (data ++ sum)).length : Int) / (256 : Int) % (256 : Int))).toNat, UInt8.ofNat ((↑([] ++ (two typ ++ lb) ++ (data ++
 sum)).length : Int) % (256 : Int)).toNat].length + ([] ++ (two typ ++ lb) ++ (data ++ sum)).length) : Int) ≤ (9223372036854775807 : Int))) (K (Out.ret (AVal.tup [AVal.str ([UInt8.ofNat (bitsA BinOp.or
 IntKind.u8 (bitsA BinOp.or IntKind.u8 (bitsA BinOp.or IntKind.u8 (128 : Int) (k * (16 : Int) % (256 : Int))) (64 : Int)) ((↑([] ++ (two typ ++ lb) ++ (data ++ sum)).length : Int) / (256 : Int) % (256
 : Int))).toNat, UInt8.ofNat ((↑([] ++ (two typ ++ lb) ++ (data ++ sum)).length : Int) % (256 : Int)).toNat] ++ ([] ++ (two typ ++ lb) ++ (data ++ sum))), AVal.int IntKind.i64 (0 : Int)]))))))))))) := by kernel_rfl
set_option maxRecDepth 100000 in
theorem w_enc_tf (id total typ k : Int) (lb data sum : List UInt8) (K : Out → Prop) : (callC (TG1.ctx Try.prog) 100 21 [.agg [.bool true, .bool false, .int .i64 id, .int .i64 total, .int .i64 typ, .int .i64 k, .str lb, .str data, .str sum]] ⟨0, []⟩ (fun o _ => K o)
) = (branch (!gMay true false id total typ k lb sum) (K (Out.ret (AVal.tup [AVal.str [], AVal.int IntKind.i64 (2 : Int)]))) (obl (decide ((↑((two typ).length + lb.length) : Int) ≤ (9223372036854775807 :
 Int))) (obl (decide ((↑(([] ++ [UInt8.ofNat (id % (256 : Int)).toNat] ++ two total).length + (two typ ++ lb).length) : Int) ≤ (9223372036854775807 : Int))) (obl (decide ((↑(data.length + sum.length) :
 Int) ≤ (9223372036854775807 : Int))) (obl (decide ((↑(([] ++ [UInt8.ofNat (id % (256 : Int)).toNat] ++ two total ++ (two typ ++ lb)).length + (data ++ sum).length) : Int) ≤ (9223372036854775807 :
 Int))) (branch (decide ((4095 : Int) < (↑([] ++ [UInt8.ofNat (id % (256 : Int)).toNat] ++ two total ++ (two typ ++ lb) ++ (data ++ sum)).length : Int))) (K (Out.ret (AVal.tup [AVal.str [], AVal.int
 IntKind.i64 (3 : Int)]))) (obl (true && inI64 (k * (16 : Int))) (obl (decide ((↑([UInt8.ofNat (bitsA BinOp.or IntKind.u8 (bitsA BinOp.or IntKind.u8 (128 : Int) (k * (16 : Int) % (256 : Int))) ((↑([]
 ++ [UInt8.ofNat (id % (256 : Int)).toNat] ++ two total ++ (two typ ++ lb) ++ (data ++ sum)).length : Int) / (256 : Int) % (256 : Int))).toNat, UInt8.ofNat ((↑([] ++ [UInt8.ofNat (id % (256 :
 Int)).toNat] ++ two total ++ (two typ ++ lb) ++ (data ++ sum)).length : Int) % (256 : Int)).toNat].length + ([] ++ [UInt8.ofNat (id % (256 : Int)).toNat] ++ two total ++ (two typ ++ lb) ++ (data ++
 sum)).length) : Int) ≤ (9223372036854775807 : Int))) (K (Out.ret (AVal.tup [AVal.str ([UInt8.ofNat (bitsA BinOp.or IntKind.u8 (bitsA BinOp.or IntKind.u8 (128 : Int) (k * (16 : Int) % (256 : Int)))
 ((↑([] ++ [UInt8.ofNat (id % (256 : Int)).toNat] ++ two total ++ (two typ ++ lb) ++ (data ++ sum)).length : Int) / (256 : Int) % (256 : Int))).toNat, UInt8.ofNat ((↑([] ++ [UInt8.ofNat (id % (256 :
 Int)).toNat] ++ two total ++ (two typ ++ lb) ++ (data ++ sum)).length : Int) % (256 : Int)).toNat] ++ ([] ++ [UInt8.ofNat (id % (256 : Int)).toNat] ++ two total ++ (two typ ++ lb) ++ (data ++ sum))),
 AVal.int IntKind.i64 (0 : Int)]))))))))))) := by kernel_rfl
set_option maxRecDepth 100000 in
theorem w_enc_ft (id total typ k : Int) (lb data sum : List UInt8) (K : Out → Prop) : (callC (TG1.ctx Try.prog) 100 21 [.agg [.bool false, .bool true, .int .i64 id, .int .i64 total, .int .i64 typ, .int .i64 k, .str lb, .str data, .str sum]] ⟨0, []⟩ (fun o _ => K o)
) = (branch (!gMay false true id total typ k lb sum) (K (Out.ret (AVal.tup [AVal.str [], AVal.int IntKind.i64 (2 : Int)]))) (obl (decide ((↑(data.length + sum.length) : Int) ≤ (9223372036854775807 :
 Int))) (obl (decide ((↑(([] ++ [UInt8.ofNat (id % (256 : Int)).toNat]).length + (data ++ sum).length) : Int) ≤ (9223372036854775807 : Int))) (branch (decide ((4095 : Int) < (↑([] ++ [UInt8.ofNat (id %
 (256 : Int)).toNat] ++ (data ++ sum)).length : Int))) (K (Out.ret (AVal.tup [AVal.str [], AVal.int IntKind.i64 (3 : Int)]))) (obl (decide ((↑([UInt8.ofNat (bitsA BinOp.or IntKind.u8 (112 : Int) ((↑([]
 ++ [UInt8.ofNat (id % (256 : Int)).toNat] ++ (data ++ sum)).length : Int) / (256 : Int) % (256 : Int))).toNat, UInt8.ofNat ((↑([] ++ [UInt8.ofNat (id % (256 : Int)).toNat] ++ (data ++ sum)).length :
 Int) % (256 : Int)).toNat].length + ([] ++ [UInt8.ofNat (id % (256 : Int)).toNat] ++ (data ++ sum)).length) : Int) ≤ (9223372036854775807 : Int))) (K (Out.ret (AVal.tup [AVal.str ([UInt8.ofNat (bitsA
 BinOp.or IntKind.u8 (112 : Int) ((↑([] ++ [UInt8.ofNat (id % (256 : Int)).toNat] ++ (data ++ sum)).length : Int) / (256 : Int) % (256 : Int))).toNat, UInt8.ofNat ((↑([] ++ [UInt8.ofNat (id % (256 :
 Int)).toNat] ++ (data ++ sum)).length : Int) % (256 : Int)).toNat] ++ ([] ++ [UInt8.ofNat (id % (256 : Int)).toNat] ++ (data ++ sum))), AVal.int IntKind.i64 (0 : Int)])))))))) := by kernel_rfl
set_option maxRecDepth 100000 in
theorem w_enc_ff (id total typ k : Int) (lb data sum : List UInt8) (K : Out → Prop) : (callC (TG1.ctx Try.prog) 100 21 [.agg [.bool false, .bool false, .int .i64 id, .int .i64 total, .int .i64 typ, .int .i64 k, .str lb, .str data, .str sum]] ⟨0, []⟩ (fun o _ => K o)
) = (branch (!gMay false false id total typ k lb sum) (K (Out.ret (AVal.tup [AVal.str [], AVal.int IntKind.i64 (2 : Int)]))) (obl (decide ((↑(data.length + sum.length) : Int) ≤ (9223372036854775807 :
 Int))) (obl (decide ((↑(([] ++ [UInt8.ofNat (id % (256 : Int)).toNat]).length + (data ++ sum).length) : Int) ≤ (9223372036854775807 : Int))) (branch (decide ((4095 : Int) < (↑([] ++ [UInt8.ofNat (id %
 (256 : Int)).toNat] ++ (data ++ sum)).length : Int))) (K (Out.ret (AVal.tup [AVal.str [], AVal.int IntKind.i64 (3 : Int)]))) (obl (decide ((↑([UInt8.ofNat (bitsA BinOp.or IntKind.u8 (48 : Int) ((↑([]
 ++ [UInt8.ofNat (id % (256 : Int)).toNat] ++ (data ++ sum)).length : Int) / (256 : Int) % (256 : Int))).toNat, UInt8.ofNat ((↑([] ++ [UInt8.ofNat (id % (256 : Int)).toNat] ++ (data ++ sum)).length :
 Int) % (256 : Int)).toNat].length + ([] ++ [UInt8.ofNat (id % (256 : Int)).toNat] ++ (data ++ sum)).length) : Int) ≤ (9223372036854775807 : Int))) (K (Out.ret (AVal.tup [AVal.str ([UInt8.ofNat (bitsA
 BinOp.or IntKind.u8 (48 : Int) ((↑([] ++ [UInt8.ofNat (id % (256 : Int)).toNat] ++ (data ++ sum)).length : Int) / (256 : Int) % (256 : Int))).toNat, UInt8.ofNat ((↑([] ++ [UInt8.ofNat (id % (256 :
 Int)).toNat] ++ (data ++ sum)).length : Int) % (256 : Int)).toNat] ++ ([] ++ [UInt8.ofNat (id % (256 : Int)).toNat] ++ (data ++ sum))), AVal.int IntKind.i64 (0 : Int)])))))))) := by kernel_rfl
end Go.Proofs.Ytjacnjecggedhaa
namespace Go.Proofs.Ytjacnjecggedhaa
set_option linter.unusedVariables false
set_option linter.unusedSimpArgs false
open Go.RowKit Ev
def gBody (st en : Bool) (id total typ : Int) (lb data sum : List UInt8) : List UInt8 :=
  (if st && en then [] else [UInt8.ofNat (id % 256).toNat]) ++ (if st && !en then two total else []) ++ (if st then two typ ++ lb else []) ++ data ++ sum
def gErr (st en : Bool) (id total typ k : Int) (lb data sum : List UInt8) : Int :=
  if gMay st en id total typ k lb sum = false then 2 else if 4095 < (gBody st en id total typ lb data sum).length then 3 else 0
def gHead (st en : Bool) (k : Int) (n : Nat) : Int := (if st then 32768 + k * 4096 else 12288) + (if en then 16384 else 0) + n
def gEnc (st en : Bool) (id total typ k : Int) (lb data sum : List UInt8) : List UInt8 :=
  if gErr st en id total typ k lb data sum = 0 then two (gHead st en k (gBody st en id total typ lb data sum).length) ++ gBody st en id total typ lb data sum else []
def fcEnc : FC := fun args _ => match args with
  | [.agg [.bool st, .bool en, .int .i64 id, .int .i64 total, .int .i64 typ, .int .i64 k, .str lb, .str data, .str sum]] => some (decide (lb.length + data.length + sum.length ≤ 9223372036854775000), .tup [.str (gEnc st en id total typ k lb data sum), .int .i64 (gErr st en id total typ k lb data sum)])
  | _ => none
theorem or16 : ∀ x : Fin 16, ∀ y : Fin 16, bitsA .or .u8 ((x.val : Int) * 16) (y.val : Int) = (x.val : Int) * 16 + (y.val : Int) := by decide
theorem or16' {x y : Int} (h1 : 0 ≤ x) (h2 : x < 16) (h3 : 0 ≤ y) (h4 : y < 16) : bitsA .or .u8 (x * 16) y = x * 16 + y := by
  have := or16 ⟨x.toNat, by omega⟩ ⟨y.toNat, by omega⟩
  simpa [Int.toNat_of_nonneg h1, Int.toNat_of_nonneg h3] using this
theorem or128 : ∀ k : Fin 4, bitsA .or .u8 128 ((k.val : Int) * 16 % 256) = (8 + (k.val : Int)) * 16 := by decide
theorem or128' {k : Int} (h1 : 0 ≤ k) (h2 : k < 4) : bitsA .or .u8 128 (k * 16 % 256) = (8 + k) * 16 := by
  have := or128 ⟨k.toNat, by omega⟩
  simpa [Int.toNat_of_nonneg h1] using this
theorem or64 : ∀ k : Fin 4, bitsA .or .u8 ((8 + (k.val : Int)) * 16) 64 = (12 + (k.val : Int)) * 16 := by decide
theorem or64' {k : Int} (h1 : 0 ≤ k) (h2 : k < 4) : bitsA .or .u8 ((8 + k) * 16) 64 = (12 + k) * 16 := by
  have := or64 ⟨k.toNat, by omega⟩
  simpa [Int.toNat_of_nonneg h1] using this
theorem gMay_k {st en : Bool} {id total typ k : Int} {lb sum : List UInt8} (h : gMay st en id total typ k lb sum = true) : 0 ≤ k ∧ k < 4 := by
  unfold gMay at h
  cases st <;> cases en <;> simp [lOk] at h <;> omega
theorem enc_sound : FcSound Try.prog 21 fcEnc := by
  refine fc_pure TG1ok.ctx (n := 100) Try.call21 (fun args H v h => ?_)
  unfold fcEnc at h
  split at h <;> simp only [Option.some.injEq, Prod.mk.injEq, decide_eq_true_eq, reduceCtorEq] at h
  obtain ⟨hl, rfl⟩ := h
  rename_i st en id total typ k lb data sum
  refine ⟨rfl, rfl, ?_⟩
  cases hm : gMay st en id total typ k lb sum with
  | false =>
    have e1 : gErr st en id total typ k lb data sum = 2 := by unfold gErr; rw [hm]; rfl
    have e2 : gEnc st en id total typ k lb data sum = [] := by unfold gEnc; rw [e1]; rfl
    rw [e1, e2]
    cases st <;> cases en
    · rw [w_enc_ff, hm]; exact rfl
    · rw [w_enc_ft, hm]; exact rfl
    · rw [w_enc_tf, hm]; exact rfl
    · rw [w_enc_tt, hm]; exact rfl
  | true =>
    have hk := gMay_k hm
    have key : ∀ (s : List UInt8) (a : Int), gBody st en id total typ lb data sum = s → (¬ 4095 < s.length → bitsA .or .u8 a ((s.length : Int) / 256 % 256) = a + (s.length : Int) / 256 % 256 ∧ a * 256 = gHead st en k 0) →
        (4095 < s.length → Out.ret (.tup [.str [], .int .i64 3]) = Out.ret (.tup [.str (gEnc st en id total typ k lb data sum), .int .i64 (gErr st en id total typ k lb data sum)])) ∧
        (¬ 4095 < s.length → Out.ret (.tup [.str ([UInt8.ofNat (bitsA .or .u8 a ((s.length : Int) / 256 % 256)).toNat, UInt8.ofNat ((s.length : Int) % 256).toNat] ++ s), .int .i64 0]) = Out.ret (.tup [.str (gEnc st en id total typ k lb data sum), .int .i64 (gErr st en id total typ k lb data sum)])) := by
      intro s a hs ha
      constructor
      · intro h
        have e1 : gErr st en id total typ k lb data sum = 3 := by unfold gErr; rw [hm, hs, if_neg (by simp), if_pos h]
        have e2 : gEnc st en id total typ k lb data sum = [] := by unfold gEnc; rw [e1]; rfl
        rw [e1, e2]
      · intro h
        have e1 : gErr st en id total typ k lb data sum = 0 := by unfold gErr; rw [hm, hs, if_neg (by simp), if_neg h]
        have e2 : gEnc st en id total typ k lb data sum = two (gHead st en k s.length) ++ s := by unfold gEnc; rw [e1, hs]; rfl
        obtain ⟨a1, a2⟩ := ha h
        rw [e1, e2, a1]
        have e3 : gHead st en k s.length = gHead st en k 0 + s.length := by unfold gHead; omega
        have e4 : 0 ≤ a ∧ a ≤ 240 := by
          unfold gHead at a2
          cases st <;> cases en <;> simp at a2 <;> omega
        unfold two
        rw [e3, ← a2]
        have e5 : (a * 256 + (s.length : Int)) / 256 % 256 = a + (s.length : Int) / 256 % 256 := by omega
        have e6 : (a * 256 + (s.length : Int)) % 256 = (s.length : Int) % 256 := by omega
        rw [e5, e6]
    have tw : (two typ).length = 2 ∧ (two total).length = 2 := ⟨rfl, rfl⟩
    cases st <;> cases en
    · rw [w_enc_ff, hm]
      obtain ⟨q1, q2⟩ := key ([] ++ [UInt8.ofNat (id % 256).toNat] ++ (data ++ sum)) 48 (by simp [gBody]) (fun h => ⟨or16' (x := 3) (by decide) (by decide) (by omega) (by omega), by simp [gHead]⟩)
      simp only [Bool.not_true, reduceCtorEq, false_implies, true_implies, true_and, branch_iff, obl_iff, decide_eq_true_eq, decide_eq_false_iff_not, Int.ofNat_lt]
      simp only [List.length_append, List.length_cons, List.length_nil] at q1 q2 ⊢
      refine ⟨by omega, by omega, fun h => q1 (by omega), fun h => ⟨by omega, q2 (by omega)⟩⟩
    · rw [w_enc_ft, hm]
      obtain ⟨q1, q2⟩ := key ([] ++ [UInt8.ofNat (id % 256).toNat] ++ (data ++ sum)) 112 (by simp [gBody]) (fun h => ⟨or16' (x := 7) (by decide) (by decide) (by omega) (by omega), by simp [gHead]⟩)
      simp only [Bool.not_true, reduceCtorEq, false_implies, true_implies, true_and, branch_iff, obl_iff, decide_eq_true_eq, decide_eq_false_iff_not, Int.ofNat_lt]
      simp only [List.length_append, List.length_cons, List.length_nil] at q1 q2 ⊢
      refine ⟨by omega, by omega, fun h => q1 (by omega), fun h => ⟨by omega, q2 (by omega)⟩⟩
    · rw [w_enc_tf, hm, or128' hk.1 hk.2]
      obtain ⟨q1, q2⟩ := key ([] ++ [UInt8.ofNat (id % 256).toNat] ++ two total ++ (two typ ++ lb) ++ (data ++ sum)) ((8 + k) * 16) (by simp [gBody]) (fun h => ⟨or16' (by omega) (by omega) (by omega) (by omega), by simp [gHead]; omega⟩)
      simp only [Bool.not_true, reduceCtorEq, false_implies, true_implies, true_and, branch_iff, obl_iff, Bool.true_and, inI64_iff, decide_eq_true_eq, decide_eq_false_iff_not, Int.ofNat_lt]
      simp only [List.length_append, List.length_cons, List.length_nil, tw.1, tw.2] at q1 q2 ⊢
      refine ⟨by omega, by omega, by omega, by omega, fun h => q1 (by omega), fun h => ⟨by omega, by omega, q2 (by omega)⟩⟩
    · rw [w_enc_tt, hm, or128' hk.1 hk.2, or64' hk.1 hk.2]
      obtain ⟨q1, q2⟩ := key ([] ++ (two typ ++ lb) ++ (data ++ sum)) ((12 + k) * 16) (by simp [gBody]) (fun h => ⟨or16' (by omega) (by omega) (by omega) (by omega), by simp [gHead]; omega⟩)
      simp only [Bool.not_true, reduceCtorEq, false_implies, true_implies, true_and, branch_iff, obl_iff, Bool.true_and, inI64_iff, decide_eq_true_eq, decide_eq_false_iff_not, Int.ofNat_lt]
      simp only [List.length_append, List.length_cons, List.length_nil, tw.1, tw.2] at q1 q2 ⊢
      refine ⟨by omega, by omega, by omega, by omega, fun h => q1 (by omega), fun h => ⟨by omega, by omega, q2 (by omega)⟩⟩
noncomputable def TG2 : Tabs := (TG1.addFc 21 fcEnc)
theorem TG2ok : TabsOk TG2 Try.prog := (TG1ok.addFc enc_sound)
end Go.Proofs.Ytjacnjecggedhaa
namespace Go.Proofs.Ytjacnjecggedhaa
set_option linter.unusedVariables false
set_option linter.unusedSimpArgs false
open Go.RowKit Ev
set_option maxRecDepth 100000 in
theorem w_gsize (st en : Bool) (id total typ k : Int) (lb data sum : List UInt8) (K : Out → Prop) : (callC (TG2.ctx Try.prog) 100 14 [.agg [.bool st, .bool en, .int .i64 id, .int .i64 total, .int .i64 typ, .int .i64 k, .str lb, .str data, .str sum]] ⟨0, []⟩ (fun o _ => K o)
) = (obl (decide (lb.length + data.length + sum.length ≤ 9223372036854775000)) (K (Out.ret (AVal.tup [AVal.int IntKind.i64 (↑(gEnc st en id total typ k lb data sum).length : Int), AVal.int IntKind.i64
 (gErr st en id total typ k lb data sum)])))) := by kernel_rfl
end Go.Proofs.Ytjacnjecggedhaa
namespace Go.Proofs.Ytjacnjecggedhaa
set_option linter.unusedVariables false
set_option linter.unusedSimpArgs false
open Go.RowKit Ev
def fcGSize : FC := fun args _ => match args with
  | [.agg [.bool st, .bool en, .int .i64 id, .int .i64 total, .int .i64 typ, .int .i64 k, .str lb, .str data, .str sum]] => some (decide (lb.length + data.length + sum.length ≤ 9223372036854775000), .tup [.int .i64 ((gEnc st en id total typ k lb data sum).length : Int), .int .i64 (gErr st en id total typ k lb data sum)])
  | _ => none
def fcGCheck : FC := fun args _ => match args with
  | [.agg [.bool st, .bool en, .int .i64 id, .int .i64 total, .int .i64 typ, .int .i64 k, .str lb, .str data, .str sum]] => some (decide (lb.length + data.length + sum.length ≤ 9223372036854775000), .int .i64 (gErr st en id total typ k lb data sum))
  | _ => none
theorem gsize_sound : FcSound Try.prog 14 fcGSize := by
  refine fc_pure TG2ok.ctx (n := 100) Try.call14 (fun args H v h => ?_)
  unfold fcGSize at h
  split at h <;> simp only [Option.some.injEq, Prod.mk.injEq, reduceCtorEq] at h
  obtain ⟨hl, rfl⟩ := h
  refine ⟨rfl, rfl, ?_⟩
  rw [w_gsize]
  exact obl_iff.2 ⟨hl, rfl⟩
noncomputable def TG : Tabs := (TG2.addFc 14 fcGSize)
theorem TGok : TabsOk TG Try.prog := (TG2ok.addFc gsize_sound)
end Go.Proofs.Ytjacnjecggedhaa
namespace Go.Proofs.Ytjacnjecggedhaa
set_option linter.unusedVariables false
set_option linter.unusedSimpArgs false
open Go.RowKit Ev
def by8 (b : List UInt8) (i : Nat) : Int := ((b.getD i 0).toNat : Int)
def w16 (b : List UInt8) (i : Nat) : Int := by8 b i * 256 + by8 b (i + 1)
def shortV : AVal := .iface 110 (.agg [])
noncomputable def gTake (l r : List AVal) (k : Out → List AVal → Prop) : Prop := match l, r with
  | [.str s], [.int .i64 n] => branch (decide ((s.length : Int) < n)) (k (.panic shortV) [.str s]) (obl (decide (0 ≤ n)) (k (.ret (.str (s.take n.toNat))) [.str (s.drop n.toNat)]))
  | _, _ => Stuck 40 []
noncomputable def gByte (l r : List AVal) (k : Out → List AVal → Prop) : Prop := match l, r with
  | [.str s], [] => branch (decide ((s.length : Int) < 1)) (k (.panic shortV) [.str s]) (k (.ret (.int .i64 (by8 s 0))) [.str (s.drop 1)])
  | _, _ => Stuck 41 []
noncomputable def gWord (l r : List AVal) (k : Out → List AVal → Prop) : Prop := match l, r with
  | [.str s], [] => branch (decide ((s.length : Int) < 2)) (k (.panic shortV) [.str (s.drop 1)]) (k (.ret (.int .i64 (w16 s 0))) [.str (s.drop 2)])
  | _, _ => Stuck 42 []
def rA (st en : Bool) : Nat := if st && en then 0 else 1
def rB (st en : Bool) : Nat := rA st en + (if st && !en then 2 else 0)
def rC (st en : Bool) (k : Int) : Nat := rB st en + (if st then 2 + (lSize k).toNat else 0)
def rOk (st en : Bool) (k : Int) (b : List UInt8) : Bool := decide (rC st en k + (if !st && en then 4 else 0) ≤ b.length)
def rId (st en : Bool) (b : List UInt8) : Int := if st && en then 0 else by8 b 0
def rTotal (st en : Bool) (b : List UInt8) : Int := if st && !en then w16 b 1 else 0
def rTyp (st en : Bool) (b : List UInt8) : Int := if st then w16 b (rB st en) else 0
def rK (st : Bool) (k : Int) : Int := if st then k else 0
def rLb (st en : Bool) (k : Int) (b : List UInt8) : List UInt8 := if st then (b.drop (rB st en + 2)).take (lSize k).toNat else []
def rData (st en : Bool) (k : Int) (b : List UInt8) : List UInt8 := if !st && en then (b.drop 1).take (b.length - 5) else b.drop (rC st en k)
def rSum (st en : Bool) (b : List UInt8) : List UInt8 := if !st && en then b.drop (b.length - 4) else []
noncomputable def gRead (r : List AVal) (k : Out → Prop) : Prop := match r with
  | [.agg [.bool st, .bool en], .int .i64 kind, .str b] => obl (decide (b.length ≤ 9223372036854775807)) <| branch (rOk st en kind b) (k (.ret (.agg [.bool st, .bool en, .int .i64 (rId st en b), .int .i64 (rTotal st en b), .int .i64 (rTyp st en b), .int .i64 (rK st kind), .str (rLb st en kind b), .str (rData st en kind b), .str (rSum st en b)]))) (k (.panic shortV))
  | _ => Stuck 43 []
noncomputable def TR1 : Tabs := TG.addGc 41 (gcCell 112 gTake)
noncomputable def TR2 : Tabs := TR1.addGc 56 (gcCell 112 gByte)
noncomputable def TR3 : Tabs := TR2.addGc 40 (gcCell 112 gWord)
noncomputable def TR4 : Tabs := TR3.addGc 42 (gcData gRead)
end Go.Proofs.Ytjacnjecggedhaa
namespace Go.Proofs.Ytjacnjecggedhaa
set_option linter.unusedVariables false
set_option linter.unusedSimpArgs false
open Go.RowKit Ev
set_option maxRecDepth 100000 in
theorem w_take (s : List UInt8) (n : Int) (K : Out → AHeap → Prop) : (callC (TG.ctx Try.prog) 100 41 [.ptr 0 0 0 0, .int .i64 n] ⟨1, [(0, .cells 112 [.str s])]⟩ K
) = (branch (decide ((↑s.length : Int) < n)) (K (Out.panic (AVal.iface 110 (AVal.agg []))) (AHeap.mk 1 [(0, ABlk.cells 112 [AVal.str s])])) (obl (decide ((0 : Int) ≤ n ∧ n ≤ (↑s.length : Int))) (obl
 (decide ((0 : Int) ≤ n ∧ n ≤ (↑s.length : Int))) (K (Out.ret (AVal.str (List.take n.toNat s))) (AHeap.mk 1 [(0, ABlk.cells 112 [AVal.str (List.drop n.toNat s)]), (0, ABlk.cells 112 [AVal.str s])]))))) := by kernel_rfl
set_option maxRecDepth 100000 in
theorem w_byte (s : List UInt8) (K : Out → AHeap → Prop) : (callC (TR1.ctx Try.prog) 100 56 [.ptr 0 0 0 0] ⟨1, [(0, .cells 112 [.str s])]⟩ K
) = (branch (decide ((↑s.length : Int) < (1 : Int))) (K (Out.panic (AVal.iface 110 (AVal.agg []))) (AHeap.mk 1 [(0, ABlk.cells 112 [AVal.str s]), (0, ABlk.cells 112 [AVal.str s])])) (obl (decide ((0 :
 Int) ≤ (0 : Int) ∧ (0 : Int) < (↑(List.take 1 s).length : Int))) (obl (inI64 (↑((List.take 1 s).getD 0 (0 : UInt8)).toNat : Int)) (K (Out.ret (AVal.int IntKind.i64 (↑((List.take 1 s).getD 0 (0 :
 UInt8)).toNat : Int))) (AHeap.mk 1 [(0, ABlk.cells 112 [AVal.str (List.drop 1 s)]), (0, ABlk.cells 112 [AVal.str s])]))))) := by kernel_rfl
set_option maxRecDepth 100000 in
theorem w_word (s : List UInt8) (K : Out → AHeap → Prop) : (callC (TR2.ctx Try.prog) 100 40 [.ptr 0 0 0 0] ⟨1, [(0, .cells 112 [.str s])]⟩ K
) = (branch (decide ((↑s.length : Int) < (1 : Int))) (K (Out.panic (AVal.iface 110 (AVal.agg []))) (AHeap.mk 1 [(0, ABlk.cells 112 [AVal.str s]), (0, ABlk.cells 112 [AVal.str s])])) (obl (true && inI64
 (by8 s 0 * (256 : Int))) (branch (decide ((↑(List.drop 1 s).length : Int) < (1 : Int))) (K (Out.panic (AVal.iface 110 (AVal.agg []))) (AHeap.mk 1 [(0, ABlk.cells 112 [AVal.str (List.drop 1 s)]), (0,
 ABlk.cells 112 [AVal.str (List.drop 1 s)]), (0, ABlk.cells 112 [AVal.str s])])) (K (Out.ret (AVal.int IntKind.i64 (bitsA BinOp.or IntKind.i64 (by8 s 0 * (256 : Int)) (by8 (List.drop 1 s) 0))))
 (AHeap.mk 1 [(0, ABlk.cells 112 [AVal.str (List.drop 1 (List.drop 1 s))]), (0, ABlk.cells 112 [AVal.str (List.drop 1 s)]), (0, ABlk.cells 112 [AVal.str s])]))))) := by kernel_rfl
set_option maxRecDepth 100000 in
theorem w_read_tt (k : Int) (b : List UInt8) (K : Out → Prop) : (callC (TR3.ctx Try.prog) 100 42 [.agg [.bool true, .bool true], .int .i64 k, .str b] ⟨0, []⟩ (fun o _ => K o)
) = (branch (decide ((↑b.length : Int) < (2 : Int))) (K (Out.panic (AVal.iface 110 (AVal.agg [])))) (branch (decide ((↑(List.drop 2 b).length : Int) < lSize k)) (K (Out.panic (AVal.iface 110 (AVal.agg
 [])))) (obl (decide ((0 : Int) ≤ lSize k)) (K (Out.ret (AVal.agg [AVal.bool true, AVal.bool true, AVal.int IntKind.i64 (0 : Int), AVal.int IntKind.i64 (0 : Int), AVal.int IntKind.i64 (w16 b 0),
 AVal.int IntKind.i64 k, AVal.str (List.take (lSize k).toNat (List.drop 2 b)), AVal.str (List.drop (lSize k).toNat (List.drop 2 b)), AVal.str []])))))) := by kernel_rfl
set_option maxRecDepth 100000 in
theorem w_read_tf (k : Int) (b : List UInt8) (K : Out → Prop) : (callC (TR3.ctx Try.prog) 100 42 [.agg [.bool true, .bool false], .int .i64 k, .str b] ⟨0, []⟩ (fun o _ => K o)
) = (branch (decide ((↑b.length : Int) < (1 : Int))) (K (Out.panic (AVal.iface 110 (AVal.agg [])))) (branch (decide ((↑(List.drop 1 b).length : Int) < (2 : Int))) (K (Out.panic (AVal.iface 110 (AVal.agg
 [])))) (branch (decide ((↑(List.drop 2 (List.drop 1 b)).length : Int) < (2 : Int))) (K (Out.panic (AVal.iface 110 (AVal.agg [])))) (branch (decide ((↑(List.drop 2 (List.drop 2 (List.drop 1 b))).length
 : Int) < lSize k)) (K (Out.panic (AVal.iface 110 (AVal.agg [])))) (obl (decide ((0 : Int) ≤ lSize k)) (K (Out.ret (AVal.agg [AVal.bool true, AVal.bool false, AVal.int IntKind.i64 (by8 b 0), AVal.int
 IntKind.i64 (w16 (List.drop 1 b) 0), AVal.int IntKind.i64 (w16 (List.drop 2 (List.drop 1 b)) 0), AVal.int IntKind.i64 k, AVal.str (List.take (lSize k).toNat (List.drop 2 (List.drop 2 (List.drop 1
 b)))), AVal.str (List.drop (lSize k).toNat (List.drop 2 (List.drop 2 (List.drop 1 b)))), AVal.str []])))))))) := by kernel_rfl
set_option maxRecDepth 100000 in
theorem w_read_ft (k : Int) (b : List UInt8) (K : Out → Prop) : (callC (TR3.ctx Try.prog) 100 42 [.agg [.bool false, .bool true], .int .i64 k, .str b] ⟨0, []⟩ (fun o _ => K o)
) = (branch (decide ((↑b.length : Int) < (1 : Int))) (K (Out.panic (AVal.iface 110 (AVal.agg [])))) (obl (inI64 ((↑(List.drop 1 b).length : Int) - (4 : Int))) (branch (decide ((↑(List.drop 1 b).length :
 Int) < max ((↑(List.drop 1 b).length : Int) - (4 : Int)) (0 : Int))) (K (Out.panic (AVal.iface 110 (AVal.agg [])))) (obl (decide ((0 : Int) ≤ max ((↑(List.drop 1 b).length : Int) - (4 : Int)) (0 :
 Int))) (branch (decide ((↑(List.drop (max ((↑(List.drop 1 b).length : Int) - (4 : Int)) (0 : Int)).toNat (List.drop 1 b)).length : Int) < (4 : Int))) (K (Out.panic (AVal.iface 110 (AVal.agg [])))) (K
 (Out.ret (AVal.agg [AVal.bool false, AVal.bool true, AVal.int IntKind.i64 (by8 b 0), AVal.int IntKind.i64 (0 : Int), AVal.int IntKind.i64 (0 : Int), AVal.int IntKind.i64 (0 : Int), AVal.str [],
 AVal.str (List.take (max ((↑(List.drop 1 b).length : Int) - (4 : Int)) (0 : Int)).toNat (List.drop 1 b)), AVal.str (List.take 4 (List.drop (max ((↑(List.drop 1 b).length : Int) - (4 : Int)) (0 :
 Int)).toNat (List.drop 1 b)))])))))))) := by kernel_rfl
set_option maxRecDepth 100000 in
theorem w_read_ff (k : Int) (b : List UInt8) (K : Out → Prop) : (callC (TR3.ctx Try.prog) 100 42 [.agg [.bool false, .bool false], .int .i64 k, .str b] ⟨0, []⟩ (fun o _ => K o)
) = (branch (decide ((↑b.length : Int) < (1 : Int))) (K (Out.panic (AVal.iface 110 (AVal.agg [])))) (K (Out.ret (AVal.agg [AVal.bool false, AVal.bool false, AVal.int IntKind.i64 (by8 b 0), AVal.int
 IntKind.i64 (0 : Int), AVal.int IntKind.i64 (0 : Int), AVal.int IntKind.i64 (0 : Int), AVal.str [], AVal.str (List.drop 1 b), AVal.str []])))) := by kernel_rfl
end Go.Proofs.Ytjacnjecggedhaa
namespace Go.Proofs.Ytjacnjecggedhaa
set_option linter.unusedVariables false
set_option linter.unusedSimpArgs false
open Go.RowKit Ev
theorem by8_bd (b : List UInt8) (i : Nat) : 0 ≤ by8 b i ∧ by8 b i < 256 := by
  unfold by8
  have := (b.getD i 0).toNat_lt
  omega
theorem w16_bd (b : List UInt8) (i : Nat) : 0 ≤ w16 b i ∧ w16 b i < 65536 := by
  have h1 := by8_bd b i
  have h2 := by8_bd b (i + 1)
  unfold w16
  omega
theorem by8_drop (b : List UInt8) (i j : Nat) : by8 (b.drop j) i = by8 b (j + i) := by
  unfold by8
  simp [List.getD_eq_getElem?_getD, List.getElem?_drop]
theorem by8_take (b : List UInt8) (i n : Nat) (h : i < n) : by8 (b.take n) i = by8 b i := by
  unfold by8
  simp [List.getD_eq_getElem?_getD, List.getElem?_take, h]
theorem w16_drop (b : List UInt8) (i j : Nat) : w16 (b.drop j) i = w16 b (j + i) := by
  unfold w16
  simp only [by8_drop, Nat.add_assoc]
theorem wrap_i64 (z : Nat) (h : z < 4294967296) : IntKind.i64.wrap (z : Int) = z := by
  have e : (z : Int) % (2 ^ IntKind.i64.bits : Int) = z := by
    rw [show (2 ^ IntKind.i64.bits : Int) = 18446744073709551616 from rfl]; omega
  unfold IntKind.wrap
  simp only [e]
  rw [if_neg]
  rw [show (2 ^ (IntKind.i64.bits - 1) : Int) = 9223372036854775808 from rfl]
  simp only [Bool.and_eq_true, decide_eq_true_eq, not_and]
  intro _
  omega
theorem nat_or (x y : Nat) (hx : x < 4294967296) (hy : y < 4294967296) : bitsA .or .i64 (x : Int) (y : Int) = ((x ||| y : Nat) : Int) := by
  unfold bitsA
  have e1 : (BitVec.ofInt IntKind.i64.bits (x : Int) ||| BitVec.ofInt IntKind.i64.bits (y : Int)).toNat = x ||| y := by
    rw [BitVec.toNat_or, BitVec.toNat_ofInt, BitVec.toNat_ofInt]
    congr 1 <;> · simp only [IntKind.bits]; omega
  have e2 : x ||| y < 2 ^ 32 := Nat.or_lt_two_pow (by omega) (by omega)
  show IntKind.i64.wrap _ = _
  rw [e1]
  exact wrap_i64 _ e2
theorem nat_and (x y : Nat) (hx : x < 4294967296) (hy : y < 4294967296) : bitsA .and .i64 (x : Int) (y : Int) = ((x &&& y : Nat) : Int) := by
  unfold bitsA
  have e1 : (BitVec.ofInt IntKind.i64.bits (x : Int) &&& BitVec.ofInt IntKind.i64.bits (y : Int)).toNat = x &&& y := by
    rw [BitVec.toNat_and, BitVec.toNat_ofInt, BitVec.toNat_ofInt]
    congr 1 <;> · simp only [IntKind.bits]; omega
  have e2 : x &&& y < 2 ^ 32 := Nat.and_lt_two_pow _ (by omega)
  show IntKind.i64.wrap _ = _
  rw [e1]
  exact wrap_i64 _ e2
theorem or_word {h l : Int} (h1 : 0 ≤ h) (h2 : h < 256) (h3 : 0 ≤ l) (h4 : l < 256) : bitsA .or .i64 (h * 256) l = h * 256 + l := by
  obtain ⟨a, rfl⟩ := Int.eq_ofNat_of_zero_le h1
  obtain ⟨b, rfl⟩ := Int.eq_ofNat_of_zero_le h3
  have e : ((a : Int) * 256) = ((a * 256 : Nat) : Int) := by omega
  have hb : b < 2 ^ 8 := by omega
  have := Nat.shiftLeft_add_eq_or_of_lt hb a
  rw [Nat.shiftLeft_eq] at this
  have e2 : a * 256 ||| b = a * 256 + b := this.symm
  rw [e, nat_or _ _ (by omega) (by omega), e2]
  omega
theorem and_4095 {x : Int} (h1 : 0 ≤ x) (h2 : x < 65536) : bitsA .and .i64 x 4095 = x % 4096 := by
  obtain ⟨a, rfl⟩ := Int.eq_ofNat_of_zero_le h1
  rw [show (4095 : Int) = ((4095 : Nat) : Int) from rfl, nat_and _ _ (by omega) (by omega)]
  have := Nat.and_two_pow_sub_one_eq_mod a 12
  simp only [show (2 : Nat) ^ 12 = 4096 from rfl, show 4096 - 1 = 4095 from rfl] at this
  rw [this]
  omega
theorem and_3 {x : Int} (h1 : 0 ≤ x) (h2 : x < 65536) : bitsA .and .i64 x 3 = x % 4 := by
  obtain ⟨a, rfl⟩ := Int.eq_ofNat_of_zero_le h1
  rw [show (3 : Int) = ((3 : Nat) : Int) from rfl, nat_and _ _ (by omega) (by omega)]
  have := Nat.and_two_pow_sub_one_eq_mod a 2
  simp only [show (2 : Nat) ^ 2 = 4 from rfl, show 4 - 1 = 3 from rfl] at this
  rw [this]
  omega
theorem take_sound : GcSound Try.prog 41 (gcCell 112 gTake) := by
  refine gc_cell TGok.ctx (n := 100) Try.call41 (fun l r k h => ?_)
  unfold gTake at h
  split at h
  · rename_i s n
    rw [w_take]
    simp only [branch_iff, obl_iff, decide_eq_true_eq, decide_eq_false_iff_not] at h ⊢
    refine ⟨fun hc => ⟨_, rfl, rfl, rfl, h.1 hc⟩, fun hc => ?_⟩
    obtain ⟨h1, h2⟩ := h.2 hc
    exact ⟨by omega, by omega, _, rfl, rfl, rfl, h2⟩
  · exact (not_stuck h).elim
theorem TR1ok : TabsOk TR1 Try.prog := TGok.addGc take_sound
theorem byte_sound : GcSound Try.prog 56 (gcCell 112 gByte) := by
  refine gc_cell TR1ok.ctx (n := 100) Try.call56 (fun l r k h => ?_)
  unfold gByte at h
  split at h
  · rename_i s
    rw [w_byte]
    have e : ((((s.take 1).getD 0 0).toNat : Nat) : Int) = by8 s 0 := by8_take s 0 1 (by omega)
    have hb := by8_bd s 0
    simp only [branch_iff, obl_iff, decide_eq_true_eq, decide_eq_false_iff_not, e, inI64_iff] at h ⊢
    refine ⟨fun hc => ⟨_, rfl, rfl, rfl, h.1 hc⟩, fun hc => ⟨?_, ?_, _, rfl, rfl, rfl, h.2 hc⟩⟩
    · simp; omega
    · omega
  · exact (not_stuck h).elim
theorem TR2ok : TabsOk TR2 Try.prog := TR1ok.addGc byte_sound
theorem word_sound : GcSound Try.prog 40 (gcCell 112 gWord) := by
  refine gc_cell TR2ok.ctx (n := 100) Try.call40 (fun l r k h => ?_)
  unfold gWord at h
  split at h
  · rename_i s
    rw [w_word]
    have hb := by8_bd s 0
    have hb1 := by8_bd (s.drop 1) 0
    have e : bitsA .or .i64 (by8 s 0 * 256) (by8 (s.drop 1) 0) = w16 s 0 := by
      rw [or_word hb.1 hb.2 hb1.1 hb1.2, by8_drop]; rfl
    have e2 : (s.drop 1).drop 1 = s.drop 2 := by rw [List.drop_drop]
    simp only [branch_iff, obl_iff, decide_eq_true_eq, decide_eq_false_iff_not, e, e2, inI64_iff, Bool.true_and, List.length_drop] at h ⊢
    refine ⟨fun hc => ⟨_, rfl, rfl, rfl, ?_⟩, fun hc => ⟨by omega, fun hc' => ⟨_, rfl, rfl, rfl, h.1 (by omega)⟩, fun hc' => ⟨_, rfl, rfl, rfl, h.2 (by omega)⟩⟩⟩
    have hs : s = [] := by cases s with
      | nil => rfl
      | cons c s => simp at hc; omega
    have := h.1 (by omega)
    subst hs
    exact this
  · exact (not_stuck h).elim
theorem TR3ok : TabsOk TR3 Try.prog := TR2ok.addGc word_sound
end Go.Proofs.Ytjacnjecggedhaa
namespace Go.Proofs.Ytjacnjecggedhaa
set_option linter.unusedVariables false
set_option linter.unusedSimpArgs false
open Go.RowKit Ev
theorem lSize_nn (k : Int) : 0 ≤ lSize k ∧ lSize k ≤ 6 := by
  unfold lSize
  split
  · omega
  · split <;> omega
set_option maxRecDepth 100000 in
theorem read_sound : GcSound Try.prog 42 (gcData gRead) := by
  refine gc_data TR3ok.ctx (n := 100) Try.call42 (fun r k h => ?_)
  unfold gRead at h
  split at h
  · rename_i st en kind b
    have hk := lSize_nn kind
    simp only [branch_iff, obl_iff, decide_eq_true_eq] at h
    obtain ⟨hb, hy, hn⟩ := h
    -- it is given up; it goes through
    have bad : rOk st en kind b = false → (Out.panic shortV).data = true ∧ k (.panic shortV) := fun h => ⟨rfl, hn h⟩
    have good : ∀ {id total typ k' : Int} {lb data sum : List UInt8}, rOk st en kind b = true → id = rId st en b → total = rTotal st en b → typ = rTyp st en b → k' = rK st kind → lb = rLb st en kind b → data = rData st en kind b → sum = rSum st en b →
        (Out.ret (.agg [.bool st, .bool en, .int .i64 id, .int .i64 total, .int .i64 typ, .int .i64 k', .str lb, .str data, .str sum])).data = true ∧ k (.ret (.agg [.bool st, .bool en, .int .i64 id, .int .i64 total, .int .i64 typ, .int .i64 k', .str lb, .str data, .str sum])) := by
      rintro _ _ _ _ _ _ _ h rfl rfl rfl rfl rfl rfl rfl
      exact ⟨rfl, hy h⟩
    cases st <;> cases en
    · rw [w_read_ff]
      simp only [branch_iff, decide_eq_true_eq, decide_eq_false_iff_not]
      refine ⟨fun hc => bad ?_, fun hc => good ?_ rfl rfl rfl rfl rfl rfl rfl⟩
      · have : b.length = 0 := by omega
        simp [rOk, rC, rB, rA, List.eq_nil_of_length_eq_zero this]
      · simp [rOk, rC, rB, rA]; omega
    · rw [w_read_ft]
      simp only [branch_iff, obl_iff, decide_eq_true_eq, decide_eq_false_iff_not, inI64_iff, List.length_drop, List.drop_drop]
      refine ⟨fun hc => bad ?_, fun hc => ⟨by omega, fun hc1 => ?_, fun hc1 => ⟨by omega, fun hc2 => bad ?_, fun hc2 => good ?_ rfl rfl rfl rfl rfl ?_ ?_⟩⟩⟩
      · simp [rOk, rC, rB, rA]; omega
      · refine bad ?_; simp [rOk, rC, rB, rA]; omega
      · simp [rOk, rC, rB, rA]; omega
      · simp [rOk, rC, rB, rA]; omega
      · simp only [rData]
        rw [if_pos (by rfl)]
        congr 1
        omega
      · simp only [rSum]
        rw [if_pos (by rfl), List.take_of_length_le (by simp; omega)]
        congr 1
        omega
    · rw [w_read_tf]
      simp only [branch_iff, obl_iff, decide_eq_true_eq, decide_eq_false_iff_not, inI64_iff, List.length_drop, List.drop_drop, w16_drop]
      refine ⟨fun hc => bad ?_, fun hc => ⟨fun hc1 => bad ?_, fun hc1 => ⟨fun hc2 => bad ?_, fun hc2 => ⟨fun hc3 => bad ?_, fun hc3 => ⟨by omega, good ?_ rfl rfl rfl rfl rfl ?_ rfl⟩⟩⟩⟩⟩
      · simp [rOk, rC, rB, rA]; omega
      · simp [rOk, rC, rB, rA]; omega
      · simp [rOk, rC, rB, rA]; omega
      · simp [rOk, rC, rB, rA]; omega
      · simp [rOk, rC, rB, rA]; omega
      · simp only [rData, rC, rB, rA]
        rw [if_neg (by decide)]
        congr 1
        simp
        try omega
    · rw [w_read_tt]
      simp only [branch_iff, obl_iff, decide_eq_true_eq, decide_eq_false_iff_not, inI64_iff, List.length_drop, List.drop_drop, w16_drop]
      refine ⟨fun hc => bad ?_, fun hc => ⟨fun hc1 => bad ?_, fun hc1 => ⟨by omega, good ?_ rfl rfl rfl rfl rfl ?_ rfl⟩⟩⟩
      · simp [rOk, rC, rB, rA]; omega
      · simp [rOk, rC, rB, rA]; omega
      · simp [rOk, rC, rB, rA]; omega
      · simp only [rData, rC, rB, rA]
        rw [if_neg (by decide)]
        congr 1
        simp
        try omega
  · exact (not_stuck h).elim
theorem TR4ok : TabsOk TR4 Try.prog := TR3ok.addGc read_sound
end Go.Proofs.Ytjacnjecggedhaa
namespace Go.Proofs.Ytjacnjecggedhaa
set_option linter.unusedVariables false
set_option linter.unusedSimpArgs false
open Go.RowKit Ev
set_option maxRecDepth 100000 in
theorem w_dec (s : List UInt8) (K : Out → Prop) : (wpD (TR4.ctx Try.prog) 100 28 39 10 6 3 [.tmp 2, .tmp 3, .tmp 4] Try.f28 (seqL (bodyC Try.f28)) (seqR (seqR (bodyC Try.f28))) (seqR (bodyC Try.f39)) [.str s] ⟨0, []⟩ (fun o _ => K o)
) = (branch (decide (s = [])) (K (Out.ret (AVal.tup [AVal.agg [AVal.bool false, AVal.bool false, AVal.int IntKind.i64 (0 : Int), AVal.int IntKind.i64 (0 : Int), AVal.int IntKind.i64 (0 : Int), AVal.int
 IntKind.i64 (0 : Int), AVal.str [], AVal.str [], AVal.str []], AVal.int IntKind.i64 (0 : Int), AVal.int IntKind.i64 (5 : Int)]))) (obl (decide ((0 : Int) ≤ (0 : Int) ∧ (0 : Int) < (↑s.length : Int)))
 (branch (decide ((↑(s.getD 0 (0 : UInt8)).toNat : Int) < (16 : Int))) (K (Out.ret (AVal.tup [AVal.agg [AVal.bool false, AVal.bool false, AVal.int IntKind.i64 (0 : Int), AVal.int IntKind.i64 (0 : Int),
 AVal.int IntKind.i64 (0 : Int), AVal.int IntKind.i64 (0 : Int), AVal.str [], AVal.str [], AVal.str []], AVal.int IntKind.i64 (0 : Int), AVal.int IntKind.i64 (5 : Int)]))) (branch (decide ((↑s.length :
 Int) < (2 : Int))) (K (Out.ret (AVal.tup [AVal.agg [AVal.bool false, AVal.bool false, AVal.int IntKind.i64 (0 : Int), AVal.int IntKind.i64 (0 : Int), AVal.int IntKind.i64 (0 : Int), AVal.int
 IntKind.i64 (0 : Int), AVal.str [], AVal.str [], AVal.str []], AVal.int IntKind.i64 (0 : Int), AVal.int IntKind.i64 (4 : Int)]))) (branch (decide ((↑(List.drop 2 s).length : Int) < bitsA BinOp.and
 IntKind.i64 (w16 s 0) (4095 : Int))) (K (Out.ret (AVal.tup [AVal.agg [AVal.bool false, AVal.bool false, AVal.int IntKind.i64 (0 : Int), AVal.int IntKind.i64 (0 : Int), AVal.int IntKind.i64 (0 : Int),
 AVal.int IntKind.i64 (0 : Int), AVal.str [], AVal.str [], AVal.str []], AVal.int IntKind.i64 (0 : Int), AVal.int IntKind.i64 (4 : Int)]))) (obl (decide ((0 : Int) ≤ bitsA BinOp.and IntKind.i64 (w16 s
 0) (4095 : Int))) (obl (decide ((0 : Int) ≤ (0 : Int) ∧ (0 : Int) < (↑s.length : Int))) (obl (decide ((0 : Int) ≤ (0 : Int) ∧ (0 : Int) < (↑s.length : Int))) (branch (!!decide (bitsA BinOp.and
 IntKind.u8 (↑(s.getD 0 (0 : UInt8)).toNat : Int) (128 : Int) = (0 : Int))) (branch (!decide (bitsA BinOp.and IntKind.i64 (w16 s 0 / (4096 : Int)) (3 : Int) = (3 : Int))) (K (Out.ret (AVal.tup
 [AVal.agg [AVal.bool false, AVal.bool false, AVal.int IntKind.i64 (0 : Int), AVal.int IntKind.i64 (0 : Int), AVal.int IntKind.i64 (0 : Int), AVal.int IntKind.i64 (0 : Int), AVal.str [], AVal.str [],
 AVal.str []], AVal.int IntKind.i64 (0 : Int), AVal.int IntKind.i64 (4 : Int)]))) (obl (decide ((List.take (bitsA BinOp.and IntKind.i64 (w16 s 0) (4095 : Int)).toNat (List.drop 2 s)).length ≤
 9223372036854775807)) (branch (rOk (!decide (bitsA BinOp.and IntKind.u8 (↑(s.getD 0 (0 : UInt8)).toNat : Int) (128 : Int) = (0 : Int))) (!decide (bitsA BinOp.and IntKind.u8 (↑(s.getD 0 (0 :
 UInt8)).toNat : Int) (64 : Int) = (0 : Int))) (bitsA BinOp.and IntKind.i64 (w16 s 0 / (4096 : Int)) (3 : Int)) (List.take (bitsA BinOp.and IntKind.i64 (w16 s 0) (4095 : Int)).toNat (List.drop 2 s)))
 (obl (inI64 ((2 : Int) + (↑(List.take (bitsA BinOp.and IntKind.i64 (w16 s 0) (4095 : Int)).toNat (List.drop 2 s)).length : Int))) (K (Out.ret (AVal.tup [AVal.agg [AVal.bool !decide (bitsA BinOp.and
 IntKind.u8 (↑(s.getD 0 (0 : UInt8)).toNat : Int) (128 : Int) = (0 : Int)), AVal.bool !decide (bitsA BinOp.and IntKind.u8 (↑(s.getD 0 (0 : UInt8)).toNat : Int) (64 : Int) = (0 : Int)), AVal.int
 IntKind.i64 (rId (!decide (bitsA BinOp.and IntKind.u8 (↑(s.getD 0 (0 : UInt8)).toNat : Int) (128 : Int) = (0 : Int))) (!decide (bitsA BinOp.and IntKind.u8 (↑(s.getD 0 (0 : UInt8)).toNat : Int) (64 :
 Int) = (0 : Int))) (List.take (bitsA BinOp.and IntKind.i64 (w16 s 0) (4095 : Int)).toNat (List.drop 2 s))), AVal.int IntKind.i64 (rTotal (!decide (bitsA BinOp.and IntKind.u8 (↑(s.getD 0 (0 :
 UInt8)).toNat : Int) (128 : Int) = (0 : Int))) (!decide (bitsA BinOp.and IntKind.u8 (↑(s.getD 0 (0 : UInt8)).toNat : Int) (64 : Int) = (0 : Int))) (List.take (bitsA BinOp.and IntKind.i64 (w16 s 0)
 (4095 : Int)).toNat (List.drop 2 s))), AVal.int IntKind.i64 (rTyp (!decide (bitsA BinOp.and IntKind.u8 (↑(s.getD 0 (0 : UInt8)).toNat : Int) (128 : Int) = (0 : Int))) (!decide (bitsA BinOp.and
 IntKind.u8 (↑(s.getD 0 (0 : UInt8)).toNat : Int) (64 : Int) = (0 : Int))) (List.take (bitsA BinOp.and IntKind.i64 (w16 s 0) (4095 : Int)).toNat (List.drop 2 s))), AVal.int IntKind.i64 (rK (!decide
 (bitsA BinOp.and IntKind.u8 (↑(s.getD 0 (0 : UInt8)).toNat : Int) (128 : Int) = (0 : Int))) (bitsA BinOp.and IntKind.i64 (w16 s 0 / (4096 : Int)) (3 : Int))), AVal.str (rLb (!decide (bitsA BinOp.and
 IntKind.u8 (↑(s.getD 0 (0 : UInt8)).toNat : Int) (128 : Int) = (0 : Int))) (!decide (bitsA BinOp.and IntKind.u8 (↑(s.getD 0 (0 : UInt8)).toNat : Int) (64 : Int) = (0 : Int))) (bitsA BinOp.and
 IntKind.i64 (w16 s 0 / (4096 : Int)) (3 : Int)) (List.take (bitsA BinOp.and IntKind.i64 (w16 s 0) (4095 : Int)).toNat (List.drop 2 s))), AVal.str (rData (!decide (bitsA BinOp.and IntKind.u8 (↑(s.getD
 0 (0 : UInt8)).toNat : Int) (128 : Int) = (0 : Int))) (!decide (bitsA BinOp.and IntKind.u8 (↑(s.getD 0 (0 : UInt8)).toNat : Int) (64 : Int) = (0 : Int))) (bitsA BinOp.and IntKind.i64 (w16 s 0 / (4096
 : Int)) (3 : Int)) (List.take (bitsA BinOp.and IntKind.i64 (w16 s 0) (4095 : Int)).toNat (List.drop 2 s))), AVal.str (rSum (!decide (bitsA BinOp.and IntKind.u8 (↑(s.getD 0 (0 : UInt8)).toNat : Int)
 (128 : Int) = (0 : Int))) (!decide (bitsA BinOp.and IntKind.u8 (↑(s.getD 0 (0 : UInt8)).toNat : Int) (64 : Int) = (0 : Int))) (List.take (bitsA BinOp.and IntKind.i64 (w16 s 0) (4095 : Int)).toNat
 (List.drop 2 s)))], AVal.int IntKind.i64 ((2 : Int) + (↑(List.take (bitsA BinOp.and IntKind.i64 (w16 s 0) (4095 : Int)).toNat (List.drop 2 s)).length : Int)), AVal.int IntKind.i64 (0 : Int)])))) (K
 (Out.ret (AVal.tup [AVal.agg [AVal.bool false, AVal.bool false, AVal.int IntKind.i64 (0 : Int), AVal.int IntKind.i64 (0 : Int), AVal.int IntKind.i64 (0 : Int), AVal.int IntKind.i64 (0 : Int), AVal.str
 [], AVal.str [], AVal.str []], AVal.int IntKind.i64 (0 : Int), AVal.int IntKind.i64 (4 : Int)])))))) (obl (decide ((List.take (bitsA BinOp.and IntKind.i64 (w16 s 0) (4095 : Int)).toNat (List.drop 2
 s)).length ≤ 9223372036854775807)) (branch (rOk (!decide (bitsA BinOp.and IntKind.u8 (↑(s.getD 0 (0 : UInt8)).toNat : Int) (128 : Int) = (0 : Int))) (!decide (bitsA BinOp.and IntKind.u8 (↑(s.getD 0 (0
 : UInt8)).toNat : Int) (64 : Int) = (0 : Int))) (bitsA BinOp.and IntKind.i64 (w16 s 0 / (4096 : Int)) (3 : Int)) (List.take (bitsA BinOp.and IntKind.i64 (w16 s 0) (4095 : Int)).toNat (List.drop 2 s)))
 (obl (inI64 ((2 : Int) + (↑(List.take (bitsA BinOp.and IntKind.i64 (w16 s 0) (4095 : Int)).toNat (List.drop 2 s)).length : Int))) (K (Out.ret (AVal.tup [AVal.agg [AVal.bool !decide (bitsA BinOp.and
 IntKind.u8 (↑(s.getD 0 (0 : UInt8)).toNat : Int) (128 : Int) = (0 : Int)), AVal.bool !decide (bitsA BinOp.and IntKind.u8 (↑(s.getD 0 (0 : UInt8)).toNat : Int) (64 : Int) = (0 : Int)), AVal.int
 IntKind.i64 (rId (!decide (bitsA BinOp.and IntKind.u8 (↑(s.getD 0 (0 : UInt8)).toNat : Int) (128 : Int) = (0 : Int))) (!decide (bitsA BinOp.and IntKind.u8 (↑(s.getD 0 (0 : UInt8)).toNat : Int) (64 :
 Int) = (0 : Int))) (List.take (bitsA BinOp.and IntKind.i64 (w16 s 0) (4095 : Int)).toNat (List.drop 2 s))), AVal.int IntKind.i64 (rTotal (!decide (bitsA BinOp.and IntKind.u8 (↑(s.getD 0 (0 :
 UInt8)).toNat : Int) (128 : Int) = (0 : Int))) (!decide (bitsA BinOp.and IntKind.u8 (↑(s.getD 0 (0 : UInt8)).toNat : Int) (64 : Int) = (0 : Int))) (List.take (bitsA BinOp.and IntKind.i64 (w16 s 0)
 (4095 : Int)).toNat (List.drop 2 s))), AVal.int IntKind.i64 (rTyp (!decide (bitsA BinOp.and IntKind.u8 (↑(s.getD 0 (0 : UInt8)).toNat : Int) (128 : Int) = (0 : Int))) (!decide (bitsA BinOp.and
 IntKind.u8 (↑(s.getD 0 (0 : UInt8)).toNat : Int) (64 : Int) = (0 : Int))) (List.take (bitsA BinOp.and IntKind.i64 (w16 s 0) (4095 : Int)).toNat (List.drop 2 s))), AVal.int IntKind.i64 (rK (!decide
 (bitsA BinOp.and IntKind.u8 (↑(s.getD 0 (0 : UInt8)).toNat : Int) (128 : Int) = (0 : Int))) (bitsA BinOp.and IntKind.i64 (w16 s 0 / (4096 : Int)) (3 : Int))), AVal.str (rLb (!decide (bitsA BinOp.and
 IntKind.u8 (↑(s.getD 0 (0 : UInt8)).toNat : Int) (128 : Int) = (0 : Int))) (!decide (bitsA BinOp.and IntKind.u8 (↑(s.getD 0 (0 : UInt8)).toNat : Int) (64 : Int) = (0 : Int))) (bitsA BinOp.and
 IntKind.i64 (w16 s 0 / (4096 : Int)) (3 : Int)) (List.take (bitsA BinOp.and IntKind.i64 (w16 s 0) (4095 : Int)).toNat (List.drop 2 s))), AVal.str (rData (!decide (bitsA BinOp.and IntKind.u8 (↑(s.getD
 0 (0 : UInt8)).toNat : Int) (128 : Int) = (0 : Int))) (!decide (bitsA BinOp.and IntKind.u8 (↑(s.getD 0 (0 : UInt8)).toNat : Int) (64 : Int) = (0 : Int))) (bitsA BinOp.and IntKind.i64 (w16 s 0 / (4096
 : Int)) (3 : Int)) (List.take (bitsA BinOp.and IntKind.i64 (w16 s 0) (4095 : Int)).toNat (List.drop 2 s))), AVal.str (rSum (!decide (bitsA BinOp.and IntKind.u8 (↑(s.getD 0 (0 : UInt8)).toNat : Int)
 (128 : Int) = (0 : Int))) (!decide (bitsA BinOp.and IntKind.u8 (↑(s.getD 0 (0 : UInt8)).toNat : Int) (64 : Int) = (0 : Int))) (List.take (bitsA BinOp.and IntKind.i64 (w16 s 0) (4095 : Int)).toNat
 (List.drop 2 s)))], AVal.int IntKind.i64 ((2 : Int) + (↑(List.take (bitsA BinOp.and IntKind.i64 (w16 s 0) (4095 : Int)).toNat (List.drop 2 s)).length : Int)), AVal.int IntKind.i64 (0 : Int)])))) (K
 (Out.ret (AVal.tup [AVal.agg [AVal.bool false, AVal.bool false, AVal.int IntKind.i64 (0 : Int), AVal.int IntKind.i64 (0 : Int), AVal.int IntKind.i64 (0 : Int), AVal.int IntKind.i64 (0 : Int), AVal.str
 [], AVal.str [], AVal.str []], AVal.int IntKind.i64 (0 : Int), AVal.int IntKind.i64 (4 : Int)])))))))))))))) := by kernel_rfl
end Go.Proofs.Ytjacnjecggedhaa
namespace Go.Proofs.Ytjacnjecggedhaa
set_option linter.unusedVariables false
set_option linter.unusedSimpArgs false
open Go.RowKit Ev
def zeroP : PieceR := ⟨false, false, 0, 0, 0, 0, [], [], []⟩
structure Dec where
  p : PieceR
  n : Int
  e : Int
deriving DecidableEq
def dSt (s : List UInt8) : Bool := decide (128 ≤ by8 s 0)
def dEn (s : List UInt8) : Bool := decide (64 ≤ by8 s 0 % 128)
def dKind (s : List UInt8) : Int := w16 s 0 / 4096 % 4
def dLen (s : List UInt8) : Nat := (w16 s 0 % 4096).toNat
def dBody (s : List UInt8) : List UInt8 := (s.drop 2).take (dLen s)
def dPiece (st en : Bool) (k : Int) (b : List UInt8) : PieceR := ⟨st, en, rId st en b, rTotal st en b, rTyp st en b, rK st k, rLb st en k b, rData st en k b, rSum st en b⟩
def dec (s : List UInt8) : Dec :=
  if s = [] ∨ by8 s 0 < 16 then ⟨zeroP, 0, 5⟩
  else if s.length < 2 ∨ s.length < 2 + dLen s ∨ (dSt s = false ∧ dKind s ≠ 3) ∨ rOk (dSt s) (dEn s) (dKind s) (dBody s) = false then ⟨zeroP, 0, 4⟩
  else ⟨dPiece (dSt s) (dEn s) (dKind s) (dBody s), 2 + dLen s, 0⟩
def decV (d : Dec) : AVal := .tup [.agg d.p.cells, .int .i64 d.n, .int .i64 d.e]
def fcDec : FC := fun args _ => match args with
  | [.str s] => some (decide (s.length ≤ 9223372036854775000), .tup [.agg [.bool (dec s).p.st, .bool (dec s).p.en, .int .i64 (dec s).p.id, .int .i64 (dec s).p.total, .int .i64 (dec s).p.typ, .int .i64 (dec s).p.k, .str (dec s).p.lb, .str (dec s).p.data, .str (dec s).p.sum], .int .i64 (dec s).n, .int .i64 (dec s).e])
  | _ => none
set_option maxRecDepth 10000 in
theorem and_u8 : ∀ x : Fin 256, decide (bitsA .and .u8 (x.val : Int) 128 = 0) = !decide (128 ≤ x.val) ∧ decide (bitsA .and .u8 (x.val : Int) 64 = 0) = !decide (64 ≤ x.val % 128) := by decide
theorem and_st (s : List UInt8) : (!decide (bitsA .and .u8 (((s.getD 0 0).toNat : Nat) : Int) 128 = 0)) = dSt s ∧ (!decide (bitsA .and .u8 (((s.getD 0 0).toNat : Nat) : Int) 64 = 0)) = dEn s := by
  have h := and_u8 ⟨(s.getD 0 0).toNat, (s.getD 0 0).toNat_lt⟩
  simp only at h
  rw [h.1, h.2]
  unfold dSt dEn by8
  constructor
  · simp only [Bool.not_not, decide_eq_decide]; omega
  · simp only [Bool.not_not, decide_eq_decide]; omega
theorem dec_bad5 {s : List UInt8} (h : s = [] ∨ by8 s 0 < 16) : dec s = ⟨zeroP, 0, 5⟩ := by unfold dec; rw [if_pos h]
theorem dec_bad4 {s : List UInt8} (h : ¬ (s = [] ∨ by8 s 0 < 16)) (h2 : s.length < 2 ∨ s.length < 2 + dLen s ∨ (dSt s = false ∧ dKind s ≠ 3) ∨ rOk (dSt s) (dEn s) (dKind s) (dBody s) = false) : dec s = ⟨zeroP, 0, 4⟩ := by unfold dec; rw [if_neg h, if_pos h2]
theorem dec_good {s : List UInt8} (h : ¬ (s = [] ∨ by8 s 0 < 16)) (h2 : ¬ (s.length < 2 ∨ s.length < 2 + dLen s ∨ (dSt s = false ∧ dKind s ≠ 3) ∨ rOk (dSt s) (dEn s) (dKind s) (dBody s) = false)) : dec s = ⟨dPiece (dSt s) (dEn s) (dKind s) (dBody s), 2 + dLen s, 0⟩ := by unfold dec; rw [if_neg h, if_neg h2]
theorem len_eq (s : List UInt8) : w16 s 0 % 4096 = (dLen s : Int) := by
  have := w16_bd s 0
  unfold dLen; omega
theorem dec_walk (s : List UInt8) (hl : s.length ≤ 9223372036854775000) : wpD (TR4.ctx Try.prog) 100 28 39 10 6 3 [.tmp 2, .tmp 3, .tmp 4] Try.f28 (seqL (bodyC Try.f28)) (seqR (seqR (bodyC Try.f28))) (seqR (bodyC Try.f39)) [.str s] ⟨0, []⟩ (fun o _ => o = .ret (decV (dec s))) := by
  rw [w_dec]
  have hw := w16_bd s 0
  have hb := by8_bd s 0
  obtain ⟨a1, a2⟩ := and_st s
  have a3 : bitsA .and .i64 (w16 s 0) 4095 = w16 s 0 % 4096 := and_4095 hw.1 hw.2
  have a4 : bitsA .and .i64 (w16 s 0 / 4096) 3 = dKind s := and_3 (by omega) (by omega)
  have a5 : (w16 s 0 % 4096).toNat = dLen s := rfl
  have a6 : w16 s 0 % 4096 = (dLen s : Int) := by unfold dLen; omega
  have a7 : (s.drop 2).take (dLen s) = dBody s := rfl
  have a8 : (((s.getD 0 0).toNat : Nat) : Int) = by8 s 0 := rfl
  rw [a1, a2, a3, a4, a5, a6, a7, a8]
  have k5 : (s = [] ∨ by8 s 0 < 16) → Out.ret (.tup [.agg [.bool false, .bool false, .int .i64 0, .int .i64 0, .int .i64 0, .int .i64 0, .str [], .str [], .str []], .int .i64 0, .int .i64 5]) = Out.ret (decV (dec s)) := fun h => by rw [dec_bad5 h]; rfl
  have k4 : ¬ (s = [] ∨ by8 s 0 < 16) → (s.length < 2 ∨ s.length < 2 + dLen s ∨ (dSt s = false ∧ dKind s ≠ 3) ∨ rOk (dSt s) (dEn s) (dKind s) (dBody s) = false) → Out.ret (.tup [.agg [.bool false, .bool false, .int .i64 0, .int .i64 0, .int .i64 0, .int .i64 0, .str [], .str [], .str []], .int .i64 0, .int .i64 4]) = Out.ret (decV (dec s)) := fun h h2 => by rw [dec_bad4 h h2]; rfl
  have hbl : 2 + dLen s ≤ s.length → (dBody s).length = dLen s := fun h => by rw [← a7]; simp; omega
  have hbl2 : (dBody s).length ≤ 9223372036854775000 := by rw [← a7]; simp; omega
  have k0 : ¬ (s = [] ∨ by8 s 0 < 16) → ¬ (s.length < 2 ∨ s.length < 2 + dLen s ∨ (dSt s = false ∧ dKind s ≠ 3) ∨ rOk (dSt s) (dEn s) (dKind s) (dBody s) = false) → Out.ret (.tup [.agg [.bool (dSt s), .bool (dEn s), .int .i64 (rId (dSt s) (dEn s) (dBody s)), .int .i64 (rTotal (dSt s) (dEn s) (dBody s)), .int .i64 (rTyp (dSt s) (dEn s) (dBody s)), .int .i64 (rK (dSt s) (dKind s)), .str (rLb (dSt s) (dEn s) (dKind s) (dBody s)), .str (rData (dSt s) (dEn s) (dKind s) (dBody s)), .str (rSum (dSt s) (dEn s) (dBody s))], .int .i64 (2 + ((dBody s).length : Int)), .int .i64 0]) = Out.ret (decV (dec s)) := fun h h2 => by
    rw [dec_good h h2]
    have : ((dBody s).length : Int) = dLen s := by rw [hbl (by omega)]
    rw [this]
    rfl
  simp only [branch_iff, obl_iff, decide_eq_true_eq, decide_eq_false_iff_not, Bool.not_eq_true', Bool.not_eq_false', inI64_iff, List.length_drop]
  refine ⟨fun h0 => k5 (.inl h0), fun h0 => ?_⟩
  have hp : 0 < s.length := List.length_pos_iff.2 h0
  refine ⟨by omega, fun h1 => k5 (.inr h1), fun h1 => ?_⟩
  have hn : ¬ (s = [] ∨ by8 s 0 < 16) := by rintro (h | h) <;> contradiction
  refine ⟨fun h2 => k4 hn (.inl (by omega)), fun h2 => ⟨fun h3 => k4 hn (.inr (.inl (by omega))), fun h3 => ⟨by omega, by omega, by omega, ?_⟩⟩⟩
  have fin : (dSt s = true ∨ dKind s = 3) → (dBody s).length ≤ 9223372036854775807 ∧
      (rOk (dSt s) (dEn s) (dKind s) (dBody s) = true → (-9223372036854775808 ≤ 2 + ((dBody s).length : Int) ∧ 2 + ((dBody s).length : Int) ≤ 9223372036854775807) ∧ Out.ret (.tup [.agg [.bool (dSt s), .bool (dEn s), .int .i64 (rId (dSt s) (dEn s) (dBody s)), .int .i64 (rTotal (dSt s) (dEn s) (dBody s)), .int .i64 (rTyp (dSt s) (dEn s) (dBody s)), .int .i64 (rK (dSt s) (dKind s)), .str (rLb (dSt s) (dEn s) (dKind s) (dBody s)), .str (rData (dSt s) (dEn s) (dKind s) (dBody s)), .str (rSum (dSt s) (dEn s) (dBody s))], .int .i64 (2 + ((dBody s).length : Int)), .int .i64 0]) = Out.ret (decV (dec s))) ∧
      (rOk (dSt s) (dEn s) (dKind s) (dBody s) = false → Out.ret (.tup [.agg [.bool false, .bool false, .int .i64 0, .int .i64 0, .int .i64 0, .int .i64 0, .str [], .str [], .str []], .int .i64 0, .int .i64 4]) = Out.ret (decV (dec s))) := by
    intro hk
    refine ⟨by omega, fun hr => ⟨by omega, k0 hn ?_⟩, fun hr => k4 hn (.inr (.inr (.inr hr)))⟩
    rintro (h | h | h | h)
    · omega
    · omega
    · rcases hk with hk | hk
      · rw [hk] at h; exact absurd h.1 (by simp)
      · exact h.2 hk
    · rw [h] at hr; cases hr
  exact ⟨fun h4 => ⟨fun h5 => k4 hn (.inr (.inr (.inl ⟨h4, h5⟩))), fun h5 => fin (.inr h5)⟩, fun h4 => fin (.inl h4)⟩
set_option maxRecDepth 100000 in
theorem dec_sound : FcSound Try.prog 28 fcDec := by
  refine fc_wpD TR4ok.ctx Try.call28 (fun args H v h => ?_)
  unfold fcDec at h
  split at h <;> simp only [Option.some.injEq, Prod.mk.injEq, decide_eq_true_eq, reduceCtorEq] at h
  obtain ⟨hl, rfl⟩ := h
  rename_i s
  refine ⟨rfl, rfl, fun ρ w => ?_⟩
  exact wpD_sound TR4ok.ctx (fn := Try.f28) (gn := Try.f39) (by kernel_rfl) (by kernel_rfl) rfl rfl rfl (by decide) (dec_walk s hl) (rel_nil ρ w) rfl
noncomputable def TD : Tabs := (TR4.addFc 28 fcDec)
theorem TDok : TabsOk TD Try.prog := (TR4ok.addFc dec_sound)
end Go.Proofs.Ytjacnjecggedhaa
namespace Go.Proofs.Ytjacnjecggedhaa
set_option linter.unusedVariables false
set_option linter.unusedSimpArgs false
open Go.RowKit Ev
theorem byte_of (b : List UInt8) (i : Nat) (h : i < b.length) : UInt8.ofNat (by8 b i).toNat = b[i] := by
  unfold by8
  simp [List.getD_eq_getElem?_getD, List.getElem?_eq_getElem h]
theorem drop_take1 (b : List UInt8) (i : Nat) (h : i < b.length) : (b.drop i).take 1 = [b[i]] := by
  rw [List.drop_eq_getElem_cons h]; rfl
theorem drop_take2 (b : List UInt8) (i : Nat) (h : i + 1 < b.length) : (b.drop i).take 2 = [b[i], b[i + 1]] := by
  rw [List.drop_eq_getElem_cons (by omega), List.take_succ_cons, drop_take1 b (i + 1) h]
theorem two_of (b : List UInt8) (i : Nat) (h : i + 2 ≤ b.length) : two (w16 b i) = (b.drop i).take 2 := by
  have h0 := by8_bd b i
  have h1 := by8_bd b (i + 1)
  unfold two w16
  rw [show (by8 b i * 256 + by8 b (i + 1)) / 256 % 256 = by8 b i by omega, show (by8 b i * 256 + by8 b (i + 1)) % 256 = by8 b (i + 1) by omega,
    byte_of b i (by omega), byte_of b (i + 1) (by omega), drop_take2 b i (by omega)]
theorem one_of (b : List UInt8) (h : 1 ≤ b.length) : [UInt8.ofNat (by8 b 0 % 256).toNat] = b.take 1 := by
  have h0 := by8_bd b 0
  rw [show by8 b 0 % 256 = by8 b 0 by omega, byte_of b 0 (by omega)]
  exact (drop_take1 b 0 (by omega)).symm
theorem take_two (b : List UInt8) (i j : Nat) : b.take i ++ (b.drop i).take j = b.take (i + j) := List.take_add.symm
theorem piece_of {st en : Bool} {k : Int} {b : List UInt8} (hk : 0 ≤ k ∧ k < 4) (hk3 : st = false → k = 3) (h : rOk st en k b = true) :
    gMay st en (rId st en b) (rTotal st en b) (rTyp st en b) (rK st k) (rLb st en k b) (rSum st en b) = true ∧ gBody st en (rId st en b) (rTotal st en b) (rTyp st en b) (rLb st en k b) (rData st en k b) (rSum st en b) = b := by
  have b0 := by8_bd b 0
  have b1 := w16_bd b 1
  have b3 := w16_bd b 3
  have bz := w16_bd b 0
  have hz := lSize_nn k
  obtain ⟨z, hz'⟩ : ∃ z : Nat, lSize k = (z : Int) := ⟨(lSize k).toNat, by omega⟩
  have hzn : (lSize k).toNat = z := by omega
  cases st <;> cases en
  · have hl : 1 ≤ b.length := by simpa [rOk, rC, rB, rA] using h
    constructor
    · simp [gMay, rId, rTotal, rTyp, rK, rLb, rSum]; omega
    · simp only [gBody, rId, rTotal, rTyp, rLb, rData, rSum, rC, rB, rA]
      simp only [Bool.and_false, Bool.false_eq_true, if_false, Bool.not_false, Bool.and_true, Bool.false_and, List.append_nil, Bool.not_true, Nat.add_zero]
      rw [one_of b hl]
      exact List.take_append_drop 1 b
  · have hl : 5 ≤ b.length := by simpa [rOk, rC, rB, rA] using h
    constructor
    · simp [gMay, rId, rTotal, rTyp, rK, rLb, rSum]; omega
    · simp only [gBody, rId, rTotal, rTyp, rLb, rData, rSum, rC, rB, rA]
      simp only [Bool.and_true, Bool.false_eq_true, if_false, Bool.not_true, Bool.and_false, Bool.false_and, List.append_nil, Bool.not_false, if_true]
      rw [one_of b (by omega), take_two, show 1 + (b.length - 5) = b.length - 4 by omega]
      exact List.take_append_drop _ b
  · have hl : 5 + z ≤ b.length := by simp [rOk, rC, rB, rA, hzn] at h; omega
    constructor
    · simp [gMay, rId, rTotal, rTyp, rK, rLb, rSum, lOk, rB, rA, hz', hzn]; omega
    · simp only [gBody, rId, rTotal, rTyp, rLb, rData, rSum, rC, rB, rA]
      simp only [Bool.and_false, Bool.false_eq_true, if_false, Bool.not_false, Bool.and_true, if_true, Bool.not_true, Bool.false_and, hzn]
      rw [one_of b (by omega), two_of b 1 (by omega), take_two, two_of b (1 + 2) (by omega), ← List.append_assoc, take_two, show 1 + 2 + 2 = 5 by omega, take_two, List.append_nil, show 1 + 2 + (2 + z) = 5 + z by omega]
      exact List.take_append_drop _ b
  · have hl : 2 + z ≤ b.length := by simpa [rOk, rC, rB, rA, hzn] using h
    constructor
    · simp [gMay, rId, rTotal, rTyp, rK, rLb, rSum, lOk, rB, rA, hz', hzn]; omega
    · simp only [gBody, rId, rTotal, rTyp, rLb, rData, rSum, rC, rB, rA]
      simp only [Bool.and_true, Bool.not_true, Bool.and_false, Bool.false_eq_true, if_false, if_true, Bool.false_and, List.nil_append, List.append_nil, Nat.zero_add, hzn, Nat.add_zero]
      rw [two_of b 0 (by omega), List.drop_zero, take_two]
      exact List.take_append_drop _ b
theorem dec_again {s : List UInt8} (h : (dec s).e = 0) : gErr (dec s).p.st (dec s).p.en (dec s).p.id (dec s).p.total (dec s).p.typ (dec s).p.k (dec s).p.lb (dec s).p.data (dec s).p.sum = 0 ∧
    2 ≤ (dec s).n ∧ (dec s).n ≤ s.length ∧ (dec s).n ≤ 4097 ∧ gEnc (dec s).p.st (dec s).p.en (dec s).p.id (dec s).p.total (dec s).p.typ (dec s).p.k (dec s).p.lb (dec s).p.data (dec s).p.sum = s.take (dec s).n.toNat := by
  by_cases h5 : s = [] ∨ by8 s 0 < 16
  · rw [dec_bad5 h5] at h; cases h
  by_cases h4 : s.length < 2 ∨ s.length < 2 + dLen s ∨ (dSt s = false ∧ dKind s ≠ 3) ∨ rOk (dSt s) (dEn s) (dKind s) (dBody s) = false
  · rw [dec_bad4 h5 h4] at h; cases h
  rw [dec_good h5 h4]
  have hw := w16_bd s 0
  have c1 : ¬ s.length < 2 := fun h => h4 (.inl h)
  have c2 : ¬ s.length < 2 + dLen s := fun h => h4 (.inr (.inl h))
  have c3 : dSt s = false → dKind s = 3 := fun h => Classical.byContradiction fun hk => h4 (.inr (.inr (.inl ⟨h, hk⟩)))
  have c4 : rOk (dSt s) (dEn s) (dKind s) (dBody s) = true := by
    cases hr : rOk (dSt s) (dEn s) (dKind s) (dBody s) with
    | true => rfl
    | false => exact absurd (.inr (.inr (.inr hr))) h4
  have hdl : dLen s < 4096 := by have := len_eq s; omega
  have hbl : (dBody s).length = dLen s := by show ((s.drop 2).take (dLen s)).length = _; simp; omega
  obtain ⟨p1, p2⟩ := piece_of (st := dSt s) (en := dEn s) (k := dKind s) (b := dBody s) (by unfold dKind; omega) c3 c4
  have e1 : gErr (dSt s) (dEn s) (rId (dSt s) (dEn s) (dBody s)) (rTotal (dSt s) (dEn s) (dBody s)) (rTyp (dSt s) (dEn s) (dBody s)) (rK (dSt s) (dKind s)) (rLb (dSt s) (dEn s) (dKind s) (dBody s)) (rData (dSt s) (dEn s) (dKind s) (dBody s)) (rSum (dSt s) (dEn s) (dBody s)) = 0 := by
    unfold gErr
    rw [p1, p2, if_neg (by simp), if_neg (by omega)]
  refine ⟨e1, by simp only; omega, by simp only; omega, by simp only; omega, ?_⟩
  show gEnc (dSt s) (dEn s) (rId (dSt s) (dEn s) (dBody s)) (rTotal (dSt s) (dEn s) (dBody s)) (rTyp (dSt s) (dEn s) (dBody s)) (rK (dSt s) (dKind s)) (rLb (dSt s) (dEn s) (dKind s) (dBody s)) (rData (dSt s) (dEn s) (dKind s) (dBody s)) (rSum (dSt s) (dEn s) (dBody s)) = s.take ((2 : Int) + (dLen s : Int)).toNat
  unfold gEnc
  rw [if_pos e1, p2, hbl]
  have eh : gHead (dSt s) (dEn s) (rK (dSt s) (dKind s)) (dLen s) = w16 s 0 := by
    have h0 := by8_bd s 0
    have h1 := by8_bd s (0 + 1)
    have hl := len_eq s
    have hs1 : dSt s = decide (128 ≤ by8 s 0) := rfl
    have hs2 : dEn s = decide (64 ≤ by8 s 0 % 128) := rfl
    have hkd : dKind s = w16 s 0 / 4096 % 4 := rfl
    have hw16 : w16 s 0 = by8 s 0 * 256 + by8 s (0 + 1) := rfl
    unfold gHead rK
    cases hst : dSt s <;> cases hen : dEn s <;> rw [hst] at hs1 c3 <;> rw [hen] at hs2 <;> have hs1 := hs1.symm <;> have hs2 := hs2.symm <;> simp only [decide_eq_true_eq, decide_eq_false_iff_not] at hs1 hs2 <;> simp only [if_true, Bool.false_eq_true, if_false]
    · have := c3 rfl; omega
    · have := c3 rfl; omega
    · omega
    · omega
  rw [eh, two_of s 0 (by omega), List.drop_zero, show ((2 : Int) + (dLen s : Int)).toNat = 2 + dLen s by omega]
  exact take_two s 2 (dLen s)
theorem by8_take' {s : List UInt8} {k i : Nat} (h : i < k) : by8 (s.take k) i = by8 s i := by8_take s i k h
theorem dec_short {s : List UInt8} (h : (dec s).e = 0) {k : Nat} (h1 : 1 ≤ k) (h2 : (k : Int) < (dec s).n) : dec (s.take k) = ⟨zeroP, 0, 4⟩ := by
  by_cases h5 : s = [] ∨ by8 s 0 < 16
  · rw [dec_bad5 h5] at h; cases h
  by_cases h4 : s.length < 2 ∨ s.length < 2 + dLen s ∨ (dSt s = false ∧ dKind s ≠ 3) ∨ rOk (dSt s) (dEn s) (dKind s) (dBody s) = false
  · rw [dec_bad4 h5 h4] at h; cases h
  rw [dec_good h5 h4] at h2
  simp only at h2
  have c2 : ¬ s.length < 2 + dLen s := fun h => h4 (.inr (.inl h))
  have hl : (s.take k).length = k := by simp; omega
  refine dec_bad4 ?_ ?_
  · rintro (hn | hn)
    · rw [hn] at hl; simp at hl; omega
    · rw [by8_take' (by omega)] at hn; exact h5 (.inr hn)
  · by_cases hk : k < 2
    · exact .inl (by omega)
    · refine .inr (.inl ?_)
      have e : dLen (s.take k) = dLen s := by
        unfold dLen w16
        rw [by8_take' (by omega), by8_take' (by omega)]
      rw [e]
      omega
theorem gErr_len {st en : Bool} {id total typ k : Int} {lb data sum : List UInt8} (h : gErr st en id total typ k lb data sum = 0) : gMay st en id total typ k lb sum = true ∧ (gBody st en id total typ lb data sum).length ≤ 4095 ∧ lb.length + data.length + sum.length ≤ 4095 := by
  unfold gErr at h
  have hm : gMay st en id total typ k lb sum = true := by
    cases hm : gMay st en id total typ k lb sum with
    | true => rfl
    | false => rw [hm] at h; simp at h
  rw [hm, if_neg (by simp)] at h
  have hl : ¬ 4095 < (gBody st en id total typ lb data sum).length := fun hc => by rw [if_pos hc] at h; cases h
  refine ⟨hm, by omega, ?_⟩
  have tw : ∀ n, (two n).length = 2 := fun _ => rfl
  unfold gMay at hm
  have hlb : st = false → lb = [] := by
    intro hs
    subst hs
    cases en <;> simp at hm <;> grind
  cases st <;> cases en <;> simp [gBody, tw] at hl <;> first | omega | (rw [hlb rfl]; simp; omega)
end Go.Proofs.Ytjacnjecggedhaa
namespace Go.Proofs.Ytjacnjecggedhaa
set_option linter.unusedVariables false
set_option linter.unusedSimpArgs false
open Go.RowKit Ev
set_option maxRecDepth 100000 in
theorem w_cmay (typ k at_ id : Int) (b data : List UInt8) (K : Out → Prop) : (callC (TG.ctx Try.prog) 100 80 [.agg [.int .i64 typ, .int .i64 k, .str b, .str data, .int .i64 at_, .int .i64 id]] ⟨0, []⟩ (fun o _ => K o)
) = (branch (decide ((0 : Int) ≤ typ)) (branch (decide (typ ≤ (65535 : Int))) (branch (decide ((if lOk k b = true then (0 : Int) else (2 : Int)) = (0 : Int))) (branch (decide ((0 : Int) ≤ at_)) (branch
 (decide (at_ < (↑data.length : Int))) (branch (decide ((↑data.length : Int) ≤ (65519 : Int))) (branch (decide ((0 : Int) ≤ id)) (K (Out.ret (AVal.bool (decide (id < (256 : Int)))))) (K (Out.ret
 (AVal.bool false)))) (K (Out.ret (AVal.bool false)))) (K (Out.ret (AVal.bool false)))) (K (Out.ret (AVal.bool false)))) (K (Out.ret (AVal.bool false)))) (K (Out.ret (AVal.bool false)))) (K (Out.ret
 (AVal.bool false)))) := by kernel_rfl
set_option maxRecDepth 100000 in
theorem w_gone (typ k at_ id n : Int) (b data : List UInt8) (K : Out → Prop) : (callC (TG.ctx Try.prog) 100 82 [.agg [.int .i64 typ, .int .i64 k, .str b, .str data, .int .i64 at_, .int .i64 id], .int .i64 n] ⟨0, []⟩ (fun o _ => K o)
) = (obl (inI64 (at_ + n)) (K (Out.ret (AVal.agg [AVal.int IntKind.i64 typ, AVal.int IntKind.i64 k, AVal.str b, AVal.str data, AVal.int IntKind.i64 (at_ + n), AVal.int IntKind.i64 id])))) := by kernel_rfl
end Go.Proofs.Ytjacnjecggedhaa
namespace Go.Proofs.Ytjacnjecggedhaa
set_option linter.unusedVariables false
set_option linter.unusedSimpArgs false
open Go.RowKit Ev
abbrev cutV (typ k : Int) (b data : List UInt8) (at_ id : Int) : AVal := .agg [.int .i64 typ, .int .i64 k, .str b, .str data, .int .i64 at_, .int .i64 id]
abbrev pieceV (st en : Bool) (id total typ k : Int) (b data sum : List UInt8) : AVal := .agg [.bool st, .bool en, .int .i64 id, .int .i64 total, .int .i64 typ, .int .i64 k, .str b, .str data, .str sum]
def cMay (typ k : Int) (b data : List UInt8) (at_ id : Int) : Bool := decide (0 ≤ typ ∧ typ ≤ 65535 ∧ lOk k b = true ∧ 0 ≤ at_ ∧ at_ < (data.length : Int) ∧ (data.length : Int) ≤ 65519 ∧ 0 ≤ id ∧ id < 256)
def fcMayC : FC := fun args _ => match args with
  | [.agg [.int .i64 typ, .int .i64 k, .str b, .str data, .int .i64 at_, .int .i64 id]] => some (true, .bool (cMay typ k b data at_ id))
  | _ => none
def fcGone : FC := fun args _ => match args with
  | [.agg [.int .i64 typ, .int .i64 k, .str b, .str data, .int .i64 at_, .int .i64 id], .int .i64 n] => some (inI64 (at_ + n), .agg [.int .i64 typ, .int .i64 k, .str b, .str data, .int .i64 (at_ + n), .int .i64 id])
  | _ => none
theorem mayC_sound : FcSound Try.prog 80 fcMayC := by
  refine fc_pure TGok.ctx (n := 100) Try.call80 (fun args H v h => ?_)
  unfold fcMayC at h
  split at h <;> cases h
  rename_i typ k b data at_ id
  refine ⟨rfl, rfl, ?_⟩
  rw [w_cmay]
  have hl : (decide ((if lOk k b = true then (0 : Int) else 2) = 0)) = lOk k b := by cases lOk k b <;> rfl
  simp only [branch_iff, obl_iff, hl, decide_eq_true_eq, decide_eq_false_iff_not, Bool.not_eq_true', Bool.not_eq_false']
  have t : ∀ {c : Bool}, cMay typ k b data at_ id = c → Out.ret (AVal.bool c) = Out.ret (AVal.bool (cMay typ k b data at_ id)) := fun h => by rw [h]
  have f : ¬ (0 ≤ typ ∧ typ ≤ 65535 ∧ lOk k b = true ∧ 0 ≤ at_ ∧ at_ < (data.length : Int) ∧ (data.length : Int) ≤ 65519 ∧ 0 ≤ id ∧ id < 256) → Out.ret (AVal.bool false) = Out.ret (AVal.bool (cMay typ k b data at_ id)) := fun h => t (decide_eq_false h)
  refine ⟨fun h1 => ⟨fun h2 => ⟨fun h3 => ⟨fun h4 => ⟨fun h5 => ⟨fun h6 => ⟨fun h7 => ?_, fun h7 => ?_⟩, fun h6 => ?_⟩, fun h5 => ?_⟩, fun h4 => ?_⟩, fun h3 => ?_⟩, fun h2 => ?_⟩, fun h1 => ?_⟩
  · refine t ?_
    unfold cMay
    rw [Bool.eq_iff_iff, decide_eq_true_eq, decide_eq_true_eq]
    exact ⟨fun h => h.2.2.2.2.2.2.2, fun h => ⟨h1, h2, h3, h4, h5, h6, h7, h⟩⟩
  · exact f (fun h => h7 h.2.2.2.2.2.2.1)
  · exact f (fun h => h6 h.2.2.2.2.2.1)
  · exact f (fun h => h5 h.2.2.2.2.1)
  · exact f (fun h => h4 h.2.2.2.1)
  · exact f (fun h => by rw [h3] at h; simp at h)
  · exact f (fun h => h2 h.2.1)
  · exact f (fun h => h1 h.1)
theorem gone_sound : FcSound Try.prog 82 fcGone := by
  refine fc_pure TGok.ctx (n := 100) Try.call82 (fun args H v h => ?_)
  unfold fcGone at h
  split at h <;> simp only [Option.some.injEq, Prod.mk.injEq, decide_eq_true_eq, reduceCtorEq] at h
  obtain ⟨hl, rfl⟩ := h
  rename_i typ k b data at_ id n
  refine ⟨rfl, rfl, ?_⟩
  rw [w_gone]
  exact obl_iff.2 ⟨hl, rfl⟩
noncomputable def TC0 : Tabs := ((TG.addFc 80 fcMayC).addFc 82 fcGone)
theorem TC0ok : TabsOk TC0 Try.prog := ((TGok.addFc mayC_sound).addFc gone_sound)
end Go.Proofs.Ytjacnjecggedhaa
namespace Go.Proofs.Ytjacnjecggedhaa
set_option linter.unusedVariables false
set_option linter.unusedSimpArgs false
open Go.RowKit Ev
set_option maxRecDepth 100000 in
theorem w_next (typ k at_ id lk space : Int) (b data lb : List UInt8) (whole : Bool) (K : Out → Prop) : (callC (TC0.ctx Try.prog) 100 78 [.agg [.int .i64 typ, .int .i64 k, .str b, .str data, .int .i64 at_, .int .i64 id], .agg [.int .i64 lk, .str lb], .int .i64 space, .bool whole] ⟨0, []⟩ (fun o _ => K o)
) = (branch (!cMay typ k b data at_ id) (K (Out.ret (AVal.tup [AVal.agg [AVal.bool false, AVal.bool false, AVal.int IntKind.i64 (0 : Int), AVal.int IntKind.i64 (0 : Int), AVal.int IntKind.i64 (0 : Int),
 AVal.int IntKind.i64 (0 : Int), AVal.str [], AVal.str [], AVal.str []], AVal.agg [AVal.int IntKind.i64 typ, AVal.int IntKind.i64 k, AVal.str b, AVal.str data, AVal.int IntKind.i64 at_, AVal.int
 IntKind.i64 id], AVal.int IntKind.i64 (2 : Int)]))) (branch (!decide ((if lOk lk lb = true then (0 : Int) else (2 : Int)) = (0 : Int))) (K (Out.ret (AVal.tup [AVal.agg [AVal.bool false, AVal.bool
 false, AVal.int IntKind.i64 (0 : Int), AVal.int IntKind.i64 (0 : Int), AVal.int IntKind.i64 (0 : Int), AVal.int IntKind.i64 (0 : Int), AVal.str [], AVal.str [], AVal.str []], AVal.agg [AVal.int
 IntKind.i64 typ, AVal.int IntKind.i64 k, AVal.str b, AVal.str data, AVal.int IntKind.i64 at_, AVal.int IntKind.i64 id], AVal.int IntKind.i64 (2 : Int)]))) (branch (decide (at_ = (0 : Int))) (branch
 (!(decide (lk = k) && (decide (lb = b) && true))) (branch (!decide (lk = (3 : Int))) (K (Out.ret (AVal.tup [AVal.agg [AVal.bool false, AVal.bool false, AVal.int IntKind.i64 (0 : Int), AVal.int
 IntKind.i64 (0 : Int), AVal.int IntKind.i64 (0 : Int), AVal.int IntKind.i64 (0 : Int), AVal.str [], AVal.str [], AVal.str []], AVal.agg [AVal.int IntKind.i64 typ, AVal.int IntKind.i64 k, AVal.str b,
 AVal.str data, AVal.int IntKind.i64 at_, AVal.int IntKind.i64 id], AVal.int IntKind.i64 (2 : Int)]))) (obl (inI64 ((↑data.length : Int) - at_)) (branch (decide (at_ = (0 : Int))) (obl (inI64 (at_ +
 ((↑data.length : Int) - at_))) (obl (inI64 ((4 : Int) + lSize lk)) (obl (inI64 ((4 : Int) + lSize lk + ((↑data.length : Int) - at_))) (branch (decide ((4 : Int) + lSize lk + ((↑data.length : Int) -
 at_) ≤ max (0 : Int) (min space (4097 : Int)))) (K (Out.ret (AVal.tup [AVal.agg [AVal.bool true, AVal.bool true, AVal.int IntKind.i64 (0 : Int), AVal.int IntKind.i64 (0 : Int), AVal.int IntKind.i64
 typ, AVal.int IntKind.i64 lk, AVal.str lb, AVal.str data, AVal.str []], AVal.agg [AVal.int IntKind.i64 typ, AVal.int IntKind.i64 k, AVal.str b, AVal.str data, AVal.int IntKind.i64 (at_ +
 ((↑data.length : Int) - at_)), AVal.int IntKind.i64 id], AVal.int IntKind.i64 (0 : Int)]))) (obl (inI64 (max (0 : Int) (min space (4097 : Int)) - (7 : Int))) (obl (inI64 (max (0 : Int) (min space
 (4097 : Int)) - (7 : Int) - lSize lk)) (obl (inI64 ((↑data.length : Int) - at_ - (1 : Int))) (branch whole (K (Out.ret (AVal.tup [AVal.agg [AVal.bool false, AVal.bool false, AVal.int IntKind.i64 (0 :
 Int), AVal.int IntKind.i64 (0 : Int), AVal.int IntKind.i64 (0 : Int), AVal.int IntKind.i64 (0 : Int), AVal.str [], AVal.str [], AVal.str []], AVal.agg [AVal.int IntKind.i64 typ, AVal.int IntKind.i64
 k, AVal.str b, AVal.str data, AVal.int IntKind.i64 at_, AVal.int IntKind.i64 id], AVal.int IntKind.i64 (12 : Int)]))) (branch (decide (min (max (0 : Int) (min space (4097 : Int)) - (7 : Int) - lSize
 lk) ((↑data.length : Int) - at_ - (1 : Int)) < (1 : Int))) (K (Out.ret (AVal.tup [AVal.agg [AVal.bool false, AVal.bool false, AVal.int IntKind.i64 (0 : Int), AVal.int IntKind.i64 (0 : Int), AVal.int
 IntKind.i64 (0 : Int), AVal.int IntKind.i64 (0 : Int), AVal.str [], AVal.str [], AVal.str []], AVal.agg [AVal.int IntKind.i64 typ, AVal.int IntKind.i64 k, AVal.str b, AVal.str data, AVal.int
 IntKind.i64 at_, AVal.int IntKind.i64 id], AVal.int IntKind.i64 (12 : Int)]))) (obl (inI64 (at_ + min (max (0 : Int) (min space (4097 : Int)) - (7 : Int) - lSize lk) ((↑data.length : Int) - at_ - (1 :
 Int)))) (obl (decide ((0 : Int) ≤ min (max (0 : Int) (min space (4097 : Int)) - (7 : Int) - lSize lk) ((↑data.length : Int) - at_ - (1 : Int)) ∧ min (max (0 : Int) (min space (4097 : Int)) - (7 : Int)
 - lSize lk) ((↑data.length : Int) - at_ - (1 : Int)) ≤ (↑data.length : Int))) (K (Out.ret (AVal.tup [AVal.agg [AVal.bool true, AVal.bool false, AVal.int IntKind.i64 id, AVal.int IntKind.i64 (pTotal lk
 lb ((↑data.length : Int) - at_)), AVal.int IntKind.i64 typ, AVal.int IntKind.i64 lk, AVal.str lb, AVal.str (List.take (min (max (0 : Int) (min space (4097 : Int)) - (7 : Int) - lSize lk)
 ((↑data.length : Int) - at_ - (1 : Int))).toNat data), AVal.str []], AVal.agg [AVal.int IntKind.i64 typ, AVal.int IntKind.i64 lk, AVal.str lb, AVal.str data, AVal.int IntKind.i64 (at_ + min (max (0 :
 Int) (min space (4097 : Int)) - (7 : Int) - lSize lk) ((↑data.length : Int) - at_ - (1 : Int))), AVal.int IntKind.i64 id], AVal.int IntKind.i64 (0 : Int)])))))))))))))) (obl (inI64 ((7 : Int) +
 ((↑data.length : Int) - at_))) (branch (decide (max (0 : Int) (min space (4097 : Int)) < (7 : Int) + ((↑data.length : Int) - at_))) (obl (inI64 (max (0 : Int) (min space (4097 : Int)) - (3 : Int)))
 (obl (inI64 ((↑data.length : Int) - at_ - (1 : Int))) (branch (decide (min (max (0 : Int) (min space (4097 : Int)) - (3 : Int)) ((↑data.length : Int) - at_ - (1 : Int)) < (1 : Int))) (K (Out.ret
 (AVal.tup [AVal.agg [AVal.bool false, AVal.bool false, AVal.int IntKind.i64 (0 : Int), AVal.int IntKind.i64 (0 : Int), AVal.int IntKind.i64 (0 : Int), AVal.int IntKind.i64 (0 : Int), AVal.str [],
 AVal.str [], AVal.str []], AVal.agg [AVal.int IntKind.i64 typ, AVal.int IntKind.i64 k, AVal.str b, AVal.str data, AVal.int IntKind.i64 at_, AVal.int IntKind.i64 id], AVal.int IntKind.i64 (12 :
 Int)]))) (obl (inI64 (at_ + min (max (0 : Int) (min space (4097 : Int)) - (3 : Int)) ((↑data.length : Int) - at_ - (1 : Int)))) (obl (decide ((0 : Int) ≤ at_ ∧ at_ ≤ at_ + min (max (0 : Int) (min
 space (4097 : Int)) - (3 : Int)) ((↑data.length : Int) - at_ - (1 : Int)) ∧ at_ + min (max (0 : Int) (min space (4097 : Int)) - (3 : Int)) ((↑data.length : Int) - at_ - (1 : Int)) ≤ (↑data.length :
 Int))) (obl (inI64 (at_ + min (max (0 : Int) (min space (4097 : Int)) - (3 : Int)) ((↑data.length : Int) - at_ - (1 : Int)))) (K (Out.ret (AVal.tup [AVal.agg [AVal.bool false, AVal.bool false,
 AVal.int IntKind.i64 id, AVal.int IntKind.i64 (0 : Int), AVal.int IntKind.i64 (0 : Int), AVal.int IntKind.i64 (0 : Int), AVal.str [], AVal.str (List.drop at_.toNat (List.take (at_ + min (max (0 : Int)
 (min space (4097 : Int)) - (3 : Int)) ((↑data.length : Int) - at_ - (1 : Int))).toNat data)), AVal.str []], AVal.agg [AVal.int IntKind.i64 typ, AVal.int IntKind.i64 k, AVal.str b, AVal.str data,
 AVal.int IntKind.i64 (at_ + min (max (0 : Int) (min space (4097 : Int)) - (3 : Int)) ((↑data.length : Int) - at_ - (1 : Int))), AVal.int IntKind.i64 id], AVal.int IntKind.i64 (0 : Int)]))))))))) (obl
 (decide (data.length ≤ 9223372036854775000)) (obl (decide ((0 : Int) ≤ at_ ∧ at_ ≤ (↑data.length : Int))) (obl (inI64 (at_ + ((↑data.length : Int) - at_))) (branch (decide (pErr typ k b (↑data.length
 : Int) = (0 : Int))) (K (Out.ret (AVal.tup [AVal.agg [AVal.bool false, AVal.bool true, AVal.int IntKind.i64 id, AVal.int IntKind.i64 (0 : Int), AVal.int IntKind.i64 (0 : Int), AVal.int IntKind.i64 (0
 : Int), AVal.str [], AVal.str (List.drop at_.toNat data), AVal.str (pSum typ k b data)], AVal.agg [AVal.int IntKind.i64 typ, AVal.int IntKind.i64 k, AVal.str b, AVal.str data, AVal.int IntKind.i64
 (at_ + ((↑data.length : Int) - at_)), AVal.int IntKind.i64 id], AVal.int IntKind.i64 (0 : Int)]))) (obl (inI64 (max (0 : Int) (min space (4097 : Int)) - (3 : Int))) (obl (inI64 ((↑data.length : Int) -
 at_ - (1 : Int))) (branch (decide (min (max (0 : Int) (min space (4097 : Int)) - (3 : Int)) ((↑data.length : Int) - at_ - (1 : Int)) < (1 : Int))) (K (Out.ret (AVal.tup [AVal.agg [AVal.bool false,
 AVal.bool false, AVal.int IntKind.i64 (0 : Int), AVal.int IntKind.i64 (0 : Int), AVal.int IntKind.i64 (0 : Int), AVal.int IntKind.i64 (0 : Int), AVal.str [], AVal.str [], AVal.str []], AVal.agg
 [AVal.int IntKind.i64 typ, AVal.int IntKind.i64 k, AVal.str b, AVal.str data, AVal.int IntKind.i64 at_, AVal.int IntKind.i64 id], AVal.int IntKind.i64 (12 : Int)]))) (obl (inI64 (at_ + min (max (0 :
 Int) (min space (4097 : Int)) - (3 : Int)) ((↑data.length : Int) - at_ - (1 : Int)))) (obl (decide ((0 : Int) ≤ at_ ∧ at_ ≤ at_ + min (max (0 : Int) (min space (4097 : Int)) - (3 : Int))
 ((↑data.length : Int) - at_ - (1 : Int)) ∧ at_ + min (max (0 : Int) (min space (4097 : Int)) - (3 : Int)) ((↑data.length : Int) - at_ - (1 : Int)) ≤ (↑data.length : Int))) (obl (inI64 (at_ + min (max
 (0 : Int) (min space (4097 : Int)) - (3 : Int)) ((↑data.length : Int) - at_ - (1 : Int)))) (K (Out.ret (AVal.tup [AVal.agg [AVal.bool false, AVal.bool false, AVal.int IntKind.i64 id, AVal.int
 IntKind.i64 (0 : Int), AVal.int IntKind.i64 (0 : Int), AVal.int IntKind.i64 (0 : Int), AVal.str [], AVal.str (List.drop at_.toNat (List.take (at_ + min (max (0 : Int) (min space (4097 : Int)) - (3 :
 Int)) ((↑data.length : Int) - at_ - (1 : Int))).toNat data)), AVal.str []], AVal.agg [AVal.int IntKind.i64 typ, AVal.int IntKind.i64 k, AVal.str b, AVal.str data, AVal.int IntKind.i64 (at_ + min (max
 (0 : Int) (min space (4097 : Int)) - (3 : Int)) ((↑data.length : Int) - at_ - (1 : Int))), AVal.int IntKind.i64 id], AVal.int IntKind.i64 (0 : Int)])))))))))))))))))) (obl (inI64 ((↑data.length : Int)
 - at_)) (branch (decide (at_ = (0 : Int))) (obl (inI64 (at_ + ((↑data.length : Int) - at_))) (obl (inI64 ((4 : Int) + lSize lk)) (obl (inI64 ((4 : Int) + lSize lk + ((↑data.length : Int) - at_)))
 (branch (decide ((4 : Int) + lSize lk + ((↑data.length : Int) - at_) ≤ max (0 : Int) (min space (4097 : Int)))) (K (Out.ret (AVal.tup [AVal.agg [AVal.bool true, AVal.bool true, AVal.int IntKind.i64 (0
 : Int), AVal.int IntKind.i64 (0 : Int), AVal.int IntKind.i64 typ, AVal.int IntKind.i64 lk, AVal.str lb, AVal.str data, AVal.str []], AVal.agg [AVal.int IntKind.i64 typ, AVal.int IntKind.i64 k,
 AVal.str b, AVal.str data, AVal.int IntKind.i64 (at_ + ((↑data.length : Int) - at_)), AVal.int IntKind.i64 id], AVal.int IntKind.i64 (0 : Int)]))) (obl (inI64 (max (0 : Int) (min space (4097 : Int)) -
 (7 : Int))) (obl (inI64 (max (0 : Int) (min space (4097 : Int)) - (7 : Int) - lSize lk)) (obl (inI64 ((↑data.length : Int) - at_ - (1 : Int))) (branch whole (K (Out.ret (AVal.tup [AVal.agg [AVal.bool
 false, AVal.bool false, AVal.int IntKind.i64 (0 : Int), AVal.int IntKind.i64 (0 : Int), AVal.int IntKind.i64 (0 : Int), AVal.int IntKind.i64 (0 : Int), AVal.str [], AVal.str [], AVal.str []], AVal.agg
 [AVal.int IntKind.i64 typ, AVal.int IntKind.i64 k, AVal.str b, AVal.str data, AVal.int IntKind.i64 at_, AVal.int IntKind.i64 id], AVal.int IntKind.i64 (12 : Int)]))) (branch (decide (min (max (0 :
 Int) (min space (4097 : Int)) - (7 : Int) - lSize lk) ((↑data.length : Int) - at_ - (1 : Int)) < (1 : Int))) (K (Out.ret (AVal.tup [AVal.agg [AVal.bool false, AVal.bool false, AVal.int IntKind.i64 (0
 : Int), AVal.int IntKind.i64 (0 : Int), AVal.int IntKind.i64 (0 : Int), AVal.int IntKind.i64 (0 : Int), AVal.str [], AVal.str [], AVal.str []], AVal.agg [AVal.int IntKind.i64 typ, AVal.int IntKind.i64
 k, AVal.str b, AVal.str data, AVal.int IntKind.i64 at_, AVal.int IntKind.i64 id], AVal.int IntKind.i64 (12 : Int)]))) (obl (inI64 (at_ + min (max (0 : Int) (min space (4097 : Int)) - (7 : Int) - lSize
 lk) ((↑data.length : Int) - at_ - (1 : Int)))) (obl (decide ((0 : Int) ≤ min (max (0 : Int) (min space (4097 : Int)) - (7 : Int) - lSize lk) ((↑data.length : Int) - at_ - (1 : Int)) ∧ min (max (0 :
 Int) (min space (4097 : Int)) - (7 : Int) - lSize lk) ((↑data.length : Int) - at_ - (1 : Int)) ≤ (↑data.length : Int))) (K (Out.ret (AVal.tup [AVal.agg [AVal.bool true, AVal.bool false, AVal.int
 IntKind.i64 id, AVal.int IntKind.i64 (pTotal lk lb ((↑data.length : Int) - at_)), AVal.int IntKind.i64 typ, AVal.int IntKind.i64 lk, AVal.str lb, AVal.str (List.take (min (max (0 : Int) (min space
 (4097 : Int)) - (7 : Int) - lSize lk) ((↑data.length : Int) - at_ - (1 : Int))).toNat data), AVal.str []], AVal.agg [AVal.int IntKind.i64 typ, AVal.int IntKind.i64 lk, AVal.str lb, AVal.str data,
 AVal.int IntKind.i64 (at_ + min (max (0 : Int) (min space (4097 : Int)) - (7 : Int) - lSize lk) ((↑data.length : Int) - at_ - (1 : Int))), AVal.int IntKind.i64 id], AVal.int IntKind.i64 (0 :
 Int)])))))))))))))) (obl (inI64 ((7 : Int) + ((↑data.length : Int) - at_))) (branch (decide (max (0 : Int) (min space (4097 : Int)) < (7 : Int) + ((↑data.length : Int) - at_))) (obl (inI64 (max (0 :
 Int) (min space (4097 : Int)) - (3 : Int))) (obl (inI64 ((↑data.length : Int) - at_ - (1 : Int))) (branch (decide (min (max (0 : Int) (min space (4097 : Int)) - (3 : Int)) ((↑data.length : Int) - at_
 - (1 : Int)) < (1 : Int))) (K (Out.ret (AVal.tup [AVal.agg [AVal.bool false, AVal.bool false, AVal.int IntKind.i64 (0 : Int), AVal.int IntKind.i64 (0 : Int), AVal.int IntKind.i64 (0 : Int), AVal.int
 IntKind.i64 (0 : Int), AVal.str [], AVal.str [], AVal.str []], AVal.agg [AVal.int IntKind.i64 typ, AVal.int IntKind.i64 k, AVal.str b, AVal.str data, AVal.int IntKind.i64 at_, AVal.int IntKind.i64
 id], AVal.int IntKind.i64 (12 : Int)]))) (obl (inI64 (at_ + min (max (0 : Int) (min space (4097 : Int)) - (3 : Int)) ((↑data.length : Int) - at_ - (1 : Int)))) (obl (decide ((0 : Int) ≤ at_ ∧ at_ ≤
 at_ + min (max (0 : Int) (min space (4097 : Int)) - (3 : Int)) ((↑data.length : Int) - at_ - (1 : Int)) ∧ at_ + min (max (0 : Int) (min space (4097 : Int)) - (3 : Int)) ((↑data.length : Int) - at_ -
 (1 : Int)) ≤ (↑data.length : Int))) (obl (inI64 (at_ + min (max (0 : Int) (min space (4097 : Int)) - (3 : Int)) ((↑data.length : Int) - at_ - (1 : Int)))) (K (Out.ret (AVal.tup [AVal.agg [AVal.bool
 false, AVal.bool false, AVal.int IntKind.i64 id, AVal.int IntKind.i64 (0 : Int), AVal.int IntKind.i64 (0 : Int), AVal.int IntKind.i64 (0 : Int), AVal.str [], AVal.str (List.drop at_.toNat (List.take
 (at_ + min (max (0 : Int) (min space (4097 : Int)) - (3 : Int)) ((↑data.length : Int) - at_ - (1 : Int))).toNat data)), AVal.str []], AVal.agg [AVal.int IntKind.i64 typ, AVal.int IntKind.i64 k,
 AVal.str b, AVal.str data, AVal.int IntKind.i64 (at_ + min (max (0 : Int) (min space (4097 : Int)) - (3 : Int)) ((↑data.length : Int) - at_ - (1 : Int))), AVal.int IntKind.i64 id], AVal.int
 IntKind.i64 (0 : Int)]))))))))) (obl (decide (data.length ≤ 9223372036854775000)) (obl (decide ((0 : Int) ≤ at_ ∧ at_ ≤ (↑data.length : Int))) (obl (inI64 (at_ + ((↑data.length : Int) - at_))) (branch
 (decide (pErr typ k b (↑data.length : Int) = (0 : Int))) (K (Out.ret (AVal.tup [AVal.agg [AVal.bool false, AVal.bool true, AVal.int IntKind.i64 id, AVal.int IntKind.i64 (0 : Int), AVal.int IntKind.i64
 (0 : Int), AVal.int IntKind.i64 (0 : Int), AVal.str [], AVal.str (List.drop at_.toNat data), AVal.str (pSum typ k b data)], AVal.agg [AVal.int IntKind.i64 typ, AVal.int IntKind.i64 k, AVal.str b,
 AVal.str data, AVal.int IntKind.i64 (at_ + ((↑data.length : Int) - at_)), AVal.int IntKind.i64 id], AVal.int IntKind.i64 (0 : Int)]))) (obl (inI64 (max (0 : Int) (min space (4097 : Int)) - (3 : Int)))
 (obl (inI64 ((↑data.length : Int) - at_ - (1 : Int))) (branch (decide (min (max (0 : Int) (min space (4097 : Int)) - (3 : Int)) ((↑data.length : Int) - at_ - (1 : Int)) < (1 : Int))) (K (Out.ret
 (AVal.tup [AVal.agg [AVal.bool false, AVal.bool false, AVal.int IntKind.i64 (0 : Int), AVal.int IntKind.i64 (0 : Int), AVal.int IntKind.i64 (0 : Int), AVal.int IntKind.i64 (0 : Int), AVal.str [],
 AVal.str [], AVal.str []], AVal.agg [AVal.int IntKind.i64 typ, AVal.int IntKind.i64 k, AVal.str b, AVal.str data, AVal.int IntKind.i64 at_, AVal.int IntKind.i64 id], AVal.int IntKind.i64 (12 :
 Int)]))) (obl (inI64 (at_ + min (max (0 : Int) (min space (4097 : Int)) - (3 : Int)) ((↑data.length : Int) - at_ - (1 : Int)))) (obl (decide ((0 : Int) ≤ at_ ∧ at_ ≤ at_ + min (max (0 : Int) (min
 space (4097 : Int)) - (3 : Int)) ((↑data.length : Int) - at_ - (1 : Int)) ∧ at_ + min (max (0 : Int) (min space (4097 : Int)) - (3 : Int)) ((↑data.length : Int) - at_ - (1 : Int)) ≤ (↑data.length :
 Int))) (obl (inI64 (at_ + min (max (0 : Int) (min space (4097 : Int)) - (3 : Int)) ((↑data.length : Int) - at_ - (1 : Int)))) (K (Out.ret (AVal.tup [AVal.agg [AVal.bool false, AVal.bool false,
 AVal.int IntKind.i64 id, AVal.int IntKind.i64 (0 : Int), AVal.int IntKind.i64 (0 : Int), AVal.int IntKind.i64 (0 : Int), AVal.str [], AVal.str (List.drop at_.toNat (List.take (at_ + min (max (0 : Int)
 (min space (4097 : Int)) - (3 : Int)) ((↑data.length : Int) - at_ - (1 : Int))).toNat data)), AVal.str []], AVal.agg [AVal.int IntKind.i64 typ, AVal.int IntKind.i64 k, AVal.str b, AVal.str data,
 AVal.int IntKind.i64 (at_ + min (max (0 : Int) (min space (4097 : Int)) - (3 : Int)) ((↑data.length : Int) - at_ - (1 : Int))), AVal.int IntKind.i64 id], AVal.int IntKind.i64 (0 :
 Int)])))))))))))))))))) (obl (inI64 ((↑data.length : Int) - at_)) (branch (decide (at_ = (0 : Int))) (obl (inI64 (at_ + ((↑data.length : Int) - at_))) (obl (inI64 ((4 : Int) + lSize lk)) (obl (inI64
 ((4 : Int) + lSize lk + ((↑data.length : Int) - at_))) (branch (decide ((4 : Int) + lSize lk + ((↑data.length : Int) - at_) ≤ max (0 : Int) (min space (4097 : Int)))) (K (Out.ret (AVal.tup [AVal.agg
 [AVal.bool true, AVal.bool true, AVal.int IntKind.i64 (0 : Int), AVal.int IntKind.i64 (0 : Int), AVal.int IntKind.i64 typ, AVal.int IntKind.i64 lk, AVal.str lb, AVal.str data, AVal.str []], AVal.agg
 [AVal.int IntKind.i64 typ, AVal.int IntKind.i64 k, AVal.str b, AVal.str data, AVal.int IntKind.i64 (at_ + ((↑data.length : Int) - at_)), AVal.int IntKind.i64 id], AVal.int IntKind.i64 (0 : Int)])))
 (obl (inI64 (max (0 : Int) (min space (4097 : Int)) - (7 : Int))) (obl (inI64 (max (0 : Int) (min space (4097 : Int)) - (7 : Int) - lSize lk)) (obl (inI64 ((↑data.length : Int) - at_ - (1 : Int)))
 (branch whole (K (Out.ret (AVal.tup [AVal.agg [AVal.bool false, AVal.bool false, AVal.int IntKind.i64 (0 : Int), AVal.int IntKind.i64 (0 : Int), AVal.int IntKind.i64 (0 : Int), AVal.int IntKind.i64 (0
 : Int), AVal.str [], AVal.str [], AVal.str []], AVal.agg [AVal.int IntKind.i64 typ, AVal.int IntKind.i64 k, AVal.str b, AVal.str data, AVal.int IntKind.i64 at_, AVal.int IntKind.i64 id], AVal.int
 IntKind.i64 (12 : Int)]))) (branch (decide (min (max (0 : Int) (min space (4097 : Int)) - (7 : Int) - lSize lk) ((↑data.length : Int) - at_ - (1 : Int)) < (1 : Int))) (K (Out.ret (AVal.tup [AVal.agg
 [AVal.bool false, AVal.bool false, AVal.int IntKind.i64 (0 : Int), AVal.int IntKind.i64 (0 : Int), AVal.int IntKind.i64 (0 : Int), AVal.int IntKind.i64 (0 : Int), AVal.str [], AVal.str [], AVal.str
 []], AVal.agg [AVal.int IntKind.i64 typ, AVal.int IntKind.i64 k, AVal.str b, AVal.str data, AVal.int IntKind.i64 at_, AVal.int IntKind.i64 id], AVal.int IntKind.i64 (12 : Int)]))) (obl (inI64 (at_ +
 min (max (0 : Int) (min space (4097 : Int)) - (7 : Int) - lSize lk) ((↑data.length : Int) - at_ - (1 : Int)))) (obl (decide ((0 : Int) ≤ min (max (0 : Int) (min space (4097 : Int)) - (7 : Int) - lSize
 lk) ((↑data.length : Int) - at_ - (1 : Int)) ∧ min (max (0 : Int) (min space (4097 : Int)) - (7 : Int) - lSize lk) ((↑data.length : Int) - at_ - (1 : Int)) ≤ (↑data.length : Int))) (K (Out.ret
 (AVal.tup [AVal.agg [AVal.bool true, AVal.bool false, AVal.int IntKind.i64 id, AVal.int IntKind.i64 (pTotal lk lb ((↑data.length : Int) - at_)), AVal.int IntKind.i64 typ, AVal.int IntKind.i64 lk,
 AVal.str lb, AVal.str (List.take (min (max (0 : Int) (min space (4097 : Int)) - (7 : Int) - lSize lk) ((↑data.length : Int) - at_ - (1 : Int))).toNat data), AVal.str []], AVal.agg [AVal.int
 IntKind.i64 typ, AVal.int IntKind.i64 lk, AVal.str lb, AVal.str data, AVal.int IntKind.i64 (at_ + min (max (0 : Int) (min space (4097 : Int)) - (7 : Int) - lSize lk) ((↑data.length : Int) - at_ - (1 :
 Int))), AVal.int IntKind.i64 id], AVal.int IntKind.i64 (0 : Int)])))))))))))))) (obl (inI64 ((7 : Int) + ((↑data.length : Int) - at_))) (branch (decide (max (0 : Int) (min space (4097 : Int)) < (7 :
 Int) + ((↑data.length : Int) - at_))) (obl (inI64 (max (0 : Int) (min space (4097 : Int)) - (3 : Int))) (obl (inI64 ((↑data.length : Int) - at_ - (1 : Int))) (branch (decide (min (max (0 : Int) (min
 space (4097 : Int)) - (3 : Int)) ((↑data.length : Int) - at_ - (1 : Int)) < (1 : Int))) (K (Out.ret (AVal.tup [AVal.agg [AVal.bool false, AVal.bool false, AVal.int IntKind.i64 (0 : Int), AVal.int
 IntKind.i64 (0 : Int), AVal.int IntKind.i64 (0 : Int), AVal.int IntKind.i64 (0 : Int), AVal.str [], AVal.str [], AVal.str []], AVal.agg [AVal.int IntKind.i64 typ, AVal.int IntKind.i64 k, AVal.str b,
 AVal.str data, AVal.int IntKind.i64 at_, AVal.int IntKind.i64 id], AVal.int IntKind.i64 (12 : Int)]))) (obl (inI64 (at_ + min (max (0 : Int) (min space (4097 : Int)) - (3 : Int)) ((↑data.length : Int)
 - at_ - (1 : Int)))) (obl (decide ((0 : Int) ≤ at_ ∧ at_ ≤ at_ + min (max (0 : Int) (min space (4097 : Int)) - (3 : Int)) ((↑data.length : Int) - at_ - (1 : Int)) ∧ at_ + min (max (0 : Int) (min space
 (4097 : Int)) - (3 : Int)) ((↑data.length : Int) - at_ - (1 : Int)) ≤ (↑data.length : Int))) (obl (inI64 (at_ + min (max (0 : Int) (min space (4097 : Int)) - (3 : Int)) ((↑data.length : Int) - at_ -
 (1 : Int)))) (K (Out.ret (AVal.tup [AVal.agg [AVal.bool false, AVal.bool false, AVal.int IntKind.i64 id, AVal.int IntKind.i64 (0 : Int), AVal.int IntKind.i64 (0 : Int), AVal.int IntKind.i64 (0 : Int),
 AVal.str [], AVal.str (List.drop at_.toNat (List.take (at_ + min (max (0 : Int) (min space (4097 : Int)) - (3 : Int)) ((↑data.length : Int) - at_ - (1 : Int))).toNat data)), AVal.str []], AVal.agg
 [AVal.int IntKind.i64 typ, AVal.int IntKind.i64 k, AVal.str b, AVal.str data, AVal.int IntKind.i64 (at_ + min (max (0 : Int) (min space (4097 : Int)) - (3 : Int)) ((↑data.length : Int) - at_ - (1 :
 Int))), AVal.int IntKind.i64 id], AVal.int IntKind.i64 (0 : Int)]))))))))) (obl (decide (data.length ≤ 9223372036854775000)) (obl (decide ((0 : Int) ≤ at_ ∧ at_ ≤ (↑data.length : Int))) (obl (inI64
 (at_ + ((↑data.length : Int) - at_))) (branch (decide (pErr typ k b (↑data.length : Int) = (0 : Int))) (K (Out.ret (AVal.tup [AVal.agg [AVal.bool false, AVal.bool true, AVal.int IntKind.i64 id,
 AVal.int IntKind.i64 (0 : Int), AVal.int IntKind.i64 (0 : Int), AVal.int IntKind.i64 (0 : Int), AVal.str [], AVal.str (List.drop at_.toNat data), AVal.str (pSum typ k b data)], AVal.agg [AVal.int
 IntKind.i64 typ, AVal.int IntKind.i64 k, AVal.str b, AVal.str data, AVal.int IntKind.i64 (at_ + ((↑data.length : Int) - at_)), AVal.int IntKind.i64 id], AVal.int IntKind.i64 (0 : Int)]))) (obl (inI64
 (max (0 : Int) (min space (4097 : Int)) - (3 : Int))) (obl (inI64 ((↑data.length : Int) - at_ - (1 : Int))) (branch (decide (min (max (0 : Int) (min space (4097 : Int)) - (3 : Int)) ((↑data.length :
 Int) - at_ - (1 : Int)) < (1 : Int))) (K (Out.ret (AVal.tup [AVal.agg [AVal.bool false, AVal.bool false, AVal.int IntKind.i64 (0 : Int), AVal.int IntKind.i64 (0 : Int), AVal.int IntKind.i64 (0 : Int),
 AVal.int IntKind.i64 (0 : Int), AVal.str [], AVal.str [], AVal.str []], AVal.agg [AVal.int IntKind.i64 typ, AVal.int IntKind.i64 k, AVal.str b, AVal.str data, AVal.int IntKind.i64 at_, AVal.int
 IntKind.i64 id], AVal.int IntKind.i64 (12 : Int)]))) (obl (inI64 (at_ + min (max (0 : Int) (min space (4097 : Int)) - (3 : Int)) ((↑data.length : Int) - at_ - (1 : Int)))) (obl (decide ((0 : Int) ≤
 at_ ∧ at_ ≤ at_ + min (max (0 : Int) (min space (4097 : Int)) - (3 : Int)) ((↑data.length : Int) - at_ - (1 : Int)) ∧ at_ + min (max (0 : Int) (min space (4097 : Int)) - (3 : Int)) ((↑data.length :
 Int) - at_ - (1 : Int)) ≤ (↑data.length : Int))) (obl (inI64 (at_ + min (max (0 : Int) (min space (4097 : Int)) - (3 : Int)) ((↑data.length : Int) - at_ - (1 : Int)))) (K (Out.ret (AVal.tup [AVal.agg
 [AVal.bool false, AVal.bool false, AVal.int IntKind.i64 id, AVal.int IntKind.i64 (0 : Int), AVal.int IntKind.i64 (0 : Int), AVal.int IntKind.i64 (0 : Int), AVal.str [], AVal.str (List.drop at_.toNat
 (List.take (at_ + min (max (0 : Int) (min space (4097 : Int)) - (3 : Int)) ((↑data.length : Int) - at_ - (1 : Int))).toNat data)), AVal.str []], AVal.agg [AVal.int IntKind.i64 typ, AVal.int
 IntKind.i64 k, AVal.str b, AVal.str data, AVal.int IntKind.i64 (at_ + min (max (0 : Int) (min space (4097 : Int)) - (3 : Int)) ((↑data.length : Int) - at_ - (1 : Int))), AVal.int IntKind.i64 id],
 AVal.int IntKind.i64 (0 : Int)])))))))))))))))))))) := by kernel_rfl
end Go.Proofs.Ytjacnjecggedhaa
namespace Go.Proofs.Ytjacnjecggedhaa
set_option linter.unusedVariables false
set_option linter.unusedSimpArgs false
open Go.RowKit Ev
def nOk (typ k : Int) (b data : List UInt8) (at_ id lk : Int) (lb : List UInt8) : Bool := cMay typ k b data at_ id && lOk lk lb && (!decide (at_ = 0) || (decide (lk = k) && decide (lb = b)) || decide (lk = 3))
def nextV (typ k : Int) (b data : List UInt8) (at_ id lk : Int) (lb : List UInt8) (space : Int) (whole : Bool) : AVal :=
  if nOk typ k b data at_ id lk lb = false then .tup [pieceV false false 0 0 0 0 [] [] [], cutV typ k b data at_ id, .int .i64 2]
  else if at_ = 0 then
    if 4 + lSize lk + (data.length : Int) ≤ max 0 (min space 4097) then .tup [pieceV true true 0 0 typ lk lb data [], cutV typ k b data (data.length : Int) id, .int .i64 0]
    else if whole = true ∨ min (max 0 (min space 4097) - 7 - lSize lk) ((data.length : Int) - 1) < 1 then .tup [pieceV false false 0 0 0 0 [] [] [], cutV typ k b data at_ id, .int .i64 12]
    else .tup [pieceV true false id (pTotal lk lb (data.length : Int)) typ lk lb (data.take (min (max 0 (min space 4097) - 7 - lSize lk) ((data.length : Int) - 1)).toNat) [], cutV typ lk lb data (min (max 0 (min space 4097) - 7 - lSize lk) ((data.length : Int) - 1)) id, .int .i64 0]
  else if 7 + ((data.length : Int) - at_) ≤ max 0 (min space 4097) then .tup [pieceV false true id 0 0 0 [] (data.drop at_.toNat) (pSum typ k b data), cutV typ k b data (data.length : Int) id, .int .i64 0]
  else if min (max 0 (min space 4097) - 3) ((data.length : Int) - at_ - 1) < 1 then .tup [pieceV false false 0 0 0 0 [] [] [], cutV typ k b data at_ id, .int .i64 12]
  else .tup [pieceV false false id 0 0 0 [] ((data.take (at_ + min (max 0 (min space 4097) - 3) ((data.length : Int) - at_ - 1)).toNat).drop at_.toNat) [], cutV typ k b data (at_ + min (max 0 (min space 4097) - 3) ((data.length : Int) - at_ - 1)) id, .int .i64 0]
structure NextR where
  st : Bool
  en : Bool
  id : Int
  total : Int
  typ : Int
  k : Int
  lb : List UInt8
  data : List UInt8
  sum : List UInt8
  k2 : Int
  b2 : List UInt8
  at2 : Int
  err : Int
def nextR (typ k : Int) (b data : List UInt8) (at_ id lk : Int) (lb : List UInt8) (space : Int) (whole : Bool) : NextR :=
  if nOk typ k b data at_ id lk lb = false then ⟨false, false, 0, 0, 0, 0, [], [], [], k, b, at_, 2⟩
  else if at_ = 0 then
    if 4 + lSize lk + (data.length : Int) ≤ max 0 (min space 4097) then ⟨true, true, 0, 0, typ, lk, lb, data, [], k, b, (data.length : Int), 0⟩
    else if whole = true ∨ min (max 0 (min space 4097) - 7 - lSize lk) ((data.length : Int) - 1) < 1 then ⟨false, false, 0, 0, 0, 0, [], [], [], k, b, at_, 12⟩
    else ⟨true, false, id, pTotal lk lb (data.length : Int), typ, lk, lb, data.take (min (max 0 (min space 4097) - 7 - lSize lk) ((data.length : Int) - 1)).toNat, [], lk, lb, min (max 0 (min space 4097) - 7 - lSize lk) ((data.length : Int) - 1), 0⟩
  else if 7 + ((data.length : Int) - at_) ≤ max 0 (min space 4097) then ⟨false, true, id, 0, 0, 0, [], data.drop at_.toNat, pSum typ k b data, k, b, (data.length : Int), 0⟩
  else if min (max 0 (min space 4097) - 3) ((data.length : Int) - at_ - 1) < 1 then ⟨false, false, 0, 0, 0, 0, [], [], [], k, b, at_, 12⟩
  else ⟨false, false, id, 0, 0, 0, [], (data.take (at_ + min (max 0 (min space 4097) - 3) ((data.length : Int) - at_ - 1)).toNat).drop at_.toNat, [], k, b, at_ + min (max 0 (min space 4097) - 3) ((data.length : Int) - at_ - 1), 0⟩
def nextT (typ : Int) (data : List UInt8) (id : Int) (r : NextR) : AVal := .tup [pieceV r.st r.en r.id r.total r.typ r.k r.lb r.data r.sum, cutV typ r.k2 r.b2 data r.at2 id, .int .i64 r.err]
theorem nextT_eq (typ k : Int) (b data : List UInt8) (at_ id lk : Int) (lb : List UInt8) (space : Int) (whole : Bool) : nextT typ data id (nextR typ k b data at_ id lk lb space whole) = nextV typ k b data at_ id lk lb space whole := by
  unfold nextR nextV
  repeat' split
  all_goals rfl
def fcNext : FC := fun args _ => match args with
  | [.agg [.int .i64 typ, .int .i64 k, .str b, .str data, .int .i64 at_, .int .i64 id], .agg [.int .i64 lk, .str lb], .int .i64 space, .bool whole] => some (true, nextT typ data id (nextR typ k b data at_ id lk lb space whole))
  | _ => none
theorem cMay_iff {typ k at_ id : Int} {b data : List UInt8} : cMay typ k b data at_ id = true ↔ 0 ≤ typ ∧ typ ≤ 65535 ∧ lOk k b = true ∧ 0 ≤ at_ ∧ at_ < (data.length : Int) ∧ (data.length : Int) ≤ 65519 ∧ 0 ≤ id ∧ id < 256 := by
  unfold cMay; rw [decide_eq_true_eq]
theorem next_sound : FcSound Try.prog 78 fcNext := by
  refine fc_pure TC0ok.ctx (n := 100) Try.call78 (fun args H v h => ?_)
  unfold fcNext at h
  split at h <;> cases h
  rename_i typ k b data at_ id lk lb space whole
  refine ⟨rfl, rfl, ?_⟩
  rw [nextT_eq, w_next]
  have hk := lSize_le lk
  have hk' := lSize_le k
  have hl : (decide ((if lOk lk lb = true then (0 : Int) else 2) = 0)) = lOk lk lb := by cases lOk lk lb <;> rfl
  simp only [hl, Bool.and_true]
  cases hm : cMay typ k b data at_ id with
  | false =>
    show Out.ret _ = Out.ret _
    have : nOk typ k b data at_ id lk lb = false := by unfold nOk; rw [hm]; rfl
    unfold nextV; rw [if_pos this]
  | true =>
  obtain ⟨m1, m2, m3, m4, m5, m6, m7, m8⟩ := cMay_iff.1 hm
  cases hb : lOk lk lb with
  | false =>
    show Out.ret _ = Out.ret _
    have : nOk typ k b data at_ id lk lb = false := by unfold nOk; rw [hb]; simp
    unfold nextV; rw [if_pos this]
  | true =>
  have e1 : at_ + ((data.length : Int) - at_) = (data.length : Int) := by omega
  have hp : pErr typ k b (data.length : Int) = 0 := pErr_iff.2 ⟨m1, m2, m3, by omega⟩
  simp only [Bool.not_true, e1, hp]
  by_cases h0 : at_ = 0
  · subst h0
    have e2 : (data.length : Int) - 0 = (data.length : Int) := by omega
    simp only [e2, Int.zero_add]
    by_cases hq : ((decide (lk = k) && decide (lb = b)) || decide (lk = 3)) = true
    · have hn : nOk typ k b data 0 id lk lb = true := by unfold nOk; rw [hm, hb]; simpa using hq
      unfold nextV
      rw [if_neg (by rw [hn]; simp)]
      simp only [branch_iff, obl_iff, decide_eq_true_eq, decide_eq_false_iff_not, Bool.not_eq_true', Bool.not_eq_false', inI64_iff, if_true, true_implies, not_true_eq_false, false_implies, and_true, true_and, decide_true, Bool.not_false, Bool.not_true, reduceCtorEq] at hq ⊢
      have key : ∀ (p : Prop), p → p := fun _ h => h
      refine ⟨fun g1 => ⟨fun g2 => ?_, fun g2 => ?_⟩, fun g1 => ?_⟩
      · exfalso
        rw [g1] at hq
        simp only [Bool.false_or, decide_eq_true_eq] at hq
        exact g2 hq
      all_goals
        refine ⟨by omega, by omega, by omega, by omega, fun g3 => ?_, fun g3 => ⟨by omega, by omega, by omega, fun g4 => ?_, fun g4 => ⟨fun g5 => ?_, fun g5 => ⟨by omega, by omega, ?_⟩⟩⟩⟩
        · rw [if_pos g3]
        · rw [if_neg g3, if_pos (.inl g4)]
        · rw [if_neg g3, if_pos (.inr g5)]
        · rw [if_neg g3, if_neg (by rw [g4]; simp; omega)]
    · have hn : nOk typ k b data 0 id lk lb = false := by unfold nOk; rw [hm, hb]; simpa using hq
      unfold nextV
      rw [if_pos hn]
      simp only [Bool.or_eq_true, not_or, Bool.not_eq_true, decide_eq_false_iff_not] at hq
      rw [hq.1]
      simp [branch_iff, hq.2, branch, obl]
  · have hn : nOk typ k b data at_ id lk lb = true := by unfold nOk; rw [hm, hb]; simp [h0]
    unfold nextV
    rw [if_neg (by rw [hn]; simp), if_neg h0]
    simp only [branch_iff, obl_iff, h0, decide_eq_true_eq, decide_eq_false_iff_not, Bool.not_eq_true', Bool.not_eq_false', inI64_iff, if_true, true_implies, not_true_eq_false, false_implies, and_true, true_and, decide_true, Bool.not_false, Bool.not_true, reduceCtorEq, not_false_eq_true, decide_false]
    refine ⟨by omega, by omega, fun g1 => ⟨by omega, by omega, fun g2 => ?_, fun g2 => ⟨by omega, by omega, by omega, ?_⟩⟩, fun g1 => ⟨by omega, by omega, by omega, ?_⟩⟩
    · rw [if_neg (by omega), if_pos g2]
    · rw [if_neg (by omega), if_neg g2]
    · rw [if_pos (by omega)]
noncomputable def TC : Tabs := (TC0.addFc 78 fcNext)
theorem TCok : TabsOk TC Try.prog := (TC0ok.addFc next_sound)
end Go.Proofs.Ytjacnjecggedhaa
namespace Go.Proofs.Ytjacnjecggedhaa
set_option linter.unusedVariables false
set_option linter.unusedSimpArgs false
open Go.RowKit Ev
noncomputable def TE : Tabs := (((TD.addFc 80 fcMayC).addFc 82 fcGone).addFc 78 fcNext)
theorem TEok : TabsOk TE Try.prog := (((TDok.addFc mayC_sound).addFc gone_sound).addFc next_sound)
end Go.Proofs.Ytjacnjecggedhaa
namespace Go.Proofs.Ytjacnjecggedhaa
set_option linter.unusedVariables false
set_option linter.unusedSimpArgs false
open Go.RowKit Ev
set_option maxRecDepth 100000 in
theorem w_allpre (s : List UInt8) (KK : Env → AHeap → Prop) : (wpC (TE.ctx Try.prog) 60 13 0 (seqL (bodyC Try.f13)) (env0 [.str s] 0) ⟨0, []⟩ (fun x E H => match x with | .normal => wpC (TE.ctx Try.prog) 60 13 0 (seqL (seqR (bodyC Try.f13))) E H (fun x E H => match x with | .normal => wpC (TE.ctx Try.prog) 60 13 0 (seqL (seqL (seqR (seqR (bodyC Try.f13))))) E H (fun x E H => match x with | .normal => KK E H | _ => False) | _ => False) | _ => False)
) = (KK [(8, AVal.func 27 [] [AVal.ptr 3 0 0 0]), (7, AVal.str s), (4, AVal.ptr 2 0 0 0), (3, AVal.ptr 1 0 0 0), (2, AVal.ptr 0 0 0 0), (0, AVal.str s)] (AHeap.mk 4 [(3, ABlk.cells 9 [AVal.str s]), (2,
 ABlk.cells 39 [AVal.nils]), (1, ABlk.cells 40 [AVal.int IntKind.i64 (0 : Int)]), (0, ABlk.cells 39 [AVal.nils])])) := by kernel_rfl
end Go.Proofs.Ytjacnjecggedhaa
namespace Go.Proofs.Ytjacnjecggedhaa
set_option linter.unusedVariables false
set_option linter.unusedSimpArgs false
open Go.RowKit Ev
set_option maxRecDepth 100000 in
theorem w_allround_nil (s0 s : List UInt8) (QQ : AExit → Env → AHeap → Option Code → Prop) : (wpY (TE.ctx Try.prog) 4 (roundA (TE.ctx Try.prog) 60 13 ((8, .func 27 [] [.ptr 3 0 0 0]) :: (7, .str s0) :: (4, .ptr 2 0 0 0) :: (3, .ptr 1 0 0 0) :: (2, .ptr 0 0 0 0) :: (0, .str s0) :: []) [9, 10] (rfAssign (blkC (seqR (seqL (seqR (seqR (bodyC Try.f13))))))) (rfBody (blkC (seqR (seqL (seqR (seqR (bodyC Try.f13)))))))) 60 27 (lpC (blkC (bodyC Try.f27))) [(0, .yld 4), (1, .ptr 3 0 0 0)] ⟨6, [(3, .cells 9 [.str s]), (2, .cells 39 [.nils]), (1, .cells 40 [.int .i64 0]), (0, .cells 39 [.nils])]⟩ none QQ
) = (obl (decide (s.length ≤ 9223372036854775000)) (branch (decide ((dec s).e = (5 : Int))) (QQ AExit.ret [(24, AVal.bool true), (23, AVal.tup []), (21, AVal.bool true), (22, AVal.tup []), (21, AVal.bool
 true), (21, AVal.bool true), (20, AVal.bool true), (19, AVal.tup []), (14, AVal.bool true), (18, AVal.tup []), (14, AVal.bool true), (17, AVal.tup []), (14, AVal.bool true), (16, AVal.tup []), (14,
 AVal.bool true), (15, AVal.tup []), (14, AVal.bool true), (14, AVal.bool (decide ((dec s).e = (5 : Int)))), (13, AVal.bool (decide ((dec s).e = (5 : Int)))), (12, AVal.int IntKind.i64 (dec s).e), (5,
 AVal.int IntKind.i64 (dec s).e), (4, AVal.int IntKind.i64 (dec s).n), (3, AVal.ptr 6 0 0 0), (11, AVal.int IntKind.i64 (dec s).e), (10, AVal.int IntKind.i64 (dec s).n), (9, AVal.agg [AVal.bool (dec
 s).p.st, AVal.bool (dec s).p.en, AVal.int IntKind.i64 (dec s).p.id, AVal.int IntKind.i64 (dec s).p.total, AVal.int IntKind.i64 (dec s).p.typ, AVal.int IntKind.i64 (dec s).p.k, AVal.str (dec s).p.lb,
 AVal.str (dec s).p.data, AVal.str (dec s).p.sum]), (6, AVal.tup [AVal.agg [AVal.bool (dec s).p.st, AVal.bool (dec s).p.en, AVal.int IntKind.i64 (dec s).p.id, AVal.int IntKind.i64 (dec s).p.total,
 AVal.int IntKind.i64 (dec s).p.typ, AVal.int IntKind.i64 (dec s).p.k, AVal.str (dec s).p.lb, AVal.str (dec s).p.data, AVal.str (dec s).p.sum], AVal.int IntKind.i64 (dec s).n, AVal.int IntKind.i64 (dec
 s).e]), (8, AVal.tup [AVal.agg [AVal.bool (dec s).p.st, AVal.bool (dec s).p.en, AVal.int IntKind.i64 (dec s).p.id, AVal.int IntKind.i64 (dec s).p.total, AVal.int IntKind.i64 (dec s).p.typ, AVal.int
 IntKind.i64 (dec s).p.k, AVal.str (dec s).p.lb, AVal.str (dec s).p.data, AVal.str (dec s).p.sum], AVal.int IntKind.i64 (dec s).n, AVal.int IntKind.i64 (dec s).e]), (7, AVal.str s), (0, AVal.yld 4),
 (1, AVal.ptr 3 0 0 0)] (AHeap.mk 7 [(6, ABlk.cells 46 [AVal.bool (dec s).p.st, AVal.bool (dec s).p.en, AVal.int IntKind.i64 (dec s).p.id, AVal.int IntKind.i64 (dec s).p.total, AVal.int IntKind.i64
 (dec s).p.typ, AVal.int IntKind.i64 (dec s).p.k, AVal.str (dec s).p.lb, AVal.str (dec s).p.data, AVal.str (dec s).p.sum]), (6, ABlk.cells 46 [AVal.bool false, AVal.bool false, AVal.int IntKind.i64 (0
 : Int), AVal.int IntKind.i64 (0 : Int), AVal.int IntKind.i64 (0 : Int), AVal.int IntKind.i64 (0 : Int), AVal.str [], AVal.str [], AVal.str []]), (3, ABlk.cells 9 [AVal.str s]), (2, ABlk.cells 39
 [AVal.nils]), (1, ABlk.cells 40 [AVal.int IntKind.i64 (0 : Int)]), (0, ABlk.cells 39 [AVal.nils])]) none) (branch (!decide ((dec s).e = (0 : Int))) (QQ AExit.ret [(24, AVal.bool true), (23, AVal.tup
 []), (21, AVal.bool true), (22, AVal.tup []), (21, AVal.bool true), (21, AVal.bool true), (20, AVal.bool true), (19, AVal.bool true), (14, AVal.bool false), (18, AVal.bool false), (14, AVal.bool
 false), (17, AVal.int IntKind.i64 (dec s).e), (14, AVal.bool false), (16, AVal.agg [AVal.bool (dec s).p.st, AVal.bool (dec s).p.en, AVal.int IntKind.i64 (dec s).p.id, AVal.int IntKind.i64 (dec
 s).p.total, AVal.int IntKind.i64 (dec s).p.typ, AVal.int IntKind.i64 (dec s).p.k, AVal.str (dec s).p.lb, AVal.str (dec s).p.data, AVal.str (dec s).p.sum]), (14, AVal.bool false), (15, AVal.yld 4),
 (14, AVal.bool false), (14, AVal.bool (decide ((dec s).e = (5 : Int)))), (13, AVal.bool (decide ((dec s).e = (5 : Int)))), (12, AVal.int IntKind.i64 (dec s).e), (5, AVal.int IntKind.i64 (dec s).e),
 (4, AVal.int IntKind.i64 (dec s).n), (3, AVal.ptr 6 0 0 0), (11, AVal.int IntKind.i64 (dec s).e), (10, AVal.int IntKind.i64 (dec s).n), (9, AVal.agg [AVal.bool (dec s).p.st, AVal.bool (dec s).p.en,
 AVal.int IntKind.i64 (dec s).p.id, AVal.int IntKind.i64 (dec s).p.total, AVal.int IntKind.i64 (dec s).p.typ, AVal.int IntKind.i64 (dec s).p.k, AVal.str (dec s).p.lb, AVal.str (dec s).p.data, AVal.str
 (dec s).p.sum]), (6, AVal.tup [AVal.agg [AVal.bool (dec s).p.st, AVal.bool (dec s).p.en, AVal.int IntKind.i64 (dec s).p.id, AVal.int IntKind.i64 (dec s).p.total, AVal.int IntKind.i64 (dec s).p.typ,
 AVal.int IntKind.i64 (dec s).p.k, AVal.str (dec s).p.lb, AVal.str (dec s).p.data, AVal.str (dec s).p.sum], AVal.int IntKind.i64 (dec s).n, AVal.int IntKind.i64 (dec s).e]), (8, AVal.tup [AVal.agg
 [AVal.bool (dec s).p.st, AVal.bool (dec s).p.en, AVal.int IntKind.i64 (dec s).p.id, AVal.int IntKind.i64 (dec s).p.total, AVal.int IntKind.i64 (dec s).p.typ, AVal.int IntKind.i64 (dec s).p.k, AVal.str
 (dec s).p.lb, AVal.str (dec s).p.data, AVal.str (dec s).p.sum], AVal.int IntKind.i64 (dec s).n, AVal.int IntKind.i64 (dec s).e]), (7, AVal.str s), (0, AVal.yld 4), (1, AVal.ptr 3 0 0 0)] (AHeap.mk 8
 [(1, ABlk.cells 40 [AVal.int IntKind.i64 (dec s).e]), (0, ABlk.cells 39 [AVal.nils]), (7, ABlk.cells 46 [AVal.bool (dec s).p.st, AVal.bool (dec s).p.en, AVal.int IntKind.i64 (dec s).p.id, AVal.int
 IntKind.i64 (dec s).p.total, AVal.int IntKind.i64 (dec s).p.typ, AVal.int IntKind.i64 (dec s).p.k, AVal.str (dec s).p.lb, AVal.str (dec s).p.data, AVal.str (dec s).p.sum]), (7, ABlk.cells 46
 [AVal.bool false, AVal.bool false, AVal.int IntKind.i64 (0 : Int), AVal.int IntKind.i64 (0 : Int), AVal.int IntKind.i64 (0 : Int), AVal.int IntKind.i64 (0 : Int), AVal.str [], AVal.str [], AVal.str
 []]), (6, ABlk.cells 46 [AVal.bool (dec s).p.st, AVal.bool (dec s).p.en, AVal.int IntKind.i64 (dec s).p.id, AVal.int IntKind.i64 (dec s).p.total, AVal.int IntKind.i64 (dec s).p.typ, AVal.int
 IntKind.i64 (dec s).p.k, AVal.str (dec s).p.lb, AVal.str (dec s).p.data, AVal.str (dec s).p.sum]), (6, ABlk.cells 46 [AVal.bool false, AVal.bool false, AVal.int IntKind.i64 (0 : Int), AVal.int
 IntKind.i64 (0 : Int), AVal.int IntKind.i64 (0 : Int), AVal.int IntKind.i64 (0 : Int), AVal.str [], AVal.str [], AVal.str []]), (3, ABlk.cells 9 [AVal.str s]), (2, ABlk.cells 39 [AVal.nils]), (1,
 ABlk.cells 40 [AVal.int IntKind.i64 (0 : Int)]), (0, ABlk.cells 39 [AVal.nils])]) (some Code.ret)) (branch (!decide ((dec s).e = (0 : Int))) (QQ AExit.ret [(24, AVal.bool !decide ((dec s).e = (0 :
 Int))), (23, AVal.bool !decide ((dec s).e = (0 : Int))), (21, AVal.bool false), (22, AVal.int IntKind.i64 (dec s).e), (21, AVal.bool false), (21, AVal.bool false), (20, AVal.bool false), (19,
 AVal.bool false), (14, AVal.bool false), (18, AVal.bool true), (14, AVal.bool false), (17, AVal.int IntKind.i64 (dec s).e), (14, AVal.bool false), (16, AVal.agg [AVal.bool (dec s).p.st, AVal.bool (dec
 s).p.en, AVal.int IntKind.i64 (dec s).p.id, AVal.int IntKind.i64 (dec s).p.total, AVal.int IntKind.i64 (dec s).p.typ, AVal.int IntKind.i64 (dec s).p.k, AVal.str (dec s).p.lb, AVal.str (dec s).p.data,
 AVal.str (dec s).p.sum]), (14, AVal.bool false), (15, AVal.yld 4), (14, AVal.bool false), (14, AVal.bool (decide ((dec s).e = (5 : Int)))), (13, AVal.bool (decide ((dec s).e = (5 : Int)))), (12,
 AVal.int IntKind.i64 (dec s).e), (5, AVal.int IntKind.i64 (dec s).e), (4, AVal.int IntKind.i64 (dec s).n), (3, AVal.ptr 6 0 0 0), (11, AVal.int IntKind.i64 (dec s).e), (10, AVal.int IntKind.i64 (dec
 s).n), (9, AVal.agg [AVal.bool (dec s).p.st, AVal.bool (dec s).p.en, AVal.int IntKind.i64 (dec s).p.id, AVal.int IntKind.i64 (dec s).p.total, AVal.int IntKind.i64 (dec s).p.typ, AVal.int IntKind.i64
 (dec s).p.k, AVal.str (dec s).p.lb, AVal.str (dec s).p.data, AVal.str (dec s).p.sum]), (6, AVal.tup [AVal.agg [AVal.bool (dec s).p.st, AVal.bool (dec s).p.en, AVal.int IntKind.i64 (dec s).p.id,
 AVal.int IntKind.i64 (dec s).p.total, AVal.int IntKind.i64 (dec s).p.typ, AVal.int IntKind.i64 (dec s).p.k, AVal.str (dec s).p.lb, AVal.str (dec s).p.data, AVal.str (dec s).p.sum], AVal.int
 IntKind.i64 (dec s).n, AVal.int IntKind.i64 (dec s).e]), (8, AVal.tup [AVal.agg [AVal.bool (dec s).p.st, AVal.bool (dec s).p.en, AVal.int IntKind.i64 (dec s).p.id, AVal.int IntKind.i64 (dec
 s).p.total, AVal.int IntKind.i64 (dec s).p.typ, AVal.int IntKind.i64 (dec s).p.k, AVal.str (dec s).p.lb, AVal.str (dec s).p.data, AVal.str (dec s).p.sum], AVal.int IntKind.i64 (dec s).n, AVal.int
 IntKind.i64 (dec s).e]), (7, AVal.str s), (0, AVal.yld 4), (1, AVal.ptr 3 0 0 0)] (AHeap.mk 10 [(2, ABlk.cells 39 [AVal.sl 9 0 9 0 1 none]), (9, ABlk.row 46 pieceRow [PieceR.mk (dec s).p.st (dec
 s).p.en (dec s).p.id (dec s).p.total (dec s).p.typ (dec s).p.k (dec s).p.lb (dec s).p.data (dec s).p.sum] RowMd.plain), (8, ABlk.cells 46 [AVal.bool (dec s).p.st, AVal.bool (dec s).p.en, AVal.int
 IntKind.i64 (dec s).p.id, AVal.int IntKind.i64 (dec s).p.total, AVal.int IntKind.i64 (dec s).p.typ, AVal.int IntKind.i64 (dec s).p.k, AVal.str (dec s).p.lb, AVal.str (dec s).p.data, AVal.str (dec
 s).p.sum]), (7, ABlk.cells 46 [AVal.bool (dec s).p.st, AVal.bool (dec s).p.en, AVal.int IntKind.i64 (dec s).p.id, AVal.int IntKind.i64 (dec s).p.total, AVal.int IntKind.i64 (dec s).p.typ, AVal.int
 IntKind.i64 (dec s).p.k, AVal.str (dec s).p.lb, AVal.str (dec s).p.data, AVal.str (dec s).p.sum]), (7, ABlk.cells 46 [AVal.bool false, AVal.bool false, AVal.int IntKind.i64 (0 : Int), AVal.int
 IntKind.i64 (0 : Int), AVal.int IntKind.i64 (0 : Int), AVal.int IntKind.i64 (0 : Int), AVal.str [], AVal.str [], AVal.str []]), (6, ABlk.cells 46 [AVal.bool (dec s).p.st, AVal.bool (dec s).p.en,
 AVal.int IntKind.i64 (dec s).p.id, AVal.int IntKind.i64 (dec s).p.total, AVal.int IntKind.i64 (dec s).p.typ, AVal.int IntKind.i64 (dec s).p.k, AVal.str (dec s).p.lb, AVal.str (dec s).p.data, AVal.str
 (dec s).p.sum]), (6, ABlk.cells 46 [AVal.bool false, AVal.bool false, AVal.int IntKind.i64 (0 : Int), AVal.int IntKind.i64 (0 : Int), AVal.int IntKind.i64 (0 : Int), AVal.int IntKind.i64 (0 : Int),
 AVal.str [], AVal.str [], AVal.str []]), (3, ABlk.cells 9 [AVal.str s]), (2, ABlk.cells 39 [AVal.nils]), (1, ABlk.cells 40 [AVal.int IntKind.i64 (0 : Int)]), (0, ABlk.cells 39 [AVal.nils])]) none)
 (obl (decide ((0 : Int) ≤ (dec s).n ∧ (dec s).n ≤ (↑s.length : Int))) (QQ AExit.normal [(27, AVal.str (List.drop (dec s).n.toNat s)), (26, AVal.int IntKind.i64 (dec s).n), (25, AVal.str s), (24,
 AVal.bool !decide ((dec s).e = (0 : Int))), (23, AVal.bool !decide ((dec s).e = (0 : Int))), (21, AVal.bool false), (22, AVal.int IntKind.i64 (dec s).e), (21, AVal.bool false), (21, AVal.bool false),
 (20, AVal.bool false), (19, AVal.bool false), (14, AVal.bool false), (18, AVal.bool true), (14, AVal.bool false), (17, AVal.int IntKind.i64 (dec s).e), (14, AVal.bool false), (16, AVal.agg [AVal.bool
 (dec s).p.st, AVal.bool (dec s).p.en, AVal.int IntKind.i64 (dec s).p.id, AVal.int IntKind.i64 (dec s).p.total, AVal.int IntKind.i64 (dec s).p.typ, AVal.int IntKind.i64 (dec s).p.k, AVal.str (dec
 s).p.lb, AVal.str (dec s).p.data, AVal.str (dec s).p.sum]), (14, AVal.bool false), (15, AVal.yld 4), (14, AVal.bool false), (14, AVal.bool (decide ((dec s).e = (5 : Int)))), (13, AVal.bool (decide
 ((dec s).e = (5 : Int)))), (12, AVal.int IntKind.i64 (dec s).e), (5, AVal.int IntKind.i64 (dec s).e), (4, AVal.int IntKind.i64 (dec s).n), (3, AVal.ptr 6 0 0 0), (11, AVal.int IntKind.i64 (dec s).e),
 (10, AVal.int IntKind.i64 (dec s).n), (9, AVal.agg [AVal.bool (dec s).p.st, AVal.bool (dec s).p.en, AVal.int IntKind.i64 (dec s).p.id, AVal.int IntKind.i64 (dec s).p.total, AVal.int IntKind.i64 (dec
 s).p.typ, AVal.int IntKind.i64 (dec s).p.k, AVal.str (dec s).p.lb, AVal.str (dec s).p.data, AVal.str (dec s).p.sum]), (6, AVal.tup [AVal.agg [AVal.bool (dec s).p.st, AVal.bool (dec s).p.en, AVal.int
 IntKind.i64 (dec s).p.id, AVal.int IntKind.i64 (dec s).p.total, AVal.int IntKind.i64 (dec s).p.typ, AVal.int IntKind.i64 (dec s).p.k, AVal.str (dec s).p.lb, AVal.str (dec s).p.data, AVal.str (dec
 s).p.sum], AVal.int IntKind.i64 (dec s).n, AVal.int IntKind.i64 (dec s).e]), (8, AVal.tup [AVal.agg [AVal.bool (dec s).p.st, AVal.bool (dec s).p.en, AVal.int IntKind.i64 (dec s).p.id, AVal.int
 IntKind.i64 (dec s).p.total, AVal.int IntKind.i64 (dec s).p.typ, AVal.int IntKind.i64 (dec s).p.k, AVal.str (dec s).p.lb, AVal.str (dec s).p.data, AVal.str (dec s).p.sum], AVal.int IntKind.i64 (dec
 s).n, AVal.int IntKind.i64 (dec s).e]), (7, AVal.str s), (0, AVal.yld 4), (1, AVal.ptr 3 0 0 0)] (AHeap.mk 10 [(3, ABlk.cells 9 [AVal.str (List.drop (dec s).n.toNat s)]), (2, ABlk.cells 39 [AVal.sl 9
 0 9 0 1 none]), (9, ABlk.row 46 pieceRow [PieceR.mk (dec s).p.st (dec s).p.en (dec s).p.id (dec s).p.total (dec s).p.typ (dec s).p.k (dec s).p.lb (dec s).p.data (dec s).p.sum] RowMd.plain), (8,
 ABlk.cells 46 [AVal.bool (dec s).p.st, AVal.bool (dec s).p.en, AVal.int IntKind.i64 (dec s).p.id, AVal.int IntKind.i64 (dec s).p.total, AVal.int IntKind.i64 (dec s).p.typ, AVal.int IntKind.i64 (dec
 s).p.k, AVal.str (dec s).p.lb, AVal.str (dec s).p.data, AVal.str (dec s).p.sum]), (7, ABlk.cells 46 [AVal.bool (dec s).p.st, AVal.bool (dec s).p.en, AVal.int IntKind.i64 (dec s).p.id, AVal.int
 IntKind.i64 (dec s).p.total, AVal.int IntKind.i64 (dec s).p.typ, AVal.int IntKind.i64 (dec s).p.k, AVal.str (dec s).p.lb, AVal.str (dec s).p.data, AVal.str (dec s).p.sum]), (7, ABlk.cells 46
 [AVal.bool false, AVal.bool false, AVal.int IntKind.i64 (0 : Int), AVal.int IntKind.i64 (0 : Int), AVal.int IntKind.i64 (0 : Int), AVal.int IntKind.i64 (0 : Int), AVal.str [], AVal.str [], AVal.str
 []]), (6, ABlk.cells 46 [AVal.bool (dec s).p.st, AVal.bool (dec s).p.en, AVal.int IntKind.i64 (dec s).p.id, AVal.int IntKind.i64 (dec s).p.total, AVal.int IntKind.i64 (dec s).p.typ, AVal.int
 IntKind.i64 (dec s).p.k, AVal.str (dec s).p.lb, AVal.str (dec s).p.data, AVal.str (dec s).p.sum]), (6, ABlk.cells 46 [AVal.bool false, AVal.bool false, AVal.int IntKind.i64 (0 : Int), AVal.int
 IntKind.i64 (0 : Int), AVal.int IntKind.i64 (0 : Int), AVal.int IntKind.i64 (0 : Int), AVal.str [], AVal.str [], AVal.str []]), (3, ABlk.cells 9 [AVal.str s]), (2, ABlk.cells 39 [AVal.nils]), (1,
 ABlk.cells 40 [AVal.int IntKind.i64 (0 : Int)]), (0, ABlk.cells 39 [AVal.nils])]) none)))))) := by kernel_rfl
set_option maxRecDepth 100000 in
theorem w_allround_cons (s0 s : List UInt8) (acc : List PieceR) (QQ : AExit → Env → AHeap → Option Code → Prop) : (wpY (TE.ctx Try.prog) 4 (roundA (TE.ctx Try.prog) 60 13 ((8, .func 27 [] [.ptr 3 0 0 0]) :: (7, .str s0) :: (4, .ptr 2 0 0 0) :: (3, .ptr 1 0 0 0) :: (2, .ptr 0 0 0 0) :: (0, .str s0) :: []) [9, 10] (rfAssign (blkC (seqR (seqL (seqR (seqR (bodyC Try.f13))))))) (rfBody (blkC (seqR (seqL (seqR (seqR (bodyC Try.f13)))))))) 60 27 (lpC (blkC (bodyC Try.f27))) [(0, .yld 4), (1, .ptr 3 0 0 0)] ⟨6, [(5, .row 46 pieceRow acc .plain), (3, .cells 9 [.str s]), (2, .cells 39 [.sl 5 0 9 0 acc.length none]), (1, .cells 40 [.int .i64 0]), (0, .cells 39 [.nils])]⟩ none QQ
) = (obl (decide (s.length ≤ 9223372036854775000)) (branch (decide ((dec s).e = (5 : Int))) (QQ AExit.ret [(24, AVal.bool true), (23, AVal.tup []), (21, AVal.bool true), (22, AVal.tup []), (21, AVal.bool
 true), (21, AVal.bool true), (20, AVal.bool true), (19, AVal.tup []), (14, AVal.bool true), (18, AVal.tup []), (14, AVal.bool true), (17, AVal.tup []), (14, AVal.bool true), (16, AVal.tup []), (14,
 AVal.bool true), (15, AVal.tup []), (14, AVal.bool true), (14, AVal.bool (decide ((dec s).e = (5 : Int)))), (13, AVal.bool (decide ((dec s).e = (5 : Int)))), (12, AVal.int IntKind.i64 (dec s).e), (5,
 AVal.int IntKind.i64 (dec s).e), (4, AVal.int IntKind.i64 (dec s).n), (3, AVal.ptr 6 0 0 0), (11, AVal.int IntKind.i64 (dec s).e), (10, AVal.int IntKind.i64 (dec s).n), (9, AVal.agg [AVal.bool (dec
 s).p.st, AVal.bool (dec s).p.en, AVal.int IntKind.i64 (dec s).p.id, AVal.int IntKind.i64 (dec s).p.total, AVal.int IntKind.i64 (dec s).p.typ, AVal.int IntKind.i64 (dec s).p.k, AVal.str (dec s).p.lb,
 AVal.str (dec s).p.data, AVal.str (dec s).p.sum]), (6, AVal.tup [AVal.agg [AVal.bool (dec s).p.st, AVal.bool (dec s).p.en, AVal.int IntKind.i64 (dec s).p.id, AVal.int IntKind.i64 (dec s).p.total,
 AVal.int IntKind.i64 (dec s).p.typ, AVal.int IntKind.i64 (dec s).p.k, AVal.str (dec s).p.lb, AVal.str (dec s).p.data, AVal.str (dec s).p.sum], AVal.int IntKind.i64 (dec s).n, AVal.int IntKind.i64 (dec
 s).e]), (8, AVal.tup [AVal.agg [AVal.bool (dec s).p.st, AVal.bool (dec s).p.en, AVal.int IntKind.i64 (dec s).p.id, AVal.int IntKind.i64 (dec s).p.total, AVal.int IntKind.i64 (dec s).p.typ, AVal.int
 IntKind.i64 (dec s).p.k, AVal.str (dec s).p.lb, AVal.str (dec s).p.data, AVal.str (dec s).p.sum], AVal.int IntKind.i64 (dec s).n, AVal.int IntKind.i64 (dec s).e]), (7, AVal.str s), (0, AVal.yld 4),
 (1, AVal.ptr 3 0 0 0)] (AHeap.mk 7 [(6, ABlk.cells 46 [AVal.bool (dec s).p.st, AVal.bool (dec s).p.en, AVal.int IntKind.i64 (dec s).p.id, AVal.int IntKind.i64 (dec s).p.total, AVal.int IntKind.i64
 (dec s).p.typ, AVal.int IntKind.i64 (dec s).p.k, AVal.str (dec s).p.lb, AVal.str (dec s).p.data, AVal.str (dec s).p.sum]), (6, ABlk.cells 46 [AVal.bool false, AVal.bool false, AVal.int IntKind.i64 (0
 : Int), AVal.int IntKind.i64 (0 : Int), AVal.int IntKind.i64 (0 : Int), AVal.int IntKind.i64 (0 : Int), AVal.str [], AVal.str [], AVal.str []]), (5, ABlk.row 46 pieceRow acc RowMd.plain), (3,
 ABlk.cells 9 [AVal.str s]), (2, ABlk.cells 39 [AVal.sl 5 0 9 0 acc.length none]), (1, ABlk.cells 40 [AVal.int IntKind.i64 (0 : Int)]), (0, ABlk.cells 39 [AVal.nils])]) none) (branch (!decide ((dec
 s).e = (0 : Int))) (QQ AExit.ret [(24, AVal.bool true), (23, AVal.tup []), (21, AVal.bool true), (22, AVal.tup []), (21, AVal.bool true), (21, AVal.bool true), (20, AVal.bool true), (19, AVal.bool
 true), (14, AVal.bool false), (18, AVal.bool false), (14, AVal.bool false), (17, AVal.int IntKind.i64 (dec s).e), (14, AVal.bool false), (16, AVal.agg [AVal.bool (dec s).p.st, AVal.bool (dec s).p.en,
 AVal.int IntKind.i64 (dec s).p.id, AVal.int IntKind.i64 (dec s).p.total, AVal.int IntKind.i64 (dec s).p.typ, AVal.int IntKind.i64 (dec s).p.k, AVal.str (dec s).p.lb, AVal.str (dec s).p.data, AVal.str
 (dec s).p.sum]), (14, AVal.bool false), (15, AVal.yld 4), (14, AVal.bool false), (14, AVal.bool (decide ((dec s).e = (5 : Int)))), (13, AVal.bool (decide ((dec s).e = (5 : Int)))), (12, AVal.int
 IntKind.i64 (dec s).e), (5, AVal.int IntKind.i64 (dec s).e), (4, AVal.int IntKind.i64 (dec s).n), (3, AVal.ptr 6 0 0 0), (11, AVal.int IntKind.i64 (dec s).e), (10, AVal.int IntKind.i64 (dec s).n), (9,
 AVal.agg [AVal.bool (dec s).p.st, AVal.bool (dec s).p.en, AVal.int IntKind.i64 (dec s).p.id, AVal.int IntKind.i64 (dec s).p.total, AVal.int IntKind.i64 (dec s).p.typ, AVal.int IntKind.i64 (dec s).p.k,
 AVal.str (dec s).p.lb, AVal.str (dec s).p.data, AVal.str (dec s).p.sum]), (6, AVal.tup [AVal.agg [AVal.bool (dec s).p.st, AVal.bool (dec s).p.en, AVal.int IntKind.i64 (dec s).p.id, AVal.int
 IntKind.i64 (dec s).p.total, AVal.int IntKind.i64 (dec s).p.typ, AVal.int IntKind.i64 (dec s).p.k, AVal.str (dec s).p.lb, AVal.str (dec s).p.data, AVal.str (dec s).p.sum], AVal.int IntKind.i64 (dec
 s).n, AVal.int IntKind.i64 (dec s).e]), (8, AVal.tup [AVal.agg [AVal.bool (dec s).p.st, AVal.bool (dec s).p.en, AVal.int IntKind.i64 (dec s).p.id, AVal.int IntKind.i64 (dec s).p.total, AVal.int
 IntKind.i64 (dec s).p.typ, AVal.int IntKind.i64 (dec s).p.k, AVal.str (dec s).p.lb, AVal.str (dec s).p.data, AVal.str (dec s).p.sum], AVal.int IntKind.i64 (dec s).n, AVal.int IntKind.i64 (dec s).e]),
 (7, AVal.str s), (0, AVal.yld 4), (1, AVal.ptr 3 0 0 0)] (AHeap.mk 8 [(1, ABlk.cells 40 [AVal.int IntKind.i64 (dec s).e]), (0, ABlk.cells 39 [AVal.sl 5 0 9 0 acc.length none]), (7, ABlk.cells 46
 [AVal.bool (dec s).p.st, AVal.bool (dec s).p.en, AVal.int IntKind.i64 (dec s).p.id, AVal.int IntKind.i64 (dec s).p.total, AVal.int IntKind.i64 (dec s).p.typ, AVal.int IntKind.i64 (dec s).p.k, AVal.str
 (dec s).p.lb, AVal.str (dec s).p.data, AVal.str (dec s).p.sum]), (7, ABlk.cells 46 [AVal.bool false, AVal.bool false, AVal.int IntKind.i64 (0 : Int), AVal.int IntKind.i64 (0 : Int), AVal.int
 IntKind.i64 (0 : Int), AVal.int IntKind.i64 (0 : Int), AVal.str [], AVal.str [], AVal.str []]), (6, ABlk.cells 46 [AVal.bool (dec s).p.st, AVal.bool (dec s).p.en, AVal.int IntKind.i64 (dec s).p.id,
 AVal.int IntKind.i64 (dec s).p.total, AVal.int IntKind.i64 (dec s).p.typ, AVal.int IntKind.i64 (dec s).p.k, AVal.str (dec s).p.lb, AVal.str (dec s).p.data, AVal.str (dec s).p.sum]), (6, ABlk.cells 46
 [AVal.bool false, AVal.bool false, AVal.int IntKind.i64 (0 : Int), AVal.int IntKind.i64 (0 : Int), AVal.int IntKind.i64 (0 : Int), AVal.int IntKind.i64 (0 : Int), AVal.str [], AVal.str [], AVal.str
 []]), (5, ABlk.row 46 pieceRow acc RowMd.plain), (3, ABlk.cells 9 [AVal.str s]), (2, ABlk.cells 39 [AVal.sl 5 0 9 0 acc.length none]), (1, ABlk.cells 40 [AVal.int IntKind.i64 (0 : Int)]), (0,
 ABlk.cells 39 [AVal.nils])]) (some Code.ret)) (obl (true && decide (acc.length = acc.length ∧ 9 = 9 ∧ 9 = 9 ∧ 0 < 9 ∧ (acc ++ [PieceR.mk (dec s).p.st (dec s).p.en (dec s).p.id (dec s).p.total (dec
 s).p.typ (dec s).p.k (dec s).p.lb (dec s).p.data (dec s).p.sum]).length ≤ 9223372036854775807 ∧ (acc ++ [PieceR.mk (dec s).p.st (dec s).p.en (dec s).p.id (dec s).p.total (dec s).p.typ (dec s).p.k (dec
 s).p.lb (dec s).p.data (dec s).p.sum]).length * 88 ≤ 140737488355328)) (branch (!decide ((dec s).e = (0 : Int))) (QQ AExit.ret [(24, AVal.bool !decide ((dec s).e = (0 : Int))), (23, AVal.bool !decide
 ((dec s).e = (0 : Int))), (21, AVal.bool false), (22, AVal.int IntKind.i64 (dec s).e), (21, AVal.bool false), (21, AVal.bool false), (20, AVal.bool false), (19, AVal.bool false), (14, AVal.bool
 false), (18, AVal.bool true), (14, AVal.bool false), (17, AVal.int IntKind.i64 (dec s).e), (14, AVal.bool false), (16, AVal.agg [AVal.bool (dec s).p.st, AVal.bool (dec s).p.en, AVal.int IntKind.i64
 (dec s).p.id, AVal.int IntKind.i64 (dec s).p.total, AVal.int IntKind.i64 (dec s).p.typ, AVal.int IntKind.i64 (dec s).p.k, AVal.str (dec s).p.lb, AVal.str (dec s).p.data, AVal.str (dec s).p.sum]), (14,
 AVal.bool false), (15, AVal.yld 4), (14, AVal.bool false), (14, AVal.bool (decide ((dec s).e = (5 : Int)))), (13, AVal.bool (decide ((dec s).e = (5 : Int)))), (12, AVal.int IntKind.i64 (dec s).e), (5,
 AVal.int IntKind.i64 (dec s).e), (4, AVal.int IntKind.i64 (dec s).n), (3, AVal.ptr 6 0 0 0), (11, AVal.int IntKind.i64 (dec s).e), (10, AVal.int IntKind.i64 (dec s).n), (9, AVal.agg [AVal.bool (dec
 s).p.st, AVal.bool (dec s).p.en, AVal.int IntKind.i64 (dec s).p.id, AVal.int IntKind.i64 (dec s).p.total, AVal.int IntKind.i64 (dec s).p.typ, AVal.int IntKind.i64 (dec s).p.k, AVal.str (dec s).p.lb,
 AVal.str (dec s).p.data, AVal.str (dec s).p.sum]), (6, AVal.tup [AVal.agg [AVal.bool (dec s).p.st, AVal.bool (dec s).p.en, AVal.int IntKind.i64 (dec s).p.id, AVal.int IntKind.i64 (dec s).p.total,
 AVal.int IntKind.i64 (dec s).p.typ, AVal.int IntKind.i64 (dec s).p.k, AVal.str (dec s).p.lb, AVal.str (dec s).p.data, AVal.str (dec s).p.sum], AVal.int IntKind.i64 (dec s).n, AVal.int IntKind.i64 (dec
 s).e]), (8, AVal.tup [AVal.agg [AVal.bool (dec s).p.st, AVal.bool (dec s).p.en, AVal.int IntKind.i64 (dec s).p.id, AVal.int IntKind.i64 (dec s).p.total, AVal.int IntKind.i64 (dec s).p.typ, AVal.int
 IntKind.i64 (dec s).p.k, AVal.str (dec s).p.lb, AVal.str (dec s).p.data, AVal.str (dec s).p.sum], AVal.int IntKind.i64 (dec s).n, AVal.int IntKind.i64 (dec s).e]), (7, AVal.str s), (0, AVal.yld 4),
 (1, AVal.ptr 3 0 0 0)] (AHeap.mk 10 [(2, ABlk.cells 39 [AVal.sl 9 0 9 0 (acc ++ [PieceR.mk (dec s).p.st (dec s).p.en (dec s).p.id (dec s).p.total (dec s).p.typ (dec s).p.k (dec s).p.lb (dec s).p.data
 (dec s).p.sum]).length none]), (9, ABlk.row 46 pieceRow (acc ++ [PieceR.mk (dec s).p.st (dec s).p.en (dec s).p.id (dec s).p.total (dec s).p.typ (dec s).p.k (dec s).p.lb (dec s).p.data (dec s).p.sum])
 RowMd.plain), (5, ABlk.dead), (8, ABlk.cells 46 [AVal.bool (dec s).p.st, AVal.bool (dec s).p.en, AVal.int IntKind.i64 (dec s).p.id, AVal.int IntKind.i64 (dec s).p.total, AVal.int IntKind.i64 (dec
 s).p.typ, AVal.int IntKind.i64 (dec s).p.k, AVal.str (dec s).p.lb, AVal.str (dec s).p.data, AVal.str (dec s).p.sum]), (7, ABlk.cells 46 [AVal.bool (dec s).p.st, AVal.bool (dec s).p.en, AVal.int
 IntKind.i64 (dec s).p.id, AVal.int IntKind.i64 (dec s).p.total, AVal.int IntKind.i64 (dec s).p.typ, AVal.int IntKind.i64 (dec s).p.k, AVal.str (dec s).p.lb, AVal.str (dec s).p.data, AVal.str (dec
 s).p.sum]), (7, ABlk.cells 46 [AVal.bool false, AVal.bool false, AVal.int IntKind.i64 (0 : Int), AVal.int IntKind.i64 (0 : Int), AVal.int IntKind.i64 (0 : Int), AVal.int IntKind.i64 (0 : Int),
 AVal.str [], AVal.str [], AVal.str []]), (6, ABlk.cells 46 [AVal.bool (dec s).p.st, AVal.bool (dec s).p.en, AVal.int IntKind.i64 (dec s).p.id, AVal.int IntKind.i64 (dec s).p.total, AVal.int
 IntKind.i64 (dec s).p.typ, AVal.int IntKind.i64 (dec s).p.k, AVal.str (dec s).p.lb, AVal.str (dec s).p.data, AVal.str (dec s).p.sum]), (6, ABlk.cells 46 [AVal.bool false, AVal.bool false, AVal.int
 IntKind.i64 (0 : Int), AVal.int IntKind.i64 (0 : Int), AVal.int IntKind.i64 (0 : Int), AVal.int IntKind.i64 (0 : Int), AVal.str [], AVal.str [], AVal.str []]), (5, ABlk.row 46 pieceRow acc
 RowMd.plain), (3, ABlk.cells 9 [AVal.str s]), (2, ABlk.cells 39 [AVal.sl 5 0 9 0 acc.length none]), (1, ABlk.cells 40 [AVal.int IntKind.i64 (0 : Int)]), (0, ABlk.cells 39 [AVal.nils])]) none) (obl
 (decide ((0 : Int) ≤ (dec s).n ∧ (dec s).n ≤ (↑s.length : Int))) (QQ AExit.normal [(27, AVal.str (List.drop (dec s).n.toNat s)), (26, AVal.int IntKind.i64 (dec s).n), (25, AVal.str s), (24, AVal.bool
 !decide ((dec s).e = (0 : Int))), (23, AVal.bool !decide ((dec s).e = (0 : Int))), (21, AVal.bool false), (22, AVal.int IntKind.i64 (dec s).e), (21, AVal.bool false), (21, AVal.bool false), (20,
 AVal.bool false), (19, AVal.bool false), (14, AVal.bool false), (18, AVal.bool true), (14, AVal.bool false), (17, AVal.int IntKind.i64 (dec s).e), (14, AVal.bool false), (16, AVal.agg [AVal.bool (dec
 s).p.st, AVal.bool (dec s).p.en, AVal.int IntKind.i64 (dec s).p.id, AVal.int IntKind.i64 (dec s).p.total, AVal.int IntKind.i64 (dec s).p.typ, AVal.int IntKind.i64 (dec s).p.k, AVal.str (dec s).p.lb,
 AVal.str (dec s).p.data, AVal.str (dec s).p.sum]), (14, AVal.bool false), (15, AVal.yld 4), (14, AVal.bool false), (14, AVal.bool (decide ((dec s).e = (5 : Int)))), (13, AVal.bool (decide ((dec s).e =
 (5 : Int)))), (12, AVal.int IntKind.i64 (dec s).e), (5, AVal.int IntKind.i64 (dec s).e), (4, AVal.int IntKind.i64 (dec s).n), (3, AVal.ptr 6 0 0 0), (11, AVal.int IntKind.i64 (dec s).e), (10, AVal.int
 IntKind.i64 (dec s).n), (9, AVal.agg [AVal.bool (dec s).p.st, AVal.bool (dec s).p.en, AVal.int IntKind.i64 (dec s).p.id, AVal.int IntKind.i64 (dec s).p.total, AVal.int IntKind.i64 (dec s).p.typ,
 AVal.int IntKind.i64 (dec s).p.k, AVal.str (dec s).p.lb, AVal.str (dec s).p.data, AVal.str (dec s).p.sum]), (6, AVal.tup [AVal.agg [AVal.bool (dec s).p.st, AVal.bool (dec s).p.en, AVal.int IntKind.i64
 (dec s).p.id, AVal.int IntKind.i64 (dec s).p.total, AVal.int IntKind.i64 (dec s).p.typ, AVal.int IntKind.i64 (dec s).p.k, AVal.str (dec s).p.lb, AVal.str (dec s).p.data, AVal.str (dec s).p.sum],
 AVal.int IntKind.i64 (dec s).n, AVal.int IntKind.i64 (dec s).e]), (8, AVal.tup [AVal.agg [AVal.bool (dec s).p.st, AVal.bool (dec s).p.en, AVal.int IntKind.i64 (dec s).p.id, AVal.int IntKind.i64 (dec
 s).p.total, AVal.int IntKind.i64 (dec s).p.typ, AVal.int IntKind.i64 (dec s).p.k, AVal.str (dec s).p.lb, AVal.str (dec s).p.data, AVal.str (dec s).p.sum], AVal.int IntKind.i64 (dec s).n, AVal.int
 IntKind.i64 (dec s).e]), (7, AVal.str s), (0, AVal.yld 4), (1, AVal.ptr 3 0 0 0)] (AHeap.mk 10 [(3, ABlk.cells 9 [AVal.str (List.drop (dec s).n.toNat s)]), (2, ABlk.cells 39 [AVal.sl 9 0 9 0 (acc ++
 [PieceR.mk (dec s).p.st (dec s).p.en (dec s).p.id (dec s).p.total (dec s).p.typ (dec s).p.k (dec s).p.lb (dec s).p.data (dec s).p.sum]).length none]), (9, ABlk.row 46 pieceRow (acc ++ [PieceR.mk (dec
 s).p.st (dec s).p.en (dec s).p.id (dec s).p.total (dec s).p.typ (dec s).p.k (dec s).p.lb (dec s).p.data (dec s).p.sum]) RowMd.plain), (5, ABlk.dead), (8, ABlk.cells 46 [AVal.bool (dec s).p.st,
 AVal.bool (dec s).p.en, AVal.int IntKind.i64 (dec s).p.id, AVal.int IntKind.i64 (dec s).p.total, AVal.int IntKind.i64 (dec s).p.typ, AVal.int IntKind.i64 (dec s).p.k, AVal.str (dec s).p.lb, AVal.str
 (dec s).p.data, AVal.str (dec s).p.sum]), (7, ABlk.cells 46 [AVal.bool (dec s).p.st, AVal.bool (dec s).p.en, AVal.int IntKind.i64 (dec s).p.id, AVal.int IntKind.i64 (dec s).p.total, AVal.int
 IntKind.i64 (dec s).p.typ, AVal.int IntKind.i64 (dec s).p.k, AVal.str (dec s).p.lb, AVal.str (dec s).p.data, AVal.str (dec s).p.sum]), (7, ABlk.cells 46 [AVal.bool false, AVal.bool false, AVal.int
 IntKind.i64 (0 : Int), AVal.int IntKind.i64 (0 : Int), AVal.int IntKind.i64 (0 : Int), AVal.int IntKind.i64 (0 : Int), AVal.str [], AVal.str [], AVal.str []]), (6, ABlk.cells 46 [AVal.bool (dec
 s).p.st, AVal.bool (dec s).p.en, AVal.int IntKind.i64 (dec s).p.id, AVal.int IntKind.i64 (dec s).p.total, AVal.int IntKind.i64 (dec s).p.typ, AVal.int IntKind.i64 (dec s).p.k, AVal.str (dec s).p.lb,
 AVal.str (dec s).p.data, AVal.str (dec s).p.sum]), (6, ABlk.cells 46 [AVal.bool false, AVal.bool false, AVal.int IntKind.i64 (0 : Int), AVal.int IntKind.i64 (0 : Int), AVal.int IntKind.i64 (0 : Int),
 AVal.int IntKind.i64 (0 : Int), AVal.str [], AVal.str [], AVal.str []]), (5, ABlk.row 46 pieceRow acc RowMd.plain), (3, ABlk.cells 9 [AVal.str s]), (2, ABlk.cells 39 [AVal.sl 5 0 9 0 acc.length
 none]), (1, ABlk.cells 40 [AVal.int IntKind.i64 (0 : Int)]), (0, ABlk.cells 39 [AVal.nils])]) none))))))) := by kernel_rfl
end Go.Proofs.Ytjacnjecggedhaa
namespace Go.Proofs.Ytjacnjecggedhaa
set_option linter.unusedVariables false
set_option linter.unusedSimpArgs false
open Go.RowKit Ev
set_option maxRecDepth 100000 in
theorem w_allpost_nil (s0 : List UInt8) (g1 g2 g3 : ABlk) (K : Out → AHeap → Prop) : (wpC (TE.ctx Try.prog) 60 13 7 (seqR (seqR (seqR (bodyC Try.f13)))) ((8, .func 27 [] [.ptr 3 0 0 0]) :: (7, .str s0) :: (4, .ptr 2 0 0 0) :: (3, .ptr 1 0 0 0) :: (2, .ptr 0 0 0 0) :: (0, .str s0) :: []) ⟨7, (6, g1) :: (6, g2) :: (3, g3) :: (2, .cells 39 [.nils]) :: (1, .cells 40 [.int .i64 0]) :: (0, .cells 39 [.nils]) :: []⟩ (endN (TE.ctx Try.prog) Try.f13 K)
) = (K (Out.ret (AVal.tup [AVal.nils, AVal.int IntKind.i64 (0 : Int)])) (AHeap.mk 7 [(1, ABlk.cells 40 [AVal.int IntKind.i64 (0 : Int)]), (0, ABlk.cells 39 [AVal.nils]), (6, g1), (6, g2), (3, g3), (2,
 ABlk.cells 39 [AVal.nils]), (1, ABlk.cells 40 [AVal.int IntKind.i64 (0 : Int)]), (0, ABlk.cells 39 [AVal.nils])])) := by kernel_rfl
set_option maxRecDepth 100000 in
theorem w_allerr_nil (s0 : List UInt8) (e : Int) (g1 g2 g3 g4 g5 g6 g7 g8 : ABlk) (K : Out → AHeap → Prop) : (endA (TE.ctx Try.prog).P Try.f13 K .ret ((8, .func 27 [] [.ptr 3 0 0 0]) :: (7, .str s0) :: (4, .ptr 2 0 0 0) :: (3, .ptr 1 0 0 0) :: (2, .ptr 0 0 0 0) :: (0, .str s0) :: []) ⟨8, (1, .cells 40 [.int .i64 e]) :: (0, .cells 39 [.nils]) :: (7, g1) :: (7, g2) :: (6, g3) :: (6, g4) :: (3, g5) :: (2, g6) :: (1, g7) :: (0, g8) :: []⟩
) = (K (Out.ret (AVal.tup [AVal.nils, AVal.int IntKind.i64 e])) (AHeap.mk 8 [(1, ABlk.cells 40 [AVal.int IntKind.i64 e]), (0, ABlk.cells 39 [AVal.nils]), (7, g1), (7, g2), (6, g3), (6, g4), (3, g5), (2,
 g6), (1, g7), (0, g8)])) := by kernel_rfl
set_option maxRecDepth 100000 in
theorem w_allpost_cons (s0 : List UInt8) (acc : List PieceR) (g1 g2 g3 : ABlk) (K : Out → AHeap → Prop) : (wpC (TE.ctx Try.prog) 60 13 7 (seqR (seqR (seqR (bodyC Try.f13)))) ((8, .func 27 [] [.ptr 3 0 0 0]) :: (7, .str s0) :: (4, .ptr 2 0 0 0) :: (3, .ptr 1 0 0 0) :: (2, .ptr 0 0 0 0) :: (0, .str s0) :: []) ⟨7, (6, g1) :: (6, g2) :: (5, .row 46 pieceRow acc .plain) :: (3, g3) :: (2, .cells 39 [.sl 5 0 9 0 acc.length none]) :: (1, .cells 40 [.int .i64 0]) :: (0, .cells 39 [.nils]) :: []⟩ (endN (TE.ctx Try.prog) Try.f13 K)
) = (K (Out.ret (AVal.tup [AVal.sl 5 0 9 0 acc.length none, AVal.int IntKind.i64 (0 : Int)])) (AHeap.mk 7 [(1, ABlk.cells 40 [AVal.int IntKind.i64 (0 : Int)]), (0, ABlk.cells 39 [AVal.sl 5 0 9 0
 acc.length none]), (6, g1), (6, g2), (5, ABlk.row 46 pieceRow acc RowMd.plain), (3, g3), (2, ABlk.cells 39 [AVal.sl 5 0 9 0 acc.length none]), (1, ABlk.cells 40 [AVal.int IntKind.i64 (0 : Int)]), (0,
 ABlk.cells 39 [AVal.nils])])) := by kernel_rfl
set_option maxRecDepth 100000 in
theorem w_allerr_cons (s0 : List UInt8) (e : Int) (acc : List PieceR) (g1 g2 g3 g4 g5 g6 g7 g8 : ABlk) (K : Out → AHeap → Prop) : (endA (TE.ctx Try.prog).P Try.f13 K .ret ((8, .func 27 [] [.ptr 3 0 0 0]) :: (7, .str s0) :: (4, .ptr 2 0 0 0) :: (3, .ptr 1 0 0 0) :: (2, .ptr 0 0 0 0) :: (0, .str s0) :: []) ⟨8, (1, .cells 40 [.int .i64 e]) :: (0, .cells 39 [.sl 5 0 9 0 acc.length none]) :: (7, g1) :: (7, g2) :: (6, g3) :: (6, g4) :: (5, .row 46 pieceRow acc .plain) :: (3, g5) :: (2, g6) :: (1, g7) :: (0, g8) :: []⟩
) = (K (Out.ret (AVal.tup [AVal.sl 5 0 9 0 acc.length none, AVal.int IntKind.i64 e])) (AHeap.mk 8 [(1, ABlk.cells 40 [AVal.int IntKind.i64 e]), (0, ABlk.cells 39 [AVal.sl 5 0 9 0 acc.length none]), (7,
 g1), (7, g2), (6, g3), (6, g4), (5, ABlk.row 46 pieceRow acc RowMd.plain), (3, g5), (2, g6), (1, g7), (0, g8)])) := by kernel_rfl
end Go.Proofs.Ytjacnjecggedhaa
namespace Go.Proofs.Ytjacnjecggedhaa
set_option linter.unusedVariables false
set_option linter.unusedSimpArgs false
open Go.RowKit Ev
def allL : Nat → List UInt8 → List PieceR × Int
  | 0, _ => ([], 0)
  | n + 1, s => if (dec s).e = 5 then ([], 0) else if (dec s).e = 0 then ((dec s).p :: (allL n (s.drop (dec s).n.toNat)).1, (allL n (s.drop (dec s).n.toNat)).2) else ([], (dec s).e)
def allP (s : List UInt8) : List PieceR := (allL (s.length + 1) s).1
def allE (s : List UInt8) : Int := (allL (s.length + 1) s).2
theorem allL_more : ∀ (n m : Nat) (s : List UInt8), s.length < n → s.length < m → allL n s = allL m s
  | 0, _, s, h, _ => by omega
  | _ + 1, 0, s, _, h => by omega
  | n + 1, m + 1, s, h1, h2 => by
    unfold allL
    split
    · rfl
    · split
      · rename_i h0
        obtain ⟨_, g2, g3, _⟩ := dec_again h0
        have hl : (s.drop (dec s).n.toNat).length < n ∧ (s.drop (dec s).n.toNat).length < m := by
          rw [List.length_drop]; omega
        rw [allL_more n m _ hl.1 hl.2]
      · rfl
theorem all_5 {s : List UInt8} (h : (dec s).e = 5) : allP s = [] ∧ allE s = 0 := by
  unfold allP allE allL
  rw [if_pos h]
  exact ⟨rfl, rfl⟩
theorem all_4 {s : List UInt8} (h : (dec s).e ≠ 5) (h0 : (dec s).e ≠ 0) : allP s = [] ∧ allE s = (dec s).e := by
  unfold allP allE allL
  rw [if_neg h, if_neg h0]
  exact ⟨rfl, rfl⟩
theorem all_0 {s : List UInt8} (h0 : (dec s).e = 0) : allP s = (dec s).p :: allP (s.drop (dec s).n.toNat) ∧ allE s = allE (s.drop (dec s).n.toNat) := by
  obtain ⟨_, g2, g3, _⟩ := dec_again h0
  have hl : (s.drop (dec s).n.toNat).length < s.length := by rw [List.length_drop]; omega
  have e := allL_more s.length ((s.drop (dec s).n.toNat).length + 1) _ hl (Nat.lt_succ_self _)
  have e1 : allP s = (dec s).p :: (allL s.length (s.drop (dec s).n.toNat)).1 := by
    show (allL (s.length + 1) s).1 = _
    rw [allL, if_neg (by omega), if_pos h0]
  have e2 : allE s = (allL s.length (s.drop (dec s).n.toNat)).2 := by
    show (allL (s.length + 1) s).2 = _
    rw [allL, if_neg (by omega), if_pos h0]
  rw [e1, e2, e]
  exact ⟨rfl, rfl⟩
noncomputable def gcAll : GC := fun args H K => match args with
  | [.str s] => obl (decide (s.length ≤ 1000000000)) <| branch (allP s).isEmpty (K (.ret (.tup [.nils, .int .i64 (allE s)])) H) (forceK H.next fun id => forceH (H.new (.row 46 pieceRow (allP s) .plain)) (K (.ret (.tup [.sl id 0 9 0 (allP s).length none, .int .i64 (allE s)]))))
  | _ => Stuck 60 []
def kAll (s : List UInt8) : Out → AHeap → Prop := fun out H => match allP s with
  | [] => out = .ret (.tup [.nils, .int .i64 (allE s)])
  | _ => ∃ r, out = .ret (.tup [.sl r 0 9 0 (allP s).length none, .int .i64 (allE s)]) ∧ H.get r = some (.row 46 pieceRow (allP s) .plain)
theorem kAll_nil {s : List UInt8} {H : AHeap} {e : Int} (h : allP s = []) (he : allE s = e) : kAll s (.ret (.tup [.nils, .int .i64 e])) H := by
  unfold kAll; rw [h, he]
theorem kAll_cons {s : List UInt8} {H : AHeap} {r : Nat} {p : PieceR} {l : List PieceR} {e : Int} (h : allP s = p :: l) (he : allE s = e) (hr : H.get r = some (.row 46 pieceRow (p :: l) .plain)) : kAll s (.ret (.tup [.sl r 0 9 0 (p :: l).length none, .int .i64 e])) H := by
  unfold kAll; rw [h, he]; exact ⟨r, rfl, hr⟩
def stAll (x : List UInt8 × List PieceR) : Env × AHeap := ([(0, .yld 4), (1, .ptr 3 0 0 0)], match x.2 with
  | [] => ⟨6, [(3, .cells 9 [.str x.1]), (2, .cells 39 [.nils]), (1, .cells 40 [.int .i64 0]), (0, .cells 39 [.nils])]⟩
  | p :: l => ⟨6, [(5, .row 46 pieceRow (p :: l) .plain), (3, .cells 9 [.str x.1]), (2, .cells 39 [.sl 5 0 9 0 (p :: l).length none]), (1, .cells 40 [.int .i64 0]), (0, .cells 39 [.nils])]⟩)
def tAll (s0 : List UInt8) (x : List UInt8 × List PieceR) : Prop := s0.length ≤ 1000000000 ∧ x.2 ++ allP x.1 = allP s0 ∧ allE x.1 = allE s0 ∧ x.1.length + 2 * x.2.length ≤ s0.length
def envAll (s0 : List UInt8) : Env := (8, .func 27 [] [.ptr 3 0 0 0]) :: (7, .str s0) :: (4, .ptr 2 0 0 0) :: (3, .ptr 1 0 0 0) :: (2, .ptr 0 0 0 0) :: (0, .str s0) :: []
noncomputable abbrev rfAll : Code := blkC (seqR (seqL (seqR (seqR (bodyC Try.f13)))))
noncomputable abbrev postAll : Code := seqR (seqR (seqR (bodyC Try.f13)))
def qAll (s0 : List UInt8) : AExit → Env → AHeap → Option Code → Prop := fun x _ H' pd => (x = .normal ∨ x = .ret) ∧ behindRF (TE.ctx Try.prog) 60 13 Try.f13 postAll (envAll s0) (kAll s0) H' pd
theorem q_none {s0 : List UInt8} {E : Env} {H : AHeap} (h : wpC (TE.ctx Try.prog) 60 13 H.next postAll (envAll s0) H (endN (TE.ctx Try.prog) Try.f13 (kAll s0))) : qAll s0 .ret E H none := ⟨.inr rfl, h⟩
theorem q_err {s0 : List UInt8} {E : Env} {H : AHeap} (h : endA (TE.ctx Try.prog).P Try.f13 (kAll s0) .ret (envAll s0) H) : qAll s0 .ret E H (some .ret) := ⟨.inr rfl, h⟩
theorem all_done {s0 s : List UInt8} {acc : List PieceR} (h : tAll s0 (s, acc)) (hp : allP s = []) : allP s0 = acc := by
  have := h.2.1
  rw [hp, List.append_nil] at this
  exact this.symm
set_option maxRecDepth 100000 in
theorem all_round (s0 : List UInt8) : ∀ x, tAll s0 x → wpY (TE.ctx Try.prog) 4 (roundA (TE.ctx Try.prog) 60 13 (envAll s0) [9, 10] (rfAssign rfAll) (rfBody rfAll)) 60 27 (lpC (blkC (bodyC Try.f27))) (stAll x).1 (stAll x).2 none (RoundY 5 stAll (fun x => x.1.length) (tAll s0) x (qAll s0)) := by
  rintro ⟨s, acc⟩ hT
  have hT' := hT
  obtain ⟨t0, t1, t2, t3⟩ := hT'
  simp only at t1 t2 t3
  have next : (dec s).e = 0 → tAll s0 (s.drop (dec s).n.toNat, acc ++ [(dec s).p]) ∧ (s.drop (dec s).n.toNat).length < s.length := by
    intro h0
    obtain ⟨_, g2, g3, _⟩ := dec_again h0
    obtain ⟨a1, a2⟩ := all_0 h0
    refine ⟨⟨t0, ?_, ?_, ?_⟩, ?_⟩
    · simp only; rw [← t1, a1]; simp
    · simp only; rw [← t2, a2]
    · simp only [List.length_drop, List.length_append, List.length_cons, List.length_nil]; omega
    · rw [List.length_drop]; omega
  cases acc with
  | nil =>
    refine Eq.mpr (w_allround_nil s0 s _) ?_
    simp only [obl_iff, branch_iff, decide_eq_true_eq, decide_eq_false_iff_not, Bool.not_eq_true', Bool.not_eq_false', Bool.and_eq_true, true_and]
    simp only [List.length_nil] at t3
    refine ⟨by omega, fun h5 => ?_, fun h5 => ⟨fun h4 => ?_, fun h4 => ?_⟩⟩
    · obtain ⟨a1, a2⟩ := all_5 h5
      show qAll s0 .ret [] _ none
      apply q_none
      refine (Eq.mpr (w_allpost_nil s0 _ _ _ (kAll s0)) ?_)
      exact kAll_nil (all_done hT a1) (t2.symm.trans a2)
    · obtain ⟨a1, a2⟩ := all_4 h5 h4
      show qAll s0 .ret [] _ (some .ret)
      apply q_err
      refine (Eq.mpr (w_allerr_nil s0 _ _ _ _ _ _ _ _ _ (kAll s0)) ?_)
      exact kAll_nil (all_done hT a1) (t2.symm.trans a2)
    · obtain ⟨n1, n2⟩ := next h4
      obtain ⟨_, g2, g3, _⟩ := dec_again h4
      refine ⟨fun h => absurd h4 h, fun _ => ⟨⟨by omega, by omega⟩, rfl, (_, [(dec s).p]), [(5, 9)], n2, n1, by decide, by kernel_rfl, ?_, ?_⟩⟩
      · exact subER_cons rfl rfl rfl (subER_cons rfl rfl rfl subER_nil)
      · exact subHR_cons rfl rfl rfl rfl (subHR_cons rfl rfl rfl rfl (subHR_cons rfl rfl rfl rfl (subHR_cons rfl rfl rfl rfl (subHR_cons rfl rfl rfl rfl subHR_nil))))
  | cons p l =>
    refine Eq.mpr (w_allround_cons s0 s (p :: l) _) ?_
    simp only [obl_iff, branch_iff, decide_eq_true_eq, decide_eq_false_iff_not, Bool.not_eq_true', Bool.not_eq_false', Bool.and_eq_true, true_and]
    simp only [List.length_cons] at t3
    refine ⟨by omega, fun h5 => ?_, fun h5 => ⟨fun h4 => ?_, fun h4 => ?_⟩⟩
    · obtain ⟨a1, a2⟩ := all_5 h5
      show qAll s0 .ret [] _ none
      apply q_none
      refine (Eq.mpr (w_allpost_cons s0 (p :: l) _ _ _ (kAll s0)) ?_)
      exact kAll_cons (r := 5) (all_done hT a1) (t2.symm.trans a2) rfl
    · obtain ⟨a1, a2⟩ := all_4 h5 h4
      show qAll s0 .ret [] _ (some .ret)
      apply q_err
      refine (Eq.mpr (w_allerr_cons s0 _ (p :: l) _ _ _ _ _ _ _ _ (kAll s0)) ?_)
      exact kAll_cons (r := 5) (all_done hT a1) (t2.symm.trans a2) rfl
    · obtain ⟨n1, n2⟩ := next h4
      obtain ⟨_, g2, g3, _⟩ := dec_again h4
      refine ⟨?_, fun h => absurd h4 h, fun _ => ⟨⟨by omega, by omega⟩, rfl, (_, p :: (l ++ [(dec s).p])), [(5, 9)], n2, n1, by decide, by kernel_rfl, ?_, ?_⟩⟩
      · simp only [List.length_cons, List.length_append, List.length_nil]
        (repeat' apply And.intro) <;> first | omega | rfl | decide
      · exact subER_cons rfl rfl rfl (subER_cons rfl rfl rfl subER_nil)
      · exact subHR_cons rfl rfl rfl rfl (subHR_cons rfl rfl rfl rfl (subHR_cons rfl rfl rfl rfl (subHR_cons rfl rfl rfl rfl (subHR_cons rfl rfl rfl rfl subHR_nil))))
end Go.Proofs.Ytjacnjecggedhaa
namespace Go.Proofs.Ytjacnjecggedhaa
set_option linter.unusedVariables false
set_option linter.unusedSimpArgs false
open Go.RowKit Ev
theorem pieces_code : bodyC Try.f27 = .block 0 (.loop (lpC (blkC (bodyC Try.f27)))) := by kernel_rfl
def itAll (s0 : List UInt8) : Env → AHeap → List AVal → Prop := fun E H cs => s0.length ≤ 1000000000 ∧ E = envAll s0 ∧ cs = [.ptr 3 0 0 0] ∧ H = ⟨4, [(3, .cells 9 [.str s0]), (2, .cells 39 [.nils]), (1, .cells 40 [.int .i64 0]), (0, .cells 39 [.nils])]⟩
theorem all_it (s0 : List UInt8) : ∀ E H cs, itAll s0 E H cs → ∀ ρ0 w0 At ρ a w, YOk (TE.ctx Try.prog) H.next (roundA (TE.ctx Try.prog) 60 13 E [9, 10] (rfAssign rfAll) (rfBody rfAll)) ρ0 ⟨H.next + 1, H.bs⟩ w0 At → AtKeeps At → Step ρ0 ⟨H.next + 1, H.bs⟩ w0 ρ ⟨H.next + 1, H.bs⟩ w → RelE ρ (H.next + 1) (env0 (.yld H.next :: cs) 0) a → a.defers = [] → Try.f27.ntmps ≤ a.tmps.size → At none w →
      (bodyC Try.f27).wp (TE.ctx Try.prog).P (LiftY ρ0 ⟨H.next + 1, H.bs⟩ w0 a.tmps.size At (fun x _ H' pd => (x = .normal ∨ x = .ret) ∧ behindRF (TE.ctx Try.prog) 60 13 Try.f13 postAll E (kAll s0) H' pd)) a w := by
  rintro E H cs ⟨hl, rfl, rfl, rfl⟩ ρ0 w0 At ρ a w hY hAt hS hE hd hN hat
  have hT : tAll s0 (s0, []) := ⟨hl, by simp, rfl, by simp⟩
  have hS6 : Step ρ0 ⟨5, [(3, .cells 9 [.str s0]), (2, .cells 39 [.nils]), (1, .cells 40 [.int .i64 0]), (0, .cells 39 [.nils])]⟩ w0 (ρ.set 5 0 0) (stAll (s0, [])).2 w := by
    have h1 := hS.rel.more 0 0
    refine ⟨hS.agree.trans (Rho.set_agree ρ 5 0 0) (Nat.le_refl _), Nat.le_succ _, h1, hS.os, hS.tape, hS.output, hS.size, hS.old, fun g hg => ?_⟩
    obtain ⟨b, x, hx, ho, rfl⟩ := hg
    have hb := (hS.rel.blk b x hx).1
    have e : (ρ.set 5 0 0).blk b = ρ.blk b := (Rho.set_agree ρ 5 0 0 b hb).1
    rw [e]
    exact hS.owns _ ⟨b, x, hx, ho, rfl⟩
  have hE6 : RelE (ρ.set 5 0 0) (stAll (s0, [])).2.next (stAll (s0, [])).1 a := hE.step (Rho.set_agree ρ 5 0 0) (Nat.le_succ _)
  rw [pieces_code]
  have hrun := loopY_sound TEok.ctx hY hAt hN (g := 27) (n := 60) (c := lpC (blkC (bodyC Try.f27))) (by kernel_rfl) (by kernel_rfl) (base := 5) stAll (Nat.le_refl _) (fun x => by obtain ⟨s, acc⟩ := x; cases acc <;> exact (by decide : 5 ≤ 6)) (fun x => x.1.length) (tAll s0) (qAll s0)
    (fun x hx => ⟨_, fun _ _ _ _ h => h, all_round s0 x hx⟩) (s0, []) hT _ a w hS6 hE6 hd rfl hat
  refine wp_block (wp_mono hrun ?_)
  rintro e a' w' ⟨x', E', H', ρ', pd, q1, q2, q3, q4, q5, q6, q7⟩
  have q2' := q2
  obtain ⟨q8, q9⟩ := q2
  cases x' with
  | normal => cases e <;> simp only [AExit.rel] at q1; exact ⟨.normal, E', H', ρ', pd, trivial, q2', q3, q4, q5, q6, q7⟩
  | ret => cases e <;> simp only [AExit.rel] at q1; exact ⟨.ret, E', H', ρ', pd, trivial, q2', q3, q4, q5, q6, q7⟩
  | exit i => rcases q8 with h | h <;> cases h
  | panic v => rcases q8 with h | h <;> cases h
set_option maxRecDepth 100000 in
theorem all_walk (s0 : List UInt8) (hl : s0.length ≤ 1000000000) : wpRF (TE.ctx Try.prog) 60 13 27 8 (seqL (bodyC Try.f13)) (seqL (seqR (bodyC Try.f13))) (seqL (seqL (seqR (seqR (bodyC Try.f13))))) (itAll s0) [.str s0] ⟨0, []⟩ := by
  refine Eq.mpr (w_allpre s0 (fun E H => match getE E 8 with
    | some (.func g' [] cs) => match Nat.beq g' 27 with
      | true => forceH H fun H => itAll s0 E H cs
      | false => False
    | _ => False)) ?_
  exact ⟨hl, rfl, rfl, rfl⟩
set_option maxRecDepth 100000 in
theorem all_calls (s0 : List UInt8) (hl : s0.length ≤ 1000000000) (ρ : Rho) (w : World) : Calls Try.prog 13 (trL ρ [.str s0]).toArray w fun e w' => ∃ out H' ρ', Out.rel ρ' H'.next out e ∧ kAll s0 out H' ∧ Step ρ ⟨0, []⟩ w ρ' H' w' :=
  wpRF_sound TEok.ctx (bid := 0) (ps := [9, 10]) (fn := Try.f13) (gn := Try.f27) (assign := rfAssign rfAll) (body := rfBody rfAll) (post := postAll) (by kernel_rfl) (by kernel_rfl) (by kernel_rfl) rfl
    ⟨by simp [show (TE.ctx Try.prog).lcs = fun _ _ => none from rfl], by simp [show (TE.ctx Try.prog).lcs = fun _ _ => none from rfl], by kernel_rfl, by kernel_rfl, by kernel_rfl, by kernel_rfl, by decide⟩ (by kernel_rfl) (all_it s0) (all_walk s0 hl) (rel_nil ρ w) rfl
theorem gcAll_of {f : Nat} (he : ∀ vs w, (callFunc f vs).run Try.prog w = .ok (.enter f vs) w) (hc : ∀ s : List UInt8, s.length ≤ 1000000000 → ∀ ρ w, Calls Try.prog f (trL ρ [.str s]).toArray w fun e w' => ∃ out H' ρ', Out.rel ρ' H'.next out e ∧ kAll s out H' ∧ Step ρ ⟨0, []⟩ w ρ' H' w') : GcSound Try.prog f gcAll := by
  intro args H K hK ρ w hR hargs
  refine ⟨he, ?_⟩
  unfold gcAll at hK
  split at hK
  · rename_i s
    simp only [obl_iff, branch_iff, decide_eq_true_eq, forceK_eq, forceH_eq] at hK
    obtain ⟨hl, hnil, hcons⟩ := hK
    refine (hc s hl ρ w).mono ?_
    rintro e w' ⟨out, H', ρ', h1, h2, h3⟩
    have hno : ∀ g, ¬ Owns ρ ⟨0, []⟩ g := by
      rintro g ⟨b, x, hx, _⟩
      simp [AHeap.get, getB] at hx
    have hbelow : Below w.heap.size w w' := h3.below (Nat.le_refl _) (fun g hg => absurd hg (hno g))
    unfold kAll at h2
    split at h2
    · rename_i hp
      subst h2
      cases e <;> simp only [Out.rel] at h1
      obtain ⟨rfl, _⟩ := h1
      refine ⟨.ret (.tup [.nils, .int .i64 (allE s)]), H, ρ, ⟨rfl, rfl⟩, hnil (by rw [hp]; rfl), Step.grow hR hbelow⟩
    · rename_i hp
      obtain ⟨r, rfl, hr⟩ := h2
      cases e <;> simp only [Out.rel] at h1
      obtain ⟨rfl, _⟩ := h1
      obtain ⟨r1, r2, r3, r4⟩ := h3.rel.blk r _ hr
      obtain ⟨o1, o2, o3, cur, fz, o4, o5, o6, o7⟩ := r4
      have hge : w.heap.size ≤ ρ'.blk r := by
        rcases h3.owns _ ⟨r, _, hr, rfl, rfl⟩ with h | h
        · exact h
        · exact absurd h (hno _)
      have hne : (allP s).isEmpty = false := by
        cases hq : allP s with
        | nil => exact absurd hq hp
        | cons p l => rfl
      have hnew : NewTo ρ H.next w (.tup [.sl H.next 0 9 0 (allP s).length none, .int .i64 (allE s)]) (.row 46 pieceRow (allP s) .plain) (tr ρ' (.tup [.sl r 0 9 0 (allP s).length none, .int .i64 (allE s)])) w' := by
        refine ⟨⟨ρ'.blk r, ρ'.cap r, ?_, hge, r3, ⟨?_, ?_, ?_, cur, fz, ?_, o5, ?_, ?_⟩⟩, hbelow, rfl, ?_⟩
        · simp only [tr, trL, o1, (set_self ρ H.next (ρ'.blk r) (ρ'.cap r)).1, (set_self ρ H.next (ρ'.blk r) (ρ'.cap r)).2.1, (set_self ρ H.next (ρ'.blk r) (ρ'.cap r)).2.2]
        · exact (set_self ρ H.next _ _).2.1
        · rw [(set_self ρ H.next _ _).2.2]; exact o2
        · rw [(set_self ρ H.next _ _).2.2]; exact o3
        · rw [(set_self ρ H.next _ _).1]; exact o4
        · rw [(set_self ρ H.next _ _).2.2]; exact o6
        · rw [o7, trL_eq, trL_eq]
          apply List.map_congr_left
          intro y hy
          have hd := flat_data pieceRow (allP s)
          rw [List.all_eq_true] at hd
          exact AVal.data_tr (hd y hy) _ _
        · constructor
          · simp [AVal.under, belowL]
          · rfl
      obtain ⟨ρ'', s1, s2, s3⟩ := Step.new hR hnew
      rw [s2]
      exact ⟨.ret (.tup [.sl H.next 0 9 0 (allP s).length none, .int .i64 (allE s)]), _, ρ'', ⟨rfl, s3⟩, hcons hne, s1⟩
  · exact (not_stuck hK).elim
theorem all_sound : GcSound Try.prog 13 gcAll := gcAll_of Try.call13 all_calls
noncomputable def TA : Tabs := TE.addGc 13 gcAll
theorem TAok : TabsOk TA Try.prog := TEok.addGc all_sound
end Go.Proofs.Ytjacnjecggedhaa
namespace Go.Proofs.Ytjacnjecggedhaa
set_option linter.unusedVariables false
set_option linter.unusedSimpArgs false
open Go.RowKit Ev
set_option maxRecDepth 100000 in
theorem w_works24 (K : Out → Prop) : (callC (TA.ctx Try.prog) 400 10 [] ⟨0, []⟩ (fun o _ => K o)
) = (twice (twice (twice (K (Out.ret (AVal.bool true)))))) := by kernel_rfl
end Go.Proofs.Ytjacnjecggedhaa
namespace Go.Proofs.Ytjacnjecggedhaa
set_option linter.unusedVariables false
set_option linter.unusedSimpArgs false
open Go.RowKit Ev
def fcWorks24 : FC := fun args _ => match args with
  | [] => some (true, .bool true)
  | _ => none
set_option maxRecDepth 100000 in
theorem works_sound24 : FcSound Try.prog 10 fcWorks24 := by
  refine fc_pure TAok.ctx (n := 400) Try.call10 (fun args H v h => ?_)
  unfold fcWorks24 at h
  split at h <;> cases h
  refine ⟨rfl, rfl, Eq.mpr (w_works24 _) ?_⟩
  simp only [twice_iff, and_self]
noncomputable def TF : Tabs := (TA.addFc 10 fcWorks24)
theorem TFok : TabsOk TF Try.prog := (TAok.addFc works_sound24)
end Go.Proofs.Ytjacnjecggedhaa
namespace Go.Proofs.Ytjacnjecggedhaa
set_option linter.unusedVariables false
set_option linter.unusedSimpArgs false
open Go.RowKit Ev
noncomputable abbrev fillB : Code := bodyC Try.f9
def oddB (p : PieceR) (last again : Bool) (n : Int) : ABlk := .cells 57 [.bool p.st, .bool p.en, .int .i64 p.id, .int .i64 p.total, .int .i64 p.typ, .int .i64 p.k, .str p.lb, .str p.data, .str p.sum, .bool last, .bool again, .int .i64 n]
def oddA (sp : Int) : List AVal := [.iface 55 (.ptr 0 0 0 0), .int .u64 0, .int .i64 7, .int .i64 sp]
noncomputable abbrev fillI : Code := codeAt [true, false] fillB
def pOut : List Bool := [true, false, true, true, true, true, true, false, true, false, false]
noncomputable abbrev fillO : Code := codeAt [true, false, true, true, true, true, true, false, true, false, false] fillB
noncomputable abbrev fillL : Code := codeAt [true, false, true, true, true, true, true, false, true, false, false, true, false, false, false, false] fillB
def oE0 (sp : Int) : Env := [(3, .int .i64 sp), (4, .ptr 1 0 0 0), (5, .ptr 2 0 0 0), (6, .ptr 3 0 0 0)]
def oH0 (p : PieceR) (last again : Bool) (fst n : Int) : List (Nat × ABlk) := [(0, oddB p last again n), (1, .cells 65 [.iface 55 (.ptr 0 0 0 0)]), (2, .cells 33 [.int .u64 fst]), (3, .cells 3 [.int .i64 7])]
def oE (s : AVal) (r : Env) : Env := (4, .ptr 1 0 0 0) :: (5, .ptr 2 0 0 0) :: (6, .ptr 3 0 0 0) :: (10, .ptr 4 0 0 0) :: (11, s) :: (12, .func 16 [] [.ptr 1 0 0 0, .ptr 2 0 0 0, .ptr 3 0 0 0]) :: r
def o13 : Env := [(13, .int .u64 9)]
def o14 (sm : Bool) : Env := [(13, .int .u64 9), (14, .bool sm)]
def fldB (v : AVal) (sp : Int) (beg : Bool) (k : Int) : ABlk := .cells 70 [v, .int .i64 sp, .bool beg, .int .i64 k, .int .i64 0, .str []]
def bRow (L : List UInt8) : ABlk := .row 5 byteRow L .plain
def sRow (S : List Int) : ABlk := .row 33 (intRow .u64) S .plain
def oSl (b n : Nat) : AVal := .sl b 0 1 0 n none
structure OddS where
  p : PieceR
  last : Bool
  again : Bool
  sp : Int
def o00 (o : OddS) (n : Int) (r : Env) : Env × AHeap := (oE .nils r, ⟨5, oH0 o.p o.last o.again 0 n ++ [(4, fldB .nils o.sp false 0)]⟩)
def o10 (o : OddS) (n k : Int) (beg : Bool) (L : List UInt8) (r : Env) : Env × AHeap := (oE .nils r, ⟨6, oH0 o.p o.last o.again 0 n ++ [(4, fldB (oSl 5 L.length) o.sp beg k), (5, bRow L)]⟩)
def o11 (o : OddS) (n k : Int) (beg : Bool) (L : List UInt8) (S : List Int) (r : Env) : Env × AHeap := (oE (oSl 5 S.length) r, ⟨7, oH0 o.p o.last o.again 0 n ++ [(4, fldB (oSl 6 L.length) o.sp beg k), (5, sRow S), (6, bRow L)]⟩)
def ts13 : AExit → List Nat := fun _ => [4, 5, 6, 10, 11, 12, 13]
def ts14 : AExit → List Nat := fun _ => [4, 5, 6, 10, 11, 12, 13, 14]
def tsI : AExit → List Nat := fun _ => [4, 5, 6, 10, 11, 12]
def ts89 : AExit → List Nat := fun _ => [8, 9]
def tsA : AExit → List Nat := fun x => match x with
  | .ret => [8, 9]
  | _ => [3, 4, 5, 6]
def qRet (R Q : AExit → Env → AHeap → Prop) : AExit → Env → AHeap → Prop := fun x E H => match x with
  | .ret => R .ret E H
  | x => Q x E H
def ts0 : AExit → List Nat := fun _ => [3, 4, 5, 6]
theorem fillO_eq : fillO = .seq (seqL fillO) (.seq (.block 1 (.block 2 (.loop fillL))) (seqR (seqR fillO))) := by kernel_rfl
theorem fillB_eq : fillB = .seq (codeAt [false] fillB) (.scope fillI) := by kernel_rfl
theorem fillI_eq : fillI = .seq (seqL fillI) (seqR fillI) := by kernel_rfl
theorem fillT_eq : tailN 4 (seqR fillI) = .seq (.seq (seqL (seqL (tailN 5 fillI))) (.block 0 (.loop fillO))) (seqR (tailN 5 fillI)) := by kernel_rfl
end Go.Proofs.Ytjacnjecggedhaa
namespace Go.Proofs.Ytjacnjecggedhaa
set_option linter.unusedVariables false
set_option linter.unusedSimpArgs false
open Go.RowKit Ev
theorem obl_int {n : Int} {A : Prop} (h : -9223372036854775808 ≤ n ∧ n ≤ 9223372036854775807) (hA : A) : obl (inI64 n) A := obl_iff.2 ⟨inI64_iff.2 h, hA⟩
noncomputable def TX0 : Tabs := symT TF 8
theorem TX0ok : TabsOk TX0 Try.prog := symT_ok TFok _
noncomputable abbrev ofB : Code := bodyC Try.f8
noncomputable abbrev ofR : Code := codeAt [true, true, false, true, false, false] ofB
def noPack : PackR := ⟨0, 0, 0, [], 0⟩
def srcB (a b : AVal) : ABlk := .cells 29 [a, b]
def cRow (cs : List CutR) : ABlk := .row 48 cutRow cs .plain
def dRow (ds : List BoolR) : ABlk := .row 4 boolRow ds .plain
def pRow (hs : List PackR) (md : RowMd) : ABlk := .row 51 packRow hs md
def ofE (n : Nat) (i : Int) : Env := [(0, .sl 0 0 5 0 n none), (3, .ptr 1 0 0 0), (4, .int .i64 i)]
def of0 (hs : List PackR) (md : RowMd) (i : Int) : Env × AHeap := (ofE hs.length i, ⟨2, [(0, pRow hs md), (1, srcB .nils .nils)]⟩)
def of1 (hs : List PackR) (md : RowMd) (i : Int) (cs : List CutR) (ds : List BoolR) : Env × AHeap := (ofE hs.length i, ⟨4, [(0, pRow hs md), (1, srcB (.sl 2 0 6 0 cs.length none) (.sl 3 0 1 0 ds.length none)), (2, cRow cs), (3, dRow ds)]⟩)
def tsP2 : AExit → List Nat := fun _ => [2]
def tsOf : AExit → List Nat := fun _ => [0, 3, 4]
end Go.Proofs.Ytjacnjecggedhaa
namespace Go.Proofs.Ytjacnjecggedhaa
set_option linter.unusedVariables false
set_option linter.unusedSimpArgs false
open Go.RowKit Ev
set_option maxRecDepth 100000 in
theorem w_of_pre (hs : List PackR) (md : RowMd) (It : Env → AHeap → Prop) (Q : AExit → Env → AHeap → Prop) : (wpN (TX0.ctx Try.prog) 2 400 8 1 ofB (env0 [.sl 0 0 5 0 hs.length none] 0) ⟨1, [(0, pRow hs md)]⟩ (fun E H => canonK 1 [0, 3] E H It) Q
) = (It [(0, AVal.sl 0 0 5 0 hs.length none), (3, AVal.ptr 1 0 0 0)] (AHeap.mk 2 [(0, ABlk.row 51 packRow hs md), (1, ABlk.cells 29 [AVal.nils, AVal.nils])])) := by kernel_rfl
set_option maxRecDepth 100000 in
theorem w_of_0 (hs : List PackR) (md : RowMd) (i : Int) (Q : AExit → Env → AHeap → Prop) : (wpC (TX0.ctx Try.prog) 400 8 1 ofR (of0 hs md i).1 (of0 hs md i).2 (canQ 1 tsOf Q)
) = (branch (decide (i < (↑hs.length : Int))) (branch (decide (i < (30 : Int))) (obl (decide ((0 : Int) ≤ i ∧ i < (↑hs.length : Int))) (obl (decide (0 + i.toNat < hs.length)) (obl (decide ((0 : Int) ≤ i ∧
 i < (↑hs.length : Int))) (obl (decide (0 + i.toNat < hs.length)) (obl (decide ((0 : Int) ≤ min (↑(hs.getD (0 + i.toNat) noPack).data.length : Int) (300 : Int) ∧ min (↑(hs.getD (0 + i.toNat)
 noPack).data.length : Int) (300 : Int) ≤ (↑(hs.getD (0 + i.toNat) noPack).data.length : Int))) (obl (decide ((0 : Int) ≤ i ∧ i < (↑hs.length : Int))) (obl (decide (0 + i.toNat < hs.length)) (obl
 (inI64 (hs.getD (0 + i.toNat) noPack).zeros) (obl (decide ((0 : Int) ≤ (hs.getD (0 + i.toNat) noPack).zeros ∧ (0 : Int) < (5000 : Int))) (obl (inI64 ((1 : Int) + (hs.getD (0 + i.toNat) noPack).zeros %
 (5000 : Int))) (obl (decide ((0 : Int) ≤ (1 : Int) + (hs.getD (0 + i.toNat) noPack).zeros % (5000 : Int) ∧ (1 : Int) + (hs.getD (0 + i.toNat) noPack).zeros % (5000 : Int) = (1 : Int) + (hs.getD (0 +
 i.toNat) noPack).zeros % (5000 : Int) ∧ (1 : Int) + (hs.getD (0 + i.toNat) noPack).zeros % (5000 : Int) ≤ (9223372036854775807 : Int) ∧ (1 : Int) * ((1 : Int) + (hs.getD (0 + i.toNat) noPack).zeros %
 (5000 : Int)) ≤ (281474976710656 : Int) ∧ 1 = 1 ∧ 0 < 1)) (obl (decide (0 + ((1 : Int) + (hs.getD (0 + i.toNat) noPack).zeros % (5000 : Int)).toNat ≤ (repN ((1 : Int) + (hs.getD (0 + i.toNat)
 noPack).zeros % (5000 : Int)).toNat (0 : UInt8)).length)) (obl (decide ((↑((List.take (min (↑(hs.getD (0 + i.toNat) noPack).data.length : Int) (300 : Int)).toNat (hs.getD (0 + i.toNat)
 noPack).data).length + (List.take ((1 : Int) + (hs.getD (0 + i.toNat) noPack).zeros % (5000 : Int)).toNat (List.drop 0 (repN ((1 : Int) + (hs.getD (0 + i.toNat) noPack).zeros % (5000 : Int)).toNat (0
 : UInt8)))).length) : Int) ≤ (9223372036854775807 : Int))) (obl (decide ((0 : Int) ≤ i ∧ i < (↑hs.length : Int))) (obl (decide (0 + i.toNat < hs.length)) (obl (decide ((0 : Int) ≤ (hs.getD (0 +
 i.toNat) noPack).pos ∧ (0 : Int) < (4 : Int))) (branch (decide ((hs.getD (0 + i.toNat) noPack).pos % (4 : Int) = (0 : Int))) (obl (decide ((0 : Int) ≤ i ∧ i < (↑hs.length : Int))) (obl (decide (0 +
 i.toNat < hs.length)) (obl (inI64 (hs.getD (0 + i.toNat) noPack).pos) (obl (decide ((0 : Int) ≤ (hs.getD (0 + i.toNat) noPack).pos ∧ (0 : Int) < (↑(List.take (min (↑(hs.getD (0 + i.toNat)
 noPack).data.length : Int) (300 : Int)).toNat (hs.getD (0 + i.toNat) noPack).data ++ List.take ((1 : Int) + (hs.getD (0 + i.toNat) noPack).zeros % (5000 : Int)).toNat (List.drop 0 (repN ((1 : Int) +
 (hs.getD (0 + i.toNat) noPack).zeros % (5000 : Int)).toNat (0 : UInt8)))).length : Int))) (obl (decide ((0 : Int) ≤ i ∧ i < (↑hs.length : Int))) (obl (decide (0 + i.toNat < hs.length)) (obl (decide
 ((0 : Int) ≤ (hs.getD (0 + i.toNat) noPack).cls ∧ (0 : Int) < (3 : Int))) (obl (inI64 ((hs.getD (0 + i.toNat) noPack).cls % (3 : Int))) (obl (inI64 ((2048 : Int) + (hs.getD (0 + i.toNat) noPack).cls %
 (3 : Int))) (obl (decide ((0 : Int) ≤ i ∧ i < (↑hs.length : Int))) (obl (decide (0 + i.toNat < hs.length)) (obl (decide ((0 : Int) ≤ (hs.getD (0 + i.toNat) noPack).lab ∧ (0 : Int) < (3 : Int))) (obl
 (decide (0 + i.toNat < hs.length) && sameV (AVal.int IntKind.u8 (hs.getD (0 + i.toNat) noPack).lab) (AVal.int IntKind.u8 (hs.getD (0 + i.toNat) noPack).lab)) (obl (decide (0 + i.toNat < hs.length) &&
 sameV (AVal.int IntKind.u8 (hs.getD (0 + i.toNat) noPack).cls) (AVal.int IntKind.u8 (hs.getD (0 + i.toNat) noPack).cls)) (obl (decide ((0 : Int) ≤ (hs.getD (0 + i.toNat) noPack).lab % (3 : Int) ∧
 (hs.getD (0 + i.toNat) noPack).lab % (3 : Int) < (3 : Int))) (obl (inI64 (i + (1 : Int))) (Q AExit.normal [(0, AVal.sl 0 0 5 0 hs.length none), (3, AVal.ptr 1 0 0 0), (4, AVal.int IntKind.i64 (i + (1
 : Int)))] (AHeap.mk 4 [(0, ABlk.row 51 packRow hs md), (1, ABlk.cells 29 [AVal.sl 2 0 6 0 1 none, AVal.sl 3 0 1 0 1 none]), (2, ABlk.row 48 cutRow [CutR.mk ((2048 : Int) + (hs.getD (0 + i.toNat)
 noPack).cls % (3 : Int)) ([(1 : Int), (0 : Int), (1 : Int)].getD ((hs.getD (0 + i.toNat) noPack).lab % (3 : Int)).toNat (0 : Int)) ([[(97 : UInt8), (98 : UInt8), (99 : UInt8)], [(97 : UInt8), (98 :
 UInt8), (99 : UInt8), (100 : UInt8), (101 : UInt8), (102 : UInt8)], [(120 : UInt8), (121 : UInt8), (122 : UInt8)]].getD ((hs.getD (0 + i.toNat) noPack).lab % (3 : Int)).toNat []) (List.take (min
 (↑(hs.getD (0 + i.toNat) noPack).data.length : Int) (300 : Int)).toNat (hs.getD (0 + i.toNat) noPack).data ++ List.take ((1 : Int) + (hs.getD (0 + i.toNat) noPack).zeros % (5000 : Int)).toNat
 (List.drop 0 (repN ((1 : Int) + (hs.getD (0 + i.toNat) noPack).zeros % (5000 : Int)).toNat (0 : UInt8)))) ((hs.getD (0 + i.toNat) noPack).pos % (↑(List.take (min (↑(hs.getD (0 + i.toNat)
 noPack).data.length : Int) (300 : Int)).toNat (hs.getD (0 + i.toNat) noPack).data ++ List.take ((1 : Int) + (hs.getD (0 + i.toNat) noPack).zeros % (5000 : Int)).toNat (List.drop 0 (repN ((1 : Int) +
 (hs.getD (0 + i.toNat) noPack).zeros % (5000 : Int)).toNat (0 : UInt8)))).length : Int)) i] RowMd.plain), (3, ABlk.row 4 boolRow [BoolR.mk false] RowMd.plain)])))))))))))))))))) (obl (decide ((0 :
 Int) ≤ i ∧ i < (↑hs.length : Int))) (obl (decide (0 + i.toNat < hs.length)) (obl (decide ((0 : Int) ≤ (hs.getD (0 + i.toNat) noPack).cls ∧ (0 : Int) < (3 : Int))) (obl (inI64 ((hs.getD (0 + i.toNat)
 noPack).cls % (3 : Int))) (obl (inI64 ((2048 : Int) + (hs.getD (0 + i.toNat) noPack).cls % (3 : Int))) (obl (decide ((0 : Int) ≤ i ∧ i < (↑hs.length : Int))) (obl (decide (0 + i.toNat < hs.length))
 (obl (decide ((0 : Int) ≤ (hs.getD (0 + i.toNat) noPack).lab ∧ (0 : Int) < (3 : Int))) (obl (decide (0 + i.toNat < hs.length) && sameV (AVal.int IntKind.u8 (hs.getD (0 + i.toNat) noPack).lab)
 (AVal.int IntKind.u8 (hs.getD (0 + i.toNat) noPack).lab)) (obl (decide (0 + i.toNat < hs.length) && sameV (AVal.int IntKind.u8 (hs.getD (0 + i.toNat) noPack).cls) (AVal.int IntKind.u8 (hs.getD (0 +
 i.toNat) noPack).cls)) (obl (decide ((0 : Int) ≤ (hs.getD (0 + i.toNat) noPack).lab % (3 : Int) ∧ (hs.getD (0 + i.toNat) noPack).lab % (3 : Int) < (3 : Int))) (obl (inI64 (i + (1 : Int))) (Q
 AExit.normal [(0, AVal.sl 0 0 5 0 hs.length none), (3, AVal.ptr 1 0 0 0), (4, AVal.int IntKind.i64 (i + (1 : Int)))] (AHeap.mk 4 [(0, ABlk.row 51 packRow hs md), (1, ABlk.cells 29 [AVal.sl 2 0 6 0 1
 none, AVal.sl 3 0 1 0 1 none]), (2, ABlk.row 48 cutRow [CutR.mk ((2048 : Int) + (hs.getD (0 + i.toNat) noPack).cls % (3 : Int)) ([(1 : Int), (0 : Int), (1 : Int)].getD ((hs.getD (0 + i.toNat)
 noPack).lab % (3 : Int)).toNat (0 : Int)) ([[(97 : UInt8), (98 : UInt8), (99 : UInt8)], [(97 : UInt8), (98 : UInt8), (99 : UInt8), (100 : UInt8), (101 : UInt8), (102 : UInt8)], [(120 : UInt8), (121 :
 UInt8), (122 : UInt8)]].getD ((hs.getD (0 + i.toNat) noPack).lab % (3 : Int)).toNat []) (List.take (min (↑(hs.getD (0 + i.toNat) noPack).data.length : Int) (300 : Int)).toNat (hs.getD (0 + i.toNat)
 noPack).data ++ List.take ((1 : Int) + (hs.getD (0 + i.toNat) noPack).zeros % (5000 : Int)).toNat (List.drop 0 (repN ((1 : Int) + (hs.getD (0 + i.toNat) noPack).zeros % (5000 : Int)).toNat (0 :
 UInt8)))) (0 : Int) i] RowMd.plain), (3, ABlk.row 4 boolRow [BoolR.mk false] RowMd.plain)]))))))))))))))))))))))))))))))) (Q (AExit.exit 0) [(0, AVal.sl 0 0 5 0 hs.length none), (3, AVal.ptr 1 0 0 0),
 (4, AVal.int IntKind.i64 i)] (AHeap.mk 2 [(0, ABlk.row 51 packRow hs md), (1, ABlk.cells 29 [AVal.nils, AVal.nils])]))) (Q (AExit.exit 0) [(0, AVal.sl 0 0 5 0 hs.length none), (3, AVal.ptr 1 0 0 0),
 (4, AVal.int IntKind.i64 i)] (AHeap.mk 2 [(0, ABlk.row 51 packRow hs md), (1, ABlk.cells 29 [AVal.nils, AVal.nils])]))) := by kernel_rfl
set_option maxRecDepth 100000 in
theorem w_of_1 (hs : List PackR) (md : RowMd) (i : Int) (cs : List CutR) (ds : List BoolR) (Q : AExit → Env → AHeap → Prop) : (wpC (TX0.ctx Try.prog) 400 8 1 ofR (of1 hs md i cs ds).1 (of1 hs md i cs ds).2 (canQ 1 tsOf Q)
) = (branch (decide (i < (↑hs.length : Int))) (branch (decide (i < (30 : Int))) (obl (decide ((0 : Int) ≤ i ∧ i < (↑hs.length : Int))) (obl (decide (0 + i.toNat < hs.length)) (obl (decide ((0 : Int) ≤ i ∧
 i < (↑hs.length : Int))) (obl (decide (0 + i.toNat < hs.length)) (obl (decide ((0 : Int) ≤ min (↑(hs.getD (0 + i.toNat) noPack).data.length : Int) (300 : Int) ∧ min (↑(hs.getD (0 + i.toNat)
 noPack).data.length : Int) (300 : Int) ≤ (↑(hs.getD (0 + i.toNat) noPack).data.length : Int))) (obl (decide ((0 : Int) ≤ i ∧ i < (↑hs.length : Int))) (obl (decide (0 + i.toNat < hs.length)) (obl
 (inI64 (hs.getD (0 + i.toNat) noPack).zeros) (obl (decide ((0 : Int) ≤ (hs.getD (0 + i.toNat) noPack).zeros ∧ (0 : Int) < (5000 : Int))) (obl (inI64 ((1 : Int) + (hs.getD (0 + i.toNat) noPack).zeros %
 (5000 : Int))) (obl (decide ((0 : Int) ≤ (1 : Int) + (hs.getD (0 + i.toNat) noPack).zeros % (5000 : Int) ∧ (1 : Int) + (hs.getD (0 + i.toNat) noPack).zeros % (5000 : Int) = (1 : Int) + (hs.getD (0 +
 i.toNat) noPack).zeros % (5000 : Int) ∧ (1 : Int) + (hs.getD (0 + i.toNat) noPack).zeros % (5000 : Int) ≤ (9223372036854775807 : Int) ∧ (1 : Int) * ((1 : Int) + (hs.getD (0 + i.toNat) noPack).zeros %
 (5000 : Int)) ≤ (281474976710656 : Int) ∧ 1 = 1 ∧ 0 < 1)) (obl (decide (0 + ((1 : Int) + (hs.getD (0 + i.toNat) noPack).zeros % (5000 : Int)).toNat ≤ (repN ((1 : Int) + (hs.getD (0 + i.toNat)
 noPack).zeros % (5000 : Int)).toNat (0 : UInt8)).length)) (obl (decide ((↑((List.take (min (↑(hs.getD (0 + i.toNat) noPack).data.length : Int) (300 : Int)).toNat (hs.getD (0 + i.toNat)
 noPack).data).length + (List.take ((1 : Int) + (hs.getD (0 + i.toNat) noPack).zeros % (5000 : Int)).toNat (List.drop 0 (repN ((1 : Int) + (hs.getD (0 + i.toNat) noPack).zeros % (5000 : Int)).toNat (0
 : UInt8)))).length) : Int) ≤ (9223372036854775807 : Int))) (obl (decide ((0 : Int) ≤ i ∧ i < (↑hs.length : Int))) (obl (decide (0 + i.toNat < hs.length)) (obl (decide ((0 : Int) ≤ (hs.getD (0 +
 i.toNat) noPack).pos ∧ (0 : Int) < (4 : Int))) (branch (decide ((hs.getD (0 + i.toNat) noPack).pos % (4 : Int) = (0 : Int))) (obl (decide ((0 : Int) ≤ i ∧ i < (↑hs.length : Int))) (obl (decide (0 +
 i.toNat < hs.length)) (obl (inI64 (hs.getD (0 + i.toNat) noPack).pos) (obl (decide ((0 : Int) ≤ (hs.getD (0 + i.toNat) noPack).pos ∧ (0 : Int) < (↑(List.take (min (↑(hs.getD (0 + i.toNat)
 noPack).data.length : Int) (300 : Int)).toNat (hs.getD (0 + i.toNat) noPack).data ++ List.take ((1 : Int) + (hs.getD (0 + i.toNat) noPack).zeros % (5000 : Int)).toNat (List.drop 0 (repN ((1 : Int) +
 (hs.getD (0 + i.toNat) noPack).zeros % (5000 : Int)).toNat (0 : UInt8)))).length : Int))) (obl (decide ((0 : Int) ≤ i ∧ i < (↑hs.length : Int))) (obl (decide (0 + i.toNat < hs.length)) (obl (decide
 ((0 : Int) ≤ (hs.getD (0 + i.toNat) noPack).cls ∧ (0 : Int) < (3 : Int))) (obl (inI64 ((hs.getD (0 + i.toNat) noPack).cls % (3 : Int))) (obl (inI64 ((2048 : Int) + (hs.getD (0 + i.toNat) noPack).cls %
 (3 : Int))) (obl (decide ((0 : Int) ≤ i ∧ i < (↑hs.length : Int))) (obl (decide (0 + i.toNat < hs.length)) (obl (decide ((0 : Int) ≤ (hs.getD (0 + i.toNat) noPack).lab ∧ (0 : Int) < (3 : Int))) (obl
 (decide (0 + i.toNat < hs.length) && sameV (AVal.int IntKind.u8 (hs.getD (0 + i.toNat) noPack).lab) (AVal.int IntKind.u8 (hs.getD (0 + i.toNat) noPack).lab)) (obl (decide (0 + i.toNat < hs.length) &&
 sameV (AVal.int IntKind.u8 (hs.getD (0 + i.toNat) noPack).cls) (AVal.int IntKind.u8 (hs.getD (0 + i.toNat) noPack).cls)) (obl (true && sameV (AVal.sl 2 0 6 0 cs.length none) (AVal.sl 2 0 6 0 cs.length
 none)) (obl (decide ((0 : Int) ≤ (hs.getD (0 + i.toNat) noPack).lab % (3 : Int) ∧ (hs.getD (0 + i.toNat) noPack).lab % (3 : Int) < (3 : Int))) (obl (true && decide (cs.length = cs.length ∧ 6 = 6 ∧ 6 =
 6 ∧ 0 < 6 ∧ (cs ++ [CutR.mk ((2048 : Int) + (hs.getD (0 + i.toNat) noPack).cls % (3 : Int)) ([(1 : Int), (0 : Int), (1 : Int)].getD ((hs.getD (0 + i.toNat) noPack).lab % (3 : Int)).toNat (0 : Int))
 ([[(97 : UInt8), (98 : UInt8), (99 : UInt8)], [(97 : UInt8), (98 : UInt8), (99 : UInt8), (100 : UInt8), (101 : UInt8), (102 : UInt8)], [(120 : UInt8), (121 : UInt8), (122 : UInt8)]].getD ((hs.getD (0
 + i.toNat) noPack).lab % (3 : Int)).toNat []) (List.take (min (↑(hs.getD (0 + i.toNat) noPack).data.length : Int) (300 : Int)).toNat (hs.getD (0 + i.toNat) noPack).data ++ List.take ((1 : Int) +
 (hs.getD (0 + i.toNat) noPack).zeros % (5000 : Int)).toNat (List.drop 0 (repN ((1 : Int) + (hs.getD (0 + i.toNat) noPack).zeros % (5000 : Int)).toNat (0 : UInt8)))) ((hs.getD (0 + i.toNat) noPack).pos
 % (↑(List.take (min (↑(hs.getD (0 + i.toNat) noPack).data.length : Int) (300 : Int)).toNat (hs.getD (0 + i.toNat) noPack).data ++ List.take ((1 : Int) + (hs.getD (0 + i.toNat) noPack).zeros % (5000 :
 Int)).toNat (List.drop 0 (repN ((1 : Int) + (hs.getD (0 + i.toNat) noPack).zeros % (5000 : Int)).toNat (0 : UInt8)))).length : Int)) i]).length ≤ 9223372036854775807 ∧ (cs ++ [CutR.mk ((2048 : Int) +
 (hs.getD (0 + i.toNat) noPack).cls % (3 : Int)) ([(1 : Int), (0 : Int), (1 : Int)].getD ((hs.getD (0 + i.toNat) noPack).lab % (3 : Int)).toNat (0 : Int)) ([[(97 : UInt8), (98 : UInt8), (99 : UInt8)],
 [(97 : UInt8), (98 : UInt8), (99 : UInt8), (100 : UInt8), (101 : UInt8), (102 : UInt8)], [(120 : UInt8), (121 : UInt8), (122 : UInt8)]].getD ((hs.getD (0 + i.toNat) noPack).lab % (3 : Int)).toNat [])
 (List.take (min (↑(hs.getD (0 + i.toNat) noPack).data.length : Int) (300 : Int)).toNat (hs.getD (0 + i.toNat) noPack).data ++ List.take ((1 : Int) + (hs.getD (0 + i.toNat) noPack).zeros % (5000 :
 Int)).toNat (List.drop 0 (repN ((1 : Int) + (hs.getD (0 + i.toNat) noPack).zeros % (5000 : Int)).toNat (0 : UInt8)))) ((hs.getD (0 + i.toNat) noPack).pos % (↑(List.take (min (↑(hs.getD (0 + i.toNat)
 noPack).data.length : Int) (300 : Int)).toNat (hs.getD (0 + i.toNat) noPack).data ++ List.take ((1 : Int) + (hs.getD (0 + i.toNat) noPack).zeros % (5000 : Int)).toNat (List.drop 0 (repN ((1 : Int) +
 (hs.getD (0 + i.toNat) noPack).zeros % (5000 : Int)).toNat (0 : UInt8)))).length : Int)) i]).length * 64 ≤ 140737488355328)) (obl (true && decide (ds.length = ds.length ∧ 1 = 1 ∧ 1 = 1 ∧ 0 < 1 ∧ (ds
 ++ [BoolR.mk false]).length ≤ 9223372036854775807 ∧ (ds ++ [BoolR.mk false]).length * 1 ≤ 140737488355328)) (obl (inI64 (i + (1 : Int))) (Q AExit.normal [(0, AVal.sl 0 0 5 0 hs.length none), (3,
 AVal.ptr 1 0 0 0), (4, AVal.int IntKind.i64 (i + (1 : Int)))] (AHeap.mk 4 [(0, ABlk.row 51 packRow hs md), (1, ABlk.cells 29 [AVal.sl 2 0 6 0 (cs ++ [CutR.mk ((2048 : Int) + (hs.getD (0 + i.toNat)
 noPack).cls % (3 : Int)) ([(1 : Int), (0 : Int), (1 : Int)].getD ((hs.getD (0 + i.toNat) noPack).lab % (3 : Int)).toNat (0 : Int)) ([[(97 : UInt8), (98 : UInt8), (99 : UInt8)], [(97 : UInt8), (98 :
 UInt8), (99 : UInt8), (100 : UInt8), (101 : UInt8), (102 : UInt8)], [(120 : UInt8), (121 : UInt8), (122 : UInt8)]].getD ((hs.getD (0 + i.toNat) noPack).lab % (3 : Int)).toNat []) (List.take (min
 (↑(hs.getD (0 + i.toNat) noPack).data.length : Int) (300 : Int)).toNat (hs.getD (0 + i.toNat) noPack).data ++ List.take ((1 : Int) + (hs.getD (0 + i.toNat) noPack).zeros % (5000 : Int)).toNat
 (List.drop 0 (repN ((1 : Int) + (hs.getD (0 + i.toNat) noPack).zeros % (5000 : Int)).toNat (0 : UInt8)))) ((hs.getD (0 + i.toNat) noPack).pos % (↑(List.take (min (↑(hs.getD (0 + i.toNat)
 noPack).data.length : Int) (300 : Int)).toNat (hs.getD (0 + i.toNat) noPack).data ++ List.take ((1 : Int) + (hs.getD (0 + i.toNat) noPack).zeros % (5000 : Int)).toNat (List.drop 0 (repN ((1 : Int) +
 (hs.getD (0 + i.toNat) noPack).zeros % (5000 : Int)).toNat (0 : UInt8)))).length : Int)) i]).length none, AVal.sl 3 0 1 0 (ds ++ [BoolR.mk false]).length none]), (2, ABlk.row 48 cutRow (cs ++ [CutR.mk
 ((2048 : Int) + (hs.getD (0 + i.toNat) noPack).cls % (3 : Int)) ([(1 : Int), (0 : Int), (1 : Int)].getD ((hs.getD (0 + i.toNat) noPack).lab % (3 : Int)).toNat (0 : Int)) ([[(97 : UInt8), (98 : UInt8),
 (99 : UInt8)], [(97 : UInt8), (98 : UInt8), (99 : UInt8), (100 : UInt8), (101 : UInt8), (102 : UInt8)], [(120 : UInt8), (121 : UInt8), (122 : UInt8)]].getD ((hs.getD (0 + i.toNat) noPack).lab % (3 :
 Int)).toNat []) (List.take (min (↑(hs.getD (0 + i.toNat) noPack).data.length : Int) (300 : Int)).toNat (hs.getD (0 + i.toNat) noPack).data ++ List.take ((1 : Int) + (hs.getD (0 + i.toNat)
 noPack).zeros % (5000 : Int)).toNat (List.drop 0 (repN ((1 : Int) + (hs.getD (0 + i.toNat) noPack).zeros % (5000 : Int)).toNat (0 : UInt8)))) ((hs.getD (0 + i.toNat) noPack).pos % (↑(List.take (min
 (↑(hs.getD (0 + i.toNat) noPack).data.length : Int) (300 : Int)).toNat (hs.getD (0 + i.toNat) noPack).data ++ List.take ((1 : Int) + (hs.getD (0 + i.toNat) noPack).zeros % (5000 : Int)).toNat
 (List.drop 0 (repN ((1 : Int) + (hs.getD (0 + i.toNat) noPack).zeros % (5000 : Int)).toNat (0 : UInt8)))).length : Int)) i]) RowMd.plain), (3, ABlk.row 4 boolRow (ds ++ [BoolR.mk false])
 RowMd.plain)]))))))))))))))))))))) (obl (decide ((0 : Int) ≤ i ∧ i < (↑hs.length : Int))) (obl (decide (0 + i.toNat < hs.length)) (obl (decide ((0 : Int) ≤ (hs.getD (0 + i.toNat) noPack).cls ∧ (0 :
 Int) < (3 : Int))) (obl (inI64 ((hs.getD (0 + i.toNat) noPack).cls % (3 : Int))) (obl (inI64 ((2048 : Int) + (hs.getD (0 + i.toNat) noPack).cls % (3 : Int))) (obl (decide ((0 : Int) ≤ i ∧ i <
 (↑hs.length : Int))) (obl (decide (0 + i.toNat < hs.length)) (obl (decide ((0 : Int) ≤ (hs.getD (0 + i.toNat) noPack).lab ∧ (0 : Int) < (3 : Int))) (obl (decide (0 + i.toNat < hs.length) && sameV
 (AVal.int IntKind.u8 (hs.getD (0 + i.toNat) noPack).lab) (AVal.int IntKind.u8 (hs.getD (0 + i.toNat) noPack).lab)) (obl (decide (0 + i.toNat < hs.length) && sameV (AVal.int IntKind.u8 (hs.getD (0 +
 i.toNat) noPack).cls) (AVal.int IntKind.u8 (hs.getD (0 + i.toNat) noPack).cls)) (obl (true && sameV (AVal.sl 2 0 6 0 cs.length none) (AVal.sl 2 0 6 0 cs.length none)) (obl (decide ((0 : Int) ≤
 (hs.getD (0 + i.toNat) noPack).lab % (3 : Int) ∧ (hs.getD (0 + i.toNat) noPack).lab % (3 : Int) < (3 : Int))) (obl (true && decide (cs.length = cs.length ∧ 6 = 6 ∧ 6 = 6 ∧ 0 < 6 ∧ (cs ++ [CutR.mk
 ((2048 : Int) + (hs.getD (0 + i.toNat) noPack).cls % (3 : Int)) ([(1 : Int), (0 : Int), (1 : Int)].getD ((hs.getD (0 + i.toNat) noPack).lab % (3 : Int)).toNat (0 : Int)) ([[(97 : UInt8), (98 : UInt8),
 (99 : UInt8)], [(97 : UInt8), (98 : UInt8), (99 : UInt8), (100 : UInt8), (101 : UInt8), (102 : UInt8)], [(120 : UInt8), (121 : UInt8), (122 : UInt8)]].getD ((hs.getD (0 + i.toNat) noPack).lab % (3 :
 Int)).toNat []) (List.take (min (↑(hs.getD (0 + i.toNat) noPack).data.length : Int) (300 : Int)).toNat (hs.getD (0 + i.toNat) noPack).data ++ List.take ((1 : Int) + (hs.getD (0 + i.toNat)
 noPack).zeros % (5000 : Int)).toNat (List.drop 0 (repN ((1 : Int) + (hs.getD (0 + i.toNat) noPack).zeros % (5000 : Int)).toNat (0 : UInt8)))) (0 : Int) i]).length ≤ 9223372036854775807 ∧ (cs ++
 [CutR.mk ((2048 : Int) + (hs.getD (0 + i.toNat) noPack).cls % (3 : Int)) ([(1 : Int), (0 : Int), (1 : Int)].getD ((hs.getD (0 + i.toNat) noPack).lab % (3 : Int)).toNat (0 : Int)) ([[(97 : UInt8), (98
 : UInt8), (99 : UInt8)], [(97 : UInt8), (98 : UInt8), (99 : UInt8), (100 : UInt8), (101 : UInt8), (102 : UInt8)], [(120 : UInt8), (121 : UInt8), (122 : UInt8)]].getD ((hs.getD (0 + i.toNat)
 noPack).lab % (3 : Int)).toNat []) (List.take (min (↑(hs.getD (0 + i.toNat) noPack).data.length : Int) (300 : Int)).toNat (hs.getD (0 + i.toNat) noPack).data ++ List.take ((1 : Int) + (hs.getD (0 +
 i.toNat) noPack).zeros % (5000 : Int)).toNat (List.drop 0 (repN ((1 : Int) + (hs.getD (0 + i.toNat) noPack).zeros % (5000 : Int)).toNat (0 : UInt8)))) (0 : Int) i]).length * 64 ≤ 140737488355328))
 (obl (true && decide (ds.length = ds.length ∧ 1 = 1 ∧ 1 = 1 ∧ 0 < 1 ∧ (ds ++ [BoolR.mk false]).length ≤ 9223372036854775807 ∧ (ds ++ [BoolR.mk false]).length * 1 ≤ 140737488355328)) (obl (inI64 (i +
 (1 : Int))) (Q AExit.normal [(0, AVal.sl 0 0 5 0 hs.length none), (3, AVal.ptr 1 0 0 0), (4, AVal.int IntKind.i64 (i + (1 : Int)))] (AHeap.mk 4 [(0, ABlk.row 51 packRow hs md), (1, ABlk.cells 29
 [AVal.sl 2 0 6 0 (cs ++ [CutR.mk ((2048 : Int) + (hs.getD (0 + i.toNat) noPack).cls % (3 : Int)) ([(1 : Int), (0 : Int), (1 : Int)].getD ((hs.getD (0 + i.toNat) noPack).lab % (3 : Int)).toNat (0 :
 Int)) ([[(97 : UInt8), (98 : UInt8), (99 : UInt8)], [(97 : UInt8), (98 : UInt8), (99 : UInt8), (100 : UInt8), (101 : UInt8), (102 : UInt8)], [(120 : UInt8), (121 : UInt8), (122 : UInt8)]].getD
 ((hs.getD (0 + i.toNat) noPack).lab % (3 : Int)).toNat []) (List.take (min (↑(hs.getD (0 + i.toNat) noPack).data.length : Int) (300 : Int)).toNat (hs.getD (0 + i.toNat) noPack).data ++ List.take ((1 :
 Int) + (hs.getD (0 + i.toNat) noPack).zeros % (5000 : Int)).toNat (List.drop 0 (repN ((1 : Int) + (hs.getD (0 + i.toNat) noPack).zeros % (5000 : Int)).toNat (0 : UInt8)))) (0 : Int) i]).length none,
 AVal.sl 3 0 1 0 (ds ++ [BoolR.mk false]).length none]), (2, ABlk.row 48 cutRow (cs ++ [CutR.mk ((2048 : Int) + (hs.getD (0 + i.toNat) noPack).cls % (3 : Int)) ([(1 : Int), (0 : Int), (1 : Int)].getD
 ((hs.getD (0 + i.toNat) noPack).lab % (3 : Int)).toNat (0 : Int)) ([[(97 : UInt8), (98 : UInt8), (99 : UInt8)], [(97 : UInt8), (98 : UInt8), (99 : UInt8), (100 : UInt8), (101 : UInt8), (102 : UInt8)],
 [(120 : UInt8), (121 : UInt8), (122 : UInt8)]].getD ((hs.getD (0 + i.toNat) noPack).lab % (3 : Int)).toNat []) (List.take (min (↑(hs.getD (0 + i.toNat) noPack).data.length : Int) (300 : Int)).toNat
 (hs.getD (0 + i.toNat) noPack).data ++ List.take ((1 : Int) + (hs.getD (0 + i.toNat) noPack).zeros % (5000 : Int)).toNat (List.drop 0 (repN ((1 : Int) + (hs.getD (0 + i.toNat) noPack).zeros % (5000 :
 Int)).toNat (0 : UInt8)))) (0 : Int) i]) RowMd.plain), (3, ABlk.row 4 boolRow (ds ++ [BoolR.mk false]) RowMd.plain)])))))))))))))))))))))))))))))))))) (Q (AExit.exit 0) [(0, AVal.sl 0 0 5 0 hs.length
 none), (3, AVal.ptr 1 0 0 0), (4, AVal.int IntKind.i64 i)] (AHeap.mk 4 [(0, ABlk.row 51 packRow hs md), (1, ABlk.cells 29 [AVal.sl 2 0 6 0 cs.length none, AVal.sl 3 0 1 0 ds.length none]), (2,
 ABlk.row 48 cutRow cs RowMd.plain), (3, ABlk.row 4 boolRow ds RowMd.plain)]))) (Q (AExit.exit 0) [(0, AVal.sl 0 0 5 0 hs.length none), (3, AVal.ptr 1 0 0 0), (4, AVal.int IntKind.i64 i)] (AHeap.mk 4
 [(0, ABlk.row 51 packRow hs md), (1, ABlk.cells 29 [AVal.sl 2 0 6 0 cs.length none, AVal.sl 3 0 1 0 ds.length none]), (2, ABlk.row 48 cutRow cs RowMd.plain), (3, ABlk.row 4 boolRow ds RowMd.plain)]))) := by kernel_rfl
set_option maxRecDepth 100000 in
theorem w_of_end0 (hs : List PackR) (md : RowMd) (i : Int) (K : Out → AHeap → Prop) : (wpC (TX0.ctx Try.prog) 400 8 1 (seqR (tailN 2 ofB)) (of0 hs md i).1 (of0 hs md i).2 (canQ 1 tsP2 (endA (TX0.ctx Try.prog).P Try.f8 K))
) = (K (Out.ret (AVal.ptr 1 0 0 0)) (AHeap.mk 2 [(0, ABlk.row 51 packRow hs md), (1, ABlk.cells 29 [AVal.nils, AVal.nils])])) := by kernel_rfl
set_option maxRecDepth 100000 in
theorem w_of_end1 (hs : List PackR) (md : RowMd) (i : Int) (cs : List CutR) (ds : List BoolR) (K : Out → AHeap → Prop) : (wpC (TX0.ctx Try.prog) 400 8 1 (seqR (tailN 2 ofB)) (of1 hs md i cs ds).1 (of1 hs md i cs ds).2 (canQ 1 tsP2 (endA (TX0.ctx Try.prog).P Try.f8 K))
) = (K (Out.ret (AVal.ptr 1 0 0 0)) (AHeap.mk 4 [(0, ABlk.row 51 packRow hs md), (1, ABlk.cells 29 [AVal.sl 2 0 6 0 cs.length none, AVal.sl 3 0 1 0 ds.length none]), (2, ABlk.row 48 cutRow cs
 RowMd.plain), (3, ABlk.row 4 boolRow ds RowMd.plain)])) := by kernel_rfl
set_option maxRecDepth 100000 in
theorem w_of_set (hs : List PackR) (md : RowMd) (Q : AExit → Env → AHeap → Prop) : (wpC (TX0.ctx Try.prog) 400 8 1 (seqL (seqL (tailN 2 ofB))) [(0, .sl 0 0 5 0 hs.length none), (3, .ptr 1 0 0 0)] (of0 hs md 0).2 (canQ 1 tsOf Q)
) = (Q AExit.normal [(0, AVal.sl 0 0 5 0 hs.length none), (3, AVal.ptr 1 0 0 0), (4, AVal.int IntKind.i64 (0 : Int))] (AHeap.mk 2 [(0, ABlk.row 51 packRow hs md), (1, ABlk.cells 29 [AVal.nils,
 AVal.nils])])) := by kernel_rfl
end Go.Proofs.Ytjacnjecggedhaa
namespace Go.Proofs.Ytjacnjecggedhaa
set_option linter.unusedVariables false
set_option linter.unusedSimpArgs false
open Go.RowKit Ev
noncomputable def ofD (x : PackR) : List UInt8 := List.take (min (x.data.length : Int) 300).toNat x.data ++ List.take (1 + x.zeros % 5000).toNat (List.drop 0 (repN (1 + x.zeros % 5000).toNat 0))
noncomputable def cutOf (i : Int) (x : PackR) : CutR := ⟨2048 + x.cls % 3, [1, 0, 1].getD (x.lab % 3).toNat 0, [[97, 98, 99], [97, 98, 99, 100, 101, 102], [120, 121, 122]].getD (x.lab % 3).toNat [], ofD x, if x.pos % 4 = 0 then x.pos % ((ofD x).length : Int) else 0, i⟩
noncomputable def ofN (hs : List PackR) (n : Nat) : List CutR := (List.range n).map fun (j : Nat) => cutOf j (hs.getD j noPack)
def dsN (n : Nat) : List BoolR := List.replicate n ⟨false⟩
structure PackOk (x : PackR) : Prop where
  c0 : 0 ≤ x.cls
  c1 : x.cls ≤ 255
  l0 : 0 ≤ x.lab
  l1 : x.lab ≤ 255
  p0 : 0 ≤ x.pos
  p1 : x.pos ≤ 255
  z0 : 0 ≤ x.zeros
  z1 : x.zeros ≤ 65535
theorem ofN_succ (hs : List PackR) (n : Nat) : ofN hs (n + 1) = ofN hs n ++ [cutOf n (hs.getD n noPack)] := by
  unfold ofN; rw [List.range_succ, List.map_append]; rfl
theorem dsN_succ (n : Nat) : dsN (n + 1) = dsN n ++ [⟨false⟩] := List.replicate_succ' ..
theorem ofN_length (hs : List PackR) (n : Nat) : (ofN hs n).length = n := by unfold ofN; simp
theorem dsN_length (n : Nat) : (dsN n).length = n := by unfold dsN; simp
theorem ofD_length {x : PackR} (h : PackOk x) : 1 ≤ (ofD x).length ∧ (ofD x).length ≤ 5300 := by
  have h0 := h.z0
  have hz : 0 ≤ x.zeros % 5000 ∧ x.zeros % 5000 < 5000 := by omega
  unfold ofD
  rw [List.length_append, List.length_take, List.length_take, List.drop_zero, repN_eq, List.length_replicate]
  omega
def pOk (hs : List PackR) : Prop := ∀ x ∈ hs, PackOk x
theorem getD_ok {hs : List PackR} (h : pOk hs) {i : Nat} (hi : i < hs.length) : PackOk (hs.getD i noPack) := by
  rw [List.getD_eq_getElem?_getD, List.getElem?_eq_getElem hi]
  exact h _ (List.getElem_mem hi)
def ofI (hs : List PackR) (md : RowMd) (m : Nat) (E : Env) (H : AHeap) : Prop :=
  ∃ i : Nat, i ≤ hs.length ∧ i ≤ 30 ∧ m = 30 - i ∧ ((i = 0 ∧ E = (of0 hs md i).1 ∧ H = (of0 hs md i).2) ∨ (1 ≤ i ∧ E = (of1 hs md i (ofN hs i) (dsN i)).1 ∧ H = (of1 hs md i (ofN hs i) (dsN i)).2))
def ofF (hs : List PackR) (md : RowMd) : AExit → Env → AHeap → Prop := fun x E H => match x with
  | .exit 0 => ∃ i : Nat, i = min hs.length 30 ∧ ((i = 0 ∧ E = (of0 hs md i).1 ∧ H = (of0 hs md i).2) ∨ (1 ≤ i ∧ E = (of1 hs md i (ofN hs i) (dsN i)).1 ∧ H = (of1 hs md i (ofN hs i) (dsN i)).2))
  | _ => False
theorem ofIn (p : List Bool) : InFn (TX0.ctx Try.prog) 8 (codeAt p ofB) :=
  inFn_at TX0ok.ctx (fn := Try.f8) (by kernel_rfl) (by kernel_rfl) p
abbrev OGd (hs : List PackR) (md : RowMd) (c : Code) (Q : AExit → Env → AHeap → Prop) (E : Env) (H : AHeap) : Prop := Gd (TX0.ctx Try.prog) 8 ⟨1, [(0, pRow hs md)]⟩ c Q E H
set_option maxRecDepth 100000 in
theorem of_loop (hs : List PackR) (md : RowMd) (hp : pOk hs) : ∀ m E H, ofI hs md m E H → OGd hs md (.loop ofR) (ofF hs md) E H := by
  refine Gd.loop (ofI hs md) (fun m E H hI => ?_)
  obtain ⟨i, hi, hi30, hm, h⟩ := hI
  have idx : (0 + (i : Int).toNat) = i := by omega
  have inn : ∀ n : Int, -100000 ≤ n → n ≤ 100000 → inI64 n = true := fun n h1 h2 => inI64_iff.2 ⟨by omega, by omega⟩
  rcases h with ⟨hz, rfl, rfl⟩ | ⟨h1, rfl, rfl⟩
  · refine Gd.walkC TX0ok.ctx 1 tsOf (Nat.le_refl _) (ofIn [true, true, false, true, false, false]) (Eq.mpr (w_of_0 hs md i _) ?_)
    rw [branch_iff]
    refine ⟨fun hl => ?_, fun hl => ⟨i, ?_, .inl ⟨hz, rfl, rfl⟩⟩⟩
    rotate_left
    · have := of_decide_eq_false hl; omega
    rw [branch_iff]
    refine ⟨fun hl2 => ?_, fun hl2 => ⟨i, ?_, .inl ⟨hz, rfl, rfl⟩⟩⟩
    rotate_left
    · have := of_decide_eq_false hl2; omega
    have hl := of_decide_eq_true hl
    have hx := getD_ok hp (i := i) (by omega)
    rw [idx]
    generalize hxe : hs.getD i noPack = x
    have hxe' : hs.getD i noPack = x := hxe
    rw [hxe'] at hx
    have hD : List.take (min (x.data.length : Int) 300).toNat x.data ++ List.take (1 + x.zeros % 5000).toNat (List.drop 0 (repN (1 + x.zeros % 5000).toNat 0)) = ofD x := rfl
    rw [hD]
    have leaf : ∀ c, c = cutOf i x → ∃ m', m' < m ∧ ofI hs md m' (of1 hs md ((i : Int) + 1) [c] [⟨false⟩]).1 (of1 hs md ((i : Int) + 1) [c] [⟨false⟩]).2 := by
      rintro c rfl
      refine ⟨30 - (i + 1), by omega, i + 1, by omega, by omega, rfl, .inr ⟨by omega, ?_, ?_⟩⟩ <;> rw [ofN_succ, dsN_succ, hxe'] <;> subst hz <;> rfl
    have d1 := ofD_length hx
    obtain ⟨c0, c1, l0, l1, p0, p1, z0, z1⟩ := hx
    have r1 : 0 + (1 + x.zeros % 5000).toNat ≤ (repN (1 + x.zeros % 5000).toNat (0 : UInt8)).length := by rw [repN_eq, List.length_replicate]; omega
    have r2 : (((List.take (min (x.data.length : Int) 300).toNat x.data).length + (List.take (1 + x.zeros % 5000).toNat (List.drop 0 (repN (1 + x.zeros % 5000).toNat (0 : UInt8)))).length : Nat) : Int) ≤ 9223372036854775807 := by
      rw [List.length_take, List.length_take, List.drop_zero, repN_eq, List.length_replicate]
      omega
    have s1 : sameV (.int .u8 x.lab) (.int .u8 x.lab) = true := by simp [sameV]
    have s2 : sameV (.int .u8 x.cls) (.int .u8 x.cls) = true := by simp [sameV]
    (repeat (first | refine obl_dec (by omega) ?_ | refine obl_int (by omega) ?_ | refine obl_mk (decide_eq_true r1) ?_ | refine obl_mk (decide_eq_true r2) ?_ | refine obl_and (by omega) s1 ?_ | refine obl_and (by omega) s2 ?_))
    refine br_dec (fun hp4 => ?_) (fun hp4 => ?_)
    · (repeat (first | refine obl_dec (by omega) ?_ | refine obl_int (by omega) ?_ | refine obl_mk (decide_eq_true r1) ?_ | refine obl_mk (decide_eq_true r2) ?_ | refine obl_and (by omega) s1 ?_ | refine obl_and (by omega) s2 ?_))
      exact leaf _ (by unfold cutOf; rw [if_pos hp4])
    · (repeat (first | refine obl_dec (by omega) ?_ | refine obl_int (by omega) ?_ | refine obl_mk (decide_eq_true r1) ?_ | refine obl_mk (decide_eq_true r2) ?_ | refine obl_and (by omega) s1 ?_ | refine obl_and (by omega) s2 ?_))
      exact leaf _ (by unfold cutOf; rw [if_neg hp4])
  · refine Gd.walkC TX0ok.ctx 1 tsOf (Nat.le_refl _) (ofIn [true, true, false, true, false, false]) (Eq.mpr (w_of_1 hs md i (ofN hs i) (dsN i) _) ?_)
    rw [branch_iff]
    refine ⟨fun hl => ?_, fun hl => ⟨i, ?_, .inr ⟨h1, rfl, rfl⟩⟩⟩
    rotate_left
    · have := of_decide_eq_false hl; omega
    rw [branch_iff]
    refine ⟨fun hl2 => ?_, fun hl2 => ⟨i, ?_, .inr ⟨h1, rfl, rfl⟩⟩⟩
    rotate_left
    · have := of_decide_eq_false hl2; omega
    have hl := of_decide_eq_true hl
    have hl3 := of_decide_eq_true hl2
    have hx := getD_ok hp (i := i) (by omega)
    rw [idx]
    generalize hxe : hs.getD i noPack = x
    have hxe' : hs.getD i noPack = x := hxe
    rw [hxe'] at hx
    have hD : List.take (min (x.data.length : Int) 300).toNat x.data ++ List.take (1 + x.zeros % 5000).toNat (List.drop 0 (repN (1 + x.zeros % 5000).toNat 0)) = ofD x := rfl
    rw [hD]
    have leaf : ∀ c, c = cutOf i x → ∃ m', m' < m ∧ ofI hs md m' (of1 hs md ((i : Int) + 1) (ofN hs i ++ [c]) (dsN i ++ [⟨false⟩])).1 (of1 hs md ((i : Int) + 1) (ofN hs i ++ [c]) (dsN i ++ [⟨false⟩])).2 := by
      rintro c rfl
      refine ⟨30 - (i + 1), by omega, i + 1, by omega, by omega, rfl, .inr ⟨by omega, ?_, ?_⟩⟩ <;> rw [ofN_succ, dsN_succ, hxe'] <;> rfl
    have d1 := ofD_length hx
    obtain ⟨c0, c1, l0, l1, p0, p1, z0, z1⟩ := hx
    have r1 : 0 + (1 + x.zeros % 5000).toNat ≤ (repN (1 + x.zeros % 5000).toNat (0 : UInt8)).length := by rw [repN_eq, List.length_replicate]; omega
    have r2 : (((List.take (min (x.data.length : Int) 300).toNat x.data).length + (List.take (1 + x.zeros % 5000).toNat (List.drop 0 (repN (1 + x.zeros % 5000).toNat (0 : UInt8)))).length : Nat) : Int) ≤ 9223372036854775807 := by
      rw [List.length_take, List.length_take, List.drop_zero, repN_eq, List.length_replicate]
      omega
    have n1 := ofN_length hs i
    have n2 := dsN_length i
    have s3 : sameV (.sl 2 0 6 0 (ofN hs i).length none) (.sl 2 0 6 0 (ofN hs i).length none) = true := by simp [sameV]
    have q1 : ∀ c : CutR, (ofN hs i).length = (ofN hs i).length ∧ 6 = 6 ∧ 6 = 6 ∧ 0 < 6 ∧ (ofN hs i ++ [c]).length ≤ 9223372036854775807 ∧ (ofN hs i ++ [c]).length * 64 ≤ 140737488355328 := fun c => ⟨rfl, rfl, rfl, by omega, by rw [List.length_append, n1]; simp only [List.length_cons, List.length_nil]; omega, by rw [List.length_append, n1]; simp only [List.length_cons, List.length_nil]; omega⟩
    have q2 : (dsN i).length = (dsN i).length ∧ 1 = 1 ∧ 1 = 1 ∧ 0 < 1 ∧ (dsN i ++ [(⟨false⟩ : BoolR)]).length ≤ 9223372036854775807 ∧ (dsN i ++ [(⟨false⟩ : BoolR)]).length * 1 ≤ 140737488355328 := ⟨rfl, rfl, rfl, by omega, by rw [List.length_append, n2]; simp only [List.length_cons, List.length_nil]; omega, by rw [List.length_append, n2]; simp only [List.length_cons, List.length_nil]; omega⟩
    have s1 : sameV (.int .u8 x.lab) (.int .u8 x.lab) = true := by simp [sameV]
    have s2 : sameV (.int .u8 x.cls) (.int .u8 x.cls) = true := by simp [sameV]
    (repeat (first | refine obl_dec (by omega) ?_ | refine obl_int (by omega) ?_ | refine obl_mk (decide_eq_true r1) ?_ | refine obl_mk (decide_eq_true r2) ?_ | refine obl_and (by omega) s1 ?_ | refine obl_and (by omega) s2 ?_ | refine obl_tt s3 ?_ | refine obl_tt (decide_eq_true (q1 _)) ?_ | refine obl_tt (decide_eq_true q2) ?_))
    refine br_dec (fun hp4 => ?_) (fun hp4 => ?_)
    · (repeat (first | refine obl_dec (by omega) ?_ | refine obl_int (by omega) ?_ | refine obl_mk (decide_eq_true r1) ?_ | refine obl_mk (decide_eq_true r2) ?_ | refine obl_and (by omega) s1 ?_ | refine obl_and (by omega) s2 ?_ | refine obl_tt s3 ?_ | refine obl_tt (decide_eq_true (q1 _)) ?_ | refine obl_tt (decide_eq_true q2) ?_))
      exact leaf _ (by unfold cutOf; rw [if_pos hp4])
    · (repeat (first | refine obl_dec (by omega) ?_ | refine obl_int (by omega) ?_ | refine obl_mk (decide_eq_true r1) ?_ | refine obl_mk (decide_eq_true r2) ?_ | refine obl_and (by omega) s1 ?_ | refine obl_and (by omega) s2 ?_ | refine obl_tt s3 ?_ | refine obl_tt (decide_eq_true (q1 _)) ?_ | refine obl_tt (decide_eq_true q2) ?_))
      exact leaf _ (by unfold cutOf; rw [if_neg hp4])
def fOf (s : List PackR × RowMd) (K : Out → AHeap → Prop) : Prop := pOk s.1 ∧
  branch (decide (s.1.length = 0)) (K (.ret (.ptr 1 0 0 0)) ⟨2, [(0, pRow s.1 s.2), (1, srcB .nils .nils)]⟩)
    (K (.ret (.ptr 1 0 0 0)) ⟨4, [(0, pRow s.1 s.2), (1, srcB (.sl 2 0 6 0 (ofN s.1 (min s.1.length 30)).length none) (.sl 3 0 1 0 (dsN (min s.1.length 30)).length none)), (2, cRow (ofN s.1 (min s.1.length 30))), (3, dRow (dsN (min s.1.length 30)))]⟩)
theorem ofB_eq : tailN 2 ofB = .seq (.seq (seqL (seqL (tailN 2 ofB))) (.block 0 (.loop ofR))) (seqR (tailN 2 ofB)) := by kernel_rfl
set_option maxRecDepth 100000 in
theorem of_good (hs : List PackR) (md : RowMd) (K : Out → AHeap → Prop) (hK : fOf (hs, md) K) : OGd hs md ofB (endA (TX0.ctx Try.prog).P Try.f8 K) (env0 [.sl 0 0 5 0 hs.length none] 0) ⟨1, [(0, pRow hs md)]⟩ := by
  obtain ⟨hp, hK⟩ := hK
  refine Gd.walkN TX0ok.ctx (base := 1) (Nat.le_refl _) (It := fun E H => canonK 1 [0, 3] E H (fun E H => E = [(0, .sl 0 0 5 0 hs.length none), (3, .ptr 1 0 0 0)] ∧ H = (of0 hs md 0).2)) 2 400 _ _ _ (by kernel_rfl) (ofIn []) (Eq.mpr (w_of_pre hs md _ _) ⟨rfl, rfl⟩) (fun E H h => ?_)
  obtain ⟨E', H', σ, ⟨rfl, rfl⟩, g2, g3, g4, g5, g6⟩ := canonK_ok h
  refine Gd.sub (base := 1) (Nat.le_refl _) g6 ?_ g2 g3 g4 g5
  rw [ofB_eq]
  refine Gd.seq (Gd.seq (Gd.walkC TX0ok.ctx 1 tsOf (Nat.le_refl _) (ofIn [true, true, false, false]) (Eq.mpr (w_of_set hs md _) ?_)))
  refine Gd.block (Gd.mono (of_loop hs md hp 30 _ _ ⟨0, Nat.zero_le _, Nat.zero_le _, rfl, .inl ⟨rfl, rfl, rfl⟩⟩) (fun x E H h => ?_))
  unfold ofF at h
  split at h
  · obtain ⟨i, hi, ⟨hz, rfl, rfl⟩ | ⟨h1, rfl, rfl⟩⟩ := h
    · refine Gd.walkC TX0ok.ctx 1 tsP2 (Nat.le_refl _) (ofIn [true, true, true]) (Eq.mpr (w_of_end0 hs md i K) ?_)
      exact (branch_iff.1 hK).1 (decide_eq_true (by show hs.length = 0; omega))
    · refine Gd.walkC TX0ok.ctx 1 tsP2 (Nat.le_refl _) (ofIn [true, true, true]) (Eq.mpr (w_of_end1 hs md i _ _ K) ?_)
      have := (branch_iff.1 hK).2 (decide_eq_false (by show ¬ hs.length = 0; omega))
      rw [← hi] at this
      exact this
  · exact h.elim
def decOf (args : List AVal) (H : AHeap) : Option (List (Nat × Nat) × (ABlk × Nat)) := match args with
  | [.sl b 0 5 0 n none] => match H.get b with
    | some (.row e T l md) => some ([(0, b)], (.row e T l md, n))
    | _ => none
  | _ => none
theorem decOf_ok : DecOk decOf (fun (s : ABlk × Nat) => [.sl 0 0 5 0 s.2 none]) (fun (s : ABlk × Nat) => ⟨1, [(0, s.1)]⟩) := by
  refine ⟨fun args H σ s h hb hH => ?_⟩
  unfold decOf at h
  split at h
  · rename_i b n
    split at h
    · rename_i e T l md hg
      simp only [Option.some.injEq, Prod.mk.injEq] at h
      obtain ⟨rfl, rfl⟩ := h
      refine ⟨rfl, rfl, fun c x hx => ?_, fun c c' hc hc' hne => ?_, fun c hc => ?_⟩
      · obtain ⟨rfl, hx⟩ := get_one hx
        cases hx
        exact ⟨Nat.one_pos, rfl, hg⟩
      · have h1 : c < 1 := hc
        have h2 : c' < 1 := hc'
        omega
      · have h1 : c < 1 := hc
        obtain rfl : c = 0 := by omega
        exact (hH b _ hg).1
    · cases h
  · cases h
noncomputable def gcOf (hs : List PackR) (md : RowMd) : GC := gcSub decOf (fun (s : ABlk × Nat) => ⟨1, [(0, s.1)]⟩) (fun s K => (s.1 = pRow hs md ∧ s.2 = hs.length) ∧ fOf (hs, md) K)
theorem gcOf_sound (hs : List PackR) (md : RowMd) : GcSound Try.prog 8 (gcOf hs md) := by
  refine gc_sub Try.call8 decOf_ok (fun s k hk ρ w hR hb => ?_)
  obtain ⟨blk, n⟩ := s
  obtain ⟨⟨h1, h2⟩, hk⟩ := hk
  simp only at h1 h2
  subst h1
  subst h2
  exact fn_good TX0ok.ctx (fn := Try.f8) (by kernel_rfl) (by kernel_rfl) (of_good hs md k hk) hR hb
end Go.Proofs.Ytjacnjecggedhaa
namespace Go.Proofs.Ytjacnjecggedhaa
set_option linter.unusedVariables false
set_option linter.unusedSimpArgs false
open Go.RowKit Ev
noncomputable abbrev moB : Code := bodyC Try.f76
noncomputable abbrev moR : Code := codeAt [true, false, true, false, false] moB
def srcH (cs : List CutR) (ds : List BoolR) : List (Nat × ABlk) := [(0, srcB (.sl 1 0 6 0 cs.length none) (.sl 2 0 1 0 ds.length none)), (1, cRow cs), (2, dRow ds)]
def moE (no : Int) : Env := [(0, .ptr 0 0 0 0), (1, .int .u64 no), (2, .int .i64 7)]
def moE8 (no i : Int) : Env := [(0, .ptr 0 0 0 0), (1, .int .u64 no), (2, .int .i64 7), (8, .int .i64 i)]
def tsM : AExit → List Nat := fun x => match x with
  | .ret => [6, 7]
  | _ => [0, 1, 2, 8]
def qRet2 (R Q : AExit → Env → AHeap → Prop) : AExit → Env → AHeap → Prop := fun x E H => match x with
  | .ret => R .ret E H
  | x => Q x E H
end Go.Proofs.Ytjacnjecggedhaa
namespace Go.Proofs.Ytjacnjecggedhaa
set_option linter.unusedVariables false
set_option linter.unusedSimpArgs false
open Go.RowKit Ev
set_option maxRecDepth 100000 in
theorem w_mo_pre (cs : List CutR) (ds : List BoolR) (no : Int) (It : Env → AHeap → Prop) (Q : AExit → Env → AHeap → Prop) : (wpN (TX0.ctx Try.prog) 1 400 76 3 moB (env0 [.ptr 0 0 0 0, .int .u64 no, .int .i64 7] 0) ⟨3, srcH cs ds⟩ (fun E H => canonK 3 [0, 1, 2] E H It) Q
) = (It [(0, AVal.ptr 0 0 0 0), (1, AVal.int IntKind.u64 no), (2, AVal.int IntKind.i64 (7 : Int))] (AHeap.mk 3 [(0, ABlk.cells 29 [AVal.sl 1 0 6 0 cs.length none, AVal.sl 2 0 1 0 ds.length none]), (1,
 ABlk.row 48 cutRow cs RowMd.plain), (2, ABlk.row 4 boolRow ds RowMd.plain)])) := by kernel_rfl
set_option maxRecDepth 100000 in
theorem w_mo_set (cs : List CutR) (ds : List BoolR) (no : Int) (Q : AExit → Env → AHeap → Prop) : (wpC (TX0.ctx Try.prog) 400 76 3 (seqL (seqL (tailN 1 moB))) (moE no) ⟨3, srcH cs ds⟩ (canQ 3 tsM Q)
) = (Q AExit.normal [(0, AVal.ptr 0 0 0 0), (1, AVal.int IntKind.u64 no), (2, AVal.int IntKind.i64 (7 : Int)), (8, AVal.int IntKind.i64 (0 : Int))] (AHeap.mk 3 [(0, ABlk.cells 29 [AVal.sl 1 0 6 0
 cs.length none, AVal.sl 2 0 1 0 ds.length none]), (1, ABlk.row 48 cutRow cs RowMd.plain), (2, ABlk.row 4 boolRow ds RowMd.plain)])) := by kernel_rfl
set_option maxRecDepth 100000 in
theorem w_mo_round (cs : List CutR) (ds : List BoolR) (no : Int) (i : Nat) (K : Out → AHeap → Prop) (Q : AExit → Env → AHeap → Prop) : (wpC (TX0.ctx Try.prog) 400 76 3 moR (moE8 no i) ⟨3, srcH cs ds⟩ (canQ 3 tsM (qRet2 (endA (TX0.ctx Try.prog).P Try.f76 K) Q))
) = (branch (decide ((↑i : Int) < (↑cs.length : Int))) (obl (decide ((0 : Int) ≤ (↑i : Int) ∧ (↑i : Int) < (↑ds.length : Int))) (obl (decide (0 + (↑i : Int).toNat < ds.length)) (branch (!(ds.getD (0 + (↑i
 : Int).toNat) (BoolR.mk false)).b) (branch (decide (no = (0 : Int))) (K (Out.ret (AVal.tup [AVal.int IntKind.u64 (((↑i : Int) % (18446744073709551616 : Int) + (1 : Int)) % (18446744073709551616 :
 Int)), AVal.bool true])) (AHeap.mk 3 [(0, ABlk.cells 29 [AVal.sl 1 0 6 0 cs.length none, AVal.sl 2 0 1 0 ds.length none]), (1, ABlk.row 48 cutRow cs RowMd.plain), (2, ABlk.row 4 boolRow ds
 RowMd.plain)])) (branch (decide (no = ((↑i : Int) % (18446744073709551616 : Int) + (1 : Int)) % (18446744073709551616 : Int))) (K (Out.ret (AVal.tup [AVal.int IntKind.u64 (((↑i : Int) %
 (18446744073709551616 : Int) + (1 : Int)) % (18446744073709551616 : Int)), AVal.bool true])) (AHeap.mk 3 [(0, ABlk.cells 29 [AVal.sl 1 0 6 0 cs.length none, AVal.sl 2 0 1 0 ds.length none]), (1,
 ABlk.row 48 cutRow cs RowMd.plain), (2, ABlk.row 4 boolRow ds RowMd.plain)])) (obl (inI64 ((↑i : Int) + (1 : Int))) (Q AExit.normal [(0, AVal.ptr 0 0 0 0), (1, AVal.int IntKind.u64 no), (2, AVal.int
 IntKind.i64 (7 : Int)), (8, AVal.int IntKind.i64 ((↑i : Int) + (1 : Int)))] (AHeap.mk 3 [(0, ABlk.cells 29 [AVal.sl 1 0 6 0 cs.length none, AVal.sl 2 0 1 0 ds.length none]), (1, ABlk.row 48 cutRow cs
 RowMd.plain), (2, ABlk.row 4 boolRow ds RowMd.plain)]))))) (obl (inI64 ((↑i : Int) + (1 : Int))) (Q AExit.normal [(0, AVal.ptr 0 0 0 0), (1, AVal.int IntKind.u64 no), (2, AVal.int IntKind.i64 (7 :
 Int)), (8, AVal.int IntKind.i64 ((↑i : Int) + (1 : Int)))] (AHeap.mk 3 [(0, ABlk.cells 29 [AVal.sl 1 0 6 0 cs.length none, AVal.sl 2 0 1 0 ds.length none]), (1, ABlk.row 48 cutRow cs RowMd.plain), (2,
 ABlk.row 4 boolRow ds RowMd.plain)])))))) (Q (AExit.exit 0) [(0, AVal.ptr 0 0 0 0), (1, AVal.int IntKind.u64 no), (2, AVal.int IntKind.i64 (7 : Int)), (8, AVal.int IntKind.i64 (↑i : Int))] (AHeap.mk 3
 [(0, ABlk.cells 29 [AVal.sl 1 0 6 0 cs.length none, AVal.sl 2 0 1 0 ds.length none]), (1, ABlk.row 48 cutRow cs RowMd.plain), (2, ABlk.row 4 boolRow ds RowMd.plain)]))) := by kernel_rfl
set_option maxRecDepth 100000 in
theorem w_mo_end (cs : List CutR) (ds : List BoolR) (no i : Int) (K : Out → AHeap → Prop) : (wpC (TX0.ctx Try.prog) 400 76 3 (seqR (tailN 1 moB)) (moE8 no i) ⟨3, srcH cs ds⟩ (canQ 3 tsM (endA (TX0.ctx Try.prog).P Try.f76 K))
) = (K (Out.ret (AVal.tup [AVal.int IntKind.u64 (0 : Int), AVal.bool false])) (AHeap.mk 3 [(0, ABlk.cells 29 [AVal.sl 1 0 6 0 cs.length none, AVal.sl 2 0 1 0 ds.length none]), (1, ABlk.row 48 cutRow cs
 RowMd.plain), (2, ABlk.row 4 boolRow ds RowMd.plain)])) := by kernel_rfl
end Go.Proofs.Ytjacnjecggedhaa
namespace Go.Proofs.Ytjacnjecggedhaa
set_option linter.unusedVariables false
set_option linter.unusedSimpArgs false
open Go.RowKit Ev
def moreR (ds : List BoolR) (no : Int) : Nat → Nat → Option Nat
  | 0, _ => none
  | m + 1, i => if (ds.getD i ⟨false⟩).b = false ∧ (no = 0 ∨ no = (i : Int) + 1) then some i else moreR ds no m (i + 1)
def moreM (ds : List BoolR) (no : Int) : Option Nat := moreR ds no ds.length 0
structure MoreK (cs : List CutR) (ds : List BoolR) (no : Int) (K : Out → AHeap → Prop) : Prop where
  some : ∀ i : Nat, moreM ds no = some i → K (.ret (.tup [.int .u64 ((i : Int) + 1), .bool true])) ⟨3, srcH cs ds⟩
  none : moreM ds no = none → K (.ret (.tup [.int .u64 0, .bool false])) ⟨3, srcH cs ds⟩
theorem moIn (p : List Bool) : InFn (TX0.ctx Try.prog) 76 (codeAt p moB) :=
  inFn_at TX0ok.ctx (fn := Try.f76) (by kernel_rfl) (by kernel_rfl) p
abbrev MGd (cs : List CutR) (ds : List BoolR) (c : Code) (Q : AExit → Env → AHeap → Prop) (E : Env) (H : AHeap) : Prop := Gd (TX0.ctx Try.prog) 76 ⟨3, srcH cs ds⟩ c Q E H
noncomputable abbrev moQ (cs : List CutR) (ds : List BoolR) (no : Int) (K : Out → AHeap → Prop) : AExit → Env → AHeap → Prop := fun x E H => match x with
  | .exit 0 => moreM ds no = none ∧ ∃ i : Int, E = moE8 no i ∧ H = ⟨3, srcH cs ds⟩
  | .ret => endA (TX0.ctx Try.prog).P Try.f76 K .ret E H
  | _ => False
def moI (cs : List CutR) (ds : List BoolR) (no : Int) (m : Nat) (E : Env) (H : AHeap) : Prop :=
  ∃ i : Nat, m = ds.length - i ∧ i ≤ ds.length ∧ moreR ds no (ds.length - i) i = moreM ds no ∧ E = moE8 no i ∧ H = ⟨3, srcH cs ds⟩
set_option maxRecDepth 100000 in
theorem mo_loop (cs : List CutR) (ds : List BoolR) (no : Int) (K : Out → AHeap → Prop) (hK : MoreK cs ds no K) (hl : cs.length = ds.length) (h30 : ds.length ≤ 30) : ∀ m E H, moI cs ds no m E H → MGd cs ds (.loop moR) (moQ cs ds no K) E H := by
  refine Gd.loop (moI cs ds no) (fun m E H hI => ?_)
  obtain ⟨i, hm, hi, hr, rfl, rfl⟩ := hI
  refine Gd.mono (Gd.walkC TX0ok.ctx (Q := qRet2 (endA (TX0.ctx Try.prog).P Try.f76 K) (fun x E H => match x with
    | .normal => ∃ m', m' < m ∧ moI cs ds no m' E H
    | .exit 0 => moreM ds no = none ∧ ∃ i : Int, E = moE8 no i ∧ H = ⟨3, srcH cs ds⟩
    | _ => False)) 3 tsM (Nat.le_refl _) (moIn [true, false, true, false, false]) (Eq.mpr (w_mo_round cs ds no i K _) ?_)) (fun x E H h => ?_)
  rotate_left
  · cases x with
    | normal => exact h
    | ret => exact h
    | panic v => exact h.elim
    | exit j => cases j with
      | zero => exact h
      | succ n => exact h.elim
  have idx : 0 + (i : Int).toNat = i := by omega
  have e1 : (((i : Int) % 18446744073709551616 + 1) % 18446744073709551616) = (i : Int) + 1 := by omega
  rw [idx, e1]
  refine br_dec (fun h => ?_) (fun h => ?_)
  · refine obl_dec (by omega) (obl_dec (by omega) ?_)
    obtain ⟨r, hr'⟩ : ∃ r, ds.length - i = r + 1 := ⟨ds.length - i - 1, by omega⟩
    have hrest : ds.length - (i + 1) = r := by omega
    have hun : moreR ds no (ds.length - i) i = if (ds.getD i ⟨false⟩).b = false ∧ (no = 0 ∨ no = (i : Int) + 1) then some i else moreR ds no (ds.length - (i + 1)) (i + 1) := by
      rw [hr', hrest]; rfl
    have next : ¬ ((ds.getD i ⟨false⟩).b = false ∧ (no = 0 ∨ no = (i : Int) + 1)) → ∃ m', m' < m ∧ moI cs ds no m' (moE8 no ((i : Int) + 1)) ⟨3, srcH cs ds⟩ := fun hn =>
      ⟨ds.length - (i + 1), by omega, i + 1, rfl, by omega, by rw [← hr, hun, if_neg hn], rfl, rfl⟩
    have found : ((ds.getD i ⟨false⟩).b = false ∧ (no = 0 ∨ no = (i : Int) + 1)) → K (.ret (.tup [.int .u64 ((i : Int) + 1), .bool true])) ⟨3, srcH cs ds⟩ := fun hn =>
      hK.some i (by rw [← hr, hun, if_pos hn])
    refine br_mk (fun hb => ?_) (fun hb => ?_)
    · have hb : (ds.getD i ⟨false⟩).b = false := by simpa using hb
      refine br_dec (fun h0 => found ⟨hb, .inl h0⟩) (fun h0 => ?_)
      refine br_dec (fun h1 => found ⟨hb, .inr h1⟩) (fun h1 => ?_)
      exact obl_int (by omega) (next (by rintro ⟨_, h | h⟩ <;> contradiction))
    · have hb : (ds.getD i ⟨false⟩).b = true := by simpa using hb
      exact obl_int (by omega) (next (by rintro ⟨h, _⟩; rw [hb] at h; cases h))
  · refine ⟨?_, (i : Int), rfl, rfl⟩
    have : ds.length - i = 0 := by omega
    rw [← hr, this]; rfl
theorem moB_eq : tailN 1 moB = .seq (.seq (seqL (seqL (tailN 1 moB))) (.block 0 (.loop moR))) (seqR (tailN 1 moB)) := by kernel_rfl
set_option maxRecDepth 100000 in
theorem mo_good (cs : List CutR) (ds : List BoolR) (no : Int) (K : Out → AHeap → Prop) (hK : MoreK cs ds no K) (hl : cs.length = ds.length) (h30 : ds.length ≤ 30) : MGd cs ds moB (endA (TX0.ctx Try.prog).P Try.f76 K) (env0 [.ptr 0 0 0 0, .int .u64 no, .int .i64 7] 0) ⟨3, srcH cs ds⟩ := by
  refine Gd.walkN TX0ok.ctx (base := 3) (Nat.le_refl _) (It := fun E H => canonK 3 [0, 1, 2] E H (fun E H => E = moE no ∧ H = ⟨3, srcH cs ds⟩)) 1 400 _ _ _ (by kernel_rfl) (moIn []) (Eq.mpr (w_mo_pre cs ds no _ _) ⟨rfl, rfl⟩) (fun E H h => ?_)
  obtain ⟨E', H', σ, ⟨rfl, rfl⟩, g2, g3, g4, g5, g6⟩ := canonK_ok h
  refine Gd.sub (base := 3) (Nat.le_refl _) g6 ?_ g2 g3 g4 g5
  rw [moB_eq]
  refine Gd.seq (Gd.seq (Gd.walkC TX0ok.ctx 3 tsM (Nat.le_refl _) (moIn [true, false, false]) (Eq.mpr (w_mo_set cs ds no _) ?_)))
  refine Gd.block (Gd.mono (mo_loop cs ds no K hK hl h30 ds.length _ _ ⟨0, rfl, Nat.zero_le _, rfl, rfl, rfl⟩) (fun x E H h => ?_))
  unfold moQ at h
  split at h
  · obtain ⟨h1, i, rfl, rfl⟩ := h
    exact Gd.walkC TX0ok.ctx 3 tsM (Nat.le_refl _) (moIn [true, true]) (Eq.mpr (w_mo_end cs ds no i K) (hK.none h1))
  · exact h
  · exact h.elim
structure SrcS where
  l : ABlk
  d : ABlk
  n1 : Nat
  n2 : Nat
  no : Int
def decMore (args : List AVal) (H : AHeap) : Option (List (Nat × Nat) × SrcS) := match args with
  | [.ptr b 0 0 0, .int .u64 no, .int .i64 (.ofNat 7)] => match H.get b with
    | some (.cells e [.sl b1 0 6 0 n1 none, .sl b2 0 1 0 n2 none]) => match H.get b1, H.get b2 with
      | some (.row e1 T1 l1 m1), some (.row e2 T2 l2 m2) => match Nat.beq e 29 && !(Nat.beq b1 b2) with
        | true => some ([(0, b), (1, b1), (2, b2)], ⟨.row e1 T1 l1 m1, .row e2 T2 l2 m2, n1, n2, no⟩)
        | false => none
      | _, _ => none
    | _ => none
  | _ => none
def srcC (s : SrcS) : AHeap := ⟨3, [(0, srcB (.sl 1 0 6 0 s.n1 none) (.sl 2 0 1 0 s.n2 none)), (1, s.l), (2, s.d)]⟩
theorem get_three {x y z u : ABlk} {c : Nat} (h : AHeap.get ⟨3, [(0, x), (1, y), (2, z)]⟩ c = some u) : (c = 0 ∧ x.live = some u) ∨ (c = 1 ∧ y.live = some u) ∨ (c = 2 ∧ z.live = some u) := by
  unfold AHeap.get at h
  rw [getB_cons] at h
  by_cases h0 : 0 = c
  · rw [if_pos h0] at h; exact .inl ⟨h0.symm, h⟩
  rw [if_neg h0, getB_cons] at h
  by_cases h1 : 1 = c
  · rw [if_pos h1] at h; exact .inr (.inl ⟨h1.symm, h⟩)
  rw [if_neg h1, getB_cons] at h
  by_cases h2 : 2 = c
  · rw [if_pos h2] at h; exact .inr (.inr ⟨h2.symm, h⟩)
  rw [if_neg h2] at h
  cases h
theorem three_cases {c : Nat} (h : c < 3) : c = 0 ∨ c = 1 ∨ c = 2 := by omega
theorem decMore_ok : DecOk decMore (fun s => [.ptr 0 0 0 0, .int .u64 s.no, .int .i64 7]) srcC := by
  refine ⟨fun args H σ s h hb hH => ?_⟩
  unfold decMore at h
  split at h
  · rename_i b no
    split at h
    · rename_i e b1 n1 b2 n2 hg
      split at h
      · rename_i e1 T1 l1 m1 e2 T2 l2 m2 hg1 hg2
        split at h
        · rename_i hc
          simp only [Bool.and_eq_true, Bool.not_eq_true'] at hc
          have he := nat_beq_eq.1 hc.1
          have hne := nat_beq_ne.1 hc.2
          subst he
          simp only [Option.some.injEq, Prod.mk.injEq] at h
          obtain ⟨rfl, rfl⟩ := h
          have n01 : b ≠ b1 := by rintro rfl; rw [hg] at hg1; cases hg1
          have n02 : b ≠ b2 := by rintro rfl; rw [hg] at hg2; cases hg2
          refine ⟨rfl, rfl, fun c x hx => ?_, fun c c' hc hc' hne' => ?_, fun c hc => ?_⟩
          · rcases get_three hx with ⟨rfl, hx⟩ | ⟨rfl, hx⟩ | ⟨rfl, hx⟩
            · cases hx; exact ⟨(by decide : 0 < 3), rfl, hg⟩
            · cases hx; exact ⟨(by decide : 1 < 3), rfl, hg1⟩
            · cases hx; exact ⟨(by decide : 2 < 3), rfl, hg2⟩
          · rcases three_cases hc with rfl | rfl | rfl <;> rcases three_cases hc' with rfl | rfl | rfl <;> first | exact absurd rfl hne' | exact n01 | exact n02 | exact hne | exact n01.symm | exact n02.symm | exact fun h => hne h.symm
          · rcases three_cases hc with rfl | rfl | rfl
            · exact (hH b _ hg).1
            · exact (hH b1 _ hg1).1
            · exact (hH b2 _ hg2).1
        · cases h
      · cases h
    · cases h
  · cases h
def fMore (s : SrcS) (K : Out → AHeap → Prop) : Prop := ∃ (cs : List CutR) (ds : List BoolR), ((s.l = cRow cs ∧ s.d = dRow ds) ∧ (s.n1 = cs.length ∧ s.n2 = ds.length) ∧ cs.length = ds.length ∧ ds.length ≤ 30) ∧
  (∀ i : Nat, moreM ds s.no = some i → K (.ret (.tup [.int .u64 ((i : Int) + 1), .bool true])) (srcC s)) ∧ (moreM ds s.no = none → K (.ret (.tup [.int .u64 0, .bool false])) (srcC s))
theorem more_sound : GcSound Try.prog 76 (gcSub decMore srcC fMore) := by
  refine gc_sub Try.call76 decMore_ok (fun s k hk ρ w hR hb => ?_)
  obtain ⟨l, d, n1, n2, no⟩ := s
  obtain ⟨cs, ds, ⟨⟨h1, h2⟩, ⟨h3, h4⟩, h5, h6⟩, k1, k2⟩ := hk
  simp only at h1 h2 h3 h4
  subst h1 h2 h3 h4
  exact fn_good TX0ok.ctx (fn := Try.f76) (by kernel_rfl) (by kernel_rfl) (mo_good cs ds no k ⟨k1, k2⟩ h5 h6) hR hb
noncomputable def TX1 : Tabs := TX0.addGc 76 (gcSub decMore srcC fMore)
theorem TX1ok : TabsOk TX1 Try.prog := TX0ok.addGc more_sound
end Go.Proofs.Ytjacnjecggedhaa
namespace Go.Proofs.Ytjacnjecggedhaa
set_option linter.unusedVariables false
set_option linter.unusedSimpArgs false
open Go.RowKit Ev
def dropFc (T : Tabs) (f : Nat) : Tabs := { T with fcs := T.fcs.filter fun p => !(Nat.beq p.1 f) }
theorem dropFc_ok {T : Tabs} {P : Program} (h : TabsOk T P) (f : Nat) : TabsOk (dropFc T f) P := ⟨h.mixed, h.fns, h.rows, fun p hp => h.fcs p (List.mem_filter.1 hp).1, h.gcs, h.lcs, h.op⟩
def gcNextV : GC := fun args H K => match args with
  | [.agg [.int .i64 typ, .int .i64 k, .str b, .str data, .int .i64 at_, .int .i64 id], .agg [.int .i64 lk, .str lb], .int .i64 space, .bool whole] =>
    ∀ R : NextR, nextR typ k b data at_ id lk lb space whole = R → K (.ret (nextT typ data id R)) H
  | _ => False
theorem gcNextV_sound : GcSound Try.prog 78 gcNextV := by
  intro args H K hg ρ w hR ha
  unfold gcNextV at hg
  split at hg
  · rename_i typ k b data at_ id lk lb space whole
    obtain ⟨h1, h2⟩ := next_sound.2 _ H _ (rfl : fcNext [.agg [.int .i64 typ, .int .i64 k, .str b, .str data, .int .i64 at_, .int .i64 id], .agg [.int .i64 lk, .str lb], .int .i64 space, .bool whole] H = some (true, nextT typ data id (nextR typ k b data at_ id lk lb space whole))) ρ w H.next (fun b y hy => (hR.blk b y hy).2) ha
    refine ⟨next_sound.1, h1.mono ?_⟩
    rintro e w' ⟨rfl, hb⟩
    exact ⟨.ret _, H, ρ, ⟨rfl, h2⟩, hg _ rfl, Step.grow hR hb⟩
  · exact hg.elim
noncomputable def TX2 : Tabs := symT ((dropFc TX1 78).addGc 78 gcNextV) 75
theorem TX2ok : TabsOk TX2 Try.prog := symT_ok ((dropFc_ok TX1ok _).addGc gcNextV_sound) _
structure FSt where
  L : List UInt8
  beg : Bool
  k : Nat
  lk : Int
  lb : List UInt8
def fE (s : AVal) (r : Env) : Env := (4, .ptr 3 0 0 0) :: (5, .ptr 4 0 0 0) :: (6, .ptr 5 0 0 0) :: (10, .ptr 6 0 0 0) :: (11, s) :: (12, .func 16 [] [.ptr 3 0 0 0, .ptr 4 0 0 0, .ptr 5 0 0 0]) :: r
def f13 (i : Nat) : Env := [(13, .int .u64 ((i : Int) + 1))]
def f14 (no : Int) (sm : Bool) : Env := [(13, .int .u64 no), (14, .bool sm)]
def srcN (n : Nat) (cs : List CutR) (ds : List BoolR) : List (Nat × ABlk) := [(0, srcB (.sl 1 0 6 0 n none) (.sl 2 0 1 0 n none)), (1, cRow cs), (2, dRow ds)]
def fH0 (n : Nat) (cs : List CutR) (ds : List BoolR) (fv : Int) : List (Nat × ABlk) := srcN n cs ds ++ [(3, .cells 65 [.iface 24 (.ptr 0 0 0 0)]), (4, .cells 33 [.int .u64 fv]), (5, .cells 3 [.int .i64 7])]
def fHx (n : Nat) (cs : List CutR) (ds : List BoolR) (fv : Int) (r : List (Nat × ABlk)) : List (Nat × ABlk) := fH0 n cs ds fv ++ r
def fldS (v : AVal) (sp : Int) (F : FSt) : ABlk := .cells 70 [v, .int .i64 sp, .bool F.beg, .int .i64 (F.k : Int), .int .i64 F.lk, .str F.lb]
def fA (first sp : Int) : List AVal := [.iface 24 (.ptr 0 0 0 0), .int .u64 first, .int .i64 7, .int .i64 sp]
def feE (sp : Int) : Env := [(3, .int .i64 sp), (4, .ptr 3 0 0 0), (5, .ptr 4 0 0 0), (6, .ptr 5 0 0 0)]
def F0 : FSt := ⟨[], false, 0, 0, []⟩
def g00 (n : Nat) (sp : Int) (cs : List CutR) (ds : List BoolR) (fv : Int) (F : FSt) (r : Env) : Env × AHeap := (fE .nils r, ⟨7, fH0 n cs ds fv ++ [(6, fldS .nils sp F)]⟩)
def g10 (n : Nat) (sp : Int) (cs : List CutR) (ds : List BoolR) (fv : Int) (F : FSt) (r : Env) : Env × AHeap := (fE .nils r, ⟨8, fH0 n cs ds fv ++ [(6, fldS (oSl 7 F.L.length) sp F), (7, bRow F.L)]⟩)
def g11 (n : Nat) (sp : Int) (cs : List CutR) (ds : List BoolR) (fv : Int) (F : FSt) (S : List Int) (r : Env) : Env × AHeap := (fE (oSl 7 S.length) r, ⟨9, fH0 n cs ds fv ++ [(6, fldS (oSl 8 F.L.length) sp F), (7, sRow S), (8, bRow F.L)]⟩)
def noCut : CutR := ⟨0, 0, [], [], 0, 0⟩
def idI (i : Nat) : Nat := 0 + (((i : Int) + 1 - 1) % 18446744073709551616).toNat
def cutI (cs : List CutR) (i : Nat) : CutR := cs.getD (0 + (((i : Int) + 1 - 1) % 18446744073709551616).toNat) ⟨0, 0, [], [], 0, 0⟩
def idJ (i : Nat) : Int := ((i : Int) + 1 - 1) % 18446744073709551616
theorem idJ_eq {i : Nat} (h : i < 1000000) : idJ i = (i : Int) := by unfold idJ; omega
theorem idI_eq {i : Nat} (h : i < 1000000) : idI i = i := by unfold idI; omega
theorem cutI_eq {cs : List CutR} {i : Nat} (h : i < 1000000) : cutI cs i = cs.getD i noCut := by
  show cs.getD (idI i) noCut = _
  rw [idI_eq h]
end Go.Proofs.Ytjacnjecggedhaa
namespace Go.Proofs.Ytjacnjecggedhaa
set_option linter.unusedVariables false
set_option linter.unusedSimpArgs false
open Go.RowKit Ev
def memL (lk : Int) (lb : List UInt8) (k : Int) (b : List UInt8) : Int × List UInt8 := if lb ≠ [] ∧ lk = k ∧ lb = b then (3, []) else (k, b)
def memK (lk : Int) (lb : List UInt8) (k : Int) (b : List UInt8) : Int × List UInt8 := if lb ≠ [] ∧ lk = k ∧ lb = b then (lk, lb) else if 0 < lSize k ∧ lOk k b = true then (k, b) else (lk, lb)
def labOf (F : FSt) (c : CutR) : Int × List UInt8 := if c.pos = 0 then memL F.lk F.lb c.k c.lb else (c.k, c.lb)
def memOf (F : FSt) (c : CutR) : Int × List UInt8 := if c.pos = 0 then memK F.lk F.lb c.k c.lb else (F.lk, F.lb)
def stepR (sp : Int) (F : FSt) (c : CutR) : NextR := nextR c.typ c.k c.lb c.data c.pos c.id (labOf F c).1 (labOf F c).2 (sp - (F.L.length : Int)) F.beg
def encR (R : NextR) : List UInt8 := gEnc R.st R.en R.id R.total R.typ R.k R.lb R.data R.sum
def errR (R : NextR) : Int := gErr R.st R.en R.id R.total R.typ R.k R.lb R.data R.sum
structure OkR (sp : Int) (F : FSt) (R : NextR) : Prop where
  err : R.err = 0
  enc : errR R = 0
  len : ((encR R).length : Int) ≤ sp - (F.L.length : Int)
def stepF (F : FSt) (c : CutR) (R : NextR) : FSt := ⟨F.L ++ encR R, F.beg || (R.st && !R.en), F.k + 1, (memOf F c).1, (memOf F c).2⟩
def stepC (c : CutR) (R : NextR) : CutR := ⟨c.typ, R.k2, R.b2, c.data, R.at2, c.id⟩
structure CSm (c : CutR) : Prop where
  d : c.data.length ≤ 5300
  l : c.lb.length ≤ 20
theorem pSum_le (typ k : Int) (b data : List UInt8) : (pSum typ k b data).length ≤ 4 := by
  unfold pSum
  split
  · simp [four]
  · simp
theorem nextR_len (typ k : Int) (b data : List UInt8) (at_ id lk : Int) (lb : List UInt8) (space : Int) (whole : Bool) (R : NextR) (h : nextR typ k b data at_ id lk lb space whole = R) :
    R.lb.length ≤ lb.length ∧ R.data.length ≤ data.length ∧ R.sum.length ≤ 4 ∧ (R.b2 = b ∨ R.b2 = lb) := by
  have hp := pSum_le typ k b data
  subst h
  unfold nextR
  repeat' split
  all_goals (refine ⟨?_, ?_, ?_, ?_⟩ <;> simp only [List.length_nil, List.length_take, List.length_drop, true_or, or_true] <;> omega)
theorem stepR_small {sp : Int} {F : FSt} {c : CutR} {R : NextR} (h : stepR sp F c = R) (hc : CSm c) : R.lb.length + R.data.length + R.sum.length ≤ 9223372036854775000 ∧ CSm (stepC c R) := by
  obtain ⟨h1, h2, h3, h4⟩ := nextR_len _ _ _ _ _ _ _ _ _ _ R h
  have hl : (labOf F c).2.length ≤ c.lb.length := by
    unfold labOf memL
    repeat' split
    all_goals simp
  have d := hc.d
  have l := hc.l
  refine ⟨by omega, ⟨d, ?_⟩⟩
  show R.b2.length ≤ 20
  rcases h4 with h4 | h4 <;> rw [h4] <;> omega
theorem encR_len {R : NextR} (h : errR R = 0) : 2 ≤ (encR R).length := by
  unfold encR gEnc
  unfold errR at h
  rw [if_pos h]
  simp [two]
end Go.Proofs.Ytjacnjecggedhaa
