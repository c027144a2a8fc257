/-
  Texts for RowFillIs: of the reckoner, walks, contracts and plain laws that its row stands on.
-/
import Derived.Test.YtjacnjecggedhaaIb8
import Derived.Laws.CopyOwn
namespace Go.Proofs.Ytjacnjecggedhaa
set_option linter.unusedVariables false
open Go.RowKit
def makerCells (r : Int) : Array Value := (Value.int .u32 r :: (tabCells 256).toList).toArray
theorem maker_built (r : Int) : Try.prog.built 158 [(0, .agg #[.int .u32 r]), (1, .agg (tabCells 256))] = some (makerCells r) := by kernel_rfl
theorem maker_size (r : Int) : (makerCells r).size = 257 := by
  have := tabCells_size 256
  rw [makerCells, List.size_toArray, List.length_cons, Array.length_toList, this]
theorem maker_one (r : Int) : (makerCells r).all (·.oneCell') = true := by
  have h := tabCells_one 256
  rw [Array.all_eq_true_iff_forall_mem] at h ⊢
  intro v hv
  rw [makerCells, List.mem_toArray, List.mem_cons] at hv
  rcases hv with rfl | hv
  · rfl
  · exact h v (by simpa using hv)
theorem maker_info (r : Int) : (Try.prog.info? 158).map (·.size) = some (makerCells r).size := by
  rw [maker_size]; kernel_rfl
theorem maker_get0 (r : Int) : (makerCells r)[0]? = some (.int .u32 r) := by simp [makerCells]
theorem maker_get1 (r : Int) (i : Nat) (hi : i < 256) : (makerCells r)[1 + i]? = some (.int .u32 ((Crc.cell i).toNat : Int)) := by
  have h := tabCells_get 256 i hi
  rw [if_pos hi] at h
  rw [makerCells, List.getElem?_toArray, Nat.add_comm, List.getElem?_cons_succ, Array.getElem?_toList, h]
theorem maker_set (r q : Int) : (makerCells r).setIfInBounds 0 (.int .u32 q) = makerCells q := by simp [makerCells]
def maker0 : Array Value := (Value.int .u32 0 :: (tabCells 0).toList).toArray
theorem zero_maker (w : World) : (zeroValue 158).run Try.prog w = .ok (.agg maker0) w := by kernel_rfl
theorem maker0_size : maker0.size = 257 := by
  have := tabCells_size 0
  rw [maker0, List.size_toArray, List.length_cons, Array.length_toList, this]
theorem maker_new (W : World) (r : Int) : ((W.alloc (.cells maker0 158)).setRow W.heap.size (makerCells r)).heap[W.heap.size]? = some (.cells (makerCells r) 158 (0, 0)) :=
  setRow_heap _ _ _ _ _ _ (heap_alloc_new W _)
set_option maxRecDepth 100000 in
set_option maxHeartbeats 400000 in
theorem sum_any (s : ByteArray) (w : World) (hs : s.size ≤ maxLen) :
    Calls Try.prog 90 #[.string s] w fun e w' => e = .returned (.int .u32 ((Crc.sum s.data.toList).toNat : Int)) ∧ Below w.heap.size w w' := by
  unfold maxLen at hs
  have hz := zero_maker
  go_enter Try.func90, Try.ntmps90
  go_wp2_with fail
  refine (table_any _).mono ?_
  rintro e w1 ⟨rfl, hb1⟩
  have hn := maker_new w1 4294967295
  have hB : Below w.heap.size w ((w1.alloc (.cells maker0 158)).setRow w1.heap.size (makerCells 4294967295)) := below_setRow (hb1.alloc hb1.size _) hb1.size _
  have HN := Lib.hid hn
  have hsz := hb1.size
  clear hn
  go_wp2_with (first | (refine wpList_build_to rfl 158 [(0, .tmp 5), (1, .tmp 6)] rfl (makerCells 4294967295) (maker_built _) ?_) | (refine wpList_store_row rfl 158 (.tmp 3) (.tmp 7) rfl w1.heap.size (makerCells 4294967295) rfl rfl 158 maker0 (heap_alloc_new w1 _) (maker_info _) (maker0_size.trans (maker_size _).symm) (maker_one _) ?_))
  have hn := HN.out
  clear HN hz hb1
  generalize ((w1.alloc (.cells maker0 158)).setRow w1.heap.size (makerCells 4294967295)) = w2 at hn hB ⊢
  generalize w1.heap.size = g at hn hsz ⊢
  clear w1
  go_loopw [10] (fun i wr => ∃ k : Nat, k ≤ s.size ∧ i = .int .i64 k ∧ wr.heap[g]? = some (.cells (makerCells ((Crc.fold 0xffffffff#32 (s.data.toList.take k)).toNat : Int)) 158 (0, 0)) ∧ Below w.heap.size w wr) (fun i _ => s.size - (intOf i).toNat)
  case atStart => exact ⟨0, by omega, rfl, hn, hB⟩
  case round =>
    obtain ⟨k, hk, rfl, hh, hb⟩ := hrel
    clear hn hB
    by_cases hlt : k < s.size
    · have h0 := (cell_of_row wr _ 0 _ _ _ hh).trans (maker_get0 _)
      have hf : wr.frozen? ⟨g, 0, none⟩ = false := frozen_of_row wr _ _ _ _ hh
      have ht : ∀ i, i < 256 → wr.cell? ⟨g, 1 + i, none⟩ = some (.int .u32 ((Crc.cell i).toNat : Int)) := fun i hi => (cell_of_row wr _ (1 + i) _ _ _ hh).trans (maker_get1 _ i hi)
      have hs' : s.data.toList.take (k + 1) = s.data.toList.take k ++ [s[k]] := by
        rw [List.take_succ_eq_append_getElem (by simpa using hlt)]; rfl
      have hstep := step_any g _ s[k].toNat s[k].toNat_lt wr h0 hf ht
      have HH := Lib.hid hh
      have HS := Lib.hid hs'
      have HT := Lib.hid hstep
      clear hh hs' h0 hf ht hstep
      go_wp2_with fail
      refine HT.out.mono ?_
      rintro e w' ⟨rfl, rfl⟩
      go_wp2
      go_roundw
      case rel =>
        refine ⟨k + 1, by omega, by go_num, ?_, (hb.setCell hsz _).drew⟩
        rw [HS.out, Crc.fold_snoc, heap_drew]
        have := heap_setCell_same wr g 0 _ _ (.int .u32 ((Crc.step (Crc.fold (4294967295#32) (s.data.toList.take k)) s[k].toNat).toNat : Int)) HH.out
        rwa [maker_set] at this
      case measure => simp [intOf]; omega
    · obtain rfl : k = s.size := by omega
      have h0 := (cell_of_row wr _ 0 _ _ _ hh).trans (maker_get0 _)
      rw [List.take_of_length_le (by simp)] at h0
      clear hh
      go_wp2
      go_ret
      exact ⟨rfl, hb⟩
end Go.Proofs.Ytjacnjecggedhaa
