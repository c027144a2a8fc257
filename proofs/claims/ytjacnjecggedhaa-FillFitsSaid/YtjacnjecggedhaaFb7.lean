/-
  Texts for RowFillFits, part 7: the reckoner, walks, contracts and plain laws that its row stands on.
-/
import Derived.Test.YtjacnjecggedhaaFb6
import Derived.WalkKit
import Derived.WalkSpells
import Derived.WalkLawsBesides
import Derived.KernelRfl
import Derived.Lib.Hide
import Derived.StillTailTactics
import Derived.Deep.QuietTactic
import Derived.BigQuiet
import Derived.Test.YtjacnjecggedhaaProg
namespace Go.Proofs.Ytjacnjecggedhaa
set_option linter.unusedVariables false
open Go.RowKit
theorem wpList_build_to {P : Program} {ops : Array Oper} {rest : List Oper} {o : Oper} {a : Act} {w : World} {Q : Exit → Act → World → Prop} (hg : o.guard = none) (t : TypeId) (parts : List (Nat × Operand)) (ho : o.op = .build t parts.toArray)
    (cells : Array Value) (hf : P.built t (parts.map fun p => (p.1, a.eval p.2)) = some cells)
    (h : wpList P ops Q rest (a.put o.dst (.agg cells)) w) : wpList P ops Q (o :: rest) a w := by
  have hf' : P.built t (parts.toArray.map fun (i, x) => (i, a.eval x)).toList = some cells := by simpa using hf
  exact wpList_build hg t parts.toArray ho (by rw [hf']; rfl) (by rw [hf']; exact h)
theorem wp_region_class {P : Program} {id : Nat} {Q : Exit → Act → World → Prop} {a : Act} {w : World} {l : List Oper} (C : World → Prop) (hm : P.follows .mixedOrders = true) (hB : Region.lexB .any l.toArray = true)
    (hC : C w.drew) (h : wpQuiet P l.toArray C (fun a' => ∀ w', C w' → Q .normal a' w') l a) : (Code.region id l.toArray true).wp P Q a w :=
  wp_region_quiet (C := C) hm hB hC (by simpa using h)
theorem conv_new {P : Program} (src dst e : TypeId) (hs : P.underlying src = some (.slice e)) (he : P.underlying e = some (.int .u8)) (hd : P.underlying dst = some .string) (xs : List Int) (w : World) :
    (convert src dst (.slice (some ⟨w.heap.size, 0, none⟩) xs.length xs.length)).run P (w.alloc (.cells (xs.map (Value.int .u8)).toArray e)) = .ok (.string (strOfNums xs)) (w.alloc (.cells (xs.map (Value.int .u8)).toArray e)) := by
  refine run_convert_bytes_arg _ src e hs he w.heap.size 0 xs.length xs.length xs rfl (fun i hi => ?_) dst hd
  rw [Nat.zero_add, World.cell?_alloc_new]
  simp [List.getElem?_eq_getElem hi, List.getD]
def Since (W w : World) : Prop := Below W.heap.size W w
theorem quiet_run {P : Program} {C : World → Prop} {K : Act → Prop} {o : Oper} {a : Act} (v : Value) (h : ∀ w, C w → (execOp a.eval o).run P w = .ok (.value v) w) (hK : K (a.put o.dst v)) : o.quiet P a C K :=
  ⟨v, fun w hw => by unfold Oper.quietAt; rw [h w hw]; exact ⟨rfl, rfl⟩, hK⟩
theorem quiet_call {P : Program} {C : World → Prop} {K : Act → Prop} {o : Oper} {a : Act} (f : FuncId) (args : Array Value) (v : Value) (h : ∀ w, C w → (execOp a.eval o).run P w = .ok (.enter f args) w)
    (hc : ∀ w, C w → Calls P f args w fun e w' => e = .returned v ∧ C w') (hK : K (a.put o.dst v)) : o.quiet P a C K :=
  ⟨v, fun w hw => by unfold Oper.quietAt; rw [h w hw]; exact ⟨rfl, hc w hw⟩, hK⟩
theorem quiet_ex {P : Program} {C : World → Prop} {K : Act → Prop} {o : Oper} {a : Act} (h : ∃ v, (∀ w, C w → (execOp a.eval o).run P w = .ok (.value v) w) ∧ K (a.put o.dst v)) : o.quiet P a C K :=
  let ⟨v, h1, h2⟩ := h
  quiet_run v h1 h2
theorem Since.call {P : Program} {W w : World} {f : FuncId} {args : Array Value} {v : Value} (hw : Since W w) (h : Calls P f args w fun e w' => e = .returned v ∧ Below w.heap.size w w') : Calls P f args w fun e w' => e = .returned v ∧ Since W w' :=
  h.mono fun _ _ ⟨he, hb⟩ => ⟨he, Below.trans hw (hb.mono (Below.size hw))⟩
theorem below_draws {B : Nat} {a w : World} (h : Below B a w) (n : Nat) : Below B a (w.drewN n) := ⟨h.os, h.tape, h.output, h.size, h.block⟩
theorem min_at {P : Program} (ts : Array TypeId) (t : TypeId) (x : Nat) (c : Int) (hc : 0 ≤ c) : ∃ m : Nat, (m : Int) ≤ (x : Int) ∧ (m : Int) ≤ c ∧ ((m : Int) = (x : Int) ∨ (m : Int) = c) ∧ ∀ w, (Builtin.min_ ts t #[.int .i64 (x : Int), .int .i64 c]).run P w = .ok (.int .i64 (m : Int)) w := by
  by_cases h : c < (x : Int)
  · refine ⟨c.toNat, by omega, by omega, by omega, fun w => ?_⟩
    rw [run_min_int2, if_pos h, Int.toNat_of_nonneg hc]
  · refine ⟨x, by omega, by omega, by omega, fun w => ?_⟩
    rw [run_min_int2, if_neg h]
structure Wrote (w w' : World) (g o n : Nat) : Prop where
  grown : w.grownBy w' (some g)
  cell : ∀ j, j < o ∨ o + n ≤ j → w'.cell? ⟨g, j, none⟩ = w.cell? ⟨g, j, none⟩
  frozen : ∀ j, w'.frozen? ⟨g, j, none⟩ = w.frozen? ⟨g, j, none⟩
theorem Wrote.of_below {w w' : World} {g o n : Nat} (h : Below w.heap.size w w') (hg : g < w.heap.size) : Wrote w w' g o n :=
  ⟨⟨h.os, h.tape, h.output, h.size, fun k hk _ => h.block k hk⟩, fun j _ => h.cell (p := ⟨g, j, none⟩) hg, fun j => h.frozen (p := ⟨g, j, none⟩) hg⟩
theorem Wrote.set {w w' : World} {g o n : Nat} (h : Wrote w w' g o n) {j : Nat} (hj : o ≤ j) (hj2 : j < o + n) (v : Value) : Wrote w (w'.setCell ⟨g, j, none⟩ v) g o n := by
  refine ⟨⟨h.grown.os, h.grown.tape, h.grown.output, by simp [World.setCell]; exact h.grown.size, fun k hk hne => ?_⟩, fun i hi => ?_, fun i => by rw [World.frozen?_setCell]; exact h.frozen i⟩
  · rw [Below.heap_setCell _ _ _ _ (fun e => hne (by rw [e]))]; exact h.grown.block k hk hne
  · rw [World.cell?_setCell_other _ _ _ _ (fun e => by simp only [Addr.mk.injEq] at e; omega)]; exact h.cell i hi
theorem Wrote.setNew {w w' : World} {g o n : Nat} (h : Wrote w w' g o n) (hg : g < w.heap.size) {p : Addr} (hp : w.heap.size ≤ p.block) (v : Value) : Wrote w (w'.setCell p v) g o n := by
  refine ⟨⟨h.grown.os, h.grown.tape, h.grown.output, by simp [World.setCell]; exact h.grown.size, fun k hk hne => ?_⟩, fun i hi => ?_, fun i => by rw [World.frozen?_setCell]; exact h.frozen i⟩
  · rw [Below.heap_setCell _ _ _ _ (fun e => by omega)]; exact h.grown.block k hk hne
  · rw [World.cell?_setCell_other _ _ _ _ (fun e => by subst e; simp only at hp; omega)]; exact h.cell i hi
theorem Wrote.drew {w w' : World} {g o n : Nat} (h : Wrote w w' g o n) : Wrote w w'.drew g o n := ⟨⟨h.grown.os, h.grown.tape, h.grown.output, h.grown.size, h.grown.block⟩, h.cell, h.frozen⟩
theorem Wrote.size {w w' : World} {g o n : Nat} (h : Wrote w w' g o n) : w.heap.size ≤ w'.heap.size := h.grown.size
theorem Wrote.then_below {w w' w'' : World} {g o n : Nat} (h : Wrote w w' g o n) (hb : Below w'.heap.size w' w'') (hg : g < w.heap.size) : Wrote w w'' g o n :=
  ⟨⟨hb.os.trans h.grown.os, hb.tape.trans h.grown.tape, hb.output.trans h.grown.output, Nat.le_trans h.grown.size hb.size, fun k hk hne => (hb.block k (Nat.lt_of_lt_of_le hk h.grown.size)).trans (h.grown.block k hk hne)⟩,
   fun j hj => (hb.cell (p := ⟨g, j, none⟩) (Nat.lt_of_lt_of_le hg h.grown.size)).trans (h.cell j hj), fun j => (hb.frozen (p := ⟨g, j, none⟩) (Nat.lt_of_lt_of_le hg h.grown.size)).trans (h.frozen j)⟩
theorem Wrote.trans {w w' w'' : World} {g o n : Nat} (h : Wrote w w' g o n) (k : Wrote w' w'' g o n) : Wrote w w'' g o n :=
  ⟨⟨k.grown.os.trans h.grown.os, k.grown.tape.trans h.grown.tape, k.grown.output.trans h.grown.output, Nat.le_trans h.grown.size k.grown.size, fun i hi hne => (k.grown.block i (Nat.lt_of_lt_of_le hi h.grown.size) hne).trans (h.grown.block i hi hne)⟩,
   fun j hj => (k.cell j hj).trans (h.cell j hj), fun j => (k.frozen j).trans (h.frozen j)⟩
theorem Wrote.other {w w' : World} {g o n : Nat} (h : Wrote w w' g o n) {p : Addr} (hp : p.block < w.heap.size) (hne : p.block ≠ g) : w'.cell? p = w.cell? p :=
  World.cell?_of_block (h.grown.block p.block hp (fun e => hne (by injection e)))
theorem Wrote.other_frozen {w w' : World} {g o n : Nat} (h : Wrote w w' g o n) {p : Addr} (hp : p.block < w.heap.size) (hne : p.block ≠ g) : w'.frozen? p = w.frozen? p :=
  World.frozen?_of_block (h.grown.block p.block hp (fun e => hne (by injection e)))
theorem Wrote.below {w0 w w' : World} {g o n B : Nat} (hb : Below B w0 w) (h : Wrote w w' g o n) (hB : B ≤ w.heap.size) (hg : B ≤ g) : Below B w0 w' :=
  hb.grown h.grown hB (fun k hk => by injection hk with hk; omega)
theorem block_lt {w : World} {g o : Nat} {v : Value} (h : w.cell? ⟨g, o, none⟩ = some v) : g < w.heap.size := block_lt_of_cell h
def HasBytes (w : World) (g : Nat) (l : List UInt8) : Prop :=
  ∀ i (h : i < l.length), w.cell? ⟨g, i, none⟩ = some (.int .u8 (l[i].toNat : Int)) ∧ w.frozen? ⟨g, i, none⟩ = false
theorem HasBytes.below {w w' : World} {g B : Nat} {l : List UInt8} (h : HasBytes w g l) (hb : Below B w w') (hg : g < B) : HasBytes w' g l := fun i hi =>
  ⟨(hb.cell (p := ⟨g, i, none⟩) hg).trans (h i hi).1, (hb.frozen (p := ⟨g, i, none⟩) hg).trans (h i hi).2⟩
theorem HasBytes.drew {w : World} {g : Nat} {l : List UInt8} (h : HasBytes w g l) : HasBytes w.drew g l := h
theorem HasBytes.set {w : World} {g : Nat} {l : List UInt8} (h : HasBytes w g l) (j : Nat) (hj : j < l.length) (x : UInt8) (v : Int) (hv : v = (x.toNat : Int)) : HasBytes (w.setCell ⟨g, j, none⟩ (.int .u8 v)) g (l.set j x) := by
  subst hv
  intro i hi
  have hi' : i < l.length := by simpa using hi
  refine ⟨?_, by rw [World.frozen?_setCell]; exact (h i hi').2⟩
  by_cases hij : j = i
  · subst hij
    rw [World.cell?_setCell_same' _ _ _ (by rw [(h j hj).1]; rfl)]
    simp
  · rw [World.cell?_setCell_other _ _ _ _ (fun e => by simp only [Addr.mk.injEq] at e; omega), (h i hi').1]
    simp [hij]
theorem HasBytes.make (w : World) (e : TypeId) (n : Nat) : HasBytes (w.alloc (.cells (madeCells #[.int .u8 0] n) e)) w.heap.size (List.replicate n 0) := by
  intro i hi
  have hi' : i < n := by simpa using hi
  refine ⟨?_, World.frozen?_alloc_new _ _ _ _⟩
  rw [World.cell?_alloc_new]
  simp [madeCells, hi', Nat.mod_one]
theorem HasBytes.ofString (w : World) (e : TypeId) (s : ByteArray) (cap : Nat) : HasBytes (w.drew.alloc (.cells (bytesRow s cap) e ((bytesRow s cap).size, (bytesRow s cap).size + 1))) w.heap.size s.data.toList := by
  intro i hi
  have hi' : i < s.data.size := by simpa using hi
  have hh : (w.drew.alloc (.cells (bytesRow s cap) e ((bytesRow s cap).size, (bytesRow s cap).size + 1))).heap[w.heap.size]? = some (.cells (bytesRow s cap) e ((bytesRow s cap).size, (bytesRow s cap).size + 1)) := heap_alloc_new w.drew _
  have hsz : i < (bytesRow s cap).size := by simp only [bytesRow, Array.size_append, Array.size_map]; omega
  refine ⟨?_, ?_⟩
  · rw [cell_of_row _ _ i _ _ _ hh]
    have hi2 : i < s.size := hi'
    simp [bytesRow, Array.getElem?_append, hi2]
  · simp only [World.frozen?, hh]
    simp only [Bool.and_eq_false_iff, decide_eq_false_iff_not]
    omega
theorem HasBytes.string {P : Program} {w : World} {g : Nat} {l : List UInt8} (h : HasBytes w g l) (src dst e : TypeId) (hs : P.underlying src = some (.slice e)) (he : P.underlying e = some (.int .u8)) (hd : P.underlying dst = some .string) (c : Nat) :
    (convert src dst (.slice (some ⟨g, 0, none⟩) l.length c)).run P w = .ok (.string ⟨l.toArray⟩) w :=
  run_convert_bytes_back w src dst e ⟨g, 0, none⟩ c l hs he hd fun j hj => by
    have : (⟨g, 0, none⟩ : Addr).add j = ⟨g, j, none⟩ := by unfold Addr.add; split <;> simp_all
    rw [this]; exact (h j hj).1
end Go.Proofs.Ytjacnjecggedhaa
namespace Go.Proofs.Ytjacnjecggedhaa
set_option linter.unusedVariables false
open Go.RowKit
theorem crc_msb_true (r : BitVec 32) (h : r.msb = true) : (((r.toNat : Int) / 2147483648) == 1) = true := by
  rw [BitVec.msb_eq_true_iff_two_mul_ge] at h
  have := r.isLt
  simp; omega
theorem crc_msb_false (r : BitVec 32) (h : r.msb = false) : (((r.toNat : Int) / 2147483648) == 1) = false := by
  rw [BitVec.msb_eq_false_iff_two_mul_lt] at h
  have := r.isLt
  simp; omega
theorem ret_u32 {a b : Int} (h : a = b) : Ending.returned (.int .u32 a) = .returned (.int .u32 b) := by rw [h]
theorem crc_shl (r : BitVec 32) : ((r.toNat : Int) * (2 : Int) % (4294967296 : Int)) = ((r <<< 1).toNat : Int) := by
  rw [BitVec.toNat_shiftLeft, Nat.shiftLeft_eq]; omega
theorem crc_turn_true (r : BitVec 32) (h : r.msb = true) : bits .xor .u32 ((r.toNat : Int) * (2 : Int) % (4294967296 : Int)) 79764919 = ((Crc.turn r).toNat : Int) := by
  rw [crc_shl, show (79764919 : Int) = ((79764919 : Nat) : Int) from rfl, u32_xor_nat _ _ (r <<< 1).isLt (by decide)]
  simp [Crc.turn, h]
theorem crc_turn_false (r : BitVec 32) (h : r.msb = false) : ((r.toNat : Int) * (2 : Int) % (4294967296 : Int)) = ((Crc.turn r).toNat : Int) := by
  rw [crc_shl]; simp [Crc.turn, h]
set_option maxHeartbeats 400000 in
theorem turn_any (r : BitVec 32) (w : World) :
    Calls Try.prog 94 #[.int .u32 (r.toNat : Int)] w fun e w' => e = .returned (.int .u32 ((Crc.turn r).toNat : Int)) ∧ w = w' := by
  cases hm : r.msb with
  | true =>
    have h1 := crc_msb_true r hm
    have h2 := Lib.hid (crc_turn_true r hm)
    clear hm
    go_enter Try.func94, Try.ntmps94
    go_wp2
    go_ret
    exact ⟨ret_u32 h2.out, rfl⟩
  | false =>
    have h1 := crc_msb_false r hm
    have h2 := Lib.hid (crc_turn_false r hm)
    clear hm
    go_enter Try.func94, Try.ntmps94
    go_wp2
    go_ret
    exact ⟨ret_u32 h2.out, rfl⟩
def nTab : Nat := 256
def tabCells (k : Nat) : Array Value := ((List.range nTab).map fun i => Value.int .u32 (if i < k then ((Crc.cell i).toNat : Int) else 0)).toArray
theorem tabCells_size (k : Nat) : (tabCells k).size = 256 := by rw [tabCells, List.size_toArray, List.length_map, List.length_range]; rfl
theorem tabCells_get (k i : Nat) (hi : i < 256) : (tabCells k)[i]? = some (.int .u32 (if i < k then ((Crc.cell i).toNat : Int) else 0)) := by
  have h : i < nTab := hi
  rw [tabCells, List.getElem?_toArray, List.getElem?_map, List.getElem?_range h]; rfl
theorem tabCells_set (k : Nat) (hk : k < 256) : (tabCells k).setIfInBounds k (.int .u32 ((Crc.cell k).toNat : Int)) = tabCells (k + 1) := by
  apply Array.ext_getElem?
  intro i
  rw [Array.getElem?_setIfInBounds]
  by_cases hi : i < 256
  · rw [tabCells_get _ _ hi, tabCells_get _ _ hi, tabCells_size]
    by_cases hki : k = i
    · subst hki; simp [hk]
    · rw [if_neg hki]
      by_cases h : i < k
      · rw [if_pos h, if_pos (by omega)]
      · rw [if_neg h, if_neg (by omega)]
  · rw [if_neg (by omega)]
    have e : ∀ j, (tabCells j)[i]? = none := fun j => by rw [Array.getElem?_eq_none_iff, tabCells_size]; omega
    rw [e, e]
theorem tabCells_one (k : Nat) : (tabCells k).all (·.oneCell') = true := by
  rw [Array.all_eq_true_iff_forall_mem]
  intro v hv
  rw [tabCells, List.mem_toArray, List.mem_map] at hv
  obtain ⟨i, _, rfl⟩ := hv
  rfl
theorem zero_table (w : World) : (zeroValue 155).run Try.prog w = .ok (.agg (tabCells 0)) w := by kernel_rfl
theorem table_info (k : Nat) : (Try.prog.info? 155).map (·.size) = some (tabCells k).size := by
  rw [tabCells_size]; kernel_rfl
theorem crc_cell0 (k : Nat) (hk : k < 256) : ((k : Int) * (16777216 : Int) % (4294967296 : Int)) = ((BitVec.ofNat 32 k <<< 24).toNat : Int) := by
  rw [BitVec.toNat_shiftLeft, BitVec.toNat_ofNat, Nat.shiftLeft_eq]; omega
set_option maxRecDepth 100000 in
set_option maxHeartbeats 400000 in
theorem table_any (w : World) :
    Calls Try.prog 92 #[] w fun e w' => e = .returned (.agg (tabCells 256)) ∧ Below w.heap.size w w' := by
  have hz := zero_table
  go_enter Try.func92, Try.ntmps92
  go_wp2
  have hb0 : Below w.heap.size w (w.alloc (.cells (tabCells 0) 155)) := (Below.refl _ _).alloc (Nat.le_refl _) _
  have hh0 := heap_alloc_new w (.cells (tabCells 0) 155)
  generalize (w.alloc (.cells (tabCells 0) 155)) = w1 at hb0 hh0 ⊢
  clear hz
  go_loopw [4] (fun i wr => ∃ k : Nat, k ≤ 256 ∧ i = .int .i64 k ∧ wr.heap[w.heap.size]? = some (.cells (tabCells k) 155 (0, 0)) ∧ Below w.heap.size w wr) (fun i _ => 256 - (intOf i).toNat)
  case atStart => exact ⟨0, by omega, rfl, hh0, hb0⟩
  case round =>
    obtain ⟨k, hk, rfl, hh, hb⟩ := hrel
    clear hb0 hh0
    by_cases hlt : k < 256
    · have hc : wr.cell? ⟨w.heap.size, k, none⟩ = some (.int .u32 0) := by
        rw [cell_of_row wr _ _ _ _ _ hh, tabCells_get _ _ hlt, if_neg (Nat.lt_irrefl _)]
      have hf : wr.frozen? ⟨w.heap.size, k, none⟩ = false := frozen_of_row wr _ _ _ _ hh
      have hd : decide ((k : Int) < 256) = true := by simp; omega
      have HH := Lib.hid hh
      clear hh
      go_wp2
      go_loop [10, 3] (fun j r => ∃ n : Nat, n ≤ 8 ∧ j = .int .i64 n ∧ r = .int .u32 ((Crc.turns n (BitVec.ofNat 32 k <<< 24)).toNat : Int)) (fun j _ => 8 - (intOf j).toNat)
      case atStart => exact ⟨0, by omega, rfl, by have h := crc_cell0 k hlt; rw [Int.emod_eq_of_lt (by omega) (by omega)] at h; rw [h]; rfl⟩
      case round =>
        obtain ⟨n, hn, rfl, rfl⟩ := hrel
        by_cases hn8 : n < 8
        · go_wp2_with (go_at_call 94; refine (turn_any _ _).mono ?_; rintro e w' ⟨rfl, rfl⟩)
          go_round
          case rel => exact ⟨n + 1, by omega, by go_num, by rw [Crc.turns_succ]⟩
          case measure => simp [intOf]; omega
        · obtain rfl : n = 8 := by omega
          go_wp2
          go_roundw
          case rel => exact ⟨k + 1, by omega, by go_num, by rw [← tabCells_set k hlt]; exact heap_setCell_same _ _ _ _ _ _ HH.out, hb.setCell (Nat.le_refl _) _⟩
          case measure => simp [intOf]; omega
    · obtain rfl : k = 256 := by omega
      go_wp2_with (first | (refine wpList_load_row rfl 155 _ rfl _ rfl 155 _ _ _ hh Try.underlying155 rfl (table_info _) ?_) | (refine wpList_store_row rfl 155 _ _ rfl _ _ rfl rfl 155 _ hh (table_info _) rfl (tabCells_one _) ?_))
      rw [setRow_self _ _ _ _ _ hh]
      exact bodyPost_ret (results_cell_row rfl _ _ _ 155 _ _ _ rfl hh Try.underlying155 rfl (table_info _)) rfl ⟨rfl, hb⟩
theorem crc_idx (r : BitVec 32) (c : Nat) (hc : c < 256) : bits .xor .u8 (IntKind.u8.wrap ((r.toNat : Int) / (16777216 : Int))) (c : Int) = ((r.toNat / 16777216 ^^^ c : Nat) : Int) := by
  have hr := r.isLt
  rw [IntKind.wrap_u8, show (r.toNat : Int) / (16777216 : Int) % 256 = ((r.toNat / 16777216 : Nat) : Int) by omega, u8_xor_nat _ _ (by omega) hc]
theorem crc_new (r : BitVec 32) (c : Nat) (hc : c < 256) :
    bits .xor .u32 (IntKind.u32.wrap ((r.toNat : Int) * (256 : Int))) ((Crc.cell (r.toNat / 16777216 ^^^ c)).toNat : Int) = ((Crc.step r c).toNat : Int) := by
  have e : IntKind.u32.wrap ((r.toNat : Int) * (256 : Int)) = ((r <<< 8).toNat : Int) := by
    rw [IntKind.wrap_u32, BitVec.toNat_shiftLeft, Nat.shiftLeft_eq]; omega
  rw [e, u32_xor_nat _ _ (r <<< 8).isLt (BitVec.isLt _), Crc.step_table r c hc, BitVec.toNat_xor]
set_option maxRecDepth 100000 in
set_option maxHeartbeats 400000 in
theorem step_any (b : Nat) (r : BitVec 32) (c : Nat) (hc : c < 256) (w : World) (h0 : w.cell? ⟨b, 0, none⟩ = some (.int .u32 (r.toNat : Int))) (hf : w.frozen? ⟨b, 0, none⟩ = false)
    (ht : ∀ i, i < 256 → w.cell? ⟨b, 1 + i, none⟩ = some (.int .u32 ((Crc.cell i).toNat : Int))) :
    Calls Try.prog 93 #[.pointer (some ⟨b, 0, none⟩), .int .u8 (c : Int), .pointer (some ⟨b, 1, none⟩)] w fun e w' =>
      e = .returned (.tuple #[]) ∧ (w.setCell ⟨b, 0, none⟩ (.int .u32 ((Crc.step r c).toNat : Int))).drew = w' := by
  have hr := r.isLt
  have hx := crc_idx r c hc
  have hn0 := crc_new r c hc
  rw [IntKind.wrap_u32] at hn0
  have hn := Lib.hid hn0
  clear hn0
  have hk : r.toNat / 16777216 ^^^ c < 256 := Nat.xor_lt_two_pow (n := 8) (by omega) (by omega)
  have hck := ht _ hk
  generalize r.toNat / 16777216 ^^^ c = k at hx hn hk hck
  have hki : ((k : Nat) : Int) < 256 := by omega
  clear ht
  go_enter Try.func93, Try.ntmps93
  go_still_tail 21, (by kernel_rfl)
  change wpList _ _ _ _ _ w.drew
  go_wp2
  go_end0
  exact ⟨rfl, by rw [hn.out]⟩
end Go.Proofs.Ytjacnjecggedhaa
