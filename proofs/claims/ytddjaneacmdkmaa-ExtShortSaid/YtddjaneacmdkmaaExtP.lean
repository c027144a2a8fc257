/-
  The walk of ext.Put.
-/
import Derived.Test.YtddjaneacmdkmaaExtB
import Derived.Test.YtddjaneacmdkmaaExtMath
import Derived.Test.YtddjaneacmdkmaaBridge
import Derived.Test.YtddjaneacmdkmaaWLast
import Derived.Sort.QuietTacIn
namespace Go.Proofs.Ytddjaneacmdkmaa
set_option linter.unusedVariables false
open Go.RowKit Go.Shelf

attribute [local go_sem] Oper.semAt_some

/-- One head is put ahead of a type and data. -/
def put1 (s : Int × ByteArray) (h : ByteArray) : Int × ByteArray :=
  (256 * (((h.size : Int) + 1) / 2) + (h.data.getD 0 0).toNat, h.extract 1 h.size ++ strOfNums [IntKind.u8.wrap (s.1 / 256), IntKind.u8.wrap s.1] ++ s.2)

/-- Heads are put ahead, the last one first. -/
def putAll (s : Int × ByteArray) (l : List ByteArray) : Int × ByteArray := l.foldr (fun h s => put1 s h) s

/-- A head that may be, with its place. -/
abbrev GoodHead := { x : Nat × ByteArray // badHead x.2 = false }

def stepAll (s : Int × ByteArray) (pre : List GoodHead) : Int × ByteArray := pre.foldl (fun s x => put1 s x.1.2) s

theorem stepAll_snoc (s : Int × ByteArray) (pre : List GoodHead) (x : GoodHead) : stepAll s (pre ++ [x]) = put1 (stepAll s pre) x.1.2 := by simp [stepAll]

/-- The k-th head from behind. -/
def goodAt (l : List ByteArray) (k : Nat) : GoodHead :=
  if h : k < l.length ∧ badHead (l[l.length - 1 - k]?.getD ByteArray.empty) = false then ⟨(l.length - 1 - k, l[l.length - 1 - k]?.getD ByteArray.empty), h.2⟩ else ⟨(0, ⟨#[0]⟩), by rfl⟩

theorem goodAt_eq (l : List ByteArray) (hl : l.any badHead = false) (k : Nat) (h : k < l.length) : (goodAt l k).1 = (l.length - 1 - k, l[l.length - 1 - k]) := by
  have hk : l.length - 1 - k < l.length := by omega
  have e : l[l.length - 1 - k]?.getD ByteArray.empty = l[l.length - 1 - k] := by rw [List.getElem?_eq_getElem hk, Option.getD_some]
  have hb : badHead l[l.length - 1 - k] = false := by
    rw [List.any_eq_false] at hl
    have := hl _ (List.getElem_mem hk)
    simpa using this
  unfold goodAt
  rw [dif_pos ⟨h, by rw [e]; exact hb⟩]
  simp [e]

theorem stepAll_eq (s : Int × ByteArray) (l : List ByteArray) (hl : l.any badHead = false) : stepAll s (upTo (goodAt l) l.length) = putAll s l := by
  have key : (upTo (goodAt l) l.length).map (fun x => x.1.2) = l.reverse := by
    apply List.ext_getElem
    · simp [upTo]
    · intro i h1 h2
      simp only [upTo, List.getElem_map, List.getElem_range, List.getElem_reverse]
      rw [goodAt_eq l hl i (by simpa using h2)]
  unfold stepAll putAll
  rw [← List.foldl_map (f := fun x : GoodHead => x.1.2) (g := fun s h => put1 s h), key, List.foldl_reverse]

theorem put1_bounds (s : Int × ByteArray) (h : ByteArray) (hb : badHead h = false) : 0 ≤ (put1 s h).1 ∧ (put1 s h).1 ≤ 65535 ∧ (put1 s h).2.size = h.size + 1 + s.2.size := by
  have h1 : ¬ h.size % 2 = 0 ∧ ¬ 9 < h.size := by simpa [badHead, not_or] using hb
  have hb0 := UInt8.toNat_lt (h.data.getD 0 0)
  unfold put1
  refine ⟨by simp only; omega, by simp only; omega, ?_⟩
  simp only [ByteArray.size_append, ByteArray.size_extract, strOfNums_size, List.length_cons, List.length_nil]
  omega

theorem cell_new_l (w : World) (v : Value) (t : TypeId) : (w.alloc (.cells #[v] t)).cell? ⟨w.heap.size, 0, none⟩ = some v ∧ (w.alloc (.cells #[v] t)).frozen? ⟨w.heap.size, 0, none⟩ = false := ⟨by simp, by simp⟩

theorem cell_alloc_l {w : World} {g o : Nat} {v : Value} (x : Obj) (h : w.cell? ⟨g, o, none⟩ = some v) : (w.alloc x).cell? ⟨g, o, none⟩ = some v :=
  (((Below.refl w.heap.size w).alloc (Nat.le_refl _) x).cell (p := ⟨g, o, none⟩) (block_lt h)).trans h

theorem frozen_alloc_l {w : World} {g o : Nat} {v : Value} (x : Obj) (h : w.cell? ⟨g, o, none⟩ = some v) (hf : w.frozen? ⟨g, o, none⟩ = false) : (w.alloc x).frozen? ⟨g, o, none⟩ = false :=
  (((Below.refl w.heap.size w).alloc (Nat.le_refl _) x).frozen (p := ⟨g, o, none⟩) (block_lt h)).trans hf

theorem keepsBox_put {n₀ Bs : Nat} {w : World} (hn : n₀ ≤ w.heap.size) (hB : Bs < w.heap.size) (W : World) (l : Nat) (o o' : Obj) (hl : w.heap.size ≤ l) (h : W.heap[l]? = some o) (h1 : o.isCells = false) (h2 : o.isWalk = false) : KeepsBox n₀ Bs W (W.putObj l o') :=
  ⟨belowK_b hn W l o o' hl h h1 h2, World.cell?_of_block (World.putObj_heap_other (by simp only; omega))⟩

set_option maxRecDepth 100000 in
set_option maxHeartbeats 2000000 in
theorem put_good (t : Int) (d : ByteArray) (a : Option Addr) (cap : Nat) (l : List ByteArray) (w : World) (ht0 : 1536 ≤ t) (ht1 : t ≤ 65535) (hd : d.size ≤ 10000) (hl : l.length ≤ 1000) (hs : ∀ h ∈ l, h.size ≤ maxLen) (hg : l.any badHead = false) (hc : StrCells w.heap.size w a l) :
    Calls Try.prog 12 #[.int .i64 t, .string d, .slice a l.length cap] w fun e W' => e = .returned (.tuple #[.int .i64 (putAll (t, d) l).1, .string (putAll (t, d) l).2, .int .i64 0]) ∧ Below w.heap.size w W' := by
  refine (callsIn_wide (n := 6)).1 ?_
  have hro : Fence.wide.round = none := rfl
  have h1 : 1 ≤ 6 := by omega
  have g0 : decide (t < 1536) = false := decide_eq_false (by omega)
  have g1 : decide (65535 < t) = false := decide_eq_false (by omega)
  refine callsIn_of_wp_marks Try.func12 rfl trivial ?_ hro
  simp only [Try.ntmps12, List.size_toArray, List.length_cons, List.length_nil, Nat.reduceAdd, Nat.reduceSub, Array.replicate_succ, Array.replicate_zero, List.push_toArray, List.append_toArray, List.nil_append, List.cons_append]
  gi_wp2_with (first
    | (refine ⟨trivial, ?_⟩; gi_at_call 15; refine (callsIn_wide.2 (contains_any a cap l _ w.heap.size (by unfold maxLen; omega) hs (hc.below (((Below.refl _ _).alloc (Nat.le_refl _) _).alloc (by simp) _)))).mono ?_; rintro e w' ⟨rfl, rfl⟩; rw [hg])
    | (refine ⟨trivial, ?_⟩; gi_at_call 16; refine (backward_make Fence.wide _ trivial rfl _ _ _ _).mono ?_; rintro e w' ⟨rfl, rfl⟩))
  have hB0 : Below w.heap.size w (((w.alloc (.cells #[.int .i64 t] 3)).alloc (.cells #[.string d] 9)).alloc (.cells #[.slice a l.length cap] 27)) := (((Below.refl _ _).alloc (Nat.le_refl _) _).alloc (by simp) _).alloc (by simp; omega) _
  have c0 := cell_new_l w (.int .i64 t) 3
  have c1 := cell_new_l (w.alloc (.cells #[.int .i64 t] 3)) (.string d) 9
  have c2 := cell_new_l ((w.alloc (.cells #[.int .i64 t] 3)).alloc (.cells #[.string d] 9)) (.slice a l.length cap) 27
  simp only [World.size_alloc] at c1 c2
  have hlen := stepAll_eq (t, d) l hg
  have hst := backward_stops (fun x : GoodHead => x.1.1) (fun x : GoodHead => x.1.2) (goodAt l) Fence.wide 5 trivial rfl (by omega) (w.heap.size + 1 + 1) w.heap.size a cap l (by unfold maxLen; omega)
    (fun k h => by rw [goodAt_eq l hg k h]; exact ⟨rfl, rfl⟩) (((w.alloc (.cells #[.int .i64 t] 3)).alloc (.cells #[.string d] 9)).alloc (.cells #[.slice a l.length cap] 27)) (by simp) (by simp; omega) c2.1 (hc.below hB0)
  refine' wpIn_rangeFunc_ownF hro h1 (gf := 18) (lb := #[.pointer (some ⟨w.heap.size + 1 + 1, 0, none⟩)]) rfl trivial (enters_of Try.func18 (by kernel_rfl) rfl)
    hst (fun h k => h.trans k) ?hkb (Below.refl _ _) (fun _ => rfl)
    (fun pre W => (W.cell? ⟨w.heap.size, 0, none⟩ = some (.int .i64 (stepAll (t, d) pre).1) ∧ W.frozen? ⟨w.heap.size, 0, none⟩ = false ∧ W.cell? ⟨w.heap.size + 1, 0, none⟩ = some (.string (stepAll (t, d) pre).2) ∧ W.frozen? ⟨w.heap.size + 1, 0, none⟩ = false ∧ 0 ≤ (stepAll (t, d) pre).1 ∧ (stepAll (t, d) pre).1 ≤ 65535 ∧ (stepAll (t, d) pre).2.size ≤ d.size + 10 * pre.length ∧ w.heap.size + 1 + 1 < W.heap.size) ∧ Below w.heap.size w W)
    (fun _ _ _ => False) ?hI (fun _ _ _ _ _ hs _ _ => hs) ?h0 _ ?assign ?body ?done ?stop
  case assign =>
    intro l x W K hK
    gi_wp2
    exact hK
  case hkb => exact keepsBox_put (by simp; omega) (by simp)
  case hI =>
    exact OwnFrom.and (Own.from (fun s A B row hs hg hr => ⟨cell_kept hs.1 hg hr, (frozen_kept hs.1 hg hr).trans hs.2.1, cell_kept hs.2.2.1 hg hr, (frozen_kept hs.2.2.1 hg hr).trans hs.2.2.2.1, hs.2.2.2.2.1, hs.2.2.2.2.2.1, hs.2.2.2.2.2.2.1, Nat.lt_of_lt_of_le hs.2.2.2.2.2.2.2 hg.size⟩) _) (ownFrom_below (Nat.le_refl _) (by simp; omega))
  case h0 => exact ⟨⟨cell_alloc_l _ (cell_alloc_l _ c0.1), frozen_alloc_l _ (cell_alloc_l _ c0.1) (frozen_alloc_l _ c0.1 c0.2), cell_alloc_l _ c1.1, frozen_alloc_l _ c1.1 c1.2, by show 0 ≤ t; omega, by show t ≤ 65535; omega, by show d.size ≤ _; omega, by simp⟩, hB0⟩
  case stop =>
    rintro D c pre W _ _ h _
    exact h.elim
  case body =>
    rintro l0 pre ⟨⟨xi, h⟩, hbad⟩ W ⟨⟨b0, z0, b1, z1, hu0, hu1, hys, hbx⟩, hB⟩ hpl
    have hst' := stepAll_snoc (t, d) pre ⟨⟨xi, h⟩, hbad⟩
    generalize stepAll (t, d) pre = s at b0 b1 hu0 hu1 hys hst'
    obtain ⟨u, y⟩ := s
    simp only at b0 b1 hu0 hu1 hys hst' hbad
    have hh : ¬ h.size % 2 = 0 ∧ ¬ 9 < h.size := by simpa [badHead, not_or] using hbad
    have hq : IntKind.i64.wrap (u.tdiv 256) = u / 256 := by
      rw [Int.tdiv_eq_ediv_of_nonneg hu0, IntKind.wrap_i64]; omega
    have hs1 : ¬ (h.size : Int) < 1 := by omega
    have hcv : (convert 42 9 (.slice (some ⟨W.heap.size, 0, none⟩) 2 2)).run Try.prog (W.alloc (.cells #[.int .u8 (IntKind.u8.wrap (u / 256)), .int .u8 (IntKind.u8.wrap u)] 5)).drew = .ok (.string (strOfNums [IntKind.u8.wrap (u / 256), IntKind.u8.wrap u])) (W.alloc (.cells #[.int .u8 (IntKind.u8.wrap (u / 256)), .int .u8 (IntKind.u8.wrap u)] 5)).drew :=
      conv_new (P := Try.prog) 42 9 5 Try.underlying42 Try.underlying5 Try.underlying9 [IntKind.u8.wrap (u / 256), IntKind.u8.wrap u] W.drew
    have hs2 : (strOfNums [IntKind.u8.wrap (u / 256), IntKind.u8.wrap u]).size = 2 := by rw [strOfNums_size]; rfl
    have hs3 : (h.extract 1 h.size).size = h.size - 1 := by rw [ByteArray.size_extract]; omega
    have hs4 : h.size - 1 + 2 ≤ 9223372036854775807 := by omega
    have hs5 : h.size - 1 + 2 + y.size ≤ 9223372036854775807 := by omega
    gi_wp2_with fail
    refine wpIn_region_of_any (by kernel_rfl) (by kernel_rfl) (fun ⟨_, _, hx⟩ => hx) (PrintLast.wpAny_of_last (ds := [12]) (S := fun W' => W'.cell? ⟨w.heap.size, 0, none⟩ = some (.int .i64 u) ∧ W'.cell? ⟨w.heap.size + 1, 0, none⟩ = some (.string y)) _ _ _ _ ?_)
    have hS : (fun W' : World => W'.cell? ⟨w.heap.size, 0, none⟩ = some (.int .i64 u) ∧ W'.cell? ⟨w.heap.size + 1, 0, none⟩ = some (.string y)) W.drew := ⟨b0, b1⟩
    refine PrintLast.take_ (i := 0) (N := (some 27)) (v := .string h) #[true, false, false, false, false, false, false, false, false, false, false, false, false] rfl rfl (by kernel_rfl) (fun _ _ _ h => h) (.inl ⟨rfl, fun w' hSw => by go_simp⟩) hS rfl ?_
    simp only [Act.put, List.setIfInBounds_toArray, List.set_cons_zero, List.set_cons_succ]
    refine PrintLast.take_ (i := 1) (N := (some 28)) (v := .string (h.extract 1 h.size)) #[true, true, false, false, false, false, false, false, false, false, false, false, false] rfl rfl (by kernel_rfl) (fun _ _ _ h => h) (.inl ⟨rfl, fun w' hSw => by go_simp⟩) hS rfl ?_
    simp only [Act.put, List.setIfInBounds_toArray, List.set_cons_zero, List.set_cons_succ]
    refine PrintLast.take_ (i := 2) (N := (some 29)) (v := .int .i64 u) #[true, true, true, false, false, false, false, false, false, false, false, false, false] rfl rfl (by kernel_rfl) (fun _ _ _ h => h) (.inl ⟨rfl, fun w' hSw => by obtain ⟨q0, q1⟩ := hSw; go_simp⟩) hS rfl ?_
    simp only [Act.put, List.setIfInBounds_toArray, List.set_cons_zero, List.set_cons_succ]
    refine PrintLast.take_ (i := 3) (N := (some 30)) (v := .int .i64 (u / 256)) #[true, true, true, true, false, false, false, false, false, false, false, false, false] rfl rfl (by kernel_rfl) (fun _ _ _ h => h) (.inl ⟨rfl, fun w' hSw => by go_simp⟩) hS rfl ?_
    simp only [Act.put, List.setIfInBounds_toArray, List.set_cons_zero, List.set_cons_succ]
    refine PrintLast.take_ (i := 4) (N := (some 31)) (v := .int .u8 (IntKind.u8.wrap (u / 256))) #[true, true, true, true, true, false, false, false, false, false, false, false, false] rfl rfl (by kernel_rfl) (fun _ _ _ h => h) (.inl ⟨rfl, fun w' hSw => by go_simp⟩) hS rfl ?_
    simp only [Act.put, List.setIfInBounds_toArray, List.set_cons_zero, List.set_cons_succ]
    refine PrintLast.take_ (i := 5) (N := (some 32)) (v := .int .i64 u) #[true, true, true, true, true, true, false, false, false, false, false, false, false] rfl rfl (by kernel_rfl) (fun _ _ _ h => h) (.inl ⟨rfl, fun w' hSw => by obtain ⟨q0, q1⟩ := hSw; go_simp⟩) hS rfl ?_
    simp only [Act.put, List.setIfInBounds_toArray, List.set_cons_zero, List.set_cons_succ]
    refine PrintLast.take_ (i := 6) (N := (some 33)) (v := .int .u8 (IntKind.u8.wrap u)) #[true, true, true, true, true, true, true, false, false, false, false, false, false] rfl rfl (by kernel_rfl) (fun _ _ _ h => h) (.inl ⟨rfl, fun w' hSw => by go_simp⟩) hS rfl ?_
    simp only [Act.put, List.setIfInBounds_toArray, List.set_cons_zero, List.set_cons_succ]
    refine PrintLast.take_ (i := 10) (N := (some 37)) (v := .string y) #[true, true, true, true, true, true, true, false, false, false, true, false, false] rfl rfl (by kernel_rfl) (fun _ _ _ h => h) (.inl ⟨rfl, fun w' hSw => by obtain ⟨q0, q1⟩ := hSw; go_simp⟩) hS rfl ?_
    simp only [Act.put, List.setIfInBounds_toArray, List.set_cons_zero, List.set_cons_succ]
    refine PrintLast.one_ (i := 7) (N := (some 34)) #[true, true, true, true, true, true, true, true, false, false, true, false, false] rfl rfl (by kernel_rfl) (by decide) (fun K hK => PrintLast.value_ (v := .slice (some ⟨W.drew.heap.size, 0, none⟩) 2 2) (w1 := W.drew.alloc (.cells #[.int .u8 (IntKind.u8.wrap (u / 256)), .int .u8 (IntKind.u8.wrap u)] 5)) rfl rfl (by go_simp) (hK.out _ _ (⟨cell_alloc_l _ hS.1, cell_alloc_l _ hS.2⟩) (fun hS => ?_)))
    clear hK K
    simp only [Act.put, List.setIfInBounds_toArray, List.set_cons_zero, List.set_cons_succ]
    refine PrintLast.one_ (i := 8) (N := (some 35)) #[true, true, true, true, true, true, true, true, true, false, true, false, false] rfl rfl (by kernel_rfl) (by decide) (fun K hK => PrintLast.value_ (v := .string (strOfNums [IntKind.u8.wrap (u / 256), IntKind.u8.wrap u])) (w1 := W.drew.alloc (.cells #[.int .u8 (IntKind.u8.wrap (u / 256)), .int .u8 (IntKind.u8.wrap u)] 5)) rfl rfl (by go_simp) (hK.out _ _ (hS) (fun hS => ?_)))
    clear hK K
    simp only [Act.put, List.setIfInBounds_toArray, List.set_cons_zero, List.set_cons_succ]
    refine PrintLast.one_ (i := 9) (N := (some 36)) #[true, true, true, true, true, true, true, true, true, true, true, false, false] rfl rfl (by kernel_rfl) (by decide) (fun K hK => PrintLast.value_ (v := .string (h.extract 1 h.size ++ strOfNums [IntKind.u8.wrap (u / 256), IntKind.u8.wrap u])) (w1 := W.drew.alloc (.cells #[.int .u8 (IntKind.u8.wrap (u / 256)), .int .u8 (IntKind.u8.wrap u)] 5)) rfl rfl (by go_simp) (hK.out _ _ (hS) (fun hS => ?_)))
    clear hK K
    simp only [Act.put, List.setIfInBounds_toArray, List.set_cons_zero, List.set_cons_succ]
    refine PrintLast.one_ (i := 11) (N := (some 38)) #[true, true, true, true, true, true, true, true, true, true, true, true, false] rfl rfl (by kernel_rfl) (by decide) (fun K hK => PrintLast.value_ (v := .string (h.extract 1 h.size ++ strOfNums [IntKind.u8.wrap (u / 256), IntKind.u8.wrap u] ++ y)) (w1 := W.drew.alloc (.cells #[.int .u8 (IntKind.u8.wrap (u / 256)), .int .u8 (IntKind.u8.wrap u)] 5)) rfl rfl (by go_simp) (hK.out _ _ (hS) (fun hS => ?_)))
    clear hK K
    simp only [Act.put, List.setIfInBounds_toArray, List.set_cons_zero, List.set_cons_succ]
    have z1' : (W.alloc (.cells #[.int .u8 (IntKind.u8.wrap (u / 256)), .int .u8 (IntKind.u8.wrap u)] 5)).frozen? ⟨w.heap.size + 1, 0, none⟩ = false := frozen_alloc_l _ b1 z1
    have b1' : (W.alloc (.cells #[.int .u8 (IntKind.u8.wrap (u / 256)), .int .u8 (IntKind.u8.wrap u)] 5)).cell? ⟨w.heap.size + 1, 0, none⟩ = some (.string y) := cell_alloc_l _ b1
    have z0' : (W.alloc (.cells #[.int .u8 (IntKind.u8.wrap (u / 256)), .int .u8 (IntKind.u8.wrap u)] 5)).frozen? ⟨w.heap.size, 0, none⟩ = false := frozen_alloc_l _ b0 z0
    have b0' : (W.alloc (.cells #[.int .u8 (IntKind.u8.wrap (u / 256)), .int .u8 (IntKind.u8.wrap u)] 5)).cell? ⟨w.heap.size, 0, none⟩ = some (.int .i64 u) := cell_alloc_l _ b0
    refine PrintLast.last_ (i := 12) (N := none) #[true, true, true, true, true, true, true, true, true, true, true, true, true] rfl rfl (by kernel_rfl) (by decide) (fun K hK => PrintLast.skip_ (w1 := (W.drew.alloc (.cells #[.int .u8 (IntKind.u8.wrap (u / 256)), .int .u8 (IntKind.u8.wrap u)] 5)).setCell ⟨w.heap.size + 1, 0, none⟩ (.string (h.extract 1 h.size ++ strOfNums [IntKind.u8.wrap (u / 256), IntKind.u8.wrap u] ++ y))) rfl rfl (by go_simp) (hK.out _ _ ?_))
    clear hK K
    refine PrintLast.done_ (by kernel_rfl) ?_
    have hi0 : ∀ w, (Instr.index 9 (.string h) (.int .i64 0)).run Try.prog w = .ok (.int .u8 ((h.data.getD 0 0).toNat : Int)) w := fun w => by
      have hz : h.size = h.data.size := rfl
      rw [run_index_string w 9 h .i64 _ Try.underlying9, dif_pos (by omega)]
      simp [Array.getD, ByteArray.getElem_eq_getElem_data, show 0 < h.size by omega]
    have hb8 := UInt8.toNat_lt (h.data.getD 0 0)
    generalize hp : (h.data.getD 0 0).toNat = pn at hi0 hb8
    have q0 : ((W.drew.alloc (.cells #[.int .u8 (IntKind.u8.wrap (u / 256)), .int .u8 (IntKind.u8.wrap u)] 5)).setCell ⟨w.heap.size + 1, 0, none⟩ (.string (h.extract 1 h.size ++ strOfNums [IntKind.u8.wrap (u / 256), IntKind.u8.wrap u] ++ y))).cell? ⟨w.heap.size, 0, none⟩ = some (.int .i64 u) := (World.cell?_setCell_other _ _ _ _ (fun e => by simp only [Addr.mk.injEq] at e; omega)).trans b0'
    have f0 : ((W.drew.alloc (.cells #[.int .u8 (IntKind.u8.wrap (u / 256)), .int .u8 (IntKind.u8.wrap u)] 5)).setCell ⟨w.heap.size + 1, 0, none⟩ (.string (h.extract 1 h.size ++ strOfNums [IntKind.u8.wrap (u / 256), IntKind.u8.wrap u] ++ y))).frozen? ⟨w.heap.size, 0, none⟩ = false := by rw [World.frozen?_setCell]; exact z0'
    have q1 : ((W.drew.alloc (.cells #[.int .u8 (IntKind.u8.wrap (u / 256)), .int .u8 (IntKind.u8.wrap u)] 5)).setCell ⟨w.heap.size + 1, 0, none⟩ (.string (h.extract 1 h.size ++ strOfNums [IntKind.u8.wrap (u / 256), IntKind.u8.wrap u] ++ y))).cell? ⟨w.heap.size + 1, 0, none⟩ = some (.string (h.extract 1 h.size ++ strOfNums [IntKind.u8.wrap (u / 256), IntKind.u8.wrap u] ++ y)) := World.cell?_setCell_same' _ _ _ (by rw [show (W.drew.alloc (.cells #[.int .u8 (IntKind.u8.wrap (u / 256)), .int .u8 (IntKind.u8.wrap u)] 5)).cell? ⟨w.heap.size + 1, 0, none⟩ = some (.string y) from b1']; rfl)
    have f1 : ((W.drew.alloc (.cells #[.int .u8 (IntKind.u8.wrap (u / 256)), .int .u8 (IntKind.u8.wrap u)] 5)).setCell ⟨w.heap.size + 1, 0, none⟩ (.string (h.extract 1 h.size ++ strOfNums [IntKind.u8.wrap (u / 256), IntKind.u8.wrap u] ++ y))).frozen? ⟨w.heap.size + 1, 0, none⟩ = false := by rw [World.frozen?_setCell]; exact z1'
    have k5 : KeepsOthers W ((W.drew.alloc (.cells #[.int .u8 (IntKind.u8.wrap (u / 256)), .int .u8 (IntKind.u8.wrap u)] 5)).setCell ⟨w.heap.size + 1, 0, none⟩ (.string (h.extract 1 h.size ++ strOfNums [IntKind.u8.wrap (u / 256), IntKind.u8.wrap u] ++ y))) := ((KeepsOthers.drew W).trans (KeepsOthers.alloc _ _)).trans (KeepsOthers.setCell _ _ _)
    have l5 : Below w.heap.size W ((W.drew.alloc (.cells #[.int .u8 (IntKind.u8.wrap (u / 256)), .int .u8 (IntKind.u8.wrap u)] 5)).setCell ⟨w.heap.size + 1, 0, none⟩ (.string (h.extract 1 h.size ++ strOfNums [IntKind.u8.wrap (u / 256), IntKind.u8.wrap u] ++ y))) := ((Below.drew (Below.refl _ W)).alloc (by show w.heap.size ≤ W.heap.size; omega) _).setCell (by simp) _
    have x5 : ((W.drew.alloc (.cells #[.int .u8 (IntKind.u8.wrap (u / 256)), .int .u8 (IntKind.u8.wrap u)] 5)).setCell ⟨w.heap.size + 1, 0, none⟩ (.string (h.extract 1 h.size ++ strOfNums [IntKind.u8.wrap (u / 256), IntKind.u8.wrap u] ++ y))).cell? ⟨w.heap.size + 1 + 1, 0, none⟩ = W.cell? ⟨w.heap.size + 1 + 1, 0, none⟩ := (World.cell?_setCell_other _ _ _ _ (fun e => by simp only [Addr.mk.injEq] at e; omega)).trans (World.cell?_alloc_lt (a := ⟨w.heap.size + 1 + 1, 0, none⟩) W.drew _ hbx)
    generalize (W.drew.alloc (.cells #[.int .u8 (IntKind.u8.wrap (u / 256)), .int .u8 (IntKind.u8.wrap u)] 5)).setCell ⟨w.heap.size + 1, 0, none⟩ (.string (h.extract 1 h.size ++ strOfNums [IntKind.u8.wrap (u / 256), IntKind.u8.wrap u] ++ y)) = W5 at q0 f0 q1 f1 k5 l5 x5 ⊢
    clear hS b0' b1' z0' z1' b0 b1 z0 z1 hcv
    gi_wp2_with fail
    have e1 : (put1 (u, y) h).1 = 256 * (((h.size : Int) + 1) / 2) + (pn : Int) := by unfold put1; simp only [hp]
    have e2 : (put1 (u, y) h).2 = h.extract 1 h.size ++ strOfNums [IntKind.u8.wrap (u / 256), IntKind.u8.wrap u] ++ y := rfl
    have e3 : (put1 (u, y) h).2.size = h.size + 1 + y.size := (put1_bounds (u, y) h hbad).2.2
    have hsz5 := k5.size
    refine ⟨k5.trans (KeepsOthers.setCell _ _ _), ⟨l5.setCell (p := ⟨w.heap.size, 0, none⟩) (Nat.le_refl _) _, (World.cell?_setCell_other _ _ _ _ (fun e => by simp only [Addr.mk.injEq] at e; omega)).trans x5⟩, ⟨?_, ?_, ?_, ?_, ?_, ?_, ?_, ?_⟩, (hB.trans l5).setCell (p := ⟨w.heap.size, 0, none⟩) (Nat.le_refl _) _⟩
    · rw [hst', e1]; exact World.cell?_setCell_same' _ _ _ (by rw [q0]; rfl)
    · rw [World.frozen?_setCell]; exact f0
    · rw [hst', e2, World.cell?_setCell_other _ _ _ _ (fun e => by simp only [Addr.mk.injEq] at e; omega)]; exact q1
    · rw [World.frozen?_setCell]; exact f1
    · rw [hst', e1]; omega
    · rw [hst', e1]; omega
    · rw [hst', e3, List.length_append]; simp only [List.length_cons, List.length_nil]; omega
    · have := (KeepsOthers.setCell W5 ⟨w.heap.size, 0, none⟩ (.int .i64 (256 * (((h.size : Int) + 1) / 2) + (pn : Int)))).size; omega
  case done =>
    rintro D ys W hD rfl ⟨⟨b0, z0, b1, z1, _⟩, hB⟩ hK
    rw [hlen] at b0 b1
    gi_wp2
    gi_quiet_th (fail)
    gi_wp2
    have hK' : (W.drewN nq).heap[D]? = some (.deferred (some [])) := hK
    refine ⟨by simp, .inl ⟨_, _, rfl, run_takeDeferred hK', ?_⟩⟩
    exact ⟨.tuple #[.int .i64 (putAll (t, d) l).1, .string (putAll (t, d) l).2, .int .i64 0], by simp [results, Try.results12, go_sem], rfl, (below_draws hB nq).trans (belowK_b (w := w) (Nat.le_refl _) (W.drewN nq) D _ _ (by simp at hD; omega) hK' rfl rfl)⟩

/-- What Put answers. -/
def extPut (t : Int) (d : ByteArray) (l : List ByteArray) : Int × ByteArray × Int :=
  if t < 1536 ∨ 65535 < t ∨ l.any badHead = true then (0, ⟨#[]⟩, 2) else ((putAll (t, d) l).1, (putAll (t, d) l).2, 0)

set_option maxHeartbeats 1000000 in
theorem put_out (t : Int) (d : ByteArray) (a : Option Addr) (cap : Nat) (l : List ByteArray) (w : World) (h : t < 1536 ∨ 65535 < t) :
    Calls Try.prog 12 #[.int .i64 t, .string d, .slice a l.length cap] w fun e W' => e = .returned (.tuple #[.int .i64 0, .string ⟨#[]⟩, .int .i64 2]) ∧ Below w.heap.size w W' := by
  by_cases h0 : t < 1536
  · have g0 : decide (t < 1536) = true := decide_eq_true (by omega)
    go_enter Try.func12, Try.ntmps12
    go_wp2_with fail
    exact bodyPost_ret (v := .tuple #[.int .i64 0, .string ⟨#[]⟩, .int .i64 2]) (by simp [results, Try.results12, go_sem]) rfl ⟨rfl, ((Below.refl _ _).alloc (Nat.le_refl _) _).alloc (by simp) _⟩
  · have g0 : decide (t < 1536) = false := decide_eq_false (by omega)
    have g1 : decide (65535 < t) = true := decide_eq_true (by omega)
    go_enter Try.func12, Try.ntmps12
    go_wp2_with fail
    exact bodyPost_ret (v := .tuple #[.int .i64 0, .string ⟨#[]⟩, .int .i64 2]) (by simp [results, Try.results12, go_sem]) rfl ⟨rfl, ((Below.refl _ _).alloc (Nat.le_refl _) _).alloc (by simp) _⟩

set_option maxHeartbeats 1000000 in
theorem put_bad (t : Int) (d : ByteArray) (a : Option Addr) (cap : Nat) (l : List ByteArray) (w : World) (h0 : 1536 ≤ t) (h1 : t ≤ 65535) (hl : l.length ≤ 1000) (hs : ∀ h ∈ l, h.size ≤ maxLen) (hg : l.any badHead = true) (hc : StrCells w.heap.size w a l) :
    Calls Try.prog 12 #[.int .i64 t, .string d, .slice a l.length cap] w fun e W' => e = .returned (.tuple #[.int .i64 0, .string ⟨#[]⟩, .int .i64 2]) ∧ Below w.heap.size w W' := by
  have g0 : decide (t < 1536) = false := decide_eq_false (by omega)
  have g1 : decide (65535 < t) = false := decide_eq_false (by omega)
  go_enter Try.func12, Try.ntmps12
  go_wp2_with fail
  refine (contains_any a cap l _ w.heap.size (by unfold maxLen; omega) hs (hc.below (((Below.refl _ _).alloc (Nat.le_refl _) _).alloc (by simp) _))).mono ?_
  rintro e w' ⟨rfl, rfl⟩
  rw [hg]
  go_wp2_with fail
  exact bodyPost_ret (v := .tuple #[.int .i64 0, .string ⟨#[]⟩, .int .i64 2]) (by simp [results, Try.results12, go_sem]) rfl ⟨rfl, ((Below.refl _ _).alloc (Nat.le_refl _) _).alloc (by simp) _⟩

theorem put_any (t : Int) (d : ByteArray) (a : Option Addr) (cap : Nat) (l : List ByteArray) (w : World) (hd : d.size ≤ 10000) (hl : l.length ≤ 1000) (hs : ∀ h ∈ l, h.size ≤ maxLen) (hc : StrCells w.heap.size w a l) :
    Calls Try.prog 12 #[.int .i64 t, .string d, .slice a l.length cap] w fun e W' => e = .returned (.tuple #[.int .i64 (extPut t d l).1, .string (extPut t d l).2.1, .int .i64 (extPut t d l).2.2]) ∧ Below w.heap.size w W' := by
  unfold extPut
  by_cases h : t < 1536 ∨ 65535 < t ∨ l.any badHead = true
  · rw [if_pos h]
    by_cases h2 : t < 1536 ∨ 65535 < t
    · exact put_out t d a cap l w h2
    · exact put_bad t d a cap l w (by omega) (by omega) hl hs (by rcases h with h | h | h; exact absurd (.inl h) h2; exact absurd (.inr h) h2; exact h) hc
  · rw [if_neg h]
    have hg : l.any badHead = false := by cases hb : l.any badHead with | false => rfl | true => exact absurd (.inr (.inr hb)) h
    exact put_good t d a cap l w (by omega) (by omega) hd hl hs hg hc

end Go.Proofs.Ytddjaneacmdkmaa
