/-
  The walks of what Put calls: is a head odd; is one of them; the iterator from behind.
-/
import Derived.Test.YtddjaneacmdkmaaStrsIn
import Derived.RangeFuncNested
import Derived.RangeFuncBound
import Derived.RangeFuncCalls
import Derived.RangeFuncLeaves
import Derived.RangeFuncFrom
import Derived.Shelf.Abstract
import Derived.Shelf.RegionOpen
import Derived.OwnWalkIn
import Derived.TacticsInMore
import Derived.LoopNIn
import Derived.LoopIn
namespace Go.Proofs.Ytddjaneacmdkmaa
set_option linter.unusedVariables false
open Go.RowKit Go.Shelf

attribute [local go_sem] Oper.semAt_some

/-- A head that may not be. -/
def badHead (h : ByteArray) : Bool := decide (h.size % 2 = 0 ∨ 9 < h.size)

set_option maxHeartbeats 400000 in
theorem odd_any (h : ByteArray) (w : World) (hs : h.size ≤ maxLen) : Calls Try.prog 14 #[.string h] w fun e w' => e = .returned (.bool (badHead h)) ∧ w = w' := by
  unfold badHead
  by_cases h2 : h.size % 2 = 0
  · have g0 : (((h.size : Int)) % 2 == 0) = true := by rw [beq_iff_eq]; omega
    rw [decide_eq_true (Or.inl h2)]
    go_enter Try.func14, Try.ntmps14
    go_wp2
    go_ret
    exact ⟨rfl, rfl⟩
  · have g0 : (((h.size : Int)) % 2 == 0) = false := by rw [beq_eq_false_iff_ne]; omega
    have e : decide (h.size % 2 = 0 ∨ 9 < h.size) = decide (9 < (h.size : Int)) := by rw [decide_eq_decide]; omega
    rw [e]
    go_enter Try.func14, Try.ntmps14
    go_wp2
    go_ret
    exact ⟨rfl, rfl⟩

theorem odd_lit (h : ByteArray) (w : World) (o : Bool) (hs : h.size ≤ maxLen) (ho : badHead h = o) : Calls Try.prog 14 #[.string h] w fun e w' => e = .returned (.bool o) ∧ w = w' := by
  subst ho; exact odd_any h w hs

set_option maxHeartbeats 1000000 in
theorem index_any (a : Option Addr) (cap : Nat) (l : List ByteArray) (w : World) (n₀ : Nat) (hl : l.length ≤ maxLen) (hs : ∀ h ∈ l, h.size ≤ maxLen) (hc : StrCells n₀ w a l) :
    Calls Try.prog 17 #[.slice a l.length cap, .func (.func 14) #[] #[]] w fun e w' => (∃ r, e = .returned (.int .i64 r) ∧ decide (0 ≤ r) = l.any badHead) ∧ w = w' := by
  unfold maxLen at hl
  go_enter Try.func17, Try.ntmps17
  go_wp2
  go_loopw [8] (fun i wr => ∃ k : Nat, k ≤ l.length ∧ i = .int .i64 k ∧ (∀ j (h : j < l.length), j < k → badHead l[j] = false) ∧ w = wr) (fun i _ => l.length - (intOf i).toNat)
  case atStart => exact ⟨0, Nat.zero_le _, rfl, fun j _ h => absurd h (by omega), rfl⟩
  case round =>
    obtain ⟨k, hk, rfl, hno, rfl⟩ := hrel
    by_cases hlt : k < l.length
    · have hd : decide ((k : Int) < (l.length : Int)) = true := by simp; omega
      obtain ⟨b, off, rfl, hbl, hcell⟩ := hc k hlt
      have hsz := hs l[k] (List.getElem_mem _)
      cases ho : badHead l[k] with
      | true =>
        generalize hx : l[k] = x at hcell hsz ho
        go_wp2_with fail
        refine (odd_lit x _ true hsz ho).mono ?_
        rintro e w1 ⟨rfl, rfl⟩
        go_wp2_with fail
        go_ret
        refine ⟨⟨_, rfl, ?_⟩, rfl⟩
        have hany : l.any badHead = true := List.any_eq_true.2 ⟨l[k], List.getElem_mem _, by rw [hx]; exact ho⟩
        rw [hany]; simp
      | false =>
        have hno' : ∀ j (h : j < l.length), j < k + 1 → badHead l[j] = false := fun j h hj => by
          by_cases e : j = k
          · subst e; exact ho
          · exact hno j h (by omega)
        generalize hx : l[k] = x at hcell hsz ho
        go_wp2_with fail
        refine (odd_lit x _ false hsz ho).mono ?_
        rintro e w1 ⟨rfl, rfl⟩
        go_wp2_with fail
        refine ⟨⟨k + 1, by omega, by simp, hno', trivial⟩, ?_⟩
        show l.length - (((k : Int) + 1).toNat) < l.length - (k : Int).toNat
        omega
    · have hd : decide ((k : Int) < (l.length : Int)) = false := by simp; omega
      go_wp2_with fail
      go_ret
      refine ⟨⟨_, rfl, ?_⟩, rfl⟩
      have hany : l.any badHead = false := by
        rw [List.any_eq_false]
        intro x hx
        obtain ⟨j, hj, rfl⟩ := List.getElem_of_mem hx
        rw [hno j hj (by omega)]; simp
      rw [hany]; simp

set_option maxHeartbeats 400000 in
theorem contains_any (a : Option Addr) (cap : Nat) (l : List ByteArray) (w : World) (n₀ : Nat) (hl : l.length ≤ maxLen) (hs : ∀ h ∈ l, h.size ≤ maxLen) (hc : StrCells n₀ w a l) :
    Calls Try.prog 15 #[.slice a l.length cap, .func (.func 14) #[] #[]] w fun e w' => e = .returned (.bool (l.any badHead)) ∧ w = w' := by
  go_enter Try.func15, Try.ntmps15
  go_wp2_with fail
  refine (index_any a cap l w n₀ hl hs hc).mono ?_
  rintro e w1 ⟨⟨r, rfl, hr⟩, rfl⟩
  go_wp2
  go_ret
  exact ⟨by rw [← hr]; rfl, rfl⟩

/-- What a round keeps: what lay below n₀, and the box Bs. -/
def KeepsBox (n₀ Bs : Nat) (W W' : World) : Prop := Below n₀ W W' ∧ W'.cell? ⟨Bs, 0, none⟩ = W.cell? ⟨Bs, 0, none⟩

theorem KeepsBox.refl (n₀ Bs : Nat) (W : World) : KeepsBox n₀ Bs W W := ⟨Below.refl _ _, rfl⟩
theorem KeepsBox.trans {n₀ Bs : Nat} {A B C : World} (h : KeepsBox n₀ Bs A B) (k : KeepsBox n₀ Bs B C) : KeepsBox n₀ Bs A C := ⟨h.1.trans k.1, k.2.trans h.2⟩

/-- What has come when k rounds are over. -/
def upTo {α : Type} (f : Nat → α) (k : Nat) : List α := (List.range k).map f
theorem upTo_succ {α : Type} (f : Nat → α) (k : Nat) : upTo f (k + 1) = upTo f k ++ [f k] := by simp [upTo, List.range_succ]
theorem upTo_length {α : Type} (f : Nat → α) (k : Nat) : (upTo f k).length = k := by simp [upTo]

set_option maxRecDepth 100000 in
set_option maxHeartbeats 2000000 in
/-- slices.Backward's closure, for whatever body that keeps what lay below n₀. -/
theorem backward_in {α : Type} (e1 : α → Nat) (e2 : α → ByteArray) (f : Nat → α) (F : Fence) (n : Nat) (hf : F.fn 18) (hro : F.round = none) (hn : 1 ≤ n) (l Bs n₀ : Nat) (a : Option Addr) (cap : Nat) (zs : List ByteArray) (hlen : zs.length ≤ maxLen) (he : ∀ k (h : k < zs.length), e1 (f k) = zs.length - 1 - k ∧ e2 (f k) = zs[zs.length - 1 - k]) (J Jx : List α → World → Prop)
    (hY : ∀ pre x W, J pre W → pre.length < zs.length → YieldAt F (n - 1) Try.prog l #[.int .i64 (e1 x : Int), .string (e2 x)] W fun e W' =>
      (e = .returned (.bool true) ∧ J (pre ++ [x]) W' ∧ KeepsBox n₀ Bs W W') ∨ (e = .returned (.bool false) ∧ Jx (pre ++ [x]) W'))
    (W : World) (hBs : W.cell? ⟨Bs, 0, none⟩ = some (.slice a zs.length cap)) (hc : StrCells n₀ W a zs) (h0 : J [] W) :
    CallsIn F n Try.prog 18 #[.func (.yield l) #[] #[], .pointer (some ⟨Bs, 0, none⟩)] W fun e W' => (∃ v, e = .returned v) ∧
      (J (upTo f zs.length) W' ∨ (∃ k, k ≤ zs.length ∧ Jx (upTo f k) W')) := by
  unfold maxLen at hlen
  refine callsIn_of_wp Try.func18 rfl hf ?_ hro
  simp only [Try.ntmps18, List.size_toArray, List.length_cons, List.length_nil, Nat.reduceAdd, Nat.reduceSub, Array.replicate_succ, Array.replicate_zero, List.push_toArray, List.append_toArray, List.nil_append, List.cons_append]
  gi_wp2
  gi_loopw [3] (fun i wr => ∃ k : Nat, k ≤ zs.length ∧ i = .int .i64 ((zs.length : Int) - 1 - k) ∧ J (upTo f k) wr ∧ KeepsBox n₀ Bs W wr)
    (fun i _ => (intOf i + 1).toNat)
  case atStart => exact ⟨0, Nat.zero_le _, by simp, h0, KeepsBox.refl _ _ _⟩
  case round =>
    obtain ⟨k, hk, rfl, hJs, hnx⟩ := hrel
    by_cases hlt : k < zs.length
    · have hd : decide ((0 : Int) ≤ (zs.length : Int) - 1 - k) = true := by simp; omega
      obtain ⟨m, hm⟩ : ∃ m : Nat, (zs.length : Int) - 1 - k = m := ⟨zs.length - 1 - k, by omega⟩
      have hm' : zs.length - 1 - k = m := by omega
      have hml : m < zs.length := by omega
      obtain ⟨b, off, rfl, hbl, hcell⟩ := hc m hml
      have hcx := (hnx.1.cell (p := ⟨b, off + m, none⟩) hbl).trans hcell
      have hBx := hnx.2.trans hBs
      have hsucc := upTo_succ f k
      obtain ⟨he1, he2⟩ := he k hlt
      simp only [hm'] at he1 he2
      obtain ⟨fn, tmps, assign, body, hy, hR⟩ := hY _ (f k) wr hJs (by rw [upTo_length]; exact hlt)
      rw [he1, he2] at hy
      rw [hm] at hd ⊢
      gi_wp2
      refine hR.mono ?_
      rintro e W3 (⟨rfl, hJ3, hk3⟩ | ⟨rfl, hJx3⟩)
      · gi_wp2
        go_roundw
        case rel => exact ⟨k + 1, by omega, by first | rfl | (congr 1; omega) | simp, by rw [hsucc]; exact hJ3, hnx.trans hk3⟩
        case measure => simp [intOf] <;> omega
      · gi_wp2
        refine bodyPost_ret (results_none rfl _ _ _) rfl ?_
        exact ⟨⟨_, rfl⟩, .inr ⟨k + 1, by omega, by rw [hsucc]; exact hJx3⟩⟩
    · obtain rfl : k = zs.length := by omega
      have hd : decide ((0 : Int) ≤ (zs.length : Int) - 1 - zs.length) = false := decide_eq_false (by omega)
      gi_wp2
      go_end0
      exact ⟨⟨_, rfl⟩, .inl hJs⟩

set_option maxHeartbeats 1000000 in
/-- slices.Backward: the slice value is boxed; the function value captures the box. -/
theorem backward_make (F : Fence) (n : Nat) (hf : F.fn 16) (hro : F.round = none) (a : Option Addr) (len cap : Nat) (w : World) :
    CallsIn F n Try.prog 16 #[.slice a len cap] w fun e w' => e = .returned (.func (.func 18) #[] #[.pointer (some ⟨w.heap.size, 0, none⟩)]) ∧ w' = w.alloc (.cells #[.slice a len cap] 27) := by
  refine callsIn_of_wp Try.func16 rfl hf ?_ hro
  simp only [Try.ntmps16, List.size_toArray, List.length_cons, List.length_nil, Nat.reduceAdd, Nat.reduceSub, Array.replicate_succ, Array.replicate_zero, List.push_toArray, List.append_toArray, List.nil_append, List.cons_append]
  gi_wp2
  go_ret
  exact ⟨rfl, rfl⟩

/-- slices.Backward(s) hands back a value that iterates, at 'Kp := Below n₀'. -/
theorem backward_stops {α : Type} (e1 : α → Nat) (e2 : α → ByteArray) (f : Nat → α) (F : Fence) (n : Nat) (hf : F.fn 18) (hro : F.round = none) (hn : 1 ≤ n) (Bs n₀ : Nat) (a : Option Addr) (cap : Nat) (zs : List ByteArray) (hlen : zs.length ≤ maxLen)
    (he : ∀ k (h : k < zs.length), e1 (f k) = zs.length - 1 - k ∧ e2 (f k) = zs[zs.length - 1 - k]) (w : World) (hBs : Bs < w.heap.size) (hn₀ : n₀ ≤ w.heap.size)
    (hc : w.cell? ⟨Bs, 0, none⟩ = some (.slice a zs.length cap)) (hI : StrCells n₀ w a zs) :
    SeqStopsK F n Try.prog 18 #[.pointer (some ⟨Bs, 0, none⟩)] (fun x : α => #[Value.int .i64 (e1 x : Int), .string (e2 x)]) (KeepsBox n₀ Bs) (fun ys => ys = upTo f zs.length) (fun pre => True) zs.length w := fun l J Jx W hW _ _ hY h0 => by
  have hc' := (hW.cell (p := ⟨Bs, 0, none⟩) hBs).trans hc
  refine (backward_in e1 e2 f F n hf hro hn l Bs n₀ a cap zs hlen he J Jx hY W hc' (hI.below (hW.mono hn₀)) h0).mono ?_
  rintro e W' ⟨he', hj | ⟨k, hk, hj⟩⟩
  · exact ⟨he', .inl ⟨_, rfl, hj⟩⟩
  · exact ⟨he', .inr ⟨_, trivial, hj⟩⟩

end Go.Proofs.Ytddjaneacmdkmaa
