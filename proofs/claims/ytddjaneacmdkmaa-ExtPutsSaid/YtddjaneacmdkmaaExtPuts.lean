/-
  The walk of ExtPuts.
-/
import Derived.Test.YtddjaneacmdkmaaExtR
import Derived.Test.YtddjaneacmdkmaaStrsOpen
namespace Go.Proofs.Ytddjaneacmdkmaa
set_option linter.unusedVariables false
open Go.RowKit

theorem rput_any (t : Int) (d : ByteArray) (a : Option Addr) (cap : Nat) (l : List ByteArray) (w : World) (hd : d.size ≤ 10000) (hl : l.length ≤ 1000) (hs : ∀ h ∈ l, h.size ≤ maxLen) (hc : StrCells w.heap.size w a l) :
    Calls Try.prog 13 #[.int .i64 t, .string d, .slice a l.length cap] w fun e W' => e = .returned (.tuple #[.int .i64 (extPut t d l).1, .string (extPut t d l).2.1, .int .i64 (extPut t d l).2.2]) ∧ Below w.heap.size w W' := by
  by_cases h : t < 1536 ∨ 65535 < t
  · have hx : extPut t d l = (0, ⟨#[]⟩, 2) := by unfold extPut; rw [if_pos (by rcases h with h | h; exact .inl h; exact .inr (.inl h))]
    rw [hx]
    exact rput_out t d a cap l w h
  · exact rput_in t d a cap l w (by omega) (by omega) hd hl hs hc

theorem cut12_size (h : ByteArray) : (cut12 h).size ≤ 12 := by unfold cut12; rw [ByteArray.size_extract]; omega

set_option maxHeartbeats 1000000 in
theorem puts_any (t : Int) (d : ByteArray) (a : Option Addr) (cap : Nat) (l : List ByteArray) (w : World) (hd : d.size ≤ maxLen) (hl : l.length ≤ maxLen) (hs : ∀ h ∈ l, h.size ≤ maxLen) (hc : StrCells w.heap.size w a l) :
    Calls Try.prog 4 #[.int .i64 t, .string d, .slice a l.length cap] w fun e w' => e = .returned (.bool true) ∧ Below w.heap.size w w' := by
  have hd' := hd
  unfold maxLen at hd'
  obtain ⟨m, hm1, hm2, _, hmin⟩ := min_at (P := Try.prog) #[3, 3] 3 d.size 100 (by decide)
  go_enter Try.func4, Try.ntmps4
  go_wp2_with fail
  have hds : (d.extract 0 m).size ≤ 10000 := by rw [ByteArray.size_extract]; omega
  refine (short_any a cap l w hl hs hc).mono ?_
  rintro e w1 ⟨⟨v, rfl, hown⟩, hb1⟩
  have hlen : ((l.take 10).map cut12).length ≤ 10 := by simp; omega
  have hsz : ∀ h ∈ (l.take 10).map cut12, h.size ≤ maxLen := fun h hh => by
    obtain ⟨x, _, rfl⟩ := List.mem_map.1 hh
    have := cut12_size x
    unfold maxLen; omega
  generalize (l.take 10).map cut12 = l' at hown hlen hsz
  obtain ⟨a', cap', rfl, hc'⟩ := strCells_of_own hown
  go_wp2_with fail
  refine (put_any t _ a' cap' l' w1 hds (by omega) hsz hc').mono ?_
  rintro e w2 ⟨rfl, hb2⟩
  generalize hE : extPut t (d.extract 0 m) l' = E
  obtain ⟨x, y, z⟩ := E
  go_wp2_with fail
  refine (rput_any t _ a' cap' l' w2 hds (by omega) hsz ((hc'.below hb2).mono hb2.size)).mono ?_
  rintro e w3 ⟨rfl, hb3⟩
  rw [hE]
  go_wp2_with fail
  refine (works_any _).mono ?_
  rintro e w4 ⟨rfl, hb4⟩
  go_wp2
  go_ret
  exact ⟨rfl, hb1.trans ((hb2.trans ((hb3.trans (hb4.mono hb3.size)).mono hb2.size)).mono hb1.size)⟩

theorem puts_raw {H : Type} {enc : TypeId × Value → H} {base : Nat} {d' : DataW H} {p : List MemPlace} (t : Int) (d : ByteArray) (v : Value) (W : World) (ht : (Lit.int .i64 t).wf = true) (hd : d.size ≤ maxLen)
    (hv : Value.okWide Try.prog W .any base 27 v) (h : DataW.Trod enc Try.prog W 0 (fun _ => true) true 27 v d' p) (_ : ∀ x ∈ p, x.block < W.heap.size) :
    Calls Try.prog 4 #[.int .i64 t, .string d, v] W fun e w' => e = .returned (.bool true) ∧ Below W.heap.size W w' := by
  obtain ⟨a, cap, l, rfl, hl, hs, hc⟩ := open_strs hv h
  exact puts_any t d a cap l W hd hl hs hc

end Go.Proofs.Ytddjaneacmdkmaa
