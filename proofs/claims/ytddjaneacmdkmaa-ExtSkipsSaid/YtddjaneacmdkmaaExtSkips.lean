/-
  The walk of ExtSkips.
-/
import Derived.Test.YtddjaneacmdkmaaExtW
namespace Go.Proofs.Ytddjaneacmdkmaa
set_option linter.unusedVariables false
open Go.RowKit

set_option maxHeartbeats 1000000 in
theorem skips_any (t : Int) (d : ByteArray) (w : World) (hd : d.size ≤ maxLen) (ht : (Lit.int .i64 t).wf = true) :
    Calls Try.prog 3 #[.int .i64 t, .string d] w fun e w' => e = .returned (.bool true) ∧ Below w.heap.size w w' := by
  unfold maxLen at hd
  obtain ⟨m, hm1, hm2, _, hmin⟩ := min_at (P := Try.prog) #[3, 3] 3 d.size 200 (by decide)
  go_enter Try.func3, Try.ntmps3
  go_wp2_with fail
  have hs : (d.extract 0 m).size ≤ 10000 := by rw [ByteArray.size_extract]; omega
  refine (skip_any t _ w hs).mono ?_
  rintro e w1 ⟨rfl, hb1⟩
  generalize hE : extSkipAll t (d.extract 0 m) = E
  obtain ⟨x, y, z⟩ := E
  go_wp2_with fail
  refine (rskip_any t _ w1 hs).mono ?_
  rintro e w2 ⟨rfl, hb2⟩
  rw [hE]
  go_wp2_with fail
  refine (works_any _).mono ?_
  rintro e w3 ⟨rfl, hb3⟩
  go_wp2
  go_ret
  exact ⟨rfl, hb1.trans ((hb2.trans (hb3.mono hb2.size)).mono hb1.size)⟩

theorem skips_row (t : Int) (d : ByteArray) (w : World) (ht : (Lit.int .i64 t).wf = true) (hd : d.size ≤ maxLen) :
    Calls Try.prog 3 #[.int .i64 t, .string d] w fun e w' => e = .returned (.bool true) ∧ Below w.heap.size w w' := skips_any t d w hd ht

end Go.Proofs.Ytddjaneacmdkmaa
