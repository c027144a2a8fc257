/-
  The walks of Skip, of both packages.
-/
import Derived.Test.YtddjaneacmdkmaaAux
import Derived.Test.YtddjaneacmdkmaaExtMath
import Derived.Test.YtddjaneacmdkmaaProg
import Derived.WalkMore
namespace Go.Proofs.Ytddjaneacmdkmaa
set_option linter.unusedVariables false
open Go.RowKit

/-- Two bytes of a string, one behind the other. -/
theorem idx_two {P : Program} (t : TypeId) (h : P.underlying t = some .string) (x : ByteArray) (m : Nat) (hm : m + 1 < x.size) :
    (∀ w, (Instr.index t (.string x) (.int .i64 (m : Int))).run P w = .ok (.int .u8 ((x.data.getD m 0).toNat : Int)) w) ∧
    (∀ w, (Instr.index t (.string x) (.int .i64 ((m + 1 : Nat) : Int))).run P w = .ok (.int .u8 ((x.data.getD (m + 1) 0).toNat : Int)) w) := by
  have hs : x.size = x.data.size := rfl
  refine ⟨fun w => ?_, fun w => ?_⟩
  · rw [run_index_string w t x .i64 _ h, dif_pos (by omega)]
    simp [Array.getD, ByteArray.getElem_eq_getElem_data, show m < x.size by omega]
  · rw [run_index_string w t x .i64 _ h, dif_pos (by omega)]
    simp only [Int.toNat_natCast]
    simp [Array.getD, ByteArray.getElem_eq_getElem_data, hm]

set_option maxHeartbeats 1000000 in
theorem rskip_in (t : Int) (d : ByteArray) (w : World) (hd : d.size ≤ 10000) (h0 : 0 ≤ t) (h1 : t ≤ 65535) :
    Calls Try.prog 9 #[.int .i64 t, .string d] w fun e w' => e = .returned (.tuple #[.int .i64 (extSkip t d).1, .string (extSkip t d).2.1, .int .i64 (extSkip t d).2.2]) ∧ Below w.heap.size w w' := by
  go_enter Try.func9, Try.ntmps9
  have g0 : decide (t < 0) = false := by simp; omega
  have g1 : decide (65535 < t) = false := by simp; omega
  go_wp2
  go_loopw [0, 1] (fun tv dv wr => ∃ (u : Int) (x : ByteArray), tv = .int .i64 u ∧ dv = .string x ∧ 0 ≤ u ∧ u ≤ 65535 ∧ x.size ≤ d.size ∧ extSkip t d = extSkip u x ∧ Below w.heap.size w wr) (fun _ dv _ => match dv with | .string x => x.size | _ => 0)
  case atStart => exact ⟨t, d, rfl, rfl, h0, h1, Nat.le_refl _, rfl, Below.refl _ _⟩
  case round =>
    obtain ⟨u, x, rfl, rfl, hu0, hu1, hxs, hE, hb⟩ := hrel
    by_cases hA : 1536 ≤ u
    · have k0 : decide (u < 1536) = false := by simp; omega
      go_wp2_with fail
      rw [hE, extSkip_high u x hA]
      exact bodyPost_ret (v := .tuple #[.int .i64 u, .string x, .int .i64 0]) (by simp [results, Try.results9, go_sem]) rfl ⟨rfl, hb⟩
    · have k0 : decide (u < 1536) = true := by simp; omega
      by_cases hB : (u / 256).toNat = 0
      · have k1 : (u / 256 == 0) = true := by rw [beq_iff_eq]; omega
        rw [extSkip_none u x hA hB] at hE
        go_wp2_with fail
        exact bodyPost_ret (v := .tuple #[.int .i64 0, .string ⟨#[]⟩, .int .i64 5]) (by simp [results, Try.results9, go_sem]) rfl ⟨rfl, hb⟩
      · have k1 : (u / 256 == 0) = false := by rw [beq_eq_false_iff_ne]; omega
        by_cases hC : x.size < 2 * (u / 256).toNat
        · have k2 : decide ((x.size : Int) < 2 * (u / 256)) = true := by simp; omega
          rw [extSkip_form u x hA hB hC] at hE
          go_wp2_with fail
          exact bodyPost_ret (v := .tuple #[.int .i64 0, .string ⟨#[]⟩, .int .i64 4]) (by simp [results, Try.results9, go_sem]) rfl ⟨rfl, hb⟩
        · have k2 : decide ((x.size : Int) < 2 * (u / 256)) = false := by simp; omega
          obtain ⟨n, hn⟩ : ∃ n : Nat, u / 256 = n := ⟨(u / 256).toNat, by omega⟩
          have hn' : (u / 256).toNat = n := by omega
          rw [extSkip_next u x hA hB hC, hn'] at hE
          rw [hn'] at hB hC
          rw [hn] at k1 k2
          have hm : 2 * n - 2 + 1 < x.size := by omega
          obtain ⟨i0, i1⟩ := idx_two (P := Try.prog) 9 Try.underlying9 x (2 * n - 2) hm
          have e0 : (((2 * n - 2 : Nat) : Int)) = 2 * (n : Int) - 2 := by omega
          have e1 : (((2 * n - 2 + 1 : Nat) : Int)) = 2 * (n : Int) - 1 := by omega
          rw [e0] at i0
          rw [e1] at i1
          have e2 : 2 * n - 2 + 1 = 2 * n - 1 := by omega
          rw [e2] at i1
          generalize hp : x.data.getD (2 * n - 2) 0 = pa at i0 hE
          generalize hq : x.data.getD (2 * n - 1) 0 = qa at i1 hE
          have hpl := UInt8.toNat_lt pa
          have hql := UInt8.toNat_lt qa
          generalize pa.toNat = pn at i0 hE hpl
          generalize qa.toNat = qn at i1 hE hql
          clear hp hq
          have hn10 : n ≤ 5 := by omega
          go_wp2_with fail
          go_quiet (fail)
          go_wp2_with fail
          refine ⟨⟨256 * (pn : Int) + qn, x.extract (2 * n) x.size, ?_, ?_, by omega, by omega, ?_, hE, below_draws hb nq⟩, ?_⟩
          · congr 1; omega
          · rfl
          · rw [ByteArray.size_extract]; omega
          · show (x.extract (2 * n) x.size).size < x.size
            rw [ByteArray.size_extract]; omega

set_option maxHeartbeats 1000000 in
theorem skip_in (t : Int) (d : ByteArray) (w : World) (hd : d.size ≤ 10000) (h0 : 0 ≤ t) (h1 : t ≤ 65535) :
    Calls Try.prog 8 #[.int .i64 t, .string d] w fun e w' => e = .returned (.tuple #[.int .i64 (extSkip t d).1, .string (extSkip t d).2.1, .int .i64 (extSkip t d).2.2]) ∧ Below w.heap.size w w' := by
  go_enter Try.func8, Try.ntmps8
  have g0 : decide (t < 0) = false := by simp; omega
  have g1 : decide (65535 < t) = false := by simp; omega
  go_wp2
  go_step3
  go_wp2
  go_step3
  go_wp2
  go_loopw [0, 1] (fun tv dv wr => ∃ (u : Int) (x : ByteArray), tv = .int .i64 u ∧ dv = .string x ∧ 0 ≤ u ∧ u ≤ 65535 ∧ x.size ≤ d.size ∧ extSkip t d = extSkip u x ∧ Below w.heap.size w wr) (fun _ dv _ => match dv with | .string x => x.size | _ => 0)
  case atStart => exact ⟨t, d, rfl, rfl, h0, h1, Nat.le_refl _, rfl, Below.refl _ _⟩
  case round =>
    obtain ⟨u, x, rfl, rfl, hu0, hu1, hxs, hE, hb⟩ := hrel
    by_cases hA : 1536 ≤ u
    · have k0 : decide (1536 ≤ u) = true := by simp; omega
      go_wp2_with fail
      rw [Exit.noGoto_ret]
      rw [extSkip_high u x hA] at hE
      exact bodyPost_ret (v := .tuple #[.int .i64 u, .string x, .int .i64 0]) (by simp [results, Try.results8, go_sem]) rfl ⟨by rw [hE], hb⟩
    · have k0 : decide (1536 ≤ u) = false := by simp; omega
      by_cases hB : (u / 256).toNat = 0
      · have k1 : (2 * (u / 256) == 0) = true := by rw [beq_iff_eq]; omega
        rw [extSkip_none u x hA hB] at hE
        go_wp2_with fail
        exact bodyPost_ret (v := .tuple #[.int .i64 0, .string ⟨#[]⟩, .int .i64 5]) (by simp [results, Try.results8, go_sem]) rfl ⟨by rw [hE]; rfl, hb⟩
      · have k1 : (2 * (u / 256) == 0) = false := by rw [beq_eq_false_iff_ne]; omega
        by_cases hC : x.size < 2 * (u / 256).toNat
        · have k2 : decide ((x.size : Int) < 2 * (u / 256)) = true := by simp; omega
          rw [extSkip_form u x hA hB hC] at hE
          go_wp2_with fail
          exact bodyPost_ret (v := .tuple #[.int .i64 0, .string ⟨#[]⟩, .int .i64 4]) (by simp [results, Try.results8, go_sem]) rfl ⟨by rw [hE]; rfl, hb⟩
        · have k2 : decide ((x.size : Int) < 2 * (u / 256)) = false := by simp; omega
          obtain ⟨n, hn⟩ : ∃ n : Nat, u / 256 = n := ⟨(u / 256).toNat, by omega⟩
          have hn' : (u / 256).toNat = n := by omega
          rw [extSkip_next u x hA hB hC, hn'] at hE
          rw [hn'] at hB hC
          rw [hn] at k1 k2
          have hm : 2 * n - 2 + 1 < x.size := by omega
          obtain ⟨i0, i1⟩ := idx_two (P := Try.prog) 9 Try.underlying9 x (2 * n - 2) hm
          have e0 : (((2 * n - 2 : Nat) : Int)) = 2 * (n : Int) - 2 := by omega
          have e1 : (((2 * n - 2 + 1 : Nat) : Int)) = 2 * (n : Int) - 1 := by omega
          rw [e0] at i0
          rw [e1] at i1
          have e2 : 2 * n - 2 + 1 = 2 * n - 1 := by omega
          rw [e2] at i1
          generalize hp : x.data.getD (2 * n - 2) 0 = pa at i0 hE
          generalize hq : x.data.getD (2 * n - 1) 0 = qa at i1 hE
          have hpl := UInt8.toNat_lt pa
          have hql := UInt8.toNat_lt qa
          generalize pa.toNat = pn at i0 hE hpl
          generalize qa.toNat = qn at i1 hE hql
          clear hp hq
          have hn10 : n ≤ 5 := by omega
          go_wp2_with fail
          go_quiet (fail)
          go_wp2_with fail
          refine ⟨⟨256 * (pn : Int) + qn, x.extract (2 * n) x.size, ?_, ?_, by omega, by omega, ?_, hE, below_draws hb nq⟩, ?_⟩
          · first | rfl | (congr 1; omega)
          · rfl
          · rw [ByteArray.size_extract]; omega
          · show (x.extract (2 * n) x.size).size < x.size
            rw [ByteArray.size_extract]; omega

theorem skip_out (t : Int) (d : ByteArray) (w : World) (h : t < 0 ∨ 65535 < t) :
    Calls Try.prog 8 #[.int .i64 t, .string d] w fun e w' => e = .returned (.tuple #[.int .i64 0, .string ⟨#[]⟩, .int .i64 2]) ∧ Below w.heap.size w w' := by
  by_cases h0 : t < 0
  · have g0 : decide (t < 0) = true := by simp; omega
    go_enter Try.func8, Try.ntmps8
    go_wp2
    go_step3
    go_wp2
    rw [Exit.noGoto_ret]
    exact bodyPost_ret (v := .tuple #[.int .i64 0, .string ⟨#[]⟩, .int .i64 2]) (by simp [results, Try.results8, go_sem]) rfl ⟨rfl, Below.refl _ _⟩
  · have g0 : decide (t < 0) = false := by simp; omega
    have g1 : decide (65535 < t) = true := by simp; omega
    go_enter Try.func8, Try.ntmps8
    go_wp2
    go_step3
    go_wp2
    rw [Exit.noGoto_ret]
    exact bodyPost_ret (v := .tuple #[.int .i64 0, .string ⟨#[]⟩, .int .i64 2]) (by simp [results, Try.results8, go_sem]) rfl ⟨rfl, Below.refl _ _⟩

theorem skip_any (t : Int) (d : ByteArray) (w : World) (hd : d.size ≤ 10000) :
    Calls Try.prog 8 #[.int .i64 t, .string d] w fun e w' => e = .returned (.tuple #[.int .i64 (extSkipAll t d).1, .string (extSkipAll t d).2.1, .int .i64 (extSkipAll t d).2.2]) ∧ Below w.heap.size w w' := by
  unfold extSkipAll
  by_cases h : t < 0 ∨ 65535 < t
  · rw [if_pos h]; exact skip_out t d w h
  · rw [if_neg h]; exact skip_in t d w hd (by omega) (by omega)

theorem rskip_out (t : Int) (d : ByteArray) (w : World) (h : t < 0 ∨ 65535 < t) :
    Calls Try.prog 9 #[.int .i64 t, .string d] w fun e w' => e = .returned (.tuple #[.int .i64 0, .string ⟨#[]⟩, .int .i64 2]) ∧ Below w.heap.size w w' := by
  by_cases h0 : t < 0
  · have g0 : decide (t < 0) = true := by simp; omega
    go_enter Try.func9, Try.ntmps9
    go_wp2
    exact bodyPost_ret (v := .tuple #[.int .i64 0, .string ⟨#[]⟩, .int .i64 2]) (by simp [results, Try.results9, go_sem]) rfl ⟨rfl, Below.refl _ _⟩
  · have g0 : decide (t < 0) = false := by simp; omega
    have g1 : decide (65535 < t) = true := by simp; omega
    go_enter Try.func9, Try.ntmps9
    go_wp2
    exact bodyPost_ret (v := .tuple #[.int .i64 0, .string ⟨#[]⟩, .int .i64 2]) (by simp [results, Try.results9, go_sem]) rfl ⟨rfl, Below.refl _ _⟩

theorem rskip_any (t : Int) (d : ByteArray) (w : World) (hd : d.size ≤ 10000) :
    Calls Try.prog 9 #[.int .i64 t, .string d] w fun e w' => e = .returned (.tuple #[.int .i64 (extSkipAll t d).1, .string (extSkipAll t d).2.1, .int .i64 (extSkipAll t d).2.2]) ∧ Below w.heap.size w w' := by
  unfold extSkipAll
  by_cases h : t < 0 ∨ 65535 < t
  · rw [if_pos h]; exact rskip_out t d w h
  · rw [if_neg h]; exact rskip_in t d w hd (by omega) (by omega)

end Go.Proofs.Ytddjaneacmdkmaa
