/-
  Texts for RowFillIs: of the reckoner, walks, contracts and plain laws that its row stands on.
-/
import Derived.Test.YtjacnjecggedhaaIb5
import Derived.Test.YtjacnjecggedhaaIb6
import Derived.Test.YtjacnjecggedhaaIb9
import Derived.Test.YtjacnjecggedhaaIb8
import Derived.Test.YtjacnjecggedhaaIb4
namespace Go.Proofs.Ytjacnjecggedhaa
set_option linter.unusedVariables false
set_option linter.unusedSimpArgs false
open Go.RowKit Ev
def crcN (l : List UInt8) : Int := ((Crc.sum l).toNat : Int)
def two (n : Int) : List UInt8 := [UInt8.ofNat (n / 256 % 256).toNat, UInt8.ofNat (n % 256).toNat]
def four (n : Int) : List UInt8 := [UInt8.ofNat (n / 16777216 % 256).toNat, UInt8.ofNat (n / 65536 % 256).toNat, UInt8.ofNat (n / 256 % 256).toNat, UInt8.ofNat (n % 256).toNat]
def fcCrc : FC := fun args _ => match args with
  | [.str l] => some (decide (l.length ≤ 9223372036854775807), .int .u32 (crcN l))
  | _ => none
def fcTwo : FC := fun args _ => match args with
  | [.int .i64 n] => some (true, .str (two n))
  | _ => none
def fcRTwo : FC := fun args _ => match args with
  | [.int .i64 n] => some (decide (0 ≤ n ∧ n ≤ 9223372036854775807), .str (two n))
  | _ => none
def fcJoined : FC := fun args H => match args with
  | [.sl b 0 1 0 4 (some 4)] => match H.get b with
    | some (.cells _ [.str s1, .str s2, .str s3, .str s4]) => some (decide (s1.length + s2.length + s3.length + s4.length ≤ 9223372036854775807), .str (s1 ++ s2 ++ s3 ++ s4))
    | _ => none
  | _ => none
theorem crc_sound : FcSound Try.prog 90 fcCrc := by
  refine fc_of_calls Try.call90 (fun args H v h => ?_)
  unfold fcCrc at h
  split at h <;> simp only [Option.some.injEq, Prod.mk.injEq, decide_eq_true_eq, reduceCtorEq] at h
  obtain ⟨hl, rfl⟩ := h
  rename_i l
  refine ⟨rfl, rfl, fun ρ w => ?_⟩
  have := sum_any ⟨l.toArray⟩ w (by rw [str_size]; unfold maxLen; omega)
  simpa [trL, tr, crcN] using this
theorem rcrc_sound : FcSound Try.prog 54 fcCrc := by
  refine fc_of_calls Try.call54 (fun args H v h => ?_)
  unfold fcCrc at h
  split at h <;> simp only [Option.some.injEq, Prod.mk.injEq, decide_eq_true_eq, reduceCtorEq] at h
  obtain ⟨hl, rfl⟩ := h
  rename_i l
  refine ⟨rfl, rfl, fun ρ w => ?_⟩
  have := rsum_any ⟨l.toArray⟩ w (by rw [str_size]; unfold maxLen; omega)
  refine Calls.mono (by simpa [trL, tr, crcN] using this) ?_
  rintro e w' ⟨rfl, rfl⟩
  exact ⟨rfl, Below.refl _ _⟩
noncomputable def TP0 : Tabs := ((TL.addFc 90 fcCrc).addFc 54 fcCrc)
theorem TP0ok : TabsOk TP0 Try.prog := ((TLok.addFc crc_sound).addFc rcrc_sound)
end Go.Proofs.Ytjacnjecggedhaa
namespace Go.Proofs.Ytjacnjecggedhaa
set_option linter.unusedVariables false
set_option linter.unusedSimpArgs false
open Go.RowKit Ev
set_option maxRecDepth 100000 in
theorem w_two (n : Int) (K : Out → Prop) : (callC (TP0.ctx Try.prog) 100 89 [.int .i64 n] ⟨0, []⟩ (fun o _ => K o)
) =  (K (Out.ret (AVal.str [UInt8.ofNat (n / (256 : Int) % (256 : Int)).toNat, UInt8.ofNat (n % (256 : Int)).toNat]))) := by kernel_rfl
set_option maxRecDepth 100000 in
theorem w_rtwo (n : Int) (K : Out → Prop) : (callC (TP0.ctx Try.prog) 100 55 [.int .i64 n] ⟨0, []⟩ (fun o _ => K o)
) =  (obl (decide ((0 : Int) ≤ n ∧ (0 : Int) < (256 : Int)) && inI64 (n / (256 : Int))) (obl (decide ((0 : Int) ≤ n ∧ (0 : Int) < (256 : Int))) (K (Out.ret (AVal.str [UInt8.ofNat (n / (256 : Int) % (256 :
 Int)).toNat, UInt8.ofNat (n % (256 : Int) % (256 : Int)).toNat]))))) := by kernel_rfl
set_option maxRecDepth 100000 in
theorem w_joined (e : Nat) (s1 s2 s3 s4 : List UInt8) (K : Out → Prop) : (callC (TP0.ctx Try.prog) 100 91 [.sl 0 0 1 0 4 (some 4)] ⟨1, [(0, .row e strRow [s1, s2, s3, s4] .ro)]⟩ (fun o _ => K o)
) =  (obl (decide ((↑(0 + List.length ([s1, s2, s3, s4].getD 0 [])) : Int) ≤ (9223372036854775807 : Int))) (obl (decide ((↑(([] ++ [s1, s2, s3, s4].getD 0 []).length + List.length ([s1, s2, s3, s4].getD 1
 [])) : Int) ≤ (9223372036854775807 : Int))) (obl (decide ((↑(([] ++ [s1, s2, s3, s4].getD 0 [] ++ [s1, s2, s3, s4].getD 1 []).length + List.length ([s1, s2, s3, s4].getD 2 [])) : Int) ≤
 (9223372036854775807 : Int))) (obl (decide ((↑(([] ++ [s1, s2, s3, s4].getD 0 [] ++ [s1, s2, s3, s4].getD 1 [] ++ [s1, s2, s3, s4].getD 2 []).length + List.length ([s1, s2, s3, s4].getD 3 [])) : Int)
 ≤ (9223372036854775807 : Int))) (K (Out.ret (AVal.str ([] ++ [s1, s2, s3, s4].getD 0 [] ++ [s1, s2, s3, s4].getD 1 [] ++ [s1, s2, s3, s4].getD 2 [] ++ [s1, s2, s3, s4].getD 3 [])))))))) := by
 kernel_rfl
set_option maxRecDepth 100000 in
theorem w_total (k : Int) (b : List UInt8) (n : Int) (K : Out → Prop) : (callC (TP0.ctx Try.prog) 100 84 [.agg [.int .i64 k, .str b], .int .i64 n] ⟨0, []⟩ (fun o _ => K o)
) =  (branch (!decide ((if lOk k b = true then (0 : Int) else (2 : Int)) = (0 : Int))) (K (Out.ret (AVal.int IntKind.i64 (0 : Int)))) (branch (decide (n < (0 : Int))) (K (Out.ret (AVal.int IntKind.i64 (0 :
 Int)))) (branch (decide ((65535 : Int) < n)) (K (Out.ret (AVal.int IntKind.i64 (0 : Int)))) (obl (inI64 ((2 : Int) + lSize k)) (obl (inI64 ((2 : Int) + lSize k + n)) (K (Out.ret (AVal.int IntKind.i64
 ((2 : Int) + lSize k + n))))))))) := by kernel_rfl
set_option maxRecDepth 100000 in
theorem w_rtotal (k : Int) (b : List UInt8) (n : Int) (K : Out → Prop) : (callC (TP0.ctx Try.prog) 100 53 [.agg [.int .i64 k, .str b], .int .i64 n] ⟨0, []⟩ (fun o _ => K o)
) =  (branch (!lOk k b) (K (Out.ret (AVal.int IntKind.i64 (0 : Int)))) (branch (decide (n < (0 : Int))) (K (Out.ret (AVal.int IntKind.i64 (0 : Int)))) (branch (decide ((65535 : Int) < n)) (K (Out.ret
 (AVal.int IntKind.i64 (0 : Int)))) (obl (inI64 ((2 : Int) + lSize k)) (obl (inI64 ((2 : Int) + lSize k + n)) (K (Out.ret (AVal.int IntKind.i64 ((2 : Int) + lSize k + n))))))))) := by kernel_rfl
end Go.Proofs.Ytjacnjecggedhaa
namespace Go.Proofs.Ytjacnjecggedhaa
set_option linter.unusedVariables false
set_option linter.unusedSimpArgs false
open Go.RowKit Ev
theorem inI64_iff {n : Int} : inI64 n = true ↔ -9223372036854775808 ≤ n ∧ n ≤ 9223372036854775807 := by simp [inI64]
theorem lSize_le (k : Int) : 0 ≤ lSize k ∧ lSize k ≤ 6 := by
  unfold lSize
  split
  · omega
  · split <;> omega
theorem two_sound : FcSound Try.prog 89 fcTwo := by
  refine fc_pure TP0ok.ctx (n := 100) Try.call89 (fun args H v h => ?_)
  unfold fcTwo at h
  split at h <;> cases h
  exact ⟨rfl, rfl, by rw [w_two]; rfl⟩
theorem rtwo_sound : FcSound Try.prog 55 fcRTwo := by
  refine fc_pure TP0ok.ctx (n := 100) Try.call55 (fun args H v h => ?_)
  unfold fcRTwo at h
  split at h <;> simp only [Option.some.injEq, Prod.mk.injEq, decide_eq_true_eq, reduceCtorEq] at h
  obtain ⟨hn, rfl⟩ := h
  rename_i n
  refine ⟨rfl, rfl, ?_⟩
  rw [w_rtwo]
  simp only [obl_iff, Bool.and_eq_true, decide_eq_true_eq, inI64_iff]
  refine ⟨⟨by omega, by omega, by omega⟩, by omega, ?_⟩
  unfold two
  rw [Int.emod_emod_of_dvd n (by decide : (256 : Int) ∣ 256)]
theorem joined_sound : FcSound Try.prog 91 fcJoined := by
  refine fc_reads TP0ok.ctx (n := 100) Try.call91 (fun args H v h => ?_)
  unfold fcJoined at h
  split at h <;> try cases h
  rename_i b
  split at h <;> simp only [Option.some.injEq, Prod.mk.injEq, decide_eq_true_eq, reduceCtorEq] at h
  obtain ⟨hl, rfl⟩ := h
  rename_i e s1 s2 s3 s4 hb
  refine ⟨b, _, 0, strRow, [s1, s2, s3, s4], 0, 1, 0, 4, 4, [], [], rfl, rfl, rfl, hb, ⟨e, rfl⟩, by simp, rfl, ?_⟩
  show callC (TP0.ctx Try.prog) 100 _ [.sl 0 0 1 0 4 (some 4)] _ _
  rw [w_joined]
  simp only [obl_iff, decide_eq_true_eq, List.getD_cons_zero, List.getD_cons_succ, List.nil_append, List.length_append]
  refine ⟨by omega, by simp; omega, by simp; omega, by simp; omega, ?_⟩
  trivial
def pTotal (k : Int) (b : List UInt8) (n : Int) : Int := if lOk k b = false ∨ n < 0 ∨ 65535 < n then 0 else 2 + lSize k + n
def fcTotal : FC := fun args _ => match args with
  | [.agg [.int .i64 k, .str b], .int .i64 n] => some (true, .int .i64 (pTotal k b n))
  | _ => none
theorem total_sound : FcSound Try.prog 84 fcTotal := by
  refine fc_pure TP0ok.ctx (n := 100) Try.call84 (fun args H v h => ?_)
  unfold fcTotal at h
  split at h <;> cases h
  rename_i k b n
  refine ⟨rfl, rfl, ?_⟩
  rw [w_total]
  have := lSize_le k
  unfold pTotal
  simp only [branch_iff, obl_iff, decide_eq_true_eq, decide_eq_false_iff_not, Bool.not_eq_true', Bool.not_eq_false', inI64_iff]
  cases lOk k b <;> simp
  omega
theorem rtotal_sound : FcSound Try.prog 53 fcTotal := by
  refine fc_pure TP0ok.ctx (n := 100) Try.call53 (fun args H v h => ?_)
  unfold fcTotal at h
  split at h <;> cases h
  rename_i k b n
  refine ⟨rfl, rfl, ?_⟩
  rw [w_rtotal]
  have := lSize_le k
  unfold pTotal
  simp only [branch_iff, obl_iff, decide_eq_true_eq, decide_eq_false_iff_not, Bool.not_eq_true', Bool.not_eq_false', inI64_iff]
  cases lOk k b <;> simp
  omega
noncomputable def TP1 : Tabs := (((((TP0.addFc 89 fcTwo).addFc 55 fcRTwo).addFc 91 fcJoined).addFc 84 fcTotal).addFc 53 fcTotal)
theorem TP1ok : TabsOk TP1 Try.prog := (((((TP0ok.addFc two_sound).addFc rtwo_sound).addFc joined_sound).addFc total_sound).addFc rtotal_sound)
end Go.Proofs.Ytjacnjecggedhaa
namespace Go.Proofs.Ytjacnjecggedhaa
set_option linter.unusedVariables false
set_option linter.unusedSimpArgs false
open Go.RowKit Ev
set_option maxRecDepth 100000 in
theorem w_sum (typ k : Int) (b data : List UInt8) (K : Out → Prop) : (callC (TP1.ctx Try.prog) 100 86 [.int .i64 typ, .agg [.int .i64 k, .str b], .str data] ⟨0, []⟩ (fun o _ => K o)
) =  (branch (decide (typ < (0 : Int))) (K (Out.ret (AVal.tup [AVal.str [], AVal.int IntKind.i64 (2 : Int)]))) (branch (decide ((65535 : Int) < typ)) (K (Out.ret (AVal.tup [AVal.str [], AVal.int
 IntKind.i64 (2 : Int)]))) (branch (!decide ((if lOk k b = true then (0 : Int) else (2 : Int)) = (0 : Int))) (K (Out.ret (AVal.tup [AVal.str [], AVal.int IntKind.i64 (2 : Int)]))) (obl (inI64 ((2 :
 Int) + lSize k)) (obl (inI64 ((2 : Int) + lSize k + (↑data.length : Int))) (branch (decide ((65535 : Int) < (2 : Int) + lSize k + (↑data.length : Int))) (K (Out.ret (AVal.tup [AVal.str [], AVal.int
 IntKind.i64 (3 : Int)]))) (obl (decide ((two ((2 : Int) + lSize k + (↑data.length : Int))).length + (two typ).length + b.length + data.length ≤ 9223372036854775807)) (obl (decide ((two ((2 : Int) +
 lSize k + (↑data.length : Int)) ++ two typ ++ b ++ data).length ≤ 9223372036854775807)) (K (Out.ret (AVal.tup [AVal.str [UInt8.ofNat (crcN (two ((2 : Int) + lSize k + (↑data.length : Int)) ++ two typ
 ++ b ++ data) / (16777216 : Int) % (256 : Int)).toNat, UInt8.ofNat (crcN (two ((2 : Int) + lSize k + (↑data.length : Int)) ++ two typ ++ b ++ data) / (65536 : Int) % (256 : Int)).toNat, UInt8.ofNat
 (crcN (two ((2 : Int) + lSize k + (↑data.length : Int)) ++ two typ ++ b ++ data) / (256 : Int) % (256 : Int)).toNat, UInt8.ofNat (crcN (two ((2 : Int) + lSize k + (↑data.length : Int)) ++ two typ ++ b
 ++ data) % (256 : Int)).toNat], AVal.int IntKind.i64 (0 : Int)]))))))))))) := by kernel_rfl
set_option maxRecDepth 100000 in
theorem w_rsum (typ k : Int) (b data : List UInt8) (K : Out → Prop) : (callC (TP1.ctx Try.prog) 100 37 [.int .i64 typ, .agg [.int .i64 k, .str b], .str data] ⟨0, []⟩ (fun o _ => K o)
) =  (branch (decide (typ < (0 : Int))) (K (Out.ret (AVal.tup [AVal.str [], AVal.int IntKind.i64 (2 : Int)]))) (branch (decide ((65535 : Int) < typ)) (K (Out.ret (AVal.tup [AVal.str [], AVal.int
 IntKind.i64 (2 : Int)]))) (branch (!lOk k b) (K (Out.ret (AVal.tup [AVal.str [], AVal.int IntKind.i64 (2 : Int)]))) (obl (inI64 ((2 : Int) + lSize k)) (obl (inI64 ((2 : Int) + lSize k + (↑data.length
 : Int))) (branch (decide ((65535 : Int) < (2 : Int) + lSize k + (↑data.length : Int))) (K (Out.ret (AVal.tup [AVal.str [], AVal.int IntKind.i64 (3 : Int)]))) (obl (decide ((0 : Int) ≤ (2 : Int) +
 lSize k + (↑data.length : Int) ∧ (2 : Int) + lSize k + (↑data.length : Int) ≤ (9223372036854775807 : Int))) (obl (decide ((0 : Int) ≤ typ ∧ typ ≤ (9223372036854775807 : Int))) (obl (decide ((↑((two
 ((2 : Int) + lSize k + (↑data.length : Int)) ++ two typ).length + b.length) : Int) ≤ (9223372036854775807 : Int))) (obl (decide ((↑((two ((2 : Int) + lSize k + (↑data.length : Int)) ++ two typ ++
 b).length + data.length) : Int) ≤ (9223372036854775807 : Int))) (obl (decide ((two ((2 : Int) + lSize k + (↑data.length : Int)) ++ two typ ++ b ++ data).length ≤ 9223372036854775807)) (obl (inI64
 (crcN (two ((2 : Int) + lSize k + (↑data.length : Int)) ++ two typ ++ b ++ data) / (65536 : Int) % (4294967296 : Int))) (obl (decide ((0 : Int) ≤ crcN (two ((2 : Int) + lSize k + (↑data.length : Int))
 ++ two typ ++ b ++ data) / (65536 : Int) % (4294967296 : Int) ∧ crcN (two ((2 : Int) + lSize k + (↑data.length : Int)) ++ two typ ++ b ++ data) / (65536 : Int) % (4294967296 : Int) ≤
 (9223372036854775807 : Int))) (obl (inI64 (crcN (two ((2 : Int) + lSize k + (↑data.length : Int)) ++ two typ ++ b ++ data) % (65536 : Int))) (obl (decide ((0 : Int) ≤ crcN (two ((2 : Int) + lSize k +
 (↑data.length : Int)) ++ two typ ++ b ++ data) % (65536 : Int) ∧ crcN (two ((2 : Int) + lSize k + (↑data.length : Int)) ++ two typ ++ b ++ data) % (65536 : Int) ≤ (9223372036854775807 : Int))) (K
 (Out.ret (AVal.tup [AVal.str (two (crcN (two ((2 : Int) + lSize k + (↑data.length : Int)) ++ two typ ++ b ++ data) / (65536 : Int) % (4294967296 : Int)) ++ two (crcN (two ((2 : Int) + lSize k +
 (↑data.length : Int)) ++ two typ ++ b ++ data) % (65536 : Int))), AVal.int IntKind.i64 (0 : Int)])))))))))))))))))) := by kernel_rfl
end Go.Proofs.Ytjacnjecggedhaa
namespace Go.Proofs.Ytjacnjecggedhaa
set_option linter.unusedVariables false
set_option linter.unusedSimpArgs false
open Go.RowKit Ev
def pErr (typ k : Int) (b : List UInt8) (n : Int) : Int := if typ < 0 ∨ 65535 < typ ∨ lOk k b = false then 2 else if 65535 < 2 + lSize k + n then 3 else 0
def pText (typ k : Int) (b data : List UInt8) : List UInt8 := two (2 + lSize k + (data.length : Int)) ++ two typ ++ b ++ data
def pSum (typ k : Int) (b data : List UInt8) : List UInt8 := if pErr typ k b (data.length : Int) = 0 then four (crcN (pText typ k b data)) else []
def fcSum : FC := fun args _ => match args with
  | [.int .i64 typ, .agg [.int .i64 k, .str b], .str data] => some (decide (data.length ≤ 9223372036854775000), .tup [.str (pSum typ k b data), .int .i64 (pErr typ k b (data.length : Int))])
  | _ => none
theorem two_length (n : Int) : (two n).length = 2 := rfl
theorem crcN_bd (l : List UInt8) : 0 ≤ crcN l ∧ crcN l < 4294967296 := by
  unfold crcN
  have := (Crc.sum l).isLt
  omega
theorem pErr_2 {typ k n : Int} {b : List UInt8} (h : typ < 0 ∨ 65535 < typ ∨ lOk k b = false) : pErr typ k b n = 2 := by unfold pErr; rw [if_pos h]
theorem pErr_3 {typ k n : Int} {b : List UInt8} (h : ¬ (typ < 0 ∨ 65535 < typ ∨ lOk k b = false)) (h3 : 65535 < 2 + lSize k + n) : pErr typ k b n = 3 := by unfold pErr; rw [if_neg h, if_pos h3]
theorem pErr_0 {typ k n : Int} {b : List UInt8} (h : ¬ (typ < 0 ∨ 65535 < typ ∨ lOk k b = false)) (h3 : ¬ 65535 < 2 + lSize k + n) : pErr typ k b n = 0 := by unfold pErr; rw [if_neg h, if_neg h3]
theorem pErr_iff {typ k n : Int} {b : List UInt8} : pErr typ k b n = 0 ↔ 0 ≤ typ ∧ typ ≤ 65535 ∧ lOk k b = true ∧ 2 + lSize k + n ≤ 65535 := by
  unfold pErr
  split
  · rename_i h; cases hl : lOk k b <;> simp_all <;> omega
  · rename_i h
    split
    · simp; intros; omega
    · cases hl : lOk k b <;> simp_all <;> omega
theorem lOk_length {k : Int} {b : List UInt8} (h : lOk k b = true) : 0 ≤ k ∧ k < 4 ∧ (b.length : Int) = lSize k := by simpa [lOk] using h
theorem sum_sound : FcSound Try.prog 86 fcSum := by
  refine fc_pure TP1ok.ctx (n := 100) Try.call86 (fun args H v h => ?_)
  unfold fcSum at h
  split at h <;> simp only [Option.some.injEq, Prod.mk.injEq, decide_eq_true_eq, reduceCtorEq] at h
  obtain ⟨hl, rfl⟩ := h
  rename_i typ k b data
  refine ⟨rfl, rfl, ?_⟩
  rw [w_sum]
  have hk := lSize_le k
  simp only [branch_iff, obl_iff, decide_eq_true_eq, decide_eq_false_iff_not, Bool.not_eq_true', Bool.not_eq_false', inI64_iff, List.length_append, two_length]
  have bad : pErr typ k b (data.length : Int) ≠ 0 → pSum typ k b data = [] := fun h => by unfold pSum; rw [if_neg h]
  refine ⟨fun h0 => ?_, fun h0 => ⟨fun h1 => ?_, fun h1 => ⟨fun h2 => ?_, fun h2 => ⟨by omega, by omega, fun h3 => ?_, fun h3 => ?_⟩⟩⟩⟩
  · rw [bad (by rw [pErr_2 (.inl h0)]; decide), pErr_2 (.inl h0)]
  · rw [bad (by rw [pErr_2 (.inr (.inl h1))]; decide), pErr_2 (.inr (.inl h1))]
  · have hf : lOk k b = false := by cases hb : lOk k b <;> simp_all
    rw [bad (by rw [pErr_2 (.inr (.inr hf))]; decide), pErr_2 (.inr (.inr hf))]
  · have hf : lOk k b = true := by cases hb : lOk k b <;> simp_all
    have hn : ¬ (typ < 0 ∨ 65535 < typ ∨ lOk k b = false) := by rw [hf]; simp; omega
    rw [bad (by rw [pErr_3 hn h3]; decide), pErr_3 hn h3]
  · have hf : lOk k b = true := by cases hb : lOk k b <;> simp_all
    have hn : ¬ (typ < 0 ∨ 65535 < typ ∨ lOk k b = false) := by rw [hf]; simp; omega
    have := lOk_length hf
    refine ⟨decide_eq_true (by omega), by omega, ?_⟩
    unfold pSum
    rw [pErr_0 hn h3, if_pos rfl]
    rfl
theorem two_two (c : Int) (h0 : 0 ≤ c) (h1 : c < 4294967296) : two (c / 65536 % 4294967296) ++ two (c % 65536) = four c := by
  unfold two four
  have e1 : c / 65536 % 4294967296 / 256 % 256 = c / 16777216 % 256 := by omega
  have e2 : c / 65536 % 4294967296 % 256 = c / 65536 % 256 := by omega
  have e3 : c % 65536 / 256 % 256 = c / 256 % 256 := by omega
  have e4 : c % 65536 % 256 = c % 256 := by omega
  rw [e1, e2, e3, e4]; rfl
theorem rsum_sound : FcSound Try.prog 37 fcSum := by
  refine fc_pure TP1ok.ctx (n := 100) Try.call37 (fun args H v h => ?_)
  unfold fcSum at h
  split at h <;> simp only [Option.some.injEq, Prod.mk.injEq, decide_eq_true_eq, reduceCtorEq] at h
  obtain ⟨hl, rfl⟩ := h
  rename_i typ k b data
  refine ⟨rfl, rfl, ?_⟩
  rw [w_rsum]
  have hk := lSize_le k
  have hc := crcN_bd (two (2 + lSize k + (data.length : Int)) ++ two typ ++ b ++ data)
  simp only [branch_iff, obl_iff, decide_eq_true_eq, decide_eq_false_iff_not, Bool.not_eq_true', Bool.not_eq_false', inI64_iff, List.length_append, two_length, two_two _ hc.1 hc.2]
  have bad : pErr typ k b (data.length : Int) ≠ 0 → pSum typ k b data = [] := fun h => by unfold pSum; rw [if_neg h]
  refine ⟨fun h0 => ?_, fun h0 => ⟨fun h1 => ?_, fun h1 => ⟨fun hf => ?_, fun hf => ⟨by omega, by omega, fun h3 => ?_, fun h3 => ?_⟩⟩⟩⟩
  · rw [bad (by rw [pErr_2 (.inl h0)]; decide), pErr_2 (.inl h0)]
  · rw [bad (by rw [pErr_2 (.inr (.inl h1))]; decide), pErr_2 (.inr (.inl h1))]
  · rw [bad (by rw [pErr_2 (.inr (.inr hf))]; decide), pErr_2 (.inr (.inr hf))]
  · have hn : ¬ (typ < 0 ∨ 65535 < typ ∨ lOk k b = false) := by rw [hf]; simp; omega
    rw [bad (by rw [pErr_3 hn h3]; decide), pErr_3 hn h3]
  · have hn : ¬ (typ < 0 ∨ 65535 < typ ∨ lOk k b = false) := by rw [hf]; simp; omega
    have := lOk_length hf
    refine ⟨by omega, by omega, by omega, by omega, by omega, by omega, by omega, by omega, by omega, ?_⟩
    unfold pSum
    rw [pErr_0 hn h3, if_pos rfl]
    rfl
noncomputable def TP2 : Tabs := ((TP1.addFc 86 fcSum).addFc 37 fcSum)
theorem TP2ok : TabsOk TP2 Try.prog := ((TP1ok.addFc sum_sound).addFc rsum_sound)
end Go.Proofs.Ytjacnjecggedhaa
namespace Go.Proofs.Ytjacnjecggedhaa
set_option linter.unusedVariables false
set_option linter.unusedSimpArgs false
open Go.RowKit Ev
set_option maxRecDepth 100000 in
theorem w_gmay (st en : Bool) (id total typ k : Int) (lb data sum : List UInt8) (K : Out → Prop) : (callC (TP2.ctx Try.prog) 100 29 [.agg [.bool st, .bool en, .int .i64 id, .int .i64 total, .int .i64 typ, .int .i64 k, .str lb, .str data, .str sum]] ⟨0, []⟩ (fun o _ => K o)
) =  (branch (!(st == true && (en == true && true))) (branch (decide ((0 : Int) ≤ id)) (branch (decide (id < (256 : Int))) (branch (decide ((0 : Int) ≤ total)) (branch (decide (total < (65536 : Int)))
 (branch (decide ((0 : Int) ≤ typ)) (branch (!decide (typ < (65536 : Int))) (K (Out.ret (AVal.bool false))) (branch st (branch (decide ((if lOk k lb = true then (0 : Int) else (2 : Int)) = (0 : Int)))
 (branch st (branch (st == false && (en == true && true)) (branch (decide ((↑sum.length : Int) = (4 : Int))) (K (Out.ret (AVal.bool true))) (branch (!(st == false && (en == true && true))) (branch
 (!decide (sum = [])) (K (Out.ret (AVal.bool false))) (K (Out.ret (AVal.bool true)))) (K (Out.ret (AVal.bool false))))) (branch (!(st == false && (en == true && true))) (branch (!decide (sum = [])) (K
 (Out.ret (AVal.bool false))) (K (Out.ret (AVal.bool true)))) (K (Out.ret (AVal.bool false))))) (branch (decide (typ = (0 : Int))) (branch (!decide (total = (0 : Int))) (K (Out.ret (AVal.bool false)))
 (branch (st == false && (en == true && true)) (branch (decide ((↑sum.length : Int) = (4 : Int))) (K (Out.ret (AVal.bool true))) (branch (!(st == false && (en == true && true))) (branch (!decide (sum =
 [])) (K (Out.ret (AVal.bool false))) (K (Out.ret (AVal.bool true)))) (K (Out.ret (AVal.bool false))))) (branch (!(st == false && (en == true && true))) (branch (!decide (sum = [])) (K (Out.ret
 (AVal.bool false))) (K (Out.ret (AVal.bool true)))) (K (Out.ret (AVal.bool false)))))) (K (Out.ret (AVal.bool false))))) (branch (!st) (branch (!(decide (k = (0 : Int)) && (decide (lb = []) && true)))
 (K (Out.ret (AVal.bool false))) (branch st (branch (st == false && (en == true && true)) (branch (decide ((↑sum.length : Int) = (4 : Int))) (K (Out.ret (AVal.bool true))) (branch (!(st == false && (en
 == true && true))) (branch (!decide (sum = [])) (K (Out.ret (AVal.bool false))) (K (Out.ret (AVal.bool true)))) (K (Out.ret (AVal.bool false))))) (branch (!(st == false && (en == true && true)))
 (branch (!decide (sum = [])) (K (Out.ret (AVal.bool false))) (K (Out.ret (AVal.bool true)))) (K (Out.ret (AVal.bool false))))) (branch (decide (typ = (0 : Int))) (branch (!decide (total = (0 : Int)))
 (K (Out.ret (AVal.bool false))) (branch (st == false && (en == true && true)) (branch (decide ((↑sum.length : Int) = (4 : Int))) (K (Out.ret (AVal.bool true))) (branch (!(st == false && (en == true &&
 true))) (branch (!decide (sum = [])) (K (Out.ret (AVal.bool false))) (K (Out.ret (AVal.bool true)))) (K (Out.ret (AVal.bool false))))) (branch (!(st == false && (en == true && true))) (branch (!decide
 (sum = [])) (K (Out.ret (AVal.bool false))) (K (Out.ret (AVal.bool true)))) (K (Out.ret (AVal.bool false)))))) (K (Out.ret (AVal.bool false)))))) (K (Out.ret (AVal.bool false))))) (branch (!st)
 (branch (!(decide (k = (0 : Int)) && (decide (lb = []) && true))) (K (Out.ret (AVal.bool false))) (branch st (branch (st == false && (en == true && true)) (branch (decide ((↑sum.length : Int) = (4 :
 Int))) (K (Out.ret (AVal.bool true))) (branch (!(st == false && (en == true && true))) (branch (!decide (sum = [])) (K (Out.ret (AVal.bool false))) (K (Out.ret (AVal.bool true)))) (K (Out.ret
 (AVal.bool false))))) (branch (!(st == false && (en == true && true))) (branch (!decide (sum = [])) (K (Out.ret (AVal.bool false))) (K (Out.ret (AVal.bool true)))) (K (Out.ret (AVal.bool false)))))
 (branch (decide (typ = (0 : Int))) (branch (!decide (total = (0 : Int))) (K (Out.ret (AVal.bool false))) (branch (st == false && (en == true && true)) (branch (decide ((↑sum.length : Int) = (4 :
 Int))) (K (Out.ret (AVal.bool true))) (branch (!(st == false && (en == true && true))) (branch (!decide (sum = [])) (K (Out.ret (AVal.bool false))) (K (Out.ret (AVal.bool true)))) (K (Out.ret
 (AVal.bool false))))) (branch (!(st == false && (en == true && true))) (branch (!decide (sum = [])) (K (Out.ret (AVal.bool false))) (K (Out.ret (AVal.bool true)))) (K (Out.ret (AVal.bool false))))))
 (K (Out.ret (AVal.bool false)))))) (K (Out.ret (AVal.bool false)))))) (K (Out.ret (AVal.bool false)))) (K (Out.ret (AVal.bool false)))) (K (Out.ret (AVal.bool false)))) (K (Out.ret (AVal.bool
 false)))) (K (Out.ret (AVal.bool false)))) (branch (decide (id = (0 : Int))) (branch (!decide (total = (0 : Int))) (K (Out.ret (AVal.bool false))) (branch (decide ((0 : Int) ≤ id)) (branch (decide (id
 < (256 : Int))) (branch (decide ((0 : Int) ≤ total)) (branch (decide (total < (65536 : Int))) (branch (decide ((0 : Int) ≤ typ)) (branch (!decide (typ < (65536 : Int))) (K (Out.ret (AVal.bool false)))
 (branch st (branch (decide ((if lOk k lb = true then (0 : Int) else (2 : Int)) = (0 : Int))) (branch st (branch (st == false && (en == true && true)) (branch (decide ((↑sum.length : Int) = (4 : Int)))
 (K (Out.ret (AVal.bool true))) (branch (!(st == false && (en == true && true))) (branch (!decide (sum = [])) (K (Out.ret (AVal.bool false))) (K (Out.ret (AVal.bool true)))) (K (Out.ret (AVal.bool
 false))))) (branch (!(st == false && (en == true && true))) (branch (!decide (sum = [])) (K (Out.ret (AVal.bool false))) (K (Out.ret (AVal.bool true)))) (K (Out.ret (AVal.bool false))))) (branch
 (decide (typ = (0 : Int))) (branch (!decide (total = (0 : Int))) (K (Out.ret (AVal.bool false))) (branch (st == false && (en == true && true)) (branch (decide ((↑sum.length : Int) = (4 : Int))) (K
 (Out.ret (AVal.bool true))) (branch (!(st == false && (en == true && true))) (branch (!decide (sum = [])) (K (Out.ret (AVal.bool false))) (K (Out.ret (AVal.bool true)))) (K (Out.ret (AVal.bool
 false))))) (branch (!(st == false && (en == true && true))) (branch (!decide (sum = [])) (K (Out.ret (AVal.bool false))) (K (Out.ret (AVal.bool true)))) (K (Out.ret (AVal.bool false)))))) (K (Out.ret
 (AVal.bool false))))) (branch (!st) (branch (!(decide (k = (0 : Int)) && (decide (lb = []) && true))) (K (Out.ret (AVal.bool false))) (branch st (branch (st == false && (en == true && true)) (branch
 (decide ((↑sum.length : Int) = (4 : Int))) (K (Out.ret (AVal.bool true))) (branch (!(st == false && (en == true && true))) (branch (!decide (sum = [])) (K (Out.ret (AVal.bool false))) (K (Out.ret
 (AVal.bool true)))) (K (Out.ret (AVal.bool false))))) (branch (!(st == false && (en == true && true))) (branch (!decide (sum = [])) (K (Out.ret (AVal.bool false))) (K (Out.ret (AVal.bool true)))) (K
 (Out.ret (AVal.bool false))))) (branch (decide (typ = (0 : Int))) (branch (!decide (total = (0 : Int))) (K (Out.ret (AVal.bool false))) (branch (st == false && (en == true && true)) (branch (decide
 ((↑sum.length : Int) = (4 : Int))) (K (Out.ret (AVal.bool true))) (branch (!(st == false && (en == true && true))) (branch (!decide (sum = [])) (K (Out.ret (AVal.bool false))) (K (Out.ret (AVal.bool
 true)))) (K (Out.ret (AVal.bool false))))) (branch (!(st == false && (en == true && true))) (branch (!decide (sum = [])) (K (Out.ret (AVal.bool false))) (K (Out.ret (AVal.bool true)))) (K (Out.ret
 (AVal.bool false)))))) (K (Out.ret (AVal.bool false)))))) (K (Out.ret (AVal.bool false))))) (branch (!st) (branch (!(decide (k = (0 : Int)) && (decide (lb = []) && true))) (K (Out.ret (AVal.bool
 false))) (branch st (branch (st == false && (en == true && true)) (branch (decide ((↑sum.length : Int) = (4 : Int))) (K (Out.ret (AVal.bool true))) (branch (!(st == false && (en == true && true)))
 (branch (!decide (sum = [])) (K (Out.ret (AVal.bool false))) (K (Out.ret (AVal.bool true)))) (K (Out.ret (AVal.bool false))))) (branch (!(st == false && (en == true && true))) (branch (!decide (sum =
 [])) (K (Out.ret (AVal.bool false))) (K (Out.ret (AVal.bool true)))) (K (Out.ret (AVal.bool false))))) (branch (decide (typ = (0 : Int))) (branch (!decide (total = (0 : Int))) (K (Out.ret (AVal.bool
 false))) (branch (st == false && (en == true && true)) (branch (decide ((↑sum.length : Int) = (4 : Int))) (K (Out.ret (AVal.bool true))) (branch (!(st == false && (en == true && true))) (branch
 (!decide (sum = [])) (K (Out.ret (AVal.bool false))) (K (Out.ret (AVal.bool true)))) (K (Out.ret (AVal.bool false))))) (branch (!(st == false && (en == true && true))) (branch (!decide (sum = [])) (K
 (Out.ret (AVal.bool false))) (K (Out.ret (AVal.bool true)))) (K (Out.ret (AVal.bool false)))))) (K (Out.ret (AVal.bool false)))))) (K (Out.ret (AVal.bool false)))))) (K (Out.ret (AVal.bool false))))
 (K (Out.ret (AVal.bool false)))) (K (Out.ret (AVal.bool false)))) (K (Out.ret (AVal.bool false)))) (K (Out.ret (AVal.bool false))))) (K (Out.ret (AVal.bool false))))) := by kernel_rfl
set_option maxRecDepth 100000 in
theorem w_gtwo (n : Int) (K : Out → Prop) : (callC (TP2.ctx Try.prog) 100 32 [.int .i64 n] ⟨0, []⟩ (fun o _ => K o)
) =  (K (Out.ret (AVal.str [UInt8.ofNat (n / (256 : Int) % (256 : Int)).toNat, UInt8.ofNat (n % (256 : Int)).toNat]))) := by kernel_rfl
set_option maxRecDepth 100000 in
theorem w_gof (st en : Bool) (id total typ k : Int) (lb data sum : List UInt8) (K : Out → Prop) : (callC (TP2.ctx Try.prog) 100 30 [.agg [.bool st, .bool en, .int .i64 id, .int .i64 total, .int .i64 typ, .int .i64 k, .str lb, .str data, .str sum]] ⟨0, []⟩ (fun o _ => K o)
) =  (K (Out.ret (AVal.agg [AVal.bool st, AVal.bool en]))) := by kernel_rfl
set_option maxRecDepth 100000 in
theorem w_gwhole (st en : Bool) (K : Out → Prop) : (callC (TP2.ctx Try.prog) 100 31 [.agg [.bool st, .bool en]] ⟨0, []⟩ (fun o _ => K o)
) =  (K (Out.ret (AVal.bool (st == true && (en == true && true))))) := by kernel_rfl
end Go.Proofs.Ytjacnjecggedhaa
namespace Go.Proofs.Ytjacnjecggedhaa
set_option linter.unusedVariables false
set_option linter.unusedSimpArgs false
open Go.RowKit Ev
theorem branch_t {T E : Prop} : branch true T E = T := rfl
theorem branch_f {T E : Prop} : branch false T E = E := rfl
def gMay (st en : Bool) (id total typ k : Int) (lb sum : List UInt8) : Bool := decide (0 ≤ id ∧ id < 256 ∧ 0 ≤ total ∧ total < 65536 ∧ 0 ≤ typ ∧ typ < 65536) && (match st, en with
  | true, true => decide (id = 0 ∧ total = 0) && lOk k lb && decide (sum = [])
  | true, false => lOk k lb && decide (sum = [])
  | false, true => decide (typ = 0 ∧ total = 0 ∧ k = 0 ∧ lb = [] ∧ sum.length = 4)
  | false, false => decide (typ = 0 ∧ total = 0 ∧ k = 0 ∧ lb = [] ∧ sum = []))
def fcGMay : FC := fun args _ => match args with
  | [.agg [.bool st, .bool en, .int .i64 id, .int .i64 total, .int .i64 typ, .int .i64 k, .str lb, .str data, .str sum]] => some (true, .bool (gMay st en id total typ k lb sum))
  | _ => none
def fcGof : FC := fun args _ => match args with
  | [.agg [.bool st, .bool en, .int .i64 id, .int .i64 total, .int .i64 typ, .int .i64 k, .str lb, .str data, .str sum]] => some (true, .agg [.bool st, .bool en])
  | _ => none
def fcGwhole : FC := fun args _ => match args with
  | [.agg [.bool st, .bool en]] => some (true, .bool (st && en))
  | _ => none
set_option maxRecDepth 20000 in
theorem gmay_sound : FcSound Try.prog 29 fcGMay := by
  refine fc_pure TP2ok.ctx (n := 100) Try.call29 (fun args H v h => ?_)
  unfold fcGMay at h
  split at h <;> cases h
  rename_i st en id total typ k lb data sum
  refine ⟨rfl, rfl, ?_⟩
  rw [w_gmay]
  have hl : (decide ((if lOk k lb = true then (0 : Int) else 2) = 0)) = lOk k lb := by cases lOk k lb <;> rfl
  have hs : (decide ((sum.length : Int) = 4)) = decide (sum.length = 4) := by rw [Bool.eq_iff_iff, decide_eq_true_eq, decide_eq_true_eq]; omega
  have t : ∀ {c : Bool}, gMay st en id total typ k lb sum = c → Out.ret (AVal.bool c) = Out.ret (AVal.bool (gMay st en id total typ k lb sum)) := fun h => by rw [h]
  simp only [hl, hs, Bool.and_true, Bool.and_assoc]
  cases st <;> cases en <;> simp only [beq_self_eq_true, Bool.and_true, Bool.true_and, Bool.and_false, Bool.false_and, Bool.not_true, Bool.not_false, show (true == false) = false from rfl, show (false == true) = false from rfl]
  all_goals
    cases hb : lOk k lb <;> simp only [branch_t, branch_f, branch_iff, decide_eq_true_eq, decide_eq_false_iff_not, Bool.not_eq_true', Bool.not_eq_false', Bool.and_eq_true, Bool.and_eq_false_iff]
  all_goals
    clear t hl hs
    (repeat' (first | apply And.intro | intro _)) <;> refine congrArg (fun c => Out.ret (AVal.bool c)) ?_ <;> unfold gMay <;> grind
theorem gof_sound : FcSound Try.prog 30 fcGof := by
  refine fc_pure TP2ok.ctx (n := 100) Try.call30 (fun args H v h => ?_)
  unfold fcGof at h
  split at h <;> cases h
  refine ⟨rfl, rfl, ?_⟩
  rw [w_gof]
theorem gwhole_sound : FcSound Try.prog 31 fcGwhole := by
  refine fc_pure TP2ok.ctx (n := 100) Try.call31 (fun args H v h => ?_)
  unfold fcGwhole at h
  split at h <;> cases h
  rename_i st en
  refine ⟨rfl, rfl, ?_⟩
  rw [w_gwhole]
  cases st <;> cases en <;> rfl
theorem gtwo_sound : FcSound Try.prog 32 fcTwo := by
  refine fc_pure TP2ok.ctx (n := 100) Try.call32 (fun args H v h => ?_)
  unfold fcTwo at h
  split at h <;> cases h
  refine ⟨rfl, rfl, ?_⟩
  rw [w_gtwo]
  rfl
noncomputable def TG1 : Tabs := ((((TP2.addFc 29 fcGMay).addFc 30 fcGof).addFc 31 fcGwhole).addFc 32 fcTwo)
theorem TG1ok : TabsOk TG1 Try.prog := ((((TP2ok.addFc gmay_sound).addFc gof_sound).addFc gwhole_sound).addFc gtwo_sound)
end Go.Proofs.Ytjacnjecggedhaa
namespace Go.Proofs.Ytjacnjecggedhaa
set_option linter.unusedVariables false
set_option linter.unusedSimpArgs false
open Go.RowKit Ev
set_option maxRecDepth 100000 in
theorem w_enc_tt (id total typ k : Int) (lb data sum : List UInt8) (K : Out → Prop) : (callC (TG1.ctx Try.prog) 100 21 [.agg [.bool true, .bool true, .int .i64 id, .int .i64 total, .int .i64 typ, .int .i64 k, .str lb, .str data, .str sum]] ⟨0, []⟩ (fun o _ => K o)
) =  (branch (!gMay true true id total typ k lb sum) (K (Out.ret (AVal.tup [AVal.str [], AVal.int IntKind.i64 (2 : Int)]))) (obl (decide ((↑((two typ).length + lb.length) : Int) ≤ (9223372036854775807 :
 Int))) (obl (decide ((↑(0 + (two typ ++ lb).length) : Int) ≤ (9223372036854775807 : Int))) (obl (decide ((↑(data.length + sum.length) : Int) ≤ (9223372036854775807 : Int))) (obl (decide ((↑(([] ++
 (two typ ++ lb)).length + (data ++ sum).length) : Int) ≤ (9223372036854775807 : Int))) (branch (decide ((4095 : Int) < (↑([] ++ (two typ ++ lb) ++ (data ++ sum)).length : Int))) (K (Out.ret (AVal.tup
 [AVal.str [], AVal.int IntKind.i64 (3 : Int)]))) (obl (true && inI64 (k * (16 : Int))) (obl (decide ((↑([UInt8.ofNat (bitsA BinOp.or IntKind.u8 (bitsA BinOp.or IntKind.u8 (bitsA BinOp.or IntKind.u8
 (128 : Int) (k * (16 : Int) % (256 : Int))) (64 : Int)) ((↑([] ++ (two typ ++ lb) ++ (data ++ sum)).length : Int) / (256 : Int) % (256 : Int))).toNat, UInt8.ofNat ((↑([] ++ (two typ ++ lb) ++ (data ++
 sum)).length : Int) % (256 : Int)).toNat].length + ([] ++ (two typ ++ lb) ++ (data ++ sum)).length) : Int) ≤ (9223372036854775807 : Int))) (K (Out.ret (AVal.tup [AVal.str ([UInt8.ofNat (bitsA BinOp.or
 IntKind.u8 (bitsA BinOp.or IntKind.u8 (bitsA BinOp.or IntKind.u8 (128 : Int) (k * (16 : Int) % (256 : Int))) (64 : Int)) ((↑([] ++ (two typ ++ lb) ++ (data ++ sum)).length : Int) / (256 : Int) % (256
 : Int))).toNat, UInt8.ofNat ((↑([] ++ (two typ ++ lb) ++ (data ++ sum)).length : Int) % (256 : Int)).toNat] ++ ([] ++ (two typ ++ lb) ++ (data ++ sum))), AVal.int IntKind.i64 (0 : Int)]))))))))))) :=
 by kernel_rfl
set_option maxRecDepth 100000 in
theorem w_enc_tf (id total typ k : Int) (lb data sum : List UInt8) (K : Out → Prop) : (callC (TG1.ctx Try.prog) 100 21 [.agg [.bool true, .bool false, .int .i64 id, .int .i64 total, .int .i64 typ, .int .i64 k, .str lb, .str data, .str sum]] ⟨0, []⟩ (fun o _ => K o)
) =  (branch (!gMay true false id total typ k lb sum) (K (Out.ret (AVal.tup [AVal.str [], AVal.int IntKind.i64 (2 : Int)]))) (obl (decide ((↑((two typ).length + lb.length) : Int) ≤ (9223372036854775807 :
 Int))) (obl (decide ((↑(([] ++ [UInt8.ofNat (id % (256 : Int)).toNat] ++ two total).length + (two typ ++ lb).length) : Int) ≤ (9223372036854775807 : Int))) (obl (decide ((↑(data.length + sum.length) :
 Int) ≤ (9223372036854775807 : Int))) (obl (decide ((↑(([] ++ [UInt8.ofNat (id % (256 : Int)).toNat] ++ two total ++ (two typ ++ lb)).length + (data ++ sum).length) : Int) ≤ (9223372036854775807 :
 Int))) (branch (decide ((4095 : Int) < (↑([] ++ [UInt8.ofNat (id % (256 : Int)).toNat] ++ two total ++ (two typ ++ lb) ++ (data ++ sum)).length : Int))) (K (Out.ret (AVal.tup [AVal.str [], AVal.int
 IntKind.i64 (3 : Int)]))) (obl (true && inI64 (k * (16 : Int))) (obl (decide ((↑([UInt8.ofNat (bitsA BinOp.or IntKind.u8 (bitsA BinOp.or IntKind.u8 (128 : Int) (k * (16 : Int) % (256 : Int))) ((↑([]
 ++ [UInt8.ofNat (id % (256 : Int)).toNat] ++ two total ++ (two typ ++ lb) ++ (data ++ sum)).length : Int) / (256 : Int) % (256 : Int))).toNat, UInt8.ofNat ((↑([] ++ [UInt8.ofNat (id % (256 :
 Int)).toNat] ++ two total ++ (two typ ++ lb) ++ (data ++ sum)).length : Int) % (256 : Int)).toNat].length + ([] ++ [UInt8.ofNat (id % (256 : Int)).toNat] ++ two total ++ (two typ ++ lb) ++ (data ++
 sum)).length) : Int) ≤ (9223372036854775807 : Int))) (K (Out.ret (AVal.tup [AVal.str ([UInt8.ofNat (bitsA BinOp.or IntKind.u8 (bitsA BinOp.or IntKind.u8 (128 : Int) (k * (16 : Int) % (256 : Int)))
 ((↑([] ++ [UInt8.ofNat (id % (256 : Int)).toNat] ++ two total ++ (two typ ++ lb) ++ (data ++ sum)).length : Int) / (256 : Int) % (256 : Int))).toNat, UInt8.ofNat ((↑([] ++ [UInt8.ofNat (id % (256 :
 Int)).toNat] ++ two total ++ (two typ ++ lb) ++ (data ++ sum)).length : Int) % (256 : Int)).toNat] ++ ([] ++ [UInt8.ofNat (id % (256 : Int)).toNat] ++ two total ++ (two typ ++ lb) ++ (data ++ sum))),
 AVal.int IntKind.i64 (0 : Int)]))))))))))) := by kernel_rfl
set_option maxRecDepth 100000 in
theorem w_enc_ft (id total typ k : Int) (lb data sum : List UInt8) (K : Out → Prop) : (callC (TG1.ctx Try.prog) 100 21 [.agg [.bool false, .bool true, .int .i64 id, .int .i64 total, .int .i64 typ, .int .i64 k, .str lb, .str data, .str sum]] ⟨0, []⟩ (fun o _ => K o)
) =  (branch (!gMay false true id total typ k lb sum) (K (Out.ret (AVal.tup [AVal.str [], AVal.int IntKind.i64 (2 : Int)]))) (obl (decide ((↑(data.length + sum.length) : Int) ≤ (9223372036854775807 :
 Int))) (obl (decide ((↑(([] ++ [UInt8.ofNat (id % (256 : Int)).toNat]).length + (data ++ sum).length) : Int) ≤ (9223372036854775807 : Int))) (branch (decide ((4095 : Int) < (↑([] ++ [UInt8.ofNat (id %
 (256 : Int)).toNat] ++ (data ++ sum)).length : Int))) (K (Out.ret (AVal.tup [AVal.str [], AVal.int IntKind.i64 (3 : Int)]))) (obl (decide ((↑([UInt8.ofNat (bitsA BinOp.or IntKind.u8 (112 : Int) ((↑([]
 ++ [UInt8.ofNat (id % (256 : Int)).toNat] ++ (data ++ sum)).length : Int) / (256 : Int) % (256 : Int))).toNat, UInt8.ofNat ((↑([] ++ [UInt8.ofNat (id % (256 : Int)).toNat] ++ (data ++ sum)).length :
 Int) % (256 : Int)).toNat].length + ([] ++ [UInt8.ofNat (id % (256 : Int)).toNat] ++ (data ++ sum)).length) : Int) ≤ (9223372036854775807 : Int))) (K (Out.ret (AVal.tup [AVal.str ([UInt8.ofNat (bitsA
 BinOp.or IntKind.u8 (112 : Int) ((↑([] ++ [UInt8.ofNat (id % (256 : Int)).toNat] ++ (data ++ sum)).length : Int) / (256 : Int) % (256 : Int))).toNat, UInt8.ofNat ((↑([] ++ [UInt8.ofNat (id % (256 :
 Int)).toNat] ++ (data ++ sum)).length : Int) % (256 : Int)).toNat] ++ ([] ++ [UInt8.ofNat (id % (256 : Int)).toNat] ++ (data ++ sum))), AVal.int IntKind.i64 (0 : Int)])))))))) := by kernel_rfl
set_option maxRecDepth 100000 in
theorem w_enc_ff (id total typ k : Int) (lb data sum : List UInt8) (K : Out → Prop) : (callC (TG1.ctx Try.prog) 100 21 [.agg [.bool false, .bool false, .int .i64 id, .int .i64 total, .int .i64 typ, .int .i64 k, .str lb, .str data, .str sum]] ⟨0, []⟩ (fun o _ => K o)
) =  (branch (!gMay false false id total typ k lb sum) (K (Out.ret (AVal.tup [AVal.str [], AVal.int IntKind.i64 (2 : Int)]))) (obl (decide ((↑(data.length + sum.length) : Int) ≤ (9223372036854775807 :
 Int))) (obl (decide ((↑(([] ++ [UInt8.ofNat (id % (256 : Int)).toNat]).length + (data ++ sum).length) : Int) ≤ (9223372036854775807 : Int))) (branch (decide ((4095 : Int) < (↑([] ++ [UInt8.ofNat (id %
 (256 : Int)).toNat] ++ (data ++ sum)).length : Int))) (K (Out.ret (AVal.tup [AVal.str [], AVal.int IntKind.i64 (3 : Int)]))) (obl (decide ((↑([UInt8.ofNat (bitsA BinOp.or IntKind.u8 (48 : Int) ((↑([]
 ++ [UInt8.ofNat (id % (256 : Int)).toNat] ++ (data ++ sum)).length : Int) / (256 : Int) % (256 : Int))).toNat, UInt8.ofNat ((↑([] ++ [UInt8.ofNat (id % (256 : Int)).toNat] ++ (data ++ sum)).length :
 Int) % (256 : Int)).toNat].length + ([] ++ [UInt8.ofNat (id % (256 : Int)).toNat] ++ (data ++ sum)).length) : Int) ≤ (9223372036854775807 : Int))) (K (Out.ret (AVal.tup [AVal.str ([UInt8.ofNat (bitsA
 BinOp.or IntKind.u8 (48 : Int) ((↑([] ++ [UInt8.ofNat (id % (256 : Int)).toNat] ++ (data ++ sum)).length : Int) / (256 : Int) % (256 : Int))).toNat, UInt8.ofNat ((↑([] ++ [UInt8.ofNat (id % (256 :
 Int)).toNat] ++ (data ++ sum)).length : Int) % (256 : Int)).toNat] ++ ([] ++ [UInt8.ofNat (id % (256 : Int)).toNat] ++ (data ++ sum))), AVal.int IntKind.i64 (0 : Int)])))))))) := by kernel_rfl
end Go.Proofs.Ytjacnjecggedhaa
namespace Go.Proofs.Ytjacnjecggedhaa
set_option linter.unusedVariables false
set_option linter.unusedSimpArgs false
open Go.RowKit Ev
def gBody (st en : Bool) (id total typ : Int) (lb data sum : List UInt8) : List UInt8 :=
  (if st && en then [] else [UInt8.ofNat (id % 256).toNat]) ++ (if st && !en then two total else []) ++ (if st then two typ ++ lb else []) ++ data ++ sum
def gErr (st en : Bool) (id total typ k : Int) (lb data sum : List UInt8) : Int :=
  if gMay st en id total typ k lb sum = false then 2 else if 4095 < (gBody st en id total typ lb data sum).length then 3 else 0
def gHead (st en : Bool) (k : Int) (n : Nat) : Int := (if st then 32768 + k * 4096 else 12288) + (if en then 16384 else 0) + n
def gEnc (st en : Bool) (id total typ k : Int) (lb data sum : List UInt8) : List UInt8 :=
  if gErr st en id total typ k lb data sum = 0 then two (gHead st en k (gBody st en id total typ lb data sum).length) ++ gBody st en id total typ lb data sum else []
def fcEnc : FC := fun args _ => match args with
  | [.agg [.bool st, .bool en, .int .i64 id, .int .i64 total, .int .i64 typ, .int .i64 k, .str lb, .str data, .str sum]] => some (decide (lb.length + data.length + sum.length ≤ 9223372036854775000), .tup [.str (gEnc st en id total typ k lb data sum), .int .i64 (gErr st en id total typ k lb data sum)])
  | _ => none
theorem or16 : ∀ x : Fin 16, ∀ y : Fin 16, bitsA .or .u8 ((x.val : Int) * 16) (y.val : Int) = (x.val : Int) * 16 + (y.val : Int) := by decide
theorem or16' {x y : Int} (h1 : 0 ≤ x) (h2 : x < 16) (h3 : 0 ≤ y) (h4 : y < 16) : bitsA .or .u8 (x * 16) y = x * 16 + y := by
  have := or16 ⟨x.toNat, by omega⟩ ⟨y.toNat, by omega⟩
  simpa [Int.toNat_of_nonneg h1, Int.toNat_of_nonneg h3] using this
theorem or128 : ∀ k : Fin 4, bitsA .or .u8 128 ((k.val : Int) * 16 % 256) = (8 + (k.val : Int)) * 16 := by decide
theorem or128' {k : Int} (h1 : 0 ≤ k) (h2 : k < 4) : bitsA .or .u8 128 (k * 16 % 256) = (8 + k) * 16 := by
  have := or128 ⟨k.toNat, by omega⟩
  simpa [Int.toNat_of_nonneg h1] using this
theorem or64 : ∀ k : Fin 4, bitsA .or .u8 ((8 + (k.val : Int)) * 16) 64 = (12 + (k.val : Int)) * 16 := by decide
theorem or64' {k : Int} (h1 : 0 ≤ k) (h2 : k < 4) : bitsA .or .u8 ((8 + k) * 16) 64 = (12 + k) * 16 := by
  have := or64 ⟨k.toNat, by omega⟩
  simpa [Int.toNat_of_nonneg h1] using this
theorem gMay_k {st en : Bool} {id total typ k : Int} {lb sum : List UInt8} (h : gMay st en id total typ k lb sum = true) : 0 ≤ k ∧ k < 4 := by
  unfold gMay at h
  cases st <;> cases en <;> simp [lOk] at h <;> omega
theorem enc_sound : FcSound Try.prog 21 fcEnc := by
  refine fc_pure TG1ok.ctx (n := 100) Try.call21 (fun args H v h => ?_)
  unfold fcEnc at h
  split at h <;> simp only [Option.some.injEq, Prod.mk.injEq, decide_eq_true_eq, reduceCtorEq] at h
  obtain ⟨hl, rfl⟩ := h
  rename_i st en id total typ k lb data sum
  refine ⟨rfl, rfl, ?_⟩
  cases hm : gMay st en id total typ k lb sum with
  | false =>
    have e1 : gErr st en id total typ k lb data sum = 2 := by unfold gErr; rw [hm]; rfl
    have e2 : gEnc st en id total typ k lb data sum = [] := by unfold gEnc; rw [e1]; rfl
    rw [e1, e2]
    cases st <;> cases en
    · rw [w_enc_ff, hm]; exact rfl
    · rw [w_enc_ft, hm]; exact rfl
    · rw [w_enc_tf, hm]; exact rfl
    · rw [w_enc_tt, hm]; exact rfl
  | true =>
    have hk := gMay_k hm
    have key : ∀ (s : List UInt8) (a : Int), gBody st en id total typ lb data sum = s → (¬ 4095 < s.length → bitsA .or .u8 a ((s.length : Int) / 256 % 256) = a + (s.length : Int) / 256 % 256 ∧ a * 256 = gHead st en k 0) →
        (4095 < s.length → Out.ret (.tup [.str [], .int .i64 3]) = Out.ret (.tup [.str (gEnc st en id total typ k lb data sum), .int .i64 (gErr st en id total typ k lb data sum)])) ∧
        (¬ 4095 < s.length → Out.ret (.tup [.str ([UInt8.ofNat (bitsA .or .u8 a ((s.length : Int) / 256 % 256)).toNat, UInt8.ofNat ((s.length : Int) % 256).toNat] ++ s), .int .i64 0]) = Out.ret (.tup [.str (gEnc st en id total typ k lb data sum), .int .i64 (gErr st en id total typ k lb data sum)])) := by
      intro s a hs ha
      constructor
      · intro h
        have e1 : gErr st en id total typ k lb data sum = 3 := by unfold gErr; rw [hm, hs, if_neg (by simp), if_pos h]
        have e2 : gEnc st en id total typ k lb data sum = [] := by unfold gEnc; rw [e1]; rfl
        rw [e1, e2]
      · intro h
        have e1 : gErr st en id total typ k lb data sum = 0 := by unfold gErr; rw [hm, hs, if_neg (by simp), if_neg h]
        have e2 : gEnc st en id total typ k lb data sum = two (gHead st en k s.length) ++ s := by unfold gEnc; rw [e1, hs]; rfl
        obtain ⟨a1, a2⟩ := ha h
        rw [e1, e2, a1]
        have e3 : gHead st en k s.length = gHead st en k 0 + s.length := by unfold gHead; omega
        have e4 : 0 ≤ a ∧ a ≤ 240 := by
          unfold gHead at a2
          cases st <;> cases en <;> simp at a2 <;> omega
        unfold two
        rw [e3, ← a2]
        have e5 : (a * 256 + (s.length : Int)) / 256 % 256 = a + (s.length : Int) / 256 % 256 := by omega
        have e6 : (a * 256 + (s.length : Int)) % 256 = (s.length : Int) % 256 := by omega
        rw [e5, e6]
    have tw : (two typ).length = 2 ∧ (two total).length = 2 := ⟨rfl, rfl⟩
    cases st <;> cases en
    · rw [w_enc_ff, hm]
      obtain ⟨q1, q2⟩ := key ([] ++ [UInt8.ofNat (id % 256).toNat] ++ (data ++ sum)) 48 (by simp [gBody]) (fun h => ⟨or16' (x := 3) (by decide) (by decide) (by omega) (by omega), by simp [gHead]⟩)
      simp only [Bool.not_true, reduceCtorEq, false_implies, true_implies, true_and, branch_iff, obl_iff, decide_eq_true_eq, decide_eq_false_iff_not, Int.ofNat_lt]
      simp only [List.length_append, List.length_cons, List.length_nil] at q1 q2 ⊢
      refine ⟨by omega, by omega, fun h => q1 (by omega), fun h => ⟨by omega, q2 (by omega)⟩⟩
    · rw [w_enc_ft, hm]
      obtain ⟨q1, q2⟩ := key ([] ++ [UInt8.ofNat (id % 256).toNat] ++ (data ++ sum)) 112 (by simp [gBody]) (fun h => ⟨or16' (x := 7) (by decide) (by decide) (by omega) (by omega), by simp [gHead]⟩)
      simp only [Bool.not_true, reduceCtorEq, false_implies, true_implies, true_and, branch_iff, obl_iff, decide_eq_true_eq, decide_eq_false_iff_not, Int.ofNat_lt]
      simp only [List.length_append, List.length_cons, List.length_nil] at q1 q2 ⊢
      refine ⟨by omega, by omega, fun h => q1 (by omega), fun h => ⟨by omega, q2 (by omega)⟩⟩
    · rw [w_enc_tf, hm, or128' hk.1 hk.2]
      obtain ⟨q1, q2⟩ := key ([] ++ [UInt8.ofNat (id % 256).toNat] ++ two total ++ (two typ ++ lb) ++ (data ++ sum)) ((8 + k) * 16) (by simp [gBody]) (fun h => ⟨or16' (by omega) (by omega) (by omega) (by omega), by simp [gHead]; omega⟩)
      simp only [Bool.not_true, reduceCtorEq, false_implies, true_implies, true_and, branch_iff, obl_iff, Bool.true_and, inI64_iff, decide_eq_true_eq, decide_eq_false_iff_not, Int.ofNat_lt]
      simp only [List.length_append, List.length_cons, List.length_nil, tw.1, tw.2] at q1 q2 ⊢
      refine ⟨by omega, by omega, by omega, by omega, fun h => q1 (by omega), fun h => ⟨by omega, by omega, q2 (by omega)⟩⟩
    · rw [w_enc_tt, hm, or128' hk.1 hk.2, or64' hk.1 hk.2]
      obtain ⟨q1, q2⟩ := key ([] ++ (two typ ++ lb) ++ (data ++ sum)) ((12 + k) * 16) (by simp [gBody]) (fun h => ⟨or16' (by omega) (by omega) (by omega) (by omega), by simp [gHead]; omega⟩)
      simp only [Bool.not_true, reduceCtorEq, false_implies, true_implies, true_and, branch_iff, obl_iff, Bool.true_and, inI64_iff, decide_eq_true_eq, decide_eq_false_iff_not, Int.ofNat_lt]
      simp only [List.length_append, List.length_cons, List.length_nil, tw.1, tw.2] at q1 q2 ⊢
      refine ⟨by omega, by omega, by omega, by omega, fun h => q1 (by omega), fun h => ⟨by omega, by omega, q2 (by omega)⟩⟩
noncomputable def TG2 : Tabs := (TG1.addFc 21 fcEnc)
theorem TG2ok : TabsOk TG2 Try.prog := (TG1ok.addFc enc_sound)
end Go.Proofs.Ytjacnjecggedhaa
namespace Go.Proofs.Ytjacnjecggedhaa
set_option linter.unusedVariables false
set_option linter.unusedSimpArgs false
open Go.RowKit Ev
set_option maxRecDepth 100000 in
theorem w_gsize (st en : Bool) (id total typ k : Int) (lb data sum : List UInt8) (K : Out → Prop) : (callC (TG2.ctx Try.prog) 100 14 [.agg [.bool st, .bool en, .int .i64 id, .int .i64 total, .int .i64 typ, .int .i64 k, .str lb, .str data, .str sum]] ⟨0, []⟩ (fun o _ => K o)
) =  (obl (decide (lb.length + data.length + sum.length ≤ 9223372036854775000)) (K (Out.ret (AVal.tup [AVal.int IntKind.i64 (↑(gEnc st en id total typ k lb data sum).length : Int), AVal.int IntKind.i64
 (gErr st en id total typ k lb data sum)])))) := by kernel_rfl
end Go.Proofs.Ytjacnjecggedhaa
namespace Go.Proofs.Ytjacnjecggedhaa
set_option linter.unusedVariables false
set_option linter.unusedSimpArgs false
open Go.RowKit Ev
def fcGSize : FC := fun args _ => match args with
  | [.agg [.bool st, .bool en, .int .i64 id, .int .i64 total, .int .i64 typ, .int .i64 k, .str lb, .str data, .str sum]] => some (decide (lb.length + data.length + sum.length ≤ 9223372036854775000), .tup [.int .i64 ((gEnc st en id total typ k lb data sum).length : Int), .int .i64 (gErr st en id total typ k lb data sum)])
  | _ => none
theorem gsize_sound : FcSound Try.prog 14 fcGSize := by
  refine fc_pure TG2ok.ctx (n := 100) Try.call14 (fun args H v h => ?_)
  unfold fcGSize at h
  split at h <;> simp only [Option.some.injEq, Prod.mk.injEq, reduceCtorEq] at h
  obtain ⟨hl, rfl⟩ := h
  refine ⟨rfl, rfl, ?_⟩
  rw [w_gsize]
  exact obl_iff.2 ⟨hl, rfl⟩
noncomputable def TG : Tabs := (TG2.addFc 14 fcGSize)
theorem TGok : TabsOk TG Try.prog := (TG2ok.addFc gsize_sound)
end Go.Proofs.Ytjacnjecggedhaa
namespace Go.Proofs.Ytjacnjecggedhaa
set_option linter.unusedVariables false
set_option linter.unusedSimpArgs false
open Go.RowKit Ev
def by8 (b : List UInt8) (i : Nat) : Int := ((b.getD i 0).toNat : Int)
def w16 (b : List UInt8) (i : Nat) : Int := by8 b i * 256 + by8 b (i + 1)
def shortV : AVal := .iface 110 (.agg [])
noncomputable def gTake (l r : List AVal) (k : Out → List AVal → Prop) : Prop := match l, r with
  | [.str s], [.int .i64 n] => branch (decide ((s.length : Int) < n)) (k (.panic shortV) [.str s]) (obl (decide (0 ≤ n)) (k (.ret (.str (s.take n.toNat))) [.str (s.drop n.toNat)]))
  | _, _ => Stuck 40 []
noncomputable def gByte (l r : List AVal) (k : Out → List AVal → Prop) : Prop := match l, r with
  | [.str s], [] => branch (decide ((s.length : Int) < 1)) (k (.panic shortV) [.str s]) (k (.ret (.int .i64 (by8 s 0))) [.str (s.drop 1)])
  | _, _ => Stuck 41 []
noncomputable def gWord (l r : List AVal) (k : Out → List AVal → Prop) : Prop := match l, r with
  | [.str s], [] => branch (decide ((s.length : Int) < 2)) (k (.panic shortV) [.str (s.drop 1)]) (k (.ret (.int .i64 (w16 s 0))) [.str (s.drop 2)])
  | _, _ => Stuck 42 []
def rA (st en : Bool) : Nat := if st && en then 0 else 1
def rB (st en : Bool) : Nat := rA st en + (if st && !en then 2 else 0)
def rC (st en : Bool) (k : Int) : Nat := rB st en + (if st then 2 + (lSize k).toNat else 0)
def rOk (st en : Bool) (k : Int) (b : List UInt8) : Bool := decide (rC st en k + (if !st && en then 4 else 0) ≤ b.length)
def rId (st en : Bool) (b : List UInt8) : Int := if st && en then 0 else by8 b 0
def rTotal (st en : Bool) (b : List UInt8) : Int := if st && !en then w16 b 1 else 0
def rTyp (st en : Bool) (b : List UInt8) : Int := if st then w16 b (rB st en) else 0
def rK (st : Bool) (k : Int) : Int := if st then k else 0
def rLb (st en : Bool) (k : Int) (b : List UInt8) : List UInt8 := if st then (b.drop (rB st en + 2)).take (lSize k).toNat else []
def rData (st en : Bool) (k : Int) (b : List UInt8) : List UInt8 := if !st && en then (b.drop 1).take (b.length - 5) else b.drop (rC st en k)
def rSum (st en : Bool) (b : List UInt8) : List UInt8 := if !st && en then b.drop (b.length - 4) else []
noncomputable def gRead (r : List AVal) (k : Out → Prop) : Prop := match r with
  | [.agg [.bool st, .bool en], .int .i64 kind, .str b] => obl (decide (b.length ≤ 9223372036854775807)) <| branch (rOk st en kind b) (k (.ret (.agg [.bool st, .bool en, .int .i64 (rId st en b), .int .i64 (rTotal st en b), .int .i64 (rTyp st en b), .int .i64 (rK st kind), .str (rLb st en kind b), .str (rData st en kind b), .str (rSum st en b)]))) (k (.panic shortV))
  | _ => Stuck 43 []
noncomputable def TR1 : Tabs := TG.addGc 41 (gcCell 112 gTake)
noncomputable def TR2 : Tabs := TR1.addGc 56 (gcCell 112 gByte)
noncomputable def TR3 : Tabs := TR2.addGc 40 (gcCell 112 gWord)
noncomputable def TR4 : Tabs := TR3.addGc 42 (gcData gRead)
end Go.Proofs.Ytjacnjecggedhaa
namespace Go.Proofs.Ytjacnjecggedhaa
set_option linter.unusedVariables false
set_option linter.unusedSimpArgs false
open Go.RowKit Ev
set_option maxRecDepth 100000 in
theorem w_take (s : List UInt8) (n : Int) (K : Out → AHeap → Prop) : (callC (TG.ctx Try.prog) 100 41 [.ptr 0 0 0 0, .int .i64 n] ⟨1, [(0, .cells 112 [.str s])]⟩ K
) =  (branch (decide ((↑s.length : Int) < n)) (K (Out.panic (AVal.iface 110 (AVal.agg []))) (AHeap.mk 1 [(0, ABlk.cells 112 [AVal.str s])])) (obl (decide ((0 : Int) ≤ n ∧ n ≤ (↑s.length : Int))) (obl
 (decide ((0 : Int) ≤ n ∧ n ≤ (↑s.length : Int))) (K (Out.ret (AVal.str (List.take n.toNat s))) (AHeap.mk 1 [(0, ABlk.cells 112 [AVal.str (List.drop n.toNat s)]), (0, ABlk.cells 112 [AVal.str s])])))))
 := by kernel_rfl
set_option maxRecDepth 100000 in
theorem w_byte (s : List UInt8) (K : Out → AHeap → Prop) : (callC (TR1.ctx Try.prog) 100 56 [.ptr 0 0 0 0] ⟨1, [(0, .cells 112 [.str s])]⟩ K
) =  (branch (decide ((↑s.length : Int) < (1 : Int))) (K (Out.panic (AVal.iface 110 (AVal.agg []))) (AHeap.mk 1 [(0, ABlk.cells 112 [AVal.str s]), (0, ABlk.cells 112 [AVal.str s])])) (obl (decide ((0 :
 Int) ≤ (0 : Int) ∧ (0 : Int) < (↑(List.take 1 s).length : Int))) (obl (inI64 (↑((List.take 1 s).getD 0 (0 : UInt8)).toNat : Int)) (K (Out.ret (AVal.int IntKind.i64 (↑((List.take 1 s).getD 0 (0 :
 UInt8)).toNat : Int))) (AHeap.mk 1 [(0, ABlk.cells 112 [AVal.str (List.drop 1 s)]), (0, ABlk.cells 112 [AVal.str s])]))))) := by kernel_rfl
set_option maxRecDepth 100000 in
theorem w_word (s : List UInt8) (K : Out → AHeap → Prop) : (callC (TR2.ctx Try.prog) 100 40 [.ptr 0 0 0 0] ⟨1, [(0, .cells 112 [.str s])]⟩ K
) =  (branch (decide ((↑s.length : Int) < (1 : Int))) (K (Out.panic (AVal.iface 110 (AVal.agg []))) (AHeap.mk 1 [(0, ABlk.cells 112 [AVal.str s]), (0, ABlk.cells 112 [AVal.str s])])) (obl (true && inI64
 (by8 s 0 * (256 : Int))) (branch (decide ((↑(List.drop 1 s).length : Int) < (1 : Int))) (K (Out.panic (AVal.iface 110 (AVal.agg []))) (AHeap.mk 1 [(0, ABlk.cells 112 [AVal.str (List.drop 1 s)]), (0,
 ABlk.cells 112 [AVal.str (List.drop 1 s)]), (0, ABlk.cells 112 [AVal.str s])])) (K (Out.ret (AVal.int IntKind.i64 (bitsA BinOp.or IntKind.i64 (by8 s 0 * (256 : Int)) (by8 (List.drop 1 s) 0))))
 (AHeap.mk 1 [(0, ABlk.cells 112 [AVal.str (List.drop 1 (List.drop 1 s))]), (0, ABlk.cells 112 [AVal.str (List.drop 1 s)]), (0, ABlk.cells 112 [AVal.str s])]))))) := by kernel_rfl
set_option maxRecDepth 100000 in
theorem w_read_tt (k : Int) (b : List UInt8) (K : Out → Prop) : (callC (TR3.ctx Try.prog) 100 42 [.agg [.bool true, .bool true], .int .i64 k, .str b] ⟨0, []⟩ (fun o _ => K o)
) =  (branch (decide ((↑b.length : Int) < (2 : Int))) (K (Out.panic (AVal.iface 110 (AVal.agg [])))) (branch (decide ((↑(List.drop 2 b).length : Int) < lSize k)) (K (Out.panic (AVal.iface 110 (AVal.agg
 [])))) (obl (decide ((0 : Int) ≤ lSize k)) (K (Out.ret (AVal.agg [AVal.bool true, AVal.bool true, AVal.int IntKind.i64 (0 : Int), AVal.int IntKind.i64 (0 : Int), AVal.int IntKind.i64 (w16 b 0),
 AVal.int IntKind.i64 k, AVal.str (List.take (lSize k).toNat (List.drop 2 b)), AVal.str (List.drop (lSize k).toNat (List.drop 2 b)), AVal.str []])))))) := by kernel_rfl
set_option maxRecDepth 100000 in
theorem w_read_tf (k : Int) (b : List UInt8) (K : Out → Prop) : (callC (TR3.ctx Try.prog) 100 42 [.agg [.bool true, .bool false], .int .i64 k, .str b] ⟨0, []⟩ (fun o _ => K o)
) =  (branch (decide ((↑b.length : Int) < (1 : Int))) (K (Out.panic (AVal.iface 110 (AVal.agg [])))) (branch (decide ((↑(List.drop 1 b).length : Int) < (2 : Int))) (K (Out.panic (AVal.iface 110 (AVal.agg
 [])))) (branch (decide ((↑(List.drop 2 (List.drop 1 b)).length : Int) < (2 : Int))) (K (Out.panic (AVal.iface 110 (AVal.agg [])))) (branch (decide ((↑(List.drop 2 (List.drop 2 (List.drop 1 b))).length
 : Int) < lSize k)) (K (Out.panic (AVal.iface 110 (AVal.agg [])))) (obl (decide ((0 : Int) ≤ lSize k)) (K (Out.ret (AVal.agg [AVal.bool true, AVal.bool false, AVal.int IntKind.i64 (by8 b 0), AVal.int
 IntKind.i64 (w16 (List.drop 1 b) 0), AVal.int IntKind.i64 (w16 (List.drop 2 (List.drop 1 b)) 0), AVal.int IntKind.i64 k, AVal.str (List.take (lSize k).toNat (List.drop 2 (List.drop 2 (List.drop 1
 b)))), AVal.str (List.drop (lSize k).toNat (List.drop 2 (List.drop 2 (List.drop 1 b)))), AVal.str []])))))))) := by kernel_rfl
set_option maxRecDepth 100000 in
theorem w_read_ft (k : Int) (b : List UInt8) (K : Out → Prop) : (callC (TR3.ctx Try.prog) 100 42 [.agg [.bool false, .bool true], .int .i64 k, .str b] ⟨0, []⟩ (fun o _ => K o)
) =  (branch (decide ((↑b.length : Int) < (1 : Int))) (K (Out.panic (AVal.iface 110 (AVal.agg [])))) (obl (inI64 ((↑(List.drop 1 b).length : Int) - (4 : Int))) (branch (decide ((↑(List.drop 1 b).length :
 Int) < max ((↑(List.drop 1 b).length : Int) - (4 : Int)) (0 : Int))) (K (Out.panic (AVal.iface 110 (AVal.agg [])))) (obl (decide ((0 : Int) ≤ max ((↑(List.drop 1 b).length : Int) - (4 : Int)) (0 :
 Int))) (branch (decide ((↑(List.drop (max ((↑(List.drop 1 b).length : Int) - (4 : Int)) (0 : Int)).toNat (List.drop 1 b)).length : Int) < (4 : Int))) (K (Out.panic (AVal.iface 110 (AVal.agg [])))) (K
 (Out.ret (AVal.agg [AVal.bool false, AVal.bool true, AVal.int IntKind.i64 (by8 b 0), AVal.int IntKind.i64 (0 : Int), AVal.int IntKind.i64 (0 : Int), AVal.int IntKind.i64 (0 : Int), AVal.str [],
 AVal.str (List.take (max ((↑(List.drop 1 b).length : Int) - (4 : Int)) (0 : Int)).toNat (List.drop 1 b)), AVal.str (List.take 4 (List.drop (max ((↑(List.drop 1 b).length : Int) - (4 : Int)) (0 :
 Int)).toNat (List.drop 1 b)))])))))))) := by kernel_rfl
set_option maxRecDepth 100000 in
theorem w_read_ff (k : Int) (b : List UInt8) (K : Out → Prop) : (callC (TR3.ctx Try.prog) 100 42 [.agg [.bool false, .bool false], .int .i64 k, .str b] ⟨0, []⟩ (fun o _ => K o)
) =  (branch (decide ((↑b.length : Int) < (1 : Int))) (K (Out.panic (AVal.iface 110 (AVal.agg [])))) (K (Out.ret (AVal.agg [AVal.bool false, AVal.bool false, AVal.int IntKind.i64 (by8 b 0), AVal.int
 IntKind.i64 (0 : Int), AVal.int IntKind.i64 (0 : Int), AVal.int IntKind.i64 (0 : Int), AVal.str [], AVal.str (List.drop 1 b), AVal.str []])))) := by kernel_rfl
end Go.Proofs.Ytjacnjecggedhaa
namespace Go.Proofs.Ytjacnjecggedhaa
set_option linter.unusedVariables false
set_option linter.unusedSimpArgs false
open Go.RowKit Ev
theorem by8_bd (b : List UInt8) (i : Nat) : 0 ≤ by8 b i ∧ by8 b i < 256 := by
  unfold by8
  have := (b.getD i 0).toNat_lt
  omega
theorem w16_bd (b : List UInt8) (i : Nat) : 0 ≤ w16 b i ∧ w16 b i < 65536 := by
  have h1 := by8_bd b i
  have h2 := by8_bd b (i + 1)
  unfold w16
  omega
theorem by8_drop (b : List UInt8) (i j : Nat) : by8 (b.drop j) i = by8 b (j + i) := by
  unfold by8
  simp [List.getD_eq_getElem?_getD, List.getElem?_drop]
theorem by8_take (b : List UInt8) (i n : Nat) (h : i < n) : by8 (b.take n) i = by8 b i := by
  unfold by8
  simp [List.getD_eq_getElem?_getD, List.getElem?_take, h]
theorem w16_drop (b : List UInt8) (i j : Nat) : w16 (b.drop j) i = w16 b (j + i) := by
  unfold w16
  simp only [by8_drop, Nat.add_assoc]
theorem wrap_i64 (z : Nat) (h : z < 4294967296) : IntKind.i64.wrap (z : Int) = z := by
  have e : (z : Int) % (2 ^ IntKind.i64.bits : Int) = z := by
    rw [show (2 ^ IntKind.i64.bits : Int) = 18446744073709551616 from rfl]; omega
  unfold IntKind.wrap
  simp only [e]
  rw [if_neg]
  rw [show (2 ^ (IntKind.i64.bits - 1) : Int) = 9223372036854775808 from rfl]
  simp only [Bool.and_eq_true, decide_eq_true_eq, not_and]
  intro _
  omega
theorem nat_or (x y : Nat) (hx : x < 4294967296) (hy : y < 4294967296) : bitsA .or .i64 (x : Int) (y : Int) = ((x ||| y : Nat) : Int) := by
  unfold bitsA
  have e1 : (BitVec.ofInt IntKind.i64.bits (x : Int) ||| BitVec.ofInt IntKind.i64.bits (y : Int)).toNat = x ||| y := by
    rw [BitVec.toNat_or, BitVec.toNat_ofInt, BitVec.toNat_ofInt]
    congr 1 <;> · simp only [IntKind.bits]; omega
  have e2 : x ||| y < 2 ^ 32 := Nat.or_lt_two_pow (by omega) (by omega)
  show IntKind.i64.wrap _ = _
  rw [e1]
  exact wrap_i64 _ e2
theorem nat_and (x y : Nat) (hx : x < 4294967296) (hy : y < 4294967296) : bitsA .and .i64 (x : Int) (y : Int) = ((x &&& y : Nat) : Int) := by
  unfold bitsA
  have e1 : (BitVec.ofInt IntKind.i64.bits (x : Int) &&& BitVec.ofInt IntKind.i64.bits (y : Int)).toNat = x &&& y := by
    rw [BitVec.toNat_and, BitVec.toNat_ofInt, BitVec.toNat_ofInt]
    congr 1 <;> · simp only [IntKind.bits]; omega
  have e2 : x &&& y < 2 ^ 32 := Nat.and_lt_two_pow _ (by omega)
  show IntKind.i64.wrap _ = _
  rw [e1]
  exact wrap_i64 _ e2
theorem or_word {h l : Int} (h1 : 0 ≤ h) (h2 : h < 256) (h3 : 0 ≤ l) (h4 : l < 256) : bitsA .or .i64 (h * 256) l = h * 256 + l := by
  obtain ⟨a, rfl⟩ := Int.eq_ofNat_of_zero_le h1
  obtain ⟨b, rfl⟩ := Int.eq_ofNat_of_zero_le h3
  have e : ((a : Int) * 256) = ((a * 256 : Nat) : Int) := by omega
  have hb : b < 2 ^ 8 := by omega
  have := Nat.shiftLeft_add_eq_or_of_lt hb a
  rw [Nat.shiftLeft_eq] at this
  have e2 : a * 256 ||| b = a * 256 + b := this.symm
  rw [e, nat_or _ _ (by omega) (by omega), e2]
  omega
theorem and_4095 {x : Int} (h1 : 0 ≤ x) (h2 : x < 65536) : bitsA .and .i64 x 4095 = x % 4096 := by
  obtain ⟨a, rfl⟩ := Int.eq_ofNat_of_zero_le h1
  rw [show (4095 : Int) = ((4095 : Nat) : Int) from rfl, nat_and _ _ (by omega) (by omega)]
  have := Nat.and_two_pow_sub_one_eq_mod a 12
  simp only [show (2 : Nat) ^ 12 = 4096 from rfl, show 4096 - 1 = 4095 from rfl] at this
  rw [this]
  omega
theorem and_3 {x : Int} (h1 : 0 ≤ x) (h2 : x < 65536) : bitsA .and .i64 x 3 = x % 4 := by
  obtain ⟨a, rfl⟩ := Int.eq_ofNat_of_zero_le h1
  rw [show (3 : Int) = ((3 : Nat) : Int) from rfl, nat_and _ _ (by omega) (by omega)]
  have := Nat.and_two_pow_sub_one_eq_mod a 2
  simp only [show (2 : Nat) ^ 2 = 4 from rfl, show 4 - 1 = 3 from rfl] at this
  rw [this]
  omega
theorem take_sound : GcSound Try.prog 41 (gcCell 112 gTake) := by
  refine gc_cell TGok.ctx (n := 100) Try.call41 (fun l r k h => ?_)
  unfold gTake at h
  split at h
  · rename_i s n
    rw [w_take]
    simp only [branch_iff, obl_iff, decide_eq_true_eq, decide_eq_false_iff_not] at h ⊢
    refine ⟨fun hc => ⟨_, rfl, rfl, rfl, h.1 hc⟩, fun hc => ?_⟩
    obtain ⟨h1, h2⟩ := h.2 hc
    exact ⟨by omega, by omega, _, rfl, rfl, rfl, h2⟩
  · exact (not_stuck h).elim
theorem TR1ok : TabsOk TR1 Try.prog := TGok.addGc take_sound
theorem byte_sound : GcSound Try.prog 56 (gcCell 112 gByte) := by
  refine gc_cell TR1ok.ctx (n := 100) Try.call56 (fun l r k h => ?_)
  unfold gByte at h
  split at h
  · rename_i s
    rw [w_byte]
    have e : ((((s.take 1).getD 0 0).toNat : Nat) : Int) = by8 s 0 := by8_take s 0 1 (by omega)
    have hb := by8_bd s 0
    simp only [branch_iff, obl_iff, decide_eq_true_eq, decide_eq_false_iff_not, e, inI64_iff] at h ⊢
    refine ⟨fun hc => ⟨_, rfl, rfl, rfl, h.1 hc⟩, fun hc => ⟨?_, ?_, _, rfl, rfl, rfl, h.2 hc⟩⟩
    · simp; omega
    · omega
  · exact (not_stuck h).elim
theorem TR2ok : TabsOk TR2 Try.prog := TR1ok.addGc byte_sound
theorem word_sound : GcSound Try.prog 40 (gcCell 112 gWord) := by
  refine gc_cell TR2ok.ctx (n := 100) Try.call40 (fun l r k h => ?_)
  unfold gWord at h
  split at h
  · rename_i s
    rw [w_word]
    have hb := by8_bd s 0
    have hb1 := by8_bd (s.drop 1) 0
    have e : bitsA .or .i64 (by8 s 0 * 256) (by8 (s.drop 1) 0) = w16 s 0 := by
      rw [or_word hb.1 hb.2 hb1.1 hb1.2, by8_drop]; rfl
    have e2 : (s.drop 1).drop 1 = s.drop 2 := by rw [List.drop_drop]
    simp only [branch_iff, obl_iff, decide_eq_true_eq, decide_eq_false_iff_not, e, e2, inI64_iff, Bool.true_and, List.length_drop] at h ⊢
    refine ⟨fun hc => ⟨_, rfl, rfl, rfl, ?_⟩, fun hc => ⟨by omega, fun hc' => ⟨_, rfl, rfl, rfl, h.1 (by omega)⟩, fun hc' => ⟨_, rfl, rfl, rfl, h.2 (by omega)⟩⟩⟩
    have hs : s = [] := by cases s with
      | nil => rfl
      | cons c s => simp at hc; omega
    have := h.1 (by omega)
    subst hs
    exact this
  · exact (not_stuck h).elim
theorem TR3ok : TabsOk TR3 Try.prog := TR2ok.addGc word_sound
end Go.Proofs.Ytjacnjecggedhaa
namespace Go.Proofs.Ytjacnjecggedhaa
set_option linter.unusedVariables false
set_option linter.unusedSimpArgs false
open Go.RowKit Ev
theorem lSize_nn (k : Int) : 0 ≤ lSize k ∧ lSize k ≤ 6 := by
  unfold lSize
  split
  · omega
  · split <;> omega
set_option maxRecDepth 100000 in
theorem read_sound : GcSound Try.prog 42 (gcData gRead) := by
  refine gc_data TR3ok.ctx (n := 100) Try.call42 (fun r k h => ?_)
  unfold gRead at h
  split at h
  · rename_i st en kind b
    have hk := lSize_nn kind
    simp only [branch_iff, obl_iff, decide_eq_true_eq] at h
    obtain ⟨hb, hy, hn⟩ := h
    -- it is given up; it goes through
    have bad : rOk st en kind b = false → (Out.panic shortV).data = true ∧ k (.panic shortV) := fun h => ⟨rfl, hn h⟩
    have good : ∀ {id total typ k' : Int} {lb data sum : List UInt8}, rOk st en kind b = true → id = rId st en b → total = rTotal st en b → typ = rTyp st en b → k' = rK st kind → lb = rLb st en kind b → data = rData st en kind b → sum = rSum st en b →
        (Out.ret (.agg [.bool st, .bool en, .int .i64 id, .int .i64 total, .int .i64 typ, .int .i64 k', .str lb, .str data, .str sum])).data = true ∧ k (.ret (.agg [.bool st, .bool en, .int .i64 id, .int .i64 total, .int .i64 typ, .int .i64 k', .str lb, .str data, .str sum])) := by
      rintro _ _ _ _ _ _ _ h rfl rfl rfl rfl rfl rfl rfl
      exact ⟨rfl, hy h⟩
    cases st <;> cases en
    · rw [w_read_ff]
      simp only [branch_iff, decide_eq_true_eq, decide_eq_false_iff_not]
      refine ⟨fun hc => bad ?_, fun hc => good ?_ rfl rfl rfl rfl rfl rfl rfl⟩
      · have : b.length = 0 := by omega
        simp [rOk, rC, rB, rA, List.eq_nil_of_length_eq_zero this]
      · simp [rOk, rC, rB, rA]; omega
    · rw [w_read_ft]
      simp only [branch_iff, obl_iff, decide_eq_true_eq, decide_eq_false_iff_not, inI64_iff, List.length_drop, List.drop_drop]
      refine ⟨fun hc => bad ?_, fun hc => ⟨by omega, fun hc1 => ?_, fun hc1 => ⟨by omega, fun hc2 => bad ?_, fun hc2 => good ?_ rfl rfl rfl rfl rfl ?_ ?_⟩⟩⟩
      · simp [rOk, rC, rB, rA]; omega
      · refine bad ?_; simp [rOk, rC, rB, rA]; omega
      · simp [rOk, rC, rB, rA]; omega
      · simp [rOk, rC, rB, rA]; omega
      · simp only [rData]
        rw [if_pos (by rfl)]
        congr 1
        omega
      · simp only [rSum]
        rw [if_pos (by rfl), List.take_of_length_le (by simp; omega)]
        congr 1
        omega
    · rw [w_read_tf]
      simp only [branch_iff, obl_iff, decide_eq_true_eq, decide_eq_false_iff_not, inI64_iff, List.length_drop, List.drop_drop, w16_drop]
      refine ⟨fun hc => bad ?_, fun hc => ⟨fun hc1 => bad ?_, fun hc1 => ⟨fun hc2 => bad ?_, fun hc2 => ⟨fun hc3 => bad ?_, fun hc3 => ⟨by omega, good ?_ rfl rfl rfl rfl rfl ?_ rfl⟩⟩⟩⟩⟩
      · simp [rOk, rC, rB, rA]; omega
      · simp [rOk, rC, rB, rA]; omega
      · simp [rOk, rC, rB, rA]; omega
      · simp [rOk, rC, rB, rA]; omega
      · simp [rOk, rC, rB, rA]; omega
      · simp only [rData, rC, rB, rA]
        rw [if_neg (by decide)]
        congr 1
        simp
        try omega
    · rw [w_read_tt]
      simp only [branch_iff, obl_iff, decide_eq_true_eq, decide_eq_false_iff_not, inI64_iff, List.length_drop, List.drop_drop, w16_drop]
      refine ⟨fun hc => bad ?_, fun hc => ⟨fun hc1 => bad ?_, fun hc1 => ⟨by omega, good ?_ rfl rfl rfl rfl rfl ?_ rfl⟩⟩⟩
      · simp [rOk, rC, rB, rA]; omega
      · simp [rOk, rC, rB, rA]; omega
      · simp [rOk, rC, rB, rA]; omega
      · simp only [rData, rC, rB, rA]
        rw [if_neg (by decide)]
        congr 1
        simp
        try omega
  · exact (not_stuck h).elim
theorem TR4ok : TabsOk TR4 Try.prog := TR3ok.addGc read_sound
end Go.Proofs.Ytjacnjecggedhaa
namespace Go.Proofs.Ytjacnjecggedhaa
set_option linter.unusedVariables false
set_option linter.unusedSimpArgs false
open Go.RowKit Ev
set_option maxRecDepth 100000 in
theorem w_dec (s : List UInt8) (K : Out → Prop) : (wpD (TR4.ctx Try.prog) 100 28 39 10 6 3 [.tmp 2, .tmp 3, .tmp 4] Try.f28 (seqL (bodyC Try.f28)) (seqR (seqR (bodyC Try.f28))) (seqR (bodyC Try.f39)) [.str s] ⟨0, []⟩ (fun o _ => K o)
) =  (branch (decide (s = [])) (K (Out.ret (AVal.tup [AVal.agg [AVal.bool false, AVal.bool false, AVal.int IntKind.i64 (0 : Int), AVal.int IntKind.i64 (0 : Int), AVal.int IntKind.i64 (0 : Int), AVal.int
 IntKind.i64 (0 : Int), AVal.str [], AVal.str [], AVal.str []], AVal.int IntKind.i64 (0 : Int), AVal.int IntKind.i64 (5 : Int)]))) (obl (decide ((0 : Int) ≤ (0 : Int) ∧ (0 : Int) < (↑s.length : Int)))
 (branch (decide ((↑(s.getD 0 (0 : UInt8)).toNat : Int) < (16 : Int))) (K (Out.ret (AVal.tup [AVal.agg [AVal.bool false, AVal.bool false, AVal.int IntKind.i64 (0 : Int), AVal.int IntKind.i64 (0 : Int),
 AVal.int IntKind.i64 (0 : Int), AVal.int IntKind.i64 (0 : Int), AVal.str [], AVal.str [], AVal.str []], AVal.int IntKind.i64 (0 : Int), AVal.int IntKind.i64 (5 : Int)]))) (branch (decide ((↑s.length :
 Int) < (2 : Int))) (K (Out.ret (AVal.tup [AVal.agg [AVal.bool false, AVal.bool false, AVal.int IntKind.i64 (0 : Int), AVal.int IntKind.i64 (0 : Int), AVal.int IntKind.i64 (0 : Int), AVal.int
 IntKind.i64 (0 : Int), AVal.str [], AVal.str [], AVal.str []], AVal.int IntKind.i64 (0 : Int), AVal.int IntKind.i64 (4 : Int)]))) (branch (decide ((↑(List.drop 2 s).length : Int) < bitsA BinOp.and
 IntKind.i64 (w16 s 0) (4095 : Int))) (K (Out.ret (AVal.tup [AVal.agg [AVal.bool false, AVal.bool false, AVal.int IntKind.i64 (0 : Int), AVal.int IntKind.i64 (0 : Int), AVal.int IntKind.i64 (0 : Int),
 AVal.int IntKind.i64 (0 : Int), AVal.str [], AVal.str [], AVal.str []], AVal.int IntKind.i64 (0 : Int), AVal.int IntKind.i64 (4 : Int)]))) (obl (decide ((0 : Int) ≤ bitsA BinOp.and IntKind.i64 (w16 s
 0) (4095 : Int))) (obl (decide ((0 : Int) ≤ (0 : Int) ∧ (0 : Int) < (↑s.length : Int))) (obl (decide ((0 : Int) ≤ (0 : Int) ∧ (0 : Int) < (↑s.length : Int))) (branch (!!decide (bitsA BinOp.and
 IntKind.u8 (↑(s.getD 0 (0 : UInt8)).toNat : Int) (128 : Int) = (0 : Int))) (branch (!decide (bitsA BinOp.and IntKind.i64 (w16 s 0 / (4096 : Int)) (3 : Int) = (3 : Int))) (K (Out.ret (AVal.tup
 [AVal.agg [AVal.bool false, AVal.bool false, AVal.int IntKind.i64 (0 : Int), AVal.int IntKind.i64 (0 : Int), AVal.int IntKind.i64 (0 : Int), AVal.int IntKind.i64 (0 : Int), AVal.str [], AVal.str [],
 AVal.str []], AVal.int IntKind.i64 (0 : Int), AVal.int IntKind.i64 (4 : Int)]))) (obl (decide ((List.take (bitsA BinOp.and IntKind.i64 (w16 s 0) (4095 : Int)).toNat (List.drop 2 s)).length ≤
 9223372036854775807)) (branch (rOk (!decide (bitsA BinOp.and IntKind.u8 (↑(s.getD 0 (0 : UInt8)).toNat : Int) (128 : Int) = (0 : Int))) (!decide (bitsA BinOp.and IntKind.u8 (↑(s.getD 0 (0 :
 UInt8)).toNat : Int) (64 : Int) = (0 : Int))) (bitsA BinOp.and IntKind.i64 (w16 s 0 / (4096 : Int)) (3 : Int)) (List.take (bitsA BinOp.and IntKind.i64 (w16 s 0) (4095 : Int)).toNat (List.drop 2 s)))
 (obl (inI64 ((2 : Int) + (↑(List.take (bitsA BinOp.and IntKind.i64 (w16 s 0) (4095 : Int)).toNat (List.drop 2 s)).length : Int))) (K (Out.ret (AVal.tup [AVal.agg [AVal.bool !decide (bitsA BinOp.and
 IntKind.u8 (↑(s.getD 0 (0 : UInt8)).toNat : Int) (128 : Int) = (0 : Int)), AVal.bool !decide (bitsA BinOp.and IntKind.u8 (↑(s.getD 0 (0 : UInt8)).toNat : Int) (64 : Int) = (0 : Int)), AVal.int
 IntKind.i64 (rId (!decide (bitsA BinOp.and IntKind.u8 (↑(s.getD 0 (0 : UInt8)).toNat : Int) (128 : Int) = (0 : Int))) (!decide (bitsA BinOp.and IntKind.u8 (↑(s.getD 0 (0 : UInt8)).toNat : Int) (64 :
 Int) = (0 : Int))) (List.take (bitsA BinOp.and IntKind.i64 (w16 s 0) (4095 : Int)).toNat (List.drop 2 s))), AVal.int IntKind.i64 (rTotal (!decide (bitsA BinOp.and IntKind.u8 (↑(s.getD 0 (0 :
 UInt8)).toNat : Int) (128 : Int) = (0 : Int))) (!decide (bitsA BinOp.and IntKind.u8 (↑(s.getD 0 (0 : UInt8)).toNat : Int) (64 : Int) = (0 : Int))) (List.take (bitsA BinOp.and IntKind.i64 (w16 s 0)
 (4095 : Int)).toNat (List.drop 2 s))), AVal.int IntKind.i64 (rTyp (!decide (bitsA BinOp.and IntKind.u8 (↑(s.getD 0 (0 : UInt8)).toNat : Int) (128 : Int) = (0 : Int))) (!decide (bitsA BinOp.and
 IntKind.u8 (↑(s.getD 0 (0 : UInt8)).toNat : Int) (64 : Int) = (0 : Int))) (List.take (bitsA BinOp.and IntKind.i64 (w16 s 0) (4095 : Int)).toNat (List.drop 2 s))), AVal.int IntKind.i64 (rK (!decide
 (bitsA BinOp.and IntKind.u8 (↑(s.getD 0 (0 : UInt8)).toNat : Int) (128 : Int) = (0 : Int))) (bitsA BinOp.and IntKind.i64 (w16 s 0 / (4096 : Int)) (3 : Int))), AVal.str (rLb (!decide (bitsA BinOp.and
 IntKind.u8 (↑(s.getD 0 (0 : UInt8)).toNat : Int) (128 : Int) = (0 : Int))) (!decide (bitsA BinOp.and IntKind.u8 (↑(s.getD 0 (0 : UInt8)).toNat : Int) (64 : Int) = (0 : Int))) (bitsA BinOp.and
 IntKind.i64 (w16 s 0 / (4096 : Int)) (3 : Int)) (List.take (bitsA BinOp.and IntKind.i64 (w16 s 0) (4095 : Int)).toNat (List.drop 2 s))), AVal.str (rData (!decide (bitsA BinOp.and IntKind.u8 (↑(s.getD
 0 (0 : UInt8)).toNat : Int) (128 : Int) = (0 : Int))) (!decide (bitsA BinOp.and IntKind.u8 (↑(s.getD 0 (0 : UInt8)).toNat : Int) (64 : Int) = (0 : Int))) (bitsA BinOp.and IntKind.i64 (w16 s 0 / (4096
 : Int)) (3 : Int)) (List.take (bitsA BinOp.and IntKind.i64 (w16 s 0) (4095 : Int)).toNat (List.drop 2 s))), AVal.str (rSum (!decide (bitsA BinOp.and IntKind.u8 (↑(s.getD 0 (0 : UInt8)).toNat : Int)
 (128 : Int) = (0 : Int))) (!decide (bitsA BinOp.and IntKind.u8 (↑(s.getD 0 (0 : UInt8)).toNat : Int) (64 : Int) = (0 : Int))) (List.take (bitsA BinOp.and IntKind.i64 (w16 s 0) (4095 : Int)).toNat
 (List.drop 2 s)))], AVal.int IntKind.i64 ((2 : Int) + (↑(List.take (bitsA BinOp.and IntKind.i64 (w16 s 0) (4095 : Int)).toNat (List.drop 2 s)).length : Int)), AVal.int IntKind.i64 (0 : Int)])))) (K
 (Out.ret (AVal.tup [AVal.agg [AVal.bool false, AVal.bool false, AVal.int IntKind.i64 (0 : Int), AVal.int IntKind.i64 (0 : Int), AVal.int IntKind.i64 (0 : Int), AVal.int IntKind.i64 (0 : Int), AVal.str
 [], AVal.str [], AVal.str []], AVal.int IntKind.i64 (0 : Int), AVal.int IntKind.i64 (4 : Int)])))))) (obl (decide ((List.take (bitsA BinOp.and IntKind.i64 (w16 s 0) (4095 : Int)).toNat (List.drop 2
 s)).length ≤ 9223372036854775807)) (branch (rOk (!decide (bitsA BinOp.and IntKind.u8 (↑(s.getD 0 (0 : UInt8)).toNat : Int) (128 : Int) = (0 : Int))) (!decide (bitsA BinOp.and IntKind.u8 (↑(s.getD 0 (0
 : UInt8)).toNat : Int) (64 : Int) = (0 : Int))) (bitsA BinOp.and IntKind.i64 (w16 s 0 / (4096 : Int)) (3 : Int)) (List.take (bitsA BinOp.and IntKind.i64 (w16 s 0) (4095 : Int)).toNat (List.drop 2 s)))
 (obl (inI64 ((2 : Int) + (↑(List.take (bitsA BinOp.and IntKind.i64 (w16 s 0) (4095 : Int)).toNat (List.drop 2 s)).length : Int))) (K (Out.ret (AVal.tup [AVal.agg [AVal.bool !decide (bitsA BinOp.and
 IntKind.u8 (↑(s.getD 0 (0 : UInt8)).toNat : Int) (128 : Int) = (0 : Int)), AVal.bool !decide (bitsA BinOp.and IntKind.u8 (↑(s.getD 0 (0 : UInt8)).toNat : Int) (64 : Int) = (0 : Int)), AVal.int
 IntKind.i64 (rId (!decide (bitsA BinOp.and IntKind.u8 (↑(s.getD 0 (0 : UInt8)).toNat : Int) (128 : Int) = (0 : Int))) (!decide (bitsA BinOp.and IntKind.u8 (↑(s.getD 0 (0 : UInt8)).toNat : Int) (64 :
 Int) = (0 : Int))) (List.take (bitsA BinOp.and IntKind.i64 (w16 s 0) (4095 : Int)).toNat (List.drop 2 s))), AVal.int IntKind.i64 (rTotal (!decide (bitsA BinOp.and IntKind.u8 (↑(s.getD 0 (0 :
 UInt8)).toNat : Int) (128 : Int) = (0 : Int))) (!decide (bitsA BinOp.and IntKind.u8 (↑(s.getD 0 (0 : UInt8)).toNat : Int) (64 : Int) = (0 : Int))) (List.take (bitsA BinOp.and IntKind.i64 (w16 s 0)
 (4095 : Int)).toNat (List.drop 2 s))), AVal.int IntKind.i64 (rTyp (!decide (bitsA BinOp.and IntKind.u8 (↑(s.getD 0 (0 : UInt8)).toNat : Int) (128 : Int) = (0 : Int))) (!decide (bitsA BinOp.and
 IntKind.u8 (↑(s.getD 0 (0 : UInt8)).toNat : Int) (64 : Int) = (0 : Int))) (List.take (bitsA BinOp.and IntKind.i64 (w16 s 0) (4095 : Int)).toNat (List.drop 2 s))), AVal.int IntKind.i64 (rK (!decide
 (bitsA BinOp.and IntKind.u8 (↑(s.getD 0 (0 : UInt8)).toNat : Int) (128 : Int) = (0 : Int))) (bitsA BinOp.and IntKind.i64 (w16 s 0 / (4096 : Int)) (3 : Int))), AVal.str (rLb (!decide (bitsA BinOp.and
 IntKind.u8 (↑(s.getD 0 (0 : UInt8)).toNat : Int) (128 : Int) = (0 : Int))) (!decide (bitsA BinOp.and IntKind.u8 (↑(s.getD 0 (0 : UInt8)).toNat : Int) (64 : Int) = (0 : Int))) (bitsA BinOp.and
 IntKind.i64 (w16 s 0 / (4096 : Int)) (3 : Int)) (List.take (bitsA BinOp.and IntKind.i64 (w16 s 0) (4095 : Int)).toNat (List.drop 2 s))), AVal.str (rData (!decide (bitsA BinOp.and IntKind.u8 (↑(s.getD
 0 (0 : UInt8)).toNat : Int) (128 : Int) = (0 : Int))) (!decide (bitsA BinOp.and IntKind.u8 (↑(s.getD 0 (0 : UInt8)).toNat : Int) (64 : Int) = (0 : Int))) (bitsA BinOp.and IntKind.i64 (w16 s 0 / (4096
 : Int)) (3 : Int)) (List.take (bitsA BinOp.and IntKind.i64 (w16 s 0) (4095 : Int)).toNat (List.drop 2 s))), AVal.str (rSum (!decide (bitsA BinOp.and IntKind.u8 (↑(s.getD 0 (0 : UInt8)).toNat : Int)
 (128 : Int) = (0 : Int))) (!decide (bitsA BinOp.and IntKind.u8 (↑(s.getD 0 (0 : UInt8)).toNat : Int) (64 : Int) = (0 : Int))) (List.take (bitsA BinOp.and IntKind.i64 (w16 s 0) (4095 : Int)).toNat
 (List.drop 2 s)))], AVal.int IntKind.i64 ((2 : Int) + (↑(List.take (bitsA BinOp.and IntKind.i64 (w16 s 0) (4095 : Int)).toNat (List.drop 2 s)).length : Int)), AVal.int IntKind.i64 (0 : Int)])))) (K
 (Out.ret (AVal.tup [AVal.agg [AVal.bool false, AVal.bool false, AVal.int IntKind.i64 (0 : Int), AVal.int IntKind.i64 (0 : Int), AVal.int IntKind.i64 (0 : Int), AVal.int IntKind.i64 (0 : Int), AVal.str
 [], AVal.str [], AVal.str []], AVal.int IntKind.i64 (0 : Int), AVal.int IntKind.i64 (4 : Int)])))))))))))))) := by kernel_rfl
end Go.Proofs.Ytjacnjecggedhaa
namespace Go.Proofs.Ytjacnjecggedhaa
set_option linter.unusedVariables false
set_option linter.unusedSimpArgs false
open Go.RowKit Ev
def zeroP : PieceR := ⟨false, false, 0, 0, 0, 0, [], [], []⟩
structure Dec where
  p : PieceR
  n : Int
  e : Int
deriving DecidableEq
def dSt (s : List UInt8) : Bool := decide (128 ≤ by8 s 0)
def dEn (s : List UInt8) : Bool := decide (64 ≤ by8 s 0 % 128)
def dKind (s : List UInt8) : Int := w16 s 0 / 4096 % 4
def dLen (s : List UInt8) : Nat := (w16 s 0 % 4096).toNat
def dBody (s : List UInt8) : List UInt8 := (s.drop 2).take (dLen s)
def dPiece (st en : Bool) (k : Int) (b : List UInt8) : PieceR := ⟨st, en, rId st en b, rTotal st en b, rTyp st en b, rK st k, rLb st en k b, rData st en k b, rSum st en b⟩
def dec (s : List UInt8) : Dec :=
  if s = [] ∨ by8 s 0 < 16 then ⟨zeroP, 0, 5⟩
  else if s.length < 2 ∨ s.length < 2 + dLen s ∨ (dSt s = false ∧ dKind s ≠ 3) ∨ rOk (dSt s) (dEn s) (dKind s) (dBody s) = false then ⟨zeroP, 0, 4⟩
  else ⟨dPiece (dSt s) (dEn s) (dKind s) (dBody s), 2 + dLen s, 0⟩
def decV (d : Dec) : AVal := .tup [.agg d.p.cells, .int .i64 d.n, .int .i64 d.e]
def fcDec : FC := fun args _ => match args with
  | [.str s] => some (decide (s.length ≤ 9223372036854775000), .tup [.agg [.bool (dec s).p.st, .bool (dec s).p.en, .int .i64 (dec s).p.id, .int .i64 (dec s).p.total, .int .i64 (dec s).p.typ, .int .i64 (dec s).p.k, .str (dec s).p.lb, .str (dec s).p.data, .str (dec s).p.sum], .int .i64 (dec s).n, .int .i64 (dec s).e])
  | _ => none
set_option maxRecDepth 10000 in
theorem and_u8 : ∀ x : Fin 256, decide (bitsA .and .u8 (x.val : Int) 128 = 0) = !decide (128 ≤ x.val) ∧ decide (bitsA .and .u8 (x.val : Int) 64 = 0) = !decide (64 ≤ x.val % 128) := by decide
theorem and_st (s : List UInt8) : (!decide (bitsA .and .u8 (((s.getD 0 0).toNat : Nat) : Int) 128 = 0)) = dSt s ∧ (!decide (bitsA .and .u8 (((s.getD 0 0).toNat : Nat) : Int) 64 = 0)) = dEn s := by
  have h := and_u8 ⟨(s.getD 0 0).toNat, (s.getD 0 0).toNat_lt⟩
  simp only at h
  rw [h.1, h.2]
  unfold dSt dEn by8
  constructor
  · simp only [Bool.not_not, decide_eq_decide]; omega
  · simp only [Bool.not_not, decide_eq_decide]; omega
theorem dec_bad5 {s : List UInt8} (h : s = [] ∨ by8 s 0 < 16) : dec s = ⟨zeroP, 0, 5⟩ := by unfold dec; rw [if_pos h]
theorem dec_bad4 {s : List UInt8} (h : ¬ (s = [] ∨ by8 s 0 < 16)) (h2 : s.length < 2 ∨ s.length < 2 + dLen s ∨ (dSt s = false ∧ dKind s ≠ 3) ∨ rOk (dSt s) (dEn s) (dKind s) (dBody s) = false) : dec s = ⟨zeroP, 0, 4⟩ := by unfold dec; rw [if_neg h, if_pos h2]
theorem dec_good {s : List UInt8} (h : ¬ (s = [] ∨ by8 s 0 < 16)) (h2 : ¬ (s.length < 2 ∨ s.length < 2 + dLen s ∨ (dSt s = false ∧ dKind s ≠ 3) ∨ rOk (dSt s) (dEn s) (dKind s) (dBody s) = false)) : dec s = ⟨dPiece (dSt s) (dEn s) (dKind s) (dBody s), 2 + dLen s, 0⟩ := by unfold dec; rw [if_neg h, if_neg h2]
theorem len_eq (s : List UInt8) : w16 s 0 % 4096 = (dLen s : Int) := by
  have := w16_bd s 0
  unfold dLen; omega
theorem dec_walk (s : List UInt8) (hl : s.length ≤ 9223372036854775000) : wpD (TR4.ctx Try.prog) 100 28 39 10 6 3 [.tmp 2, .tmp 3, .tmp 4] Try.f28 (seqL (bodyC Try.f28)) (seqR (seqR (bodyC Try.f28))) (seqR (bodyC Try.f39)) [.str s] ⟨0, []⟩ (fun o _ => o = .ret (decV (dec s))) := by
  rw [w_dec]
  have hw := w16_bd s 0
  have hb := by8_bd s 0
  obtain ⟨a1, a2⟩ := and_st s
  have a3 : bitsA .and .i64 (w16 s 0) 4095 = w16 s 0 % 4096 := and_4095 hw.1 hw.2
  have a4 : bitsA .and .i64 (w16 s 0 / 4096) 3 = dKind s := and_3 (by omega) (by omega)
  have a5 : (w16 s 0 % 4096).toNat = dLen s := rfl
  have a6 : w16 s 0 % 4096 = (dLen s : Int) := by unfold dLen; omega
  have a7 : (s.drop 2).take (dLen s) = dBody s := rfl
  have a8 : (((s.getD 0 0).toNat : Nat) : Int) = by8 s 0 := rfl
  rw [a1, a2, a3, a4, a5, a6, a7, a8]
  have k5 : (s = [] ∨ by8 s 0 < 16) → Out.ret (.tup [.agg [.bool false, .bool false, .int .i64 0, .int .i64 0, .int .i64 0, .int .i64 0, .str [], .str [], .str []], .int .i64 0, .int .i64 5]) = Out.ret (decV (dec s)) := fun h => by rw [dec_bad5 h]; rfl
  have k4 : ¬ (s = [] ∨ by8 s 0 < 16) → (s.length < 2 ∨ s.length < 2 + dLen s ∨ (dSt s = false ∧ dKind s ≠ 3) ∨ rOk (dSt s) (dEn s) (dKind s) (dBody s) = false) → Out.ret (.tup [.agg [.bool false, .bool false, .int .i64 0, .int .i64 0, .int .i64 0, .int .i64 0, .str [], .str [], .str []], .int .i64 0, .int .i64 4]) = Out.ret (decV (dec s)) := fun h h2 => by rw [dec_bad4 h h2]; rfl
  have hbl : 2 + dLen s ≤ s.length → (dBody s).length = dLen s := fun h => by rw [← a7]; simp; omega
  have hbl2 : (dBody s).length ≤ 9223372036854775000 := by rw [← a7]; simp; omega
  have k0 : ¬ (s = [] ∨ by8 s 0 < 16) → ¬ (s.length < 2 ∨ s.length < 2 + dLen s ∨ (dSt s = false ∧ dKind s ≠ 3) ∨ rOk (dSt s) (dEn s) (dKind s) (dBody s) = false) → Out.ret (.tup [.agg [.bool (dSt s), .bool (dEn s), .int .i64 (rId (dSt s) (dEn s) (dBody s)), .int .i64 (rTotal (dSt s) (dEn s) (dBody s)), .int .i64 (rTyp (dSt s) (dEn s) (dBody s)), .int .i64 (rK (dSt s) (dKind s)), .str (rLb (dSt s) (dEn s) (dKind s) (dBody s)), .str (rData (dSt s) (dEn s) (dKind s) (dBody s)), .str (rSum (dSt s) (dEn s) (dBody s))], .int .i64 (2 + ((dBody s).length : Int)), .int .i64 0]) = Out.ret (decV (dec s)) := fun h h2 => by
    rw [dec_good h h2]
    have : ((dBody s).length : Int) = dLen s := by rw [hbl (by omega)]
    rw [this]
    rfl
  simp only [branch_iff, obl_iff, decide_eq_true_eq, decide_eq_false_iff_not, Bool.not_eq_true', Bool.not_eq_false', inI64_iff, List.length_drop]
  refine ⟨fun h0 => k5 (.inl h0), fun h0 => ?_⟩
  have hp : 0 < s.length := List.length_pos_iff.2 h0
  refine ⟨by omega, fun h1 => k5 (.inr h1), fun h1 => ?_⟩
  have hn : ¬ (s = [] ∨ by8 s 0 < 16) := by rintro (h | h) <;> contradiction
  refine ⟨fun h2 => k4 hn (.inl (by omega)), fun h2 => ⟨fun h3 => k4 hn (.inr (.inl (by omega))), fun h3 => ⟨by omega, by omega, by omega, ?_⟩⟩⟩
  have fin : (dSt s = true ∨ dKind s = 3) → (dBody s).length ≤ 9223372036854775807 ∧
      (rOk (dSt s) (dEn s) (dKind s) (dBody s) = true → (-9223372036854775808 ≤ 2 + ((dBody s).length : Int) ∧ 2 + ((dBody s).length : Int) ≤ 9223372036854775807) ∧ Out.ret (.tup [.agg [.bool (dSt s), .bool (dEn s), .int .i64 (rId (dSt s) (dEn s) (dBody s)), .int .i64 (rTotal (dSt s) (dEn s) (dBody s)), .int .i64 (rTyp (dSt s) (dEn s) (dBody s)), .int .i64 (rK (dSt s) (dKind s)), .str (rLb (dSt s) (dEn s) (dKind s) (dBody s)), .str (rData (dSt s) (dEn s) (dKind s) (dBody s)), .str (rSum (dSt s) (dEn s) (dBody s))], .int .i64 (2 + ((dBody s).length : Int)), .int .i64 0]) = Out.ret (decV (dec s))) ∧
      (rOk (dSt s) (dEn s) (dKind s) (dBody s) = false → Out.ret (.tup [.agg [.bool false, .bool false, .int .i64 0, .int .i64 0, .int .i64 0, .int .i64 0, .str [], .str [], .str []], .int .i64 0, .int .i64 4]) = Out.ret (decV (dec s))) := by
    intro hk
    refine ⟨by omega, fun hr => ⟨by omega, k0 hn ?_⟩, fun hr => k4 hn (.inr (.inr (.inr hr)))⟩
    rintro (h | h | h | h)
    · omega
    · omega
    · rcases hk with hk | hk
      · rw [hk] at h; exact absurd h.1 (by simp)
      · exact h.2 hk
    · rw [h] at hr; cases hr
  exact ⟨fun h4 => ⟨fun h5 => k4 hn (.inr (.inr (.inl ⟨h4, h5⟩))), fun h5 => fin (.inr h5)⟩, fun h4 => fin (.inl h4)⟩
set_option maxRecDepth 100000 in
theorem dec_sound : FcSound Try.prog 28 fcDec := by
  refine fc_wpD TR4ok.ctx Try.call28 (fun args H v h => ?_)
  unfold fcDec at h
  split at h <;> simp only [Option.some.injEq, Prod.mk.injEq, decide_eq_true_eq, reduceCtorEq] at h
  obtain ⟨hl, rfl⟩ := h
  rename_i s
  refine ⟨rfl, rfl, fun ρ w => ?_⟩
  exact wpD_sound TR4ok.ctx (fn := Try.f28) (gn := Try.f39) (by kernel_rfl) (by kernel_rfl) rfl rfl rfl (by decide) (dec_walk s hl) (rel_nil ρ w) rfl
noncomputable def TD : Tabs := (TR4.addFc 28 fcDec)
theorem TDok : TabsOk TD Try.prog := (TR4ok.addFc dec_sound)
end Go.Proofs.Ytjacnjecggedhaa
namespace Go.Proofs.Ytjacnjecggedhaa
set_option linter.unusedVariables false
set_option linter.unusedSimpArgs false
open Go.RowKit Ev
theorem byte_of (b : List UInt8) (i : Nat) (h : i < b.length) : UInt8.ofNat (by8 b i).toNat = b[i] := by
  unfold by8
  simp [List.getD_eq_getElem?_getD, List.getElem?_eq_getElem h]
theorem drop_take1 (b : List UInt8) (i : Nat) (h : i < b.length) : (b.drop i).take 1 = [b[i]] := by
  rw [List.drop_eq_getElem_cons h]; rfl
theorem drop_take2 (b : List UInt8) (i : Nat) (h : i + 1 < b.length) : (b.drop i).take 2 = [b[i], b[i + 1]] := by
  rw [List.drop_eq_getElem_cons (by omega), List.take_succ_cons, drop_take1 b (i + 1) h]
theorem two_of (b : List UInt8) (i : Nat) (h : i + 2 ≤ b.length) : two (w16 b i) = (b.drop i).take 2 := by
  have h0 := by8_bd b i
  have h1 := by8_bd b (i + 1)
  unfold two w16
  rw [show (by8 b i * 256 + by8 b (i + 1)) / 256 % 256 = by8 b i by omega, show (by8 b i * 256 + by8 b (i + 1)) % 256 = by8 b (i + 1) by omega,
    byte_of b i (by omega), byte_of b (i + 1) (by omega), drop_take2 b i (by omega)]
theorem one_of (b : List UInt8) (h : 1 ≤ b.length) : [UInt8.ofNat (by8 b 0 % 256).toNat] = b.take 1 := by
  have h0 := by8_bd b 0
  rw [show by8 b 0 % 256 = by8 b 0 by omega, byte_of b 0 (by omega)]
  exact (drop_take1 b 0 (by omega)).symm
theorem take_two (b : List UInt8) (i j : Nat) : b.take i ++ (b.drop i).take j = b.take (i + j) := List.take_add.symm
theorem piece_of {st en : Bool} {k : Int} {b : List UInt8} (hk : 0 ≤ k ∧ k < 4) (hk3 : st = false → k = 3) (h : rOk st en k b = true) :
    gMay st en (rId st en b) (rTotal st en b) (rTyp st en b) (rK st k) (rLb st en k b) (rSum st en b) = true ∧ gBody st en (rId st en b) (rTotal st en b) (rTyp st en b) (rLb st en k b) (rData st en k b) (rSum st en b) = b := by
  have b0 := by8_bd b 0
  have b1 := w16_bd b 1
  have b3 := w16_bd b 3
  have bz := w16_bd b 0
  have hz := lSize_nn k
  obtain ⟨z, hz'⟩ : ∃ z : Nat, lSize k = (z : Int) := ⟨(lSize k).toNat, by omega⟩
  have hzn : (lSize k).toNat = z := by omega
  cases st <;> cases en
  · have hl : 1 ≤ b.length := by simpa [rOk, rC, rB, rA] using h
    constructor
    · simp [gMay, rId, rTotal, rTyp, rK, rLb, rSum]; omega
    · simp only [gBody, rId, rTotal, rTyp, rLb, rData, rSum, rC, rB, rA]
      simp only [Bool.and_false, Bool.false_eq_true, if_false, Bool.not_false, Bool.and_true, Bool.false_and, List.append_nil, Bool.not_true, Nat.add_zero]
      rw [one_of b hl]
      exact List.take_append_drop 1 b
  · have hl : 5 ≤ b.length := by simpa [rOk, rC, rB, rA] using h
    constructor
    · simp [gMay, rId, rTotal, rTyp, rK, rLb, rSum]; omega
    · simp only [gBody, rId, rTotal, rTyp, rLb, rData, rSum, rC, rB, rA]
      simp only [Bool.and_true, Bool.false_eq_true, if_false, Bool.not_true, Bool.and_false, Bool.false_and, List.append_nil, Bool.not_false, if_true]
      rw [one_of b (by omega), take_two, show 1 + (b.length - 5) = b.length - 4 by omega]
      exact List.take_append_drop _ b
  · have hl : 5 + z ≤ b.length := by simp [rOk, rC, rB, rA, hzn] at h; omega
    constructor
    · simp [gMay, rId, rTotal, rTyp, rK, rLb, rSum, lOk, rB, rA, hz', hzn]; omega
    · simp only [gBody, rId, rTotal, rTyp, rLb, rData, rSum, rC, rB, rA]
      simp only [Bool.and_false, Bool.false_eq_true, if_false, Bool.not_false, Bool.and_true, if_true, Bool.not_true, Bool.false_and, hzn]
      rw [one_of b (by omega), two_of b 1 (by omega), take_two, two_of b (1 + 2) (by omega), ← List.append_assoc, take_two, show 1 + 2 + 2 = 5 by omega, take_two, List.append_nil, show 1 + 2 + (2 + z) = 5 + z by omega]
      exact List.take_append_drop _ b
  · have hl : 2 + z ≤ b.length := by simpa [rOk, rC, rB, rA, hzn] using h
    constructor
    · simp [gMay, rId, rTotal, rTyp, rK, rLb, rSum, lOk, rB, rA, hz', hzn]; omega
    · simp only [gBody, rId, rTotal, rTyp, rLb, rData, rSum, rC, rB, rA]
      simp only [Bool.and_true, Bool.not_true, Bool.and_false, Bool.false_eq_true, if_false, if_true, Bool.false_and, List.nil_append, List.append_nil, Nat.zero_add, hzn, Nat.add_zero]
      rw [two_of b 0 (by omega), List.drop_zero, take_two]
      exact List.take_append_drop _ b
theorem dec_again {s : List UInt8} (h : (dec s).e = 0) : gErr (dec s).p.st (dec s).p.en (dec s).p.id (dec s).p.total (dec s).p.typ (dec s).p.k (dec s).p.lb (dec s).p.data (dec s).p.sum = 0 ∧
    2 ≤ (dec s).n ∧ (dec s).n ≤ s.length ∧ (dec s).n ≤ 4097 ∧ gEnc (dec s).p.st (dec s).p.en (dec s).p.id (dec s).p.total (dec s).p.typ (dec s).p.k (dec s).p.lb (dec s).p.data (dec s).p.sum = s.take (dec s).n.toNat := by
  by_cases h5 : s = [] ∨ by8 s 0 < 16
  · rw [dec_bad5 h5] at h; cases h
  by_cases h4 : s.length < 2 ∨ s.length < 2 + dLen s ∨ (dSt s = false ∧ dKind s ≠ 3) ∨ rOk (dSt s) (dEn s) (dKind s) (dBody s) = false
  · rw [dec_bad4 h5 h4] at h; cases h
  rw [dec_good h5 h4]
  have hw := w16_bd s 0
  have c1 : ¬ s.length < 2 := fun h => h4 (.inl h)
  have c2 : ¬ s.length < 2 + dLen s := fun h => h4 (.inr (.inl h))
  have c3 : dSt s = false → dKind s = 3 := fun h => Classical.byContradiction fun hk => h4 (.inr (.inr (.inl ⟨h, hk⟩)))
  have c4 : rOk (dSt s) (dEn s) (dKind s) (dBody s) = true := by
    cases hr : rOk (dSt s) (dEn s) (dKind s) (dBody s) with
    | true => rfl
    | false => exact absurd (.inr (.inr (.inr hr))) h4
  have hdl : dLen s < 4096 := by have := len_eq s; omega
  have hbl : (dBody s).length = dLen s := by show ((s.drop 2).take (dLen s)).length = _; simp; omega
  obtain ⟨p1, p2⟩ := piece_of (st := dSt s) (en := dEn s) (k := dKind s) (b := dBody s) (by unfold dKind; omega) c3 c4
  have e1 : gErr (dSt s) (dEn s) (rId (dSt s) (dEn s) (dBody s)) (rTotal (dSt s) (dEn s) (dBody s)) (rTyp (dSt s) (dEn s) (dBody s)) (rK (dSt s) (dKind s)) (rLb (dSt s) (dEn s) (dKind s) (dBody s)) (rData (dSt s) (dEn s) (dKind s) (dBody s)) (rSum (dSt s) (dEn s) (dBody s)) = 0 := by
    unfold gErr
    rw [p1, p2, if_neg (by simp), if_neg (by omega)]
  refine ⟨e1, by simp only; omega, by simp only; omega, by simp only; omega, ?_⟩
  show gEnc (dSt s) (dEn s) (rId (dSt s) (dEn s) (dBody s)) (rTotal (dSt s) (dEn s) (dBody s)) (rTyp (dSt s) (dEn s) (dBody s)) (rK (dSt s) (dKind s)) (rLb (dSt s) (dEn s) (dKind s) (dBody s)) (rData (dSt s) (dEn s) (dKind s) (dBody s)) (rSum (dSt s) (dEn s) (dBody s)) = s.take ((2 : Int) + (dLen s : Int)).toNat
  unfold gEnc
  rw [if_pos e1, p2, hbl]
  have eh : gHead (dSt s) (dEn s) (rK (dSt s) (dKind s)) (dLen s) = w16 s 0 := by
    have h0 := by8_bd s 0
    have h1 := by8_bd s (0 + 1)
    have hl := len_eq s
    have hs1 : dSt s = decide (128 ≤ by8 s 0) := rfl
    have hs2 : dEn s = decide (64 ≤ by8 s 0 % 128) := rfl
    have hkd : dKind s = w16 s 0 / 4096 % 4 := rfl
    have hw16 : w16 s 0 = by8 s 0 * 256 + by8 s (0 + 1) := rfl
    unfold gHead rK
    cases hst : dSt s <;> cases hen : dEn s <;> rw [hst] at hs1 c3 <;> rw [hen] at hs2 <;> have hs1 := hs1.symm <;> have hs2 := hs2.symm <;> simp only [decide_eq_true_eq, decide_eq_false_iff_not] at hs1 hs2 <;> simp only [if_true, Bool.false_eq_true, if_false]
    · have := c3 rfl; omega
    · have := c3 rfl; omega
    · omega
    · omega
  rw [eh, two_of s 0 (by omega), List.drop_zero, show ((2 : Int) + (dLen s : Int)).toNat = 2 + dLen s by omega]
  exact take_two s 2 (dLen s)
theorem gErr_len {st en : Bool} {id total typ k : Int} {lb data sum : List UInt8} (h : gErr st en id total typ k lb data sum = 0) : gMay st en id total typ k lb sum = true ∧ (gBody st en id total typ lb data sum).length ≤ 4095 ∧ lb.length + data.length + sum.length ≤ 4095 := by
  unfold gErr at h
  have hm : gMay st en id total typ k lb sum = true := by
    cases hm : gMay st en id total typ k lb sum with
    | true => rfl
    | false => rw [hm] at h; simp at h
  rw [hm, if_neg (by simp)] at h
  have hl : ¬ 4095 < (gBody st en id total typ lb data sum).length := fun hc => by rw [if_pos hc] at h; cases h
  refine ⟨hm, by omega, ?_⟩
  have tw : ∀ n, (two n).length = 2 := fun _ => rfl
  unfold gMay at hm
  have hlb : st = false → lb = [] := by
    intro hs
    subst hs
    cases en <;> simp at hm <;> grind
  cases st <;> cases en <;> simp [gBody, tw] at hl <;> first | omega | (rw [hlb rfl]; simp; omega)
end Go.Proofs.Ytjacnjecggedhaa
namespace Go.Proofs.Ytjacnjecggedhaa
set_option linter.unusedVariables false
set_option linter.unusedSimpArgs false
open Go.RowKit Ev
set_option maxRecDepth 100000 in
theorem w_cmay (typ k at_ id : Int) (b data : List UInt8) (K : Out → Prop) : (callC (TG.ctx Try.prog) 100 80 [.agg [.int .i64 typ, .int .i64 k, .str b, .str data, .int .i64 at_, .int .i64 id]] ⟨0, []⟩ (fun o _ => K o)
) =  (branch (decide ((0 : Int) ≤ typ)) (branch (decide (typ ≤ (65535 : Int))) (branch (decide ((if lOk k b = true then (0 : Int) else (2 : Int)) = (0 : Int))) (branch (decide ((0 : Int) ≤ at_)) (branch
 (decide (at_ < (↑data.length : Int))) (branch (decide ((↑data.length : Int) ≤ (65519 : Int))) (branch (decide ((0 : Int) ≤ id)) (K (Out.ret (AVal.bool (decide (id < (256 : Int)))))) (K (Out.ret
 (AVal.bool false)))) (K (Out.ret (AVal.bool false)))) (K (Out.ret (AVal.bool false)))) (K (Out.ret (AVal.bool false)))) (K (Out.ret (AVal.bool false)))) (K (Out.ret (AVal.bool false)))) (K (Out.ret
 (AVal.bool false)))) := by kernel_rfl
set_option maxRecDepth 100000 in
theorem w_gone (typ k at_ id n : Int) (b data : List UInt8) (K : Out → Prop) : (callC (TG.ctx Try.prog) 100 82 [.agg [.int .i64 typ, .int .i64 k, .str b, .str data, .int .i64 at_, .int .i64 id], .int .i64 n] ⟨0, []⟩ (fun o _ => K o)
) =  (obl (inI64 (at_ + n)) (K (Out.ret (AVal.agg [AVal.int IntKind.i64 typ, AVal.int IntKind.i64 k, AVal.str b, AVal.str data, AVal.int IntKind.i64 (at_ + n), AVal.int IntKind.i64 id])))) := by kernel_rfl
end Go.Proofs.Ytjacnjecggedhaa
namespace Go.Proofs.Ytjacnjecggedhaa
set_option linter.unusedVariables false
set_option linter.unusedSimpArgs false
open Go.RowKit Ev
abbrev cutV (typ k : Int) (b data : List UInt8) (at_ id : Int) : AVal := .agg [.int .i64 typ, .int .i64 k, .str b, .str data, .int .i64 at_, .int .i64 id]
abbrev pieceV (st en : Bool) (id total typ k : Int) (b data sum : List UInt8) : AVal := .agg [.bool st, .bool en, .int .i64 id, .int .i64 total, .int .i64 typ, .int .i64 k, .str b, .str data, .str sum]
def cMay (typ k : Int) (b data : List UInt8) (at_ id : Int) : Bool := decide (0 ≤ typ ∧ typ ≤ 65535 ∧ lOk k b = true ∧ 0 ≤ at_ ∧ at_ < (data.length : Int) ∧ (data.length : Int) ≤ 65519 ∧ 0 ≤ id ∧ id < 256)
def fcMayC : FC := fun args _ => match args with
  | [.agg [.int .i64 typ, .int .i64 k, .str b, .str data, .int .i64 at_, .int .i64 id]] => some (true, .bool (cMay typ k b data at_ id))
  | _ => none
def fcGone : FC := fun args _ => match args with
  | [.agg [.int .i64 typ, .int .i64 k, .str b, .str data, .int .i64 at_, .int .i64 id], .int .i64 n] => some (inI64 (at_ + n), .agg [.int .i64 typ, .int .i64 k, .str b, .str data, .int .i64 (at_ + n), .int .i64 id])
  | _ => none
theorem mayC_sound : FcSound Try.prog 80 fcMayC := by
  refine fc_pure TGok.ctx (n := 100) Try.call80 (fun args H v h => ?_)
  unfold fcMayC at h
  split at h <;> cases h
  rename_i typ k b data at_ id
  refine ⟨rfl, rfl, ?_⟩
  rw [w_cmay]
  have hl : (decide ((if lOk k b = true then (0 : Int) else 2) = 0)) = lOk k b := by cases lOk k b <;> rfl
  simp only [branch_iff, obl_iff, hl, decide_eq_true_eq, decide_eq_false_iff_not, Bool.not_eq_true', Bool.not_eq_false']
  have t : ∀ {c : Bool}, cMay typ k b data at_ id = c → Out.ret (AVal.bool c) = Out.ret (AVal.bool (cMay typ k b data at_ id)) := fun h => by rw [h]
  have f : ¬ (0 ≤ typ ∧ typ ≤ 65535 ∧ lOk k b = true ∧ 0 ≤ at_ ∧ at_ < (data.length : Int) ∧ (data.length : Int) ≤ 65519 ∧ 0 ≤ id ∧ id < 256) → Out.ret (AVal.bool false) = Out.ret (AVal.bool (cMay typ k b data at_ id)) := fun h => t (decide_eq_false h)
  refine ⟨fun h1 => ⟨fun h2 => ⟨fun h3 => ⟨fun h4 => ⟨fun h5 => ⟨fun h6 => ⟨fun h7 => ?_, fun h7 => ?_⟩, fun h6 => ?_⟩, fun h5 => ?_⟩, fun h4 => ?_⟩, fun h3 => ?_⟩, fun h2 => ?_⟩, fun h1 => ?_⟩
  · refine t ?_
    unfold cMay
    rw [Bool.eq_iff_iff, decide_eq_true_eq, decide_eq_true_eq]
    exact ⟨fun h => h.2.2.2.2.2.2.2, fun h => ⟨h1, h2, h3, h4, h5, h6, h7, h⟩⟩
  · exact f (fun h => h7 h.2.2.2.2.2.2.1)
  · exact f (fun h => h6 h.2.2.2.2.2.1)
  · exact f (fun h => h5 h.2.2.2.2.1)
  · exact f (fun h => h4 h.2.2.2.1)
  · exact f (fun h => by rw [h3] at h; simp at h)
  · exact f (fun h => h2 h.2.1)
  · exact f (fun h => h1 h.1)
theorem gone_sound : FcSound Try.prog 82 fcGone := by
  refine fc_pure TGok.ctx (n := 100) Try.call82 (fun args H v h => ?_)
  unfold fcGone at h
  split at h <;> simp only [Option.some.injEq, Prod.mk.injEq, decide_eq_true_eq, reduceCtorEq] at h
  obtain ⟨hl, rfl⟩ := h
  rename_i typ k b data at_ id n
  refine ⟨rfl, rfl, ?_⟩
  rw [w_gone]
  exact obl_iff.2 ⟨hl, rfl⟩
noncomputable def TC0 : Tabs := ((TG.addFc 80 fcMayC).addFc 82 fcGone)
theorem TC0ok : TabsOk TC0 Try.prog := ((TGok.addFc mayC_sound).addFc gone_sound)
end Go.Proofs.Ytjacnjecggedhaa
namespace Go.Proofs.Ytjacnjecggedhaa
set_option linter.unusedVariables false
set_option linter.unusedSimpArgs false
open Go.RowKit Ev
set_option maxRecDepth 100000 in
theorem w_next (typ k at_ id lk space : Int) (b data lb : List UInt8) (whole : Bool) (K : Out → Prop) : (callC (TC0.ctx Try.prog) 100 78 [.agg [.int .i64 typ, .int .i64 k, .str b, .str data, .int .i64 at_, .int .i64 id], .agg [.int .i64 lk, .str lb], .int .i64 space, .bool whole] ⟨0, []⟩ (fun o _ => K o)
) =  (branch (!cMay typ k b data at_ id) (K (Out.ret (AVal.tup [AVal.agg [AVal.bool false, AVal.bool false, AVal.int IntKind.i64 (0 : Int), AVal.int IntKind.i64 (0 : Int), AVal.int IntKind.i64 (0 : Int),
 AVal.int IntKind.i64 (0 : Int), AVal.str [], AVal.str [], AVal.str []], AVal.agg [AVal.int IntKind.i64 typ, AVal.int IntKind.i64 k, AVal.str b, AVal.str data, AVal.int IntKind.i64 at_, AVal.int
 IntKind.i64 id], AVal.int IntKind.i64 (2 : Int)]))) (branch (!decide ((if lOk lk lb = true then (0 : Int) else (2 : Int)) = (0 : Int))) (K (Out.ret (AVal.tup [AVal.agg [AVal.bool false, AVal.bool
 false, AVal.int IntKind.i64 (0 : Int), AVal.int IntKind.i64 (0 : Int), AVal.int IntKind.i64 (0 : Int), AVal.int IntKind.i64 (0 : Int), AVal.str [], AVal.str [], AVal.str []], AVal.agg [AVal.int
 IntKind.i64 typ, AVal.int IntKind.i64 k, AVal.str b, AVal.str data, AVal.int IntKind.i64 at_, AVal.int IntKind.i64 id], AVal.int IntKind.i64 (2 : Int)]))) (branch (decide (at_ = (0 : Int))) (branch
 (!(decide (lk = k) && (decide (lb = b) && true))) (branch (!decide (lk = (3 : Int))) (K (Out.ret (AVal.tup [AVal.agg [AVal.bool false, AVal.bool false, AVal.int IntKind.i64 (0 : Int), AVal.int
 IntKind.i64 (0 : Int), AVal.int IntKind.i64 (0 : Int), AVal.int IntKind.i64 (0 : Int), AVal.str [], AVal.str [], AVal.str []], AVal.agg [AVal.int IntKind.i64 typ, AVal.int IntKind.i64 k, AVal.str b,
 AVal.str data, AVal.int IntKind.i64 at_, AVal.int IntKind.i64 id], AVal.int IntKind.i64 (2 : Int)]))) (obl (inI64 ((↑data.length : Int) - at_)) (branch (decide (at_ = (0 : Int))) (obl (inI64 (at_ +
 ((↑data.length : Int) - at_))) (obl (inI64 ((4 : Int) + lSize lk)) (obl (inI64 ((4 : Int) + lSize lk + ((↑data.length : Int) - at_))) (branch (decide ((4 : Int) + lSize lk + ((↑data.length : Int) -
 at_) ≤ max (0 : Int) (min space (4097 : Int)))) (K (Out.ret (AVal.tup [AVal.agg [AVal.bool true, AVal.bool true, AVal.int IntKind.i64 (0 : Int), AVal.int IntKind.i64 (0 : Int), AVal.int IntKind.i64
 typ, AVal.int IntKind.i64 lk, AVal.str lb, AVal.str data, AVal.str []], AVal.agg [AVal.int IntKind.i64 typ, AVal.int IntKind.i64 k, AVal.str b, AVal.str data, AVal.int IntKind.i64 (at_ +
 ((↑data.length : Int) - at_)), AVal.int IntKind.i64 id], AVal.int IntKind.i64 (0 : Int)]))) (obl (inI64 (max (0 : Int) (min space (4097 : Int)) - (7 : Int))) (obl (inI64 (max (0 : Int) (min space
 (4097 : Int)) - (7 : Int) - lSize lk)) (obl (inI64 ((↑data.length : Int) - at_ - (1 : Int))) (branch whole (K (Out.ret (AVal.tup [AVal.agg [AVal.bool false, AVal.bool false, AVal.int IntKind.i64 (0 :
 Int), AVal.int IntKind.i64 (0 : Int), AVal.int IntKind.i64 (0 : Int), AVal.int IntKind.i64 (0 : Int), AVal.str [], AVal.str [], AVal.str []], AVal.agg [AVal.int IntKind.i64 typ, AVal.int IntKind.i64
 k, AVal.str b, AVal.str data, AVal.int IntKind.i64 at_, AVal.int IntKind.i64 id], AVal.int IntKind.i64 (12 : Int)]))) (branch (decide (min (max (0 : Int) (min space (4097 : Int)) - (7 : Int) - lSize
 lk) ((↑data.length : Int) - at_ - (1 : Int)) < (1 : Int))) (K (Out.ret (AVal.tup [AVal.agg [AVal.bool false, AVal.bool false, AVal.int IntKind.i64 (0 : Int), AVal.int IntKind.i64 (0 : Int), AVal.int
 IntKind.i64 (0 : Int), AVal.int IntKind.i64 (0 : Int), AVal.str [], AVal.str [], AVal.str []], AVal.agg [AVal.int IntKind.i64 typ, AVal.int IntKind.i64 k, AVal.str b, AVal.str data, AVal.int
 IntKind.i64 at_, AVal.int IntKind.i64 id], AVal.int IntKind.i64 (12 : Int)]))) (obl (inI64 (at_ + min (max (0 : Int) (min space (4097 : Int)) - (7 : Int) - lSize lk) ((↑data.length : Int) - at_ - (1 :
 Int)))) (obl (decide ((0 : Int) ≤ min (max (0 : Int) (min space (4097 : Int)) - (7 : Int) - lSize lk) ((↑data.length : Int) - at_ - (1 : Int)) ∧ min (max (0 : Int) (min space (4097 : Int)) - (7 : Int)
 - lSize lk) ((↑data.length : Int) - at_ - (1 : Int)) ≤ (↑data.length : Int))) (K (Out.ret (AVal.tup [AVal.agg [AVal.bool true, AVal.bool false, AVal.int IntKind.i64 id, AVal.int IntKind.i64 (pTotal lk
 lb ((↑data.length : Int) - at_)), AVal.int IntKind.i64 typ, AVal.int IntKind.i64 lk, AVal.str lb, AVal.str (List.take (min (max (0 : Int) (min space (4097 : Int)) - (7 : Int) - lSize lk)
 ((↑data.length : Int) - at_ - (1 : Int))).toNat data), AVal.str []], AVal.agg [AVal.int IntKind.i64 typ, AVal.int IntKind.i64 lk, AVal.str lb, AVal.str data, AVal.int IntKind.i64 (at_ + min (max (0 :
 Int) (min space (4097 : Int)) - (7 : Int) - lSize lk) ((↑data.length : Int) - at_ - (1 : Int))), AVal.int IntKind.i64 id], AVal.int IntKind.i64 (0 : Int)])))))))))))))) (obl (inI64 ((7 : Int) +
 ((↑data.length : Int) - at_))) (branch (decide (max (0 : Int) (min space (4097 : Int)) < (7 : Int) + ((↑data.length : Int) - at_))) (obl (inI64 (max (0 : Int) (min space (4097 : Int)) - (3 : Int)))
 (obl (inI64 ((↑data.length : Int) - at_ - (1 : Int))) (branch (decide (min (max (0 : Int) (min space (4097 : Int)) - (3 : Int)) ((↑data.length : Int) - at_ - (1 : Int)) < (1 : Int))) (K (Out.ret
 (AVal.tup [AVal.agg [AVal.bool false, AVal.bool false, AVal.int IntKind.i64 (0 : Int), AVal.int IntKind.i64 (0 : Int), AVal.int IntKind.i64 (0 : Int), AVal.int IntKind.i64 (0 : Int), AVal.str [],
 AVal.str [], AVal.str []], AVal.agg [AVal.int IntKind.i64 typ, AVal.int IntKind.i64 k, AVal.str b, AVal.str data, AVal.int IntKind.i64 at_, AVal.int IntKind.i64 id], AVal.int IntKind.i64 (12 :
 Int)]))) (obl (inI64 (at_ + min (max (0 : Int) (min space (4097 : Int)) - (3 : Int)) ((↑data.length : Int) - at_ - (1 : Int)))) (obl (decide ((0 : Int) ≤ at_ ∧ at_ ≤ at_ + min (max (0 : Int) (min
 space (4097 : Int)) - (3 : Int)) ((↑data.length : Int) - at_ - (1 : Int)) ∧ at_ + min (max (0 : Int) (min space (4097 : Int)) - (3 : Int)) ((↑data.length : Int) - at_ - (1 : Int)) ≤ (↑data.length :
 Int))) (obl (inI64 (at_ + min (max (0 : Int) (min space (4097 : Int)) - (3 : Int)) ((↑data.length : Int) - at_ - (1 : Int)))) (K (Out.ret (AVal.tup [AVal.agg [AVal.bool false, AVal.bool false,
 AVal.int IntKind.i64 id, AVal.int IntKind.i64 (0 : Int), AVal.int IntKind.i64 (0 : Int), AVal.int IntKind.i64 (0 : Int), AVal.str [], AVal.str (List.drop at_.toNat (List.take (at_ + min (max (0 : Int)
 (min space (4097 : Int)) - (3 : Int)) ((↑data.length : Int) - at_ - (1 : Int))).toNat data)), AVal.str []], AVal.agg [AVal.int IntKind.i64 typ, AVal.int IntKind.i64 k, AVal.str b, AVal.str data,
 AVal.int IntKind.i64 (at_ + min (max (0 : Int) (min space (4097 : Int)) - (3 : Int)) ((↑data.length : Int) - at_ - (1 : Int))), AVal.int IntKind.i64 id], AVal.int IntKind.i64 (0 : Int)]))))))))) (obl
 (decide (data.length ≤ 9223372036854775000)) (obl (decide ((0 : Int) ≤ at_ ∧ at_ ≤ (↑data.length : Int))) (obl (inI64 (at_ + ((↑data.length : Int) - at_))) (branch (decide (pErr typ k b (↑data.length
 : Int) = (0 : Int))) (K (Out.ret (AVal.tup [AVal.agg [AVal.bool false, AVal.bool true, AVal.int IntKind.i64 id, AVal.int IntKind.i64 (0 : Int), AVal.int IntKind.i64 (0 : Int), AVal.int IntKind.i64 (0
 : Int), AVal.str [], AVal.str (List.drop at_.toNat data), AVal.str (pSum typ k b data)], AVal.agg [AVal.int IntKind.i64 typ, AVal.int IntKind.i64 k, AVal.str b, AVal.str data, AVal.int IntKind.i64
 (at_ + ((↑data.length : Int) - at_)), AVal.int IntKind.i64 id], AVal.int IntKind.i64 (0 : Int)]))) (obl (inI64 (max (0 : Int) (min space (4097 : Int)) - (3 : Int))) (obl (inI64 ((↑data.length : Int) -
 at_ - (1 : Int))) (branch (decide (min (max (0 : Int) (min space (4097 : Int)) - (3 : Int)) ((↑data.length : Int) - at_ - (1 : Int)) < (1 : Int))) (K (Out.ret (AVal.tup [AVal.agg [AVal.bool false,
 AVal.bool false, AVal.int IntKind.i64 (0 : Int), AVal.int IntKind.i64 (0 : Int), AVal.int IntKind.i64 (0 : Int), AVal.int IntKind.i64 (0 : Int), AVal.str [], AVal.str [], AVal.str []], AVal.agg
 [AVal.int IntKind.i64 typ, AVal.int IntKind.i64 k, AVal.str b, AVal.str data, AVal.int IntKind.i64 at_, AVal.int IntKind.i64 id], AVal.int IntKind.i64 (12 : Int)]))) (obl (inI64 (at_ + min (max (0 :
 Int) (min space (4097 : Int)) - (3 : Int)) ((↑data.length : Int) - at_ - (1 : Int)))) (obl (decide ((0 : Int) ≤ at_ ∧ at_ ≤ at_ + min (max (0 : Int) (min space (4097 : Int)) - (3 : Int))
 ((↑data.length : Int) - at_ - (1 : Int)) ∧ at_ + min (max (0 : Int) (min space (4097 : Int)) - (3 : Int)) ((↑data.length : Int) - at_ - (1 : Int)) ≤ (↑data.length : Int))) (obl (inI64 (at_ + min (max
 (0 : Int) (min space (4097 : Int)) - (3 : Int)) ((↑data.length : Int) - at_ - (1 : Int)))) (K (Out.ret (AVal.tup [AVal.agg [AVal.bool false, AVal.bool false, AVal.int IntKind.i64 id, AVal.int
 IntKind.i64 (0 : Int), AVal.int IntKind.i64 (0 : Int), AVal.int IntKind.i64 (0 : Int), AVal.str [], AVal.str (List.drop at_.toNat (List.take (at_ + min (max (0 : Int) (min space (4097 : Int)) - (3 :
 Int)) ((↑data.length : Int) - at_ - (1 : Int))).toNat data)), AVal.str []], AVal.agg [AVal.int IntKind.i64 typ, AVal.int IntKind.i64 k, AVal.str b, AVal.str data, AVal.int IntKind.i64 (at_ + min (max
 (0 : Int) (min space (4097 : Int)) - (3 : Int)) ((↑data.length : Int) - at_ - (1 : Int))), AVal.int IntKind.i64 id], AVal.int IntKind.i64 (0 : Int)])))))))))))))))))) (obl (inI64 ((↑data.length : Int)
 - at_)) (branch (decide (at_ = (0 : Int))) (obl (inI64 (at_ + ((↑data.length : Int) - at_))) (obl (inI64 ((4 : Int) + lSize lk)) (obl (inI64 ((4 : Int) + lSize lk + ((↑data.length : Int) - at_)))
 (branch (decide ((4 : Int) + lSize lk + ((↑data.length : Int) - at_) ≤ max (0 : Int) (min space (4097 : Int)))) (K (Out.ret (AVal.tup [AVal.agg [AVal.bool true, AVal.bool true, AVal.int IntKind.i64 (0
 : Int), AVal.int IntKind.i64 (0 : Int), AVal.int IntKind.i64 typ, AVal.int IntKind.i64 lk, AVal.str lb, AVal.str data, AVal.str []], AVal.agg [AVal.int IntKind.i64 typ, AVal.int IntKind.i64 k,
 AVal.str b, AVal.str data, AVal.int IntKind.i64 (at_ + ((↑data.length : Int) - at_)), AVal.int IntKind.i64 id], AVal.int IntKind.i64 (0 : Int)]))) (obl (inI64 (max (0 : Int) (min space (4097 : Int)) -
 (7 : Int))) (obl (inI64 (max (0 : Int) (min space (4097 : Int)) - (7 : Int) - lSize lk)) (obl (inI64 ((↑data.length : Int) - at_ - (1 : Int))) (branch whole (K (Out.ret (AVal.tup [AVal.agg [AVal.bool
 false, AVal.bool false, AVal.int IntKind.i64 (0 : Int), AVal.int IntKind.i64 (0 : Int), AVal.int IntKind.i64 (0 : Int), AVal.int IntKind.i64 (0 : Int), AVal.str [], AVal.str [], AVal.str []], AVal.agg
 [AVal.int IntKind.i64 typ, AVal.int IntKind.i64 k, AVal.str b, AVal.str data, AVal.int IntKind.i64 at_, AVal.int IntKind.i64 id], AVal.int IntKind.i64 (12 : Int)]))) (branch (decide (min (max (0 :
 Int) (min space (4097 : Int)) - (7 : Int) - lSize lk) ((↑data.length : Int) - at_ - (1 : Int)) < (1 : Int))) (K (Out.ret (AVal.tup [AVal.agg [AVal.bool false, AVal.bool false, AVal.int IntKind.i64 (0
 : Int), AVal.int IntKind.i64 (0 : Int), AVal.int IntKind.i64 (0 : Int), AVal.int IntKind.i64 (0 : Int), AVal.str [], AVal.str [], AVal.str []], AVal.agg [AVal.int IntKind.i64 typ, AVal.int IntKind.i64
 k, AVal.str b, AVal.str data, AVal.int IntKind.i64 at_, AVal.int IntKind.i64 id], AVal.int IntKind.i64 (12 : Int)]))) (obl (inI64 (at_ + min (max (0 : Int) (min space (4097 : Int)) - (7 : Int) - lSize
 lk) ((↑data.length : Int) - at_ - (1 : Int)))) (obl (decide ((0 : Int) ≤ min (max (0 : Int) (min space (4097 : Int)) - (7 : Int) - lSize lk) ((↑data.length : Int) - at_ - (1 : Int)) ∧ min (max (0 :
 Int) (min space (4097 : Int)) - (7 : Int) - lSize lk) ((↑data.length : Int) - at_ - (1 : Int)) ≤ (↑data.length : Int))) (K (Out.ret (AVal.tup [AVal.agg [AVal.bool true, AVal.bool false, AVal.int
 IntKind.i64 id, AVal.int IntKind.i64 (pTotal lk lb ((↑data.length : Int) - at_)), AVal.int IntKind.i64 typ, AVal.int IntKind.i64 lk, AVal.str lb, AVal.str (List.take (min (max (0 : Int) (min space
 (4097 : Int)) - (7 : Int) - lSize lk) ((↑data.length : Int) - at_ - (1 : Int))).toNat data), AVal.str []], AVal.agg [AVal.int IntKind.i64 typ, AVal.int IntKind.i64 lk, AVal.str lb, AVal.str data,
 AVal.int IntKind.i64 (at_ + min (max (0 : Int) (min space (4097 : Int)) - (7 : Int) - lSize lk) ((↑data.length : Int) - at_ - (1 : Int))), AVal.int IntKind.i64 id], AVal.int IntKind.i64 (0 :
 Int)])))))))))))))) (obl (inI64 ((7 : Int) + ((↑data.length : Int) - at_))) (branch (decide (max (0 : Int) (min space (4097 : Int)) < (7 : Int) + ((↑data.length : Int) - at_))) (obl (inI64 (max (0 :
 Int) (min space (4097 : Int)) - (3 : Int))) (obl (inI64 ((↑data.length : Int) - at_ - (1 : Int))) (branch (decide (min (max (0 : Int) (min space (4097 : Int)) - (3 : Int)) ((↑data.length : Int) - at_
 - (1 : Int)) < (1 : Int))) (K (Out.ret (AVal.tup [AVal.agg [AVal.bool false, AVal.bool false, AVal.int IntKind.i64 (0 : Int), AVal.int IntKind.i64 (0 : Int), AVal.int IntKind.i64 (0 : Int), AVal.int
 IntKind.i64 (0 : Int), AVal.str [], AVal.str [], AVal.str []], AVal.agg [AVal.int IntKind.i64 typ, AVal.int IntKind.i64 k, AVal.str b, AVal.str data, AVal.int IntKind.i64 at_, AVal.int IntKind.i64
 id], AVal.int IntKind.i64 (12 : Int)]))) (obl (inI64 (at_ + min (max (0 : Int) (min space (4097 : Int)) - (3 : Int)) ((↑data.length : Int) - at_ - (1 : Int)))) (obl (decide ((0 : Int) ≤ at_ ∧ at_ ≤
 at_ + min (max (0 : Int) (min space (4097 : Int)) - (3 : Int)) ((↑data.length : Int) - at_ - (1 : Int)) ∧ at_ + min (max (0 : Int) (min space (4097 : Int)) - (3 : Int)) ((↑data.length : Int) - at_ -
 (1 : Int)) ≤ (↑data.length : Int))) (obl (inI64 (at_ + min (max (0 : Int) (min space (4097 : Int)) - (3 : Int)) ((↑data.length : Int) - at_ - (1 : Int)))) (K (Out.ret (AVal.tup [AVal.agg [AVal.bool
 false, AVal.bool false, AVal.int IntKind.i64 id, AVal.int IntKind.i64 (0 : Int), AVal.int IntKind.i64 (0 : Int), AVal.int IntKind.i64 (0 : Int), AVal.str [], AVal.str (List.drop at_.toNat (List.take
 (at_ + min (max (0 : Int) (min space (4097 : Int)) - (3 : Int)) ((↑data.length : Int) - at_ - (1 : Int))).toNat data)), AVal.str []], AVal.agg [AVal.int IntKind.i64 typ, AVal.int IntKind.i64 k,
 AVal.str b, AVal.str data, AVal.int IntKind.i64 (at_ + min (max (0 : Int) (min space (4097 : Int)) - (3 : Int)) ((↑data.length : Int) - at_ - (1 : Int))), AVal.int IntKind.i64 id], AVal.int
 IntKind.i64 (0 : Int)]))))))))) (obl (decide (data.length ≤ 9223372036854775000)) (obl (decide ((0 : Int) ≤ at_ ∧ at_ ≤ (↑data.length : Int))) (obl (inI64 (at_ + ((↑data.length : Int) - at_))) (branch
 (decide (pErr typ k b (↑data.length : Int) = (0 : Int))) (K (Out.ret (AVal.tup [AVal.agg [AVal.bool false, AVal.bool true, AVal.int IntKind.i64 id, AVal.int IntKind.i64 (0 : Int), AVal.int IntKind.i64
 (0 : Int), AVal.int IntKind.i64 (0 : Int), AVal.str [], AVal.str (List.drop at_.toNat data), AVal.str (pSum typ k b data)], AVal.agg [AVal.int IntKind.i64 typ, AVal.int IntKind.i64 k, AVal.str b,
 AVal.str data, AVal.int IntKind.i64 (at_ + ((↑data.length : Int) - at_)), AVal.int IntKind.i64 id], AVal.int IntKind.i64 (0 : Int)]))) (obl (inI64 (max (0 : Int) (min space (4097 : Int)) - (3 : Int)))
 (obl (inI64 ((↑data.length : Int) - at_ - (1 : Int))) (branch (decide (min (max (0 : Int) (min space (4097 : Int)) - (3 : Int)) ((↑data.length : Int) - at_ - (1 : Int)) < (1 : Int))) (K (Out.ret
 (AVal.tup [AVal.agg [AVal.bool false, AVal.bool false, AVal.int IntKind.i64 (0 : Int), AVal.int IntKind.i64 (0 : Int), AVal.int IntKind.i64 (0 : Int), AVal.int IntKind.i64 (0 : Int), AVal.str [],
 AVal.str [], AVal.str []], AVal.agg [AVal.int IntKind.i64 typ, AVal.int IntKind.i64 k, AVal.str b, AVal.str data, AVal.int IntKind.i64 at_, AVal.int IntKind.i64 id], AVal.int IntKind.i64 (12 :
 Int)]))) (obl (inI64 (at_ + min (max (0 : Int) (min space (4097 : Int)) - (3 : Int)) ((↑data.length : Int) - at_ - (1 : Int)))) (obl (decide ((0 : Int) ≤ at_ ∧ at_ ≤ at_ + min (max (0 : Int) (min
 space (4097 : Int)) - (3 : Int)) ((↑data.length : Int) - at_ - (1 : Int)) ∧ at_ + min (max (0 : Int) (min space (4097 : Int)) - (3 : Int)) ((↑data.length : Int) - at_ - (1 : Int)) ≤ (↑data.length :
 Int))) (obl (inI64 (at_ + min (max (0 : Int) (min space (4097 : Int)) - (3 : Int)) ((↑data.length : Int) - at_ - (1 : Int)))) (K (Out.ret (AVal.tup [AVal.agg [AVal.bool false, AVal.bool false,
 AVal.int IntKind.i64 id, AVal.int IntKind.i64 (0 : Int), AVal.int IntKind.i64 (0 : Int), AVal.int IntKind.i64 (0 : Int), AVal.str [], AVal.str (List.drop at_.toNat (List.take (at_ + min (max (0 : Int)
 (min space (4097 : Int)) - (3 : Int)) ((↑data.length : Int) - at_ - (1 : Int))).toNat data)), AVal.str []], AVal.agg [AVal.int IntKind.i64 typ, AVal.int IntKind.i64 k, AVal.str b, AVal.str data,
 AVal.int IntKind.i64 (at_ + min (max (0 : Int) (min space (4097 : Int)) - (3 : Int)) ((↑data.length : Int) - at_ - (1 : Int))), AVal.int IntKind.i64 id], AVal.int IntKind.i64 (0 :
 Int)])))))))))))))))))) (obl (inI64 ((↑data.length : Int) - at_)) (branch (decide (at_ = (0 : Int))) (obl (inI64 (at_ + ((↑data.length : Int) - at_))) (obl (inI64 ((4 : Int) + lSize lk)) (obl (inI64
 ((4 : Int) + lSize lk + ((↑data.length : Int) - at_))) (branch (decide ((4 : Int) + lSize lk + ((↑data.length : Int) - at_) ≤ max (0 : Int) (min space (4097 : Int)))) (K (Out.ret (AVal.tup [AVal.agg
 [AVal.bool true, AVal.bool true, AVal.int IntKind.i64 (0 : Int), AVal.int IntKind.i64 (0 : Int), AVal.int IntKind.i64 typ, AVal.int IntKind.i64 lk, AVal.str lb, AVal.str data, AVal.str []], AVal.agg
 [AVal.int IntKind.i64 typ, AVal.int IntKind.i64 k, AVal.str b, AVal.str data, AVal.int IntKind.i64 (at_ + ((↑data.length : Int) - at_)), AVal.int IntKind.i64 id], AVal.int IntKind.i64 (0 : Int)])))
 (obl (inI64 (max (0 : Int) (min space (4097 : Int)) - (7 : Int))) (obl (inI64 (max (0 : Int) (min space (4097 : Int)) - (7 : Int) - lSize lk)) (obl (inI64 ((↑data.length : Int) - at_ - (1 : Int)))
 (branch whole (K (Out.ret (AVal.tup [AVal.agg [AVal.bool false, AVal.bool false, AVal.int IntKind.i64 (0 : Int), AVal.int IntKind.i64 (0 : Int), AVal.int IntKind.i64 (0 : Int), AVal.int IntKind.i64 (0
 : Int), AVal.str [], AVal.str [], AVal.str []], AVal.agg [AVal.int IntKind.i64 typ, AVal.int IntKind.i64 k, AVal.str b, AVal.str data, AVal.int IntKind.i64 at_, AVal.int IntKind.i64 id], AVal.int
 IntKind.i64 (12 : Int)]))) (branch (decide (min (max (0 : Int) (min space (4097 : Int)) - (7 : Int) - lSize lk) ((↑data.length : Int) - at_ - (1 : Int)) < (1 : Int))) (K (Out.ret (AVal.tup [AVal.agg
 [AVal.bool false, AVal.bool false, AVal.int IntKind.i64 (0 : Int), AVal.int IntKind.i64 (0 : Int), AVal.int IntKind.i64 (0 : Int), AVal.int IntKind.i64 (0 : Int), AVal.str [], AVal.str [], AVal.str
 []], AVal.agg [AVal.int IntKind.i64 typ, AVal.int IntKind.i64 k, AVal.str b, AVal.str data, AVal.int IntKind.i64 at_, AVal.int IntKind.i64 id], AVal.int IntKind.i64 (12 : Int)]))) (obl (inI64 (at_ +
 min (max (0 : Int) (min space (4097 : Int)) - (7 : Int) - lSize lk) ((↑data.length : Int) - at_ - (1 : Int)))) (obl (decide ((0 : Int) ≤ min (max (0 : Int) (min space (4097 : Int)) - (7 : Int) - lSize
 lk) ((↑data.length : Int) - at_ - (1 : Int)) ∧ min (max (0 : Int) (min space (4097 : Int)) - (7 : Int) - lSize lk) ((↑data.length : Int) - at_ - (1 : Int)) ≤ (↑data.length : Int))) (K (Out.ret
 (AVal.tup [AVal.agg [AVal.bool true, AVal.bool false, AVal.int IntKind.i64 id, AVal.int IntKind.i64 (pTotal lk lb ((↑data.length : Int) - at_)), AVal.int IntKind.i64 typ, AVal.int IntKind.i64 lk,
 AVal.str lb, AVal.str (List.take (min (max (0 : Int) (min space (4097 : Int)) - (7 : Int) - lSize lk) ((↑data.length : Int) - at_ - (1 : Int))).toNat data), AVal.str []], AVal.agg [AVal.int
 IntKind.i64 typ, AVal.int IntKind.i64 lk, AVal.str lb, AVal.str data, AVal.int IntKind.i64 (at_ + min (max (0 : Int) (min space (4097 : Int)) - (7 : Int) - lSize lk) ((↑data.length : Int) - at_ - (1 :
 Int))), AVal.int IntKind.i64 id], AVal.int IntKind.i64 (0 : Int)])))))))))))))) (obl (inI64 ((7 : Int) + ((↑data.length : Int) - at_))) (branch (decide (max (0 : Int) (min space (4097 : Int)) < (7 :
 Int) + ((↑data.length : Int) - at_))) (obl (inI64 (max (0 : Int) (min space (4097 : Int)) - (3 : Int))) (obl (inI64 ((↑data.length : Int) - at_ - (1 : Int))) (branch (decide (min (max (0 : Int) (min
 space (4097 : Int)) - (3 : Int)) ((↑data.length : Int) - at_ - (1 : Int)) < (1 : Int))) (K (Out.ret (AVal.tup [AVal.agg [AVal.bool false, AVal.bool false, AVal.int IntKind.i64 (0 : Int), AVal.int
 IntKind.i64 (0 : Int), AVal.int IntKind.i64 (0 : Int), AVal.int IntKind.i64 (0 : Int), AVal.str [], AVal.str [], AVal.str []], AVal.agg [AVal.int IntKind.i64 typ, AVal.int IntKind.i64 k, AVal.str b,
 AVal.str data, AVal.int IntKind.i64 at_, AVal.int IntKind.i64 id], AVal.int IntKind.i64 (12 : Int)]))) (obl (inI64 (at_ + min (max (0 : Int) (min space (4097 : Int)) - (3 : Int)) ((↑data.length : Int)
 - at_ - (1 : Int)))) (obl (decide ((0 : Int) ≤ at_ ∧ at_ ≤ at_ + min (max (0 : Int) (min space (4097 : Int)) - (3 : Int)) ((↑data.length : Int) - at_ - (1 : Int)) ∧ at_ + min (max (0 : Int) (min space
 (4097 : Int)) - (3 : Int)) ((↑data.length : Int) - at_ - (1 : Int)) ≤ (↑data.length : Int))) (obl (inI64 (at_ + min (max (0 : Int) (min space (4097 : Int)) - (3 : Int)) ((↑data.length : Int) - at_ -
 (1 : Int)))) (K (Out.ret (AVal.tup [AVal.agg [AVal.bool false, AVal.bool false, AVal.int IntKind.i64 id, AVal.int IntKind.i64 (0 : Int), AVal.int IntKind.i64 (0 : Int), AVal.int IntKind.i64 (0 : Int),
 AVal.str [], AVal.str (List.drop at_.toNat (List.take (at_ + min (max (0 : Int) (min space (4097 : Int)) - (3 : Int)) ((↑data.length : Int) - at_ - (1 : Int))).toNat data)), AVal.str []], AVal.agg
 [AVal.int IntKind.i64 typ, AVal.int IntKind.i64 k, AVal.str b, AVal.str data, AVal.int IntKind.i64 (at_ + min (max (0 : Int) (min space (4097 : Int)) - (3 : Int)) ((↑data.length : Int) - at_ - (1 :
 Int))), AVal.int IntKind.i64 id], AVal.int IntKind.i64 (0 : Int)]))))))))) (obl (decide (data.length ≤ 9223372036854775000)) (obl (decide ((0 : Int) ≤ at_ ∧ at_ ≤ (↑data.length : Int))) (obl (inI64
 (at_ + ((↑data.length : Int) - at_))) (branch (decide (pErr typ k b (↑data.length : Int) = (0 : Int))) (K (Out.ret (AVal.tup [AVal.agg [AVal.bool false, AVal.bool true, AVal.int IntKind.i64 id,
 AVal.int IntKind.i64 (0 : Int), AVal.int IntKind.i64 (0 : Int), AVal.int IntKind.i64 (0 : Int), AVal.str [], AVal.str (List.drop at_.toNat data), AVal.str (pSum typ k b data)], AVal.agg [AVal.int
 IntKind.i64 typ, AVal.int IntKind.i64 k, AVal.str b, AVal.str data, AVal.int IntKind.i64 (at_ + ((↑data.length : Int) - at_)), AVal.int IntKind.i64 id], AVal.int IntKind.i64 (0 : Int)]))) (obl (inI64
 (max (0 : Int) (min space (4097 : Int)) - (3 : Int))) (obl (inI64 ((↑data.length : Int) - at_ - (1 : Int))) (branch (decide (min (max (0 : Int) (min space (4097 : Int)) - (3 : Int)) ((↑data.length :
 Int) - at_ - (1 : Int)) < (1 : Int))) (K (Out.ret (AVal.tup [AVal.agg [AVal.bool false, AVal.bool false, AVal.int IntKind.i64 (0 : Int), AVal.int IntKind.i64 (0 : Int), AVal.int IntKind.i64 (0 : Int),
 AVal.int IntKind.i64 (0 : Int), AVal.str [], AVal.str [], AVal.str []], AVal.agg [AVal.int IntKind.i64 typ, AVal.int IntKind.i64 k, AVal.str b, AVal.str data, AVal.int IntKind.i64 at_, AVal.int
 IntKind.i64 id], AVal.int IntKind.i64 (12 : Int)]))) (obl (inI64 (at_ + min (max (0 : Int) (min space (4097 : Int)) - (3 : Int)) ((↑data.length : Int) - at_ - (1 : Int)))) (obl (decide ((0 : Int) ≤
 at_ ∧ at_ ≤ at_ + min (max (0 : Int) (min space (4097 : Int)) - (3 : Int)) ((↑data.length : Int) - at_ - (1 : Int)) ∧ at_ + min (max (0 : Int) (min space (4097 : Int)) - (3 : Int)) ((↑data.length :
 Int) - at_ - (1 : Int)) ≤ (↑data.length : Int))) (obl (inI64 (at_ + min (max (0 : Int) (min space (4097 : Int)) - (3 : Int)) ((↑data.length : Int) - at_ - (1 : Int)))) (K (Out.ret (AVal.tup [AVal.agg
 [AVal.bool false, AVal.bool false, AVal.int IntKind.i64 id, AVal.int IntKind.i64 (0 : Int), AVal.int IntKind.i64 (0 : Int), AVal.int IntKind.i64 (0 : Int), AVal.str [], AVal.str (List.drop at_.toNat
 (List.take (at_ + min (max (0 : Int) (min space (4097 : Int)) - (3 : Int)) ((↑data.length : Int) - at_ - (1 : Int))).toNat data)), AVal.str []], AVal.agg [AVal.int IntKind.i64 typ, AVal.int
 IntKind.i64 k, AVal.str b, AVal.str data, AVal.int IntKind.i64 (at_ + min (max (0 : Int) (min space (4097 : Int)) - (3 : Int)) ((↑data.length : Int) - at_ - (1 : Int))), AVal.int IntKind.i64 id],
 AVal.int IntKind.i64 (0 : Int)])))))))))))))))))))) := by kernel_rfl
end Go.Proofs.Ytjacnjecggedhaa
namespace Go.Proofs.Ytjacnjecggedhaa
set_option linter.unusedVariables false
set_option linter.unusedSimpArgs false
open Go.RowKit Ev
def nOk (typ k : Int) (b data : List UInt8) (at_ id lk : Int) (lb : List UInt8) : Bool := cMay typ k b data at_ id && lOk lk lb && (!decide (at_ = 0) || (decide (lk = k) && decide (lb = b)) || decide (lk = 3))
def nextV (typ k : Int) (b data : List UInt8) (at_ id lk : Int) (lb : List UInt8) (space : Int) (whole : Bool) : AVal :=
  if nOk typ k b data at_ id lk lb = false then .tup [pieceV false false 0 0 0 0 [] [] [], cutV typ k b data at_ id, .int .i64 2]
  else if at_ = 0 then
    if 4 + lSize lk + (data.length : Int) ≤ max 0 (min space 4097) then .tup [pieceV true true 0 0 typ lk lb data [], cutV typ k b data (data.length : Int) id, .int .i64 0]
    else if whole = true ∨ min (max 0 (min space 4097) - 7 - lSize lk) ((data.length : Int) - 1) < 1 then .tup [pieceV false false 0 0 0 0 [] [] [], cutV typ k b data at_ id, .int .i64 12]
    else .tup [pieceV true false id (pTotal lk lb (data.length : Int)) typ lk lb (data.take (min (max 0 (min space 4097) - 7 - lSize lk) ((data.length : Int) - 1)).toNat) [], cutV typ lk lb data (min (max 0 (min space 4097) - 7 - lSize lk) ((data.length : Int) - 1)) id, .int .i64 0]
  else if 7 + ((data.length : Int) - at_) ≤ max 0 (min space 4097) then .tup [pieceV false true id 0 0 0 [] (data.drop at_.toNat) (pSum typ k b data), cutV typ k b data (data.length : Int) id, .int .i64 0]
  else if min (max 0 (min space 4097) - 3) ((data.length : Int) - at_ - 1) < 1 then .tup [pieceV false false 0 0 0 0 [] [] [], cutV typ k b data at_ id, .int .i64 12]
  else .tup [pieceV false false id 0 0 0 [] ((data.take (at_ + min (max 0 (min space 4097) - 3) ((data.length : Int) - at_ - 1)).toNat).drop at_.toNat) [], cutV typ k b data (at_ + min (max 0 (min space 4097) - 3) ((data.length : Int) - at_ - 1)) id, .int .i64 0]
structure NextR where
  st : Bool
  en : Bool
  id : Int
  total : Int
  typ : Int
  k : Int
  lb : List UInt8
  data : List UInt8
  sum : List UInt8
  k2 : Int
  b2 : List UInt8
  at2 : Int
  err : Int
def nextR (typ k : Int) (b data : List UInt8) (at_ id lk : Int) (lb : List UInt8) (space : Int) (whole : Bool) : NextR :=
  if nOk typ k b data at_ id lk lb = false then ⟨false, false, 0, 0, 0, 0, [], [], [], k, b, at_, 2⟩
  else if at_ = 0 then
    if 4 + lSize lk + (data.length : Int) ≤ max 0 (min space 4097) then ⟨true, true, 0, 0, typ, lk, lb, data, [], k, b, (data.length : Int), 0⟩
    else if whole = true ∨ min (max 0 (min space 4097) - 7 - lSize lk) ((data.length : Int) - 1) < 1 then ⟨false, false, 0, 0, 0, 0, [], [], [], k, b, at_, 12⟩
    else ⟨true, false, id, pTotal lk lb (data.length : Int), typ, lk, lb, data.take (min (max 0 (min space 4097) - 7 - lSize lk) ((data.length : Int) - 1)).toNat, [], lk, lb, min (max 0 (min space 4097) - 7 - lSize lk) ((data.length : Int) - 1), 0⟩
  else if 7 + ((data.length : Int) - at_) ≤ max 0 (min space 4097) then ⟨false, true, id, 0, 0, 0, [], data.drop at_.toNat, pSum typ k b data, k, b, (data.length : Int), 0⟩
  else if min (max 0 (min space 4097) - 3) ((data.length : Int) - at_ - 1) < 1 then ⟨false, false, 0, 0, 0, 0, [], [], [], k, b, at_, 12⟩
  else ⟨false, false, id, 0, 0, 0, [], (data.take (at_ + min (max 0 (min space 4097) - 3) ((data.length : Int) - at_ - 1)).toNat).drop at_.toNat, [], k, b, at_ + min (max 0 (min space 4097) - 3) ((data.length : Int) - at_ - 1), 0⟩
def nextT (typ : Int) (data : List UInt8) (id : Int) (r : NextR) : AVal := .tup [pieceV r.st r.en r.id r.total r.typ r.k r.lb r.data r.sum, cutV typ r.k2 r.b2 data r.at2 id, .int .i64 r.err]
theorem nextT_eq (typ k : Int) (b data : List UInt8) (at_ id lk : Int) (lb : List UInt8) (space : Int) (whole : Bool) : nextT typ data id (nextR typ k b data at_ id lk lb space whole) = nextV typ k b data at_ id lk lb space whole := by
  unfold nextR nextV
  repeat' split
  all_goals rfl
def fcNext : FC := fun args _ => match args with
  | [.agg [.int .i64 typ, .int .i64 k, .str b, .str data, .int .i64 at_, .int .i64 id], .agg [.int .i64 lk, .str lb], .int .i64 space, .bool whole] => some (true, nextT typ data id (nextR typ k b data at_ id lk lb space whole))
  | _ => none
theorem cMay_iff {typ k at_ id : Int} {b data : List UInt8} : cMay typ k b data at_ id = true ↔ 0 ≤ typ ∧ typ ≤ 65535 ∧ lOk k b = true ∧ 0 ≤ at_ ∧ at_ < (data.length : Int) ∧ (data.length : Int) ≤ 65519 ∧ 0 ≤ id ∧ id < 256 := by
  unfold cMay; rw [decide_eq_true_eq]
theorem next_sound : FcSound Try.prog 78 fcNext := by
  refine fc_pure TC0ok.ctx (n := 100) Try.call78 (fun args H v h => ?_)
  unfold fcNext at h
  split at h <;> cases h
  rename_i typ k b data at_ id lk lb space whole
  refine ⟨rfl, rfl, ?_⟩
  rw [nextT_eq, w_next]
  have hk := lSize_le lk
  have hk' := lSize_le k
  have hl : (decide ((if lOk lk lb = true then (0 : Int) else 2) = 0)) = lOk lk lb := by cases lOk lk lb <;> rfl
  simp only [hl, Bool.and_true]
  cases hm : cMay typ k b data at_ id with
  | false =>
    show Out.ret _ = Out.ret _
    have : nOk typ k b data at_ id lk lb = false := by unfold nOk; rw [hm]; rfl
    unfold nextV; rw [if_pos this]
  | true =>
  obtain ⟨m1, m2, m3, m4, m5, m6, m7, m8⟩ := cMay_iff.1 hm
  cases hb : lOk lk lb with
  | false =>
    show Out.ret _ = Out.ret _
    have : nOk typ k b data at_ id lk lb = false := by unfold nOk; rw [hb]; simp
    unfold nextV; rw [if_pos this]
  | true =>
  have e1 : at_ + ((data.length : Int) - at_) = (data.length : Int) := by omega
  have hp : pErr typ k b (data.length : Int) = 0 := pErr_iff.2 ⟨m1, m2, m3, by omega⟩
  simp only [Bool.not_true, e1, hp]
  by_cases h0 : at_ = 0
  · subst h0
    have e2 : (data.length : Int) - 0 = (data.length : Int) := by omega
    simp only [e2, Int.zero_add]
    by_cases hq : ((decide (lk = k) && decide (lb = b)) || decide (lk = 3)) = true
    · have hn : nOk typ k b data 0 id lk lb = true := by unfold nOk; rw [hm, hb]; simpa using hq
      unfold nextV
      rw [if_neg (by rw [hn]; simp)]
      simp only [branch_iff, obl_iff, decide_eq_true_eq, decide_eq_false_iff_not, Bool.not_eq_true', Bool.not_eq_false', inI64_iff, if_true, true_implies, not_true_eq_false, false_implies, and_true, true_and, decide_true, Bool.not_false, Bool.not_true, reduceCtorEq] at hq ⊢
      have key : ∀ (p : Prop), p → p := fun _ h => h
      refine ⟨fun g1 => ⟨fun g2 => ?_, fun g2 => ?_⟩, fun g1 => ?_⟩
      · exfalso
        rw [g1] at hq
        simp only [Bool.false_or, decide_eq_true_eq] at hq
        exact g2 hq
      all_goals
        refine ⟨by omega, by omega, by omega, by omega, fun g3 => ?_, fun g3 => ⟨by omega, by omega, by omega, fun g4 => ?_, fun g4 => ⟨fun g5 => ?_, fun g5 => ⟨by omega, by omega, ?_⟩⟩⟩⟩
        · rw [if_pos g3]
        · rw [if_neg g3, if_pos (.inl g4)]
        · rw [if_neg g3, if_pos (.inr g5)]
        · rw [if_neg g3, if_neg (by rw [g4]; simp; omega)]
    · have hn : nOk typ k b data 0 id lk lb = false := by unfold nOk; rw [hm, hb]; simpa using hq
      unfold nextV
      rw [if_pos hn]
      simp only [Bool.or_eq_true, not_or, Bool.not_eq_true, decide_eq_false_iff_not] at hq
      rw [hq.1]
      simp [branch_iff, hq.2, branch, obl]
  · have hn : nOk typ k b data at_ id lk lb = true := by unfold nOk; rw [hm, hb]; simp [h0]
    unfold nextV
    rw [if_neg (by rw [hn]; simp), if_neg h0]
    simp only [branch_iff, obl_iff, h0, decide_eq_true_eq, decide_eq_false_iff_not, Bool.not_eq_true', Bool.not_eq_false', inI64_iff, if_true, true_implies, not_true_eq_false, false_implies, and_true, true_and, decide_true, Bool.not_false, Bool.not_true, reduceCtorEq, not_false_eq_true, decide_false]
    refine ⟨by omega, by omega, fun g1 => ⟨by omega, by omega, fun g2 => ?_, fun g2 => ⟨by omega, by omega, by omega, ?_⟩⟩, fun g1 => ⟨by omega, by omega, by omega, ?_⟩⟩
    · rw [if_neg (by omega), if_pos g2]
    · rw [if_neg (by omega), if_neg g2]
    · rw [if_pos (by omega)]
end Go.Proofs.Ytjacnjecggedhaa
namespace Go.Proofs.Ytjacnjecggedhaa
set_option linter.unusedVariables false
set_option linter.unusedSimpArgs false
open Go.RowKit Ev
noncomputable def TE : Tabs := (((TD.addFc 80 fcMayC).addFc 82 fcGone).addFc 78 fcNext)
theorem TEok : TabsOk TE Try.prog := (((TDok.addFc mayC_sound).addFc gone_sound).addFc next_sound)
end Go.Proofs.Ytjacnjecggedhaa
