/-
  Walks, printed: what calls come to, as they are reckoned.
-/
import Derived.Test.YtcgnoegejmhgmaaMbN
namespace Go.Proofs.Ytcgnoegejmhgmaa
set_option linter.unusedVariables false
set_option linter.unusedSimpArgs false
open Go.RowKit Ev

set_option maxRecDepth 100000 in
theorem w_nu_nn (a b : List Int) (ka kb : Nat) (K : Out → Prop) : (callC (TM6.ctx Try.prog) 90 12 [.nils, .nils] (nuH a b) (fun o _ => K o)
) =  (K (Out.ret (AVal.bool true))) := by kernel_rfl

set_option maxRecDepth 100000 in
theorem w_nu_ns (a b : List Int) (ka kb : Nat) (K : Out → Prop) : (callC (TM6.ctx Try.prog) 90 12 [.nils, sl1 b kb] (nuH a b) (fun o _ => K o)
) =  (branch (!decide ((0 : Int) = (↑b.length : Int))) (K (Out.ret (AVal.bool false))) (K (Out.ret (AVal.bool true)))) := by kernel_rfl

set_option maxRecDepth 100000 in
theorem w_nu_s0 (b : List Int) (ka : Nat) (K : Out → Prop) : (callC (TM6.ctx Try.prog) 90 12 [sl0 [] ka, .nils] (nuH [] b) (fun o _ => K o)
) =  (K (Out.ret (AVal.bool true))) := by kernel_rfl

set_option maxRecDepth 100000 in
theorem w_nu_sn (x : Int) (a b : List Int) (ka kb : Nat) (It : Env → AHeap → Prop) (K : Out → AHeap → Prop) : (wpN (TM6.ctx Try.prog) 2 90 12 2 nuB (env0 [sl0 (x :: a) ka, .nils] 0) (nuH (x :: a) b) It (endA (TM6.ctx Try.prog).P Try.f12 K)
) =  (K (Out.ret (AVal.bool false)) (AHeap.mk 2 [(0, ABlk.row 3 (intRow IntKind.i64) (x :: a) RowMd.ro), (1, ABlk.row 3 (intRow IntKind.i64) b RowMd.ro)])) := by kernel_rfl

set_option maxRecDepth 100000 in
theorem w_nu_ss (a b : List Int) (ka kb : Nat) (It : Env → AHeap → Prop) (K : Out → AHeap → Prop) : (wpN (TM6.ctx Try.prog) 2 90 12 2 nuB (env0 [sl0 a ka, sl1 b kb] 0) (nuH a b) (fun E H => canonK 2 [0, 1] E H It) (endA (TM6.ctx Try.prog).P Try.f12 K)
) =  (branch (!decide ((↑a.length : Int) = (↑b.length : Int))) (K (Out.ret (AVal.bool false)) (AHeap.mk 2 [(0, ABlk.row 3 (intRow IntKind.i64) a RowMd.ro), (1, ABlk.row 3 (intRow IntKind.i64) b
 RowMd.ro)])) (It [(0, AVal.sl 0 0 1 0 a.length (some ka)), (1, AVal.sl 1 0 1 0 b.length (some kb))] (AHeap.mk 2 [(0, ABlk.row 3 (intRow IntKind.i64) a RowMd.ro), (1, ABlk.row 3 (intRow IntKind.i64) b
 RowMd.ro)]))) := by kernel_rfl

set_option maxRecDepth 100000 in
theorem w_nu_set (a b : List Int) (ka kb : Nat) (Q : AExit → Env → AHeap → Prop) : (wpC (TM6.ctx Try.prog) 90 12 2 (seqL (seqL (tailN 2 nuB))) [(0, sl0 a ka), (1, sl1 b kb)] (nuH a b) (canQ 2 tsN Q)
) =  (Q AExit.normal [(0, AVal.sl 0 0 1 0 a.length (some ka)), (1, AVal.sl 1 0 1 0 b.length (some kb)), (5, AVal.int IntKind.i64 (0 : Int))] (AHeap.mk 2 [(0, ABlk.row 3 (intRow IntKind.i64) a RowMd.ro),
 (1, ABlk.row 3 (intRow IntKind.i64) b RowMd.ro)])) := by kernel_rfl

set_option maxRecDepth 100000 in
theorem w_nu_round (a b : List Int) (ka kb : Nat) (i : Nat) (Q : AExit → Env → AHeap → Prop) : (wpC (TM6.ctx Try.prog) 90 12 2 nuR (nuE a b ka kb (i : Int)) (nuH a b) (canQ 2 tsN Q)
) =  (branch (decide ((↑i : Int) < (↑a.length : Int))) (obl (decide ((0 : Int) ≤ (↑i : Int) ∧ (↑i : Int) < (↑a.length : Int))) (obl (decide (0 + (↑i : Int).toNat < a.length)) (obl (decide ((0 : Int) ≤ (↑i
 : Int) ∧ (↑i : Int) < (↑b.length : Int))) (obl (decide (0 + (↑i : Int).toNat < b.length)) (branch (!decide (a.getD (0 + (↑i : Int).toNat) (0 : Int) = b.getD (0 + (↑i : Int).toNat) (0 : Int))) (Q
 AExit.ret [(4, AVal.bool false)] (AHeap.mk 2 [(0, ABlk.row 3 (intRow IntKind.i64) a RowMd.ro), (1, ABlk.row 3 (intRow IntKind.i64) b RowMd.ro)])) (obl (inI64 ((↑i : Int) + (1 : Int))) (Q AExit.normal
 [(0, AVal.sl 0 0 1 0 a.length (some ka)), (1, AVal.sl 1 0 1 0 b.length (some kb)), (5, AVal.int IntKind.i64 ((↑i : Int) + (1 : Int)))] (AHeap.mk 2 [(0, ABlk.row 3 (intRow IntKind.i64) a RowMd.ro), (1,
 ABlk.row 3 (intRow IntKind.i64) b RowMd.ro)])))))))) (Q (AExit.exit 0) [(0, AVal.sl 0 0 1 0 a.length (some ka)), (1, AVal.sl 1 0 1 0 b.length (some kb)), (5, AVal.int IntKind.i64 (↑i : Int))]
 (AHeap.mk 2 [(0, ABlk.row 3 (intRow IntKind.i64) a RowMd.ro), (1, ABlk.row 3 (intRow IntKind.i64) b RowMd.ro)]))) := by kernel_rfl

set_option maxRecDepth 100000 in
theorem w_nu_end (a b : List Int) (ka kb : Nat) (i : Int) (K : Out → AHeap → Prop) : (wpC (TM6.ctx Try.prog) 90 12 2 (seqR (tailN 2 nuB)) (nuE a b ka kb i) (nuH a b) (canQ 2 tsN (endA (TM6.ctx Try.prog).P Try.f12 K))
) =  (K (Out.ret (AVal.bool true)) (AHeap.mk 2 [(0, ABlk.row 3 (intRow IntKind.i64) a RowMd.ro), (1, ABlk.row 3 (intRow IntKind.i64) b RowMd.ro)])) := by kernel_rfl

set_option maxRecDepth 100000 in
theorem w_nu_n0 (K : Out → Prop) : (callC (TM6.ctx Try.prog) 90 12 [.nils, .nils] ⟨0, []⟩ (fun o _ => K o)
) =  (K (Out.ret (AVal.bool true))) := by kernel_rfl

end Go.Proofs.Ytcgnoegejmhgmaa
