/-
  Walks, printed: what calls come to, as they are reckoned.
-/
import Derived.Test.YtcgnoegejmhgmaaMbDel
namespace Go.Proofs.Ytcgnoegejmhgmaa
set_option linter.unusedVariables false
set_option linter.unusedSimpArgs false
open Go.RowKit Ev

set_option maxRecDepth 100000 in
theorem w_mode (S : MemS) (t : Int) (K : Out → AHeap → Prop) : (callC (TM3.ctx Try.prog) 90 8 [.ptr 0 0 0 0, .int .i64 t] ⟨3, memH S⟩ K
) =  (branch (decide (t < (0 : Int))) (K (Out.ret (AVal.int IntKind.i64 (0 : Int))) (AHeap.mk 3 [(0, ABlk.cells 45 [AVal.sl 1 0 1 0 S.modes.length none, AVal.map 2]), (1, ABlk.row 3 (intRow IntKind.i64)
 S.modes RowMd.plain), (2, ABlk.obj (MapT listV) (MapSt.mk S.lists none) [])])) (branch (decide ((↑S.modes.length : Int) ≤ t)) (K (Out.ret (AVal.int IntKind.i64 (0 : Int))) (AHeap.mk 3 [(0, ABlk.cells
 45 [AVal.sl 1 0 1 0 S.modes.length none, AVal.map 2]), (1, ABlk.row 3 (intRow IntKind.i64) S.modes RowMd.plain), (2, ABlk.obj (MapT listV) (MapSt.mk S.lists none) [])])) (obl (decide ((0 : Int) ≤ t ∧
 t < (↑S.modes.length : Int))) (obl (decide (0 + t.toNat < S.modes.length)) (K (Out.ret (AVal.int IntKind.i64 (S.modes.getD (0 + t.toNat) (0 : Int)))) (AHeap.mk 3 [(0, ABlk.cells 45 [AVal.sl 1 0 1 0
 S.modes.length none, AVal.map 2]), (1, ABlk.row 3 (intRow IntKind.i64) S.modes RowMd.plain), (2, ABlk.obj (MapT listV) (MapSt.mk S.lists none) [])])))))) := by kernel_rfl

set_option maxRecDepth 100000 in
theorem w_mode_nil (t : Int) (K : Out → Prop) : (callC (TM3.ctx Try.prog) 90 8 [.nilp, .int .i64 t] ⟨0, []⟩ (fun o _ => K o)
) =  (K (Out.ret (AVal.int IntKind.i64 (0 : Int)))) := by kernel_rfl

end Go.Proofs.Ytcgnoegejmhgmaa
