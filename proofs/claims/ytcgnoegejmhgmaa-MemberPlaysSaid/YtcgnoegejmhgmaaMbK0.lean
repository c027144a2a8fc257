/-
  Walks, printed: what calls come to, as they are reckoned.
-/
import Derived.Test.YtcgnoegejmhgmaaMbN2
namespace Go.Proofs.Ytcgnoegejmhgmaa
set_option linter.unusedVariables false
set_option linter.unusedSimpArgs false
open Go.RowKit Ev

set_option maxRecDepth 100000 in
theorem w_works (K : Out → Prop) : (callC (TM7.ctx Try.prog) 90 11 [] ⟨0, []⟩ (fun o _ => K o)
) =  (∃ (hT : intRow IntKind.i64 = intRow IntKind.i64), ∃ (hU : MapT listV = MapT listV), (3 = 3 ∧ true = true) ∧ WfM (MemS.mk [(1 : Int), (1 : Int), (1 : Int)] [((1 : Int), [(0 : Int), (1 : Int), (2 :
 Int)])]) ∧ ∃ (hT_1 : intRow IntKind.i64 = intRow IntKind.i64), ∃ (hU_1 : MapT listV = MapT listV), (3 = 3 ∧ true = true) ∧ WfM (MemS.mk [(1 : Int), (1 : Int), (1 : Int)] [((1 : Int), [(0 : Int), (1 :
 Int), (2 : Int)])]) ∧ ∃ (hT_2 : intRow IntKind.i64 = intRow IntKind.i64), ∃ (hU_2 : MapT listV = MapT listV), (3 = 3 ∧ true = true) ∧ WfM (MemS.mk [(5 : Int), (1 : Int), (1 : Int)] [((1 : Int), [(1 :
 Int), (2 : Int)]), ((5 : Int), [(0 : Int)])]) ∧ ∃ (hT_3 : intRow IntKind.i64 = intRow IntKind.i64), ∃ (hU_3 : MapT listV = MapT listV), (3 = 3 ∧ true = true) ∧ WfM (MemS.mk [(1 : Int), (1 : Int), (1 :
 Int)] [((1 : Int), [(1 : Int), (2 : Int), (0 : Int)])]) ∧ ∃ (hT_4 : intRow IntKind.i64 = intRow IntKind.i64), ∃ (hU_4 : MapT listV = MapT listV), (3 = 3 ∧ true = true) ∧ WfM (MemS.mk [(1 : Int), (1 :
 Int), (1 : Int)] [((1 : Int), [(1 : Int), (2 : Int), (0 : Int)])]) ∧ K (Out.ret (AVal.bool (decide ((1 : Int) = (1 : Int)))))) := by kernel_rfl

set_option maxRecDepth 100000 in
theorem w_known (K : Out → Prop) : (callC (TM7.ctx Try.prog) 100 6 [] ⟨0, []⟩ (fun o _ => K o)
) =  (∃ (hT : intRow IntKind.i64 = intRow IntKind.i64), ∃ (hU : MapT listV = MapT listV), (3 = 3 ∧ true = true) ∧ WfM (MemS.mk [(1 : Int), (1 : Int), (1 : Int)] [((1 : Int), [(0 : Int), (1 : Int), (2 :
 Int)])]) ∧ ∃ (hT : intRow IntKind.i64 = intRow IntKind.i64), ∃ (hU : MapT listV = MapT listV), (3 = 3 ∧ true = true) ∧ WfM (MemS.mk [(1 : Int), (1 : Int), (1 : Int)] [((1 : Int), [(0 : Int), (1 :
 Int), (2 : Int)])]) ∧ ∃ (hT : intRow IntKind.i64 = intRow IntKind.i64), ∃ (hU : MapT listV = MapT listV), (3 = 3 ∧ true = true) ∧ WfM (MemS.mk [(5 : Int), (1 : Int), (1 : Int)] [((1 : Int), [(1 :
 Int), (2 : Int)]), ((5 : Int), [(0 : Int)])]) ∧ ∃ (hT : intRow IntKind.i64 = intRow IntKind.i64), ∃ (hU : MapT listV = MapT listV), (3 = 3 ∧ true = true) ∧ WfM (MemS.mk [(5 : Int), (1 : Int), (5 :
 Int)] [((1 : Int), [(1 : Int)]), ((5 : Int), [(0 : Int), (2 : Int)])]) ∧ ∃ (hT : intRow IntKind.i64 = intRow IntKind.i64), ∃ (hU : MapT listV = MapT listV), (3 = 3 ∧ true = true) ∧ WfM (MemS.mk [(1 :
 Int), (1 : Int), (5 : Int)] [((5 : Int), [(2 : Int)]), ((1 : Int), [(1 : Int), (0 : Int)])]) ∧ ∃ (hT : intRow IntKind.i64 = intRow IntKind.i64), ∃ (hU : MapT listV = MapT listV), (3 = 3 ∧ true = true)
 ∧ WfM (MemS.mk [(1 : Int), (1 : Int), (5 : Int)] [((5 : Int), [(2 : Int)]), ((1 : Int), [(1 : Int), (0 : Int)])]) ∧ ∃ (hT : intRow IntKind.i64 = intRow IntKind.i64), ∃ (hU : MapT listV = MapT listV),
 (3 = 3 ∧ true = true) ∧ WfM (MemS.mk [(1 : Int), (1 : Int), (5 : Int)] [((5 : Int), [(2 : Int)]), ((1 : Int), [(1 : Int), (0 : Int)])]) ∧ ∃ (hT : intRow IntKind.i64 = intRow IntKind.i64), ∃ (hU : MapT
 listV = MapT listV), (3 = 3 ∧ true = true) ∧ WfM (MemS.mk [(1 : Int), (1 : Int), (5 : Int)] [((5 : Int), [(2 : Int)]), ((1 : Int), [(1 : Int), (0 : Int)])]) ∧ ∃ (hT : intRow IntKind.i64 = intRow
 IntKind.i64), ∃ (hU : MapT listV = MapT listV), (3 = 3 ∧ true = true) ∧ WfM (MemS.mk [(1 : Int), (1 : Int), (5 : Int)] [((5 : Int), [(2 : Int)]), ((1 : Int), [(1 : Int), (0 : Int)])]) ∧ ∃ (hT : intRow
 IntKind.i64 = intRow IntKind.i64), ∃ (hU : MapT listV = MapT listV), (3 = 3 ∧ true = true) ∧ WfM (MemS.mk [(1 : Int), (1 : Int), (5 : Int)] [((5 : Int), [(2 : Int)]), ((1 : Int), [(1 : Int), (0 :
 Int)])]) ∧ ∃ (hT : intRow IntKind.i64 = intRow IntKind.i64), ∃ (hU : MapT listV = MapT listV), (3 = 3 ∧ true = true) ∧ WfM (MemS.mk [(1 : Int), (1 : Int), (5 : Int)] [((5 : Int), [(2 : Int)]), ((1 :
 Int), [(1 : Int), (0 : Int)])]) ∧ ∃ (hT : intRow IntKind.i64 = intRow IntKind.i64), ∃ (hU : MapT listV = MapT listV), (3 = 3 ∧ true = true) ∧ WfM (MemS.mk [(1 : Int), (1 : Int), (5 : Int)] [((5 :
 Int), [(2 : Int)]), ((1 : Int), [(1 : Int), (0 : Int)])]) ∧ ∃ (hT : intRow IntKind.i64 = intRow IntKind.i64), ∃ (hU : MapT listV = MapT listV), (3 = 3 ∧ true = true) ∧ WfM (MemS.mk [(1 : Int), (1 :
 Int), (5 : Int)] [((5 : Int), [(2 : Int)]), ((1 : Int), [(1 : Int), (0 : Int)])]) ∧ ∃ (hT : intRow IntKind.i64 = intRow IntKind.i64), ∃ (hU : MapT listV = MapT listV), (3 = 3 ∧ true = true) ∧ WfM
 (MemS.mk [(1 : Int), (1 : Int), (5 : Int)] [((5 : Int), [(2 : Int)]), ((1 : Int), [(1 : Int), (0 : Int)])]) ∧ ∃ (hT : intRow IntKind.i64 = intRow IntKind.i64), ∃ (hU : MapT listV = MapT listV), (3 = 3
 ∧ true = true) ∧ WfM (MemS.mk [(1 : Int), (1 : Int), (5 : Int)] [((5 : Int), [(2 : Int)]), ((1 : Int), [(1 : Int), (0 : Int)])]) ∧ ∃ (hT : intRow IntKind.i64 = intRow IntKind.i64), ∃ (hU : MapT listV
 = MapT listV), (3 = 3 ∧ true = true) ∧ WfM (MemS.mk [(1 : Int), (1 : Int), (5 : Int)] [((5 : Int), [(2 : Int)]), ((1 : Int), [(1 : Int), (0 : Int)])]) ∧ ∃ (hT : intRow IntKind.i64 = intRow
 IntKind.i64), ∃ (hU : MapT listV = MapT listV), (3 = 3 ∧ true = true) ∧ WfM (MemS.mk [(1 : Int), (1 : Int), (5 : Int)] [((5 : Int), [(2 : Int)]), ((1 : Int), [(1 : Int), (0 : Int)])]) ∧ ∃ (hT : intRow
 IntKind.i64 = intRow IntKind.i64), ∃ (hU : MapT listV = MapT listV), (3 = 3 ∧ true = true) ∧ WfM (MemS.mk [(1 : Int), (1 : Int), (5 : Int)] [((5 : Int), [(2 : Int)]), ((1 : Int), [(1 : Int), (0 :
 Int)])]) ∧ ∃ (hT : intRow IntKind.i64 = intRow IntKind.i64), ∃ (hU : MapT listV = MapT listV), (3 = 3 ∧ true = true) ∧ WfM (MemS.mk [(1 : Int), (1 : Int), (1 : Int)] [((1 : Int), [(0 : Int), (1 :
 Int), (2 : Int)])]) ∧ ∃ (hT_1 : intRow IntKind.i64 = intRow IntKind.i64), ∃ (hU_1 : MapT listV = MapT listV), (3 = 3 ∧ true = true) ∧ WfM (MemS.mk [(1 : Int), (1 : Int), (1 : Int)] [((1 : Int), [(0 :
 Int), (1 : Int), (2 : Int)])]) ∧ ∃ (hT_2 : intRow IntKind.i64 = intRow IntKind.i64), ∃ (hU_2 : MapT listV = MapT listV), (3 = 3 ∧ true = true) ∧ WfM (MemS.mk [(5 : Int), (1 : Int), (1 : Int)] [((1 :
 Int), [(1 : Int), (2 : Int)]), ((5 : Int), [(0 : Int)])]) ∧ ∃ (hT_3 : intRow IntKind.i64 = intRow IntKind.i64), ∃ (hU_3 : MapT listV = MapT listV), (3 = 3 ∧ true = true) ∧ WfM (MemS.mk [(1 : Int), (1
 : Int), (1 : Int)] [((1 : Int), [(1 : Int), (2 : Int), (0 : Int)])]) ∧ ∃ (hT_4 : intRow IntKind.i64 = intRow IntKind.i64), ∃ (hU_4 : MapT listV = MapT listV), (3 = 3 ∧ true = true) ∧ WfM (MemS.mk [(1
 : Int), (1 : Int), (1 : Int)] [((1 : Int), [(1 : Int), (2 : Int), (0 : Int)])]) ∧ K (Out.ret (AVal.bool (decide ((1 : Int) = (1 : Int)))))) := by kernel_rfl

end Go.Proofs.Ytcgnoegejmhgmaa
