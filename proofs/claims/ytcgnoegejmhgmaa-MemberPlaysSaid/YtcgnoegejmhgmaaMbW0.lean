/-
  Walks, printed: what calls come to, as they are reckoned.
-/
import Derived.Test.YtcgnoegejmhgmaaCtx
namespace Go.Proofs.Ytcgnoegejmhgmaa
set_option linter.unusedVariables false
set_option linter.unusedSimpArgs false
open Go.RowKit Ev

set_option maxRecDepth 100000 in
theorem w_mrows (K : Out → Prop) : (callC (T0.ctx Try.prog) 90 45 [] ⟨0, []⟩ (fun o _ => K o)
) =  (K (Out.ret (AVal.agg [AVal.int IntKind.i64 (0 : Int), AVal.int IntKind.i64 (0 : Int), AVal.int IntKind.i64 (0 : Int), AVal.int IntKind.i64 (0 : Int), AVal.int IntKind.i64 (0 : Int), AVal.int
 IntKind.i64 (16008 : Int), AVal.int IntKind.i64 (3072 : Int), AVal.int IntKind.i64 (-235 : Int), AVal.int IntKind.i64 (0 : Int), AVal.int IntKind.i64 (21408 : Int), AVal.int IntKind.i64 (5232 : Int),
 AVal.int IntKind.i64 (-124 : Int), AVal.int IntKind.i64 (0 : Int), AVal.int IntKind.i64 (25728 : Int), AVal.int IntKind.i64 (6312 : Int), AVal.int IntKind.i64 (-30 : Int), AVal.int IntKind.i64 (0 :
 Int), AVal.int IntKind.i64 (32208 : Int), AVal.int IntKind.i64 (7032 : Int), AVal.int IntKind.i64 (100 : Int), AVal.int IntKind.i64 (0 : Int), AVal.int IntKind.i64 (38688 : Int), AVal.int IntKind.i64
 (9552 : Int), AVal.int IntKind.i64 (223 : Int), AVal.int IntKind.i64 (0 : Int), AVal.int IntKind.i64 (43040 : Int), AVal.int IntKind.i64 (10632 : Int), AVal.int IntKind.i64 (310 : Int), AVal.int
 IntKind.i64 (0 : Int), AVal.int IntKind.i64 (48408 : Int), AVal.int IntKind.i64 (11712 : Int), AVal.int IntKind.i64 (403 : Int), AVal.int IntKind.i64 (0 : Int), AVal.int IntKind.i64 (51648 : Int),
 AVal.int IntKind.i64 (12432 : Int), AVal.int IntKind.i64 (468 : Int), AVal.int IntKind.i64 (0 : Int), AVal.int IntKind.i64 (53840 : Int), AVal.int IntKind.i64 (13152 : Int), AVal.int IntKind.i64 (518
 : Int), AVal.int IntKind.i64 (0 : Int), AVal.int IntKind.i64 (57472 : Int), AVal.int IntKind.i64 (14232 : Int), AVal.int IntKind.i64 (620 : Int), AVal.int IntKind.i64 (0 : Int), AVal.int IntKind.i64
 (58192 : Int), AVal.int IntKind.i64 (0 : Int), AVal.int IntKind.i64 (642 : Int), AVal.int IntKind.i64 (1 : Int), AVal.int IntKind.i64 (38688 : Int), AVal.int IntKind.i64 (9552 : Int), AVal.int
 IntKind.i64 (550 : Int), AVal.int IntKind.i64 (1 : Int), AVal.int IntKind.i64 (43040 : Int), AVal.int IntKind.i64 (10632 : Int), AVal.int IntKind.i64 (662 : Int), AVal.int IntKind.i64 (1 : Int),
 AVal.int IntKind.i64 (48408 : Int), AVal.int IntKind.i64 (11712 : Int), AVal.int IntKind.i64 (791 : Int), AVal.int IntKind.i64 (1 : Int), AVal.int IntKind.i64 (53840 : Int), AVal.int IntKind.i64
 (13152 : Int), AVal.int IntKind.i64 (935 : Int), AVal.int IntKind.i64 (1 : Int), AVal.int IntKind.i64 (57472 : Int), AVal.int IntKind.i64 (14232 : Int), AVal.int IntKind.i64 (1069 : Int), AVal.int
 IntKind.i64 (1 : Int), AVal.int IntKind.i64 (58192 : Int), AVal.int IntKind.i64 (0 : Int), AVal.int IntKind.i64 (1098 : Int), AVal.int IntKind.i64 (2 : Int), AVal.int IntKind.i64 (43040 : Int),
 AVal.int IntKind.i64 (10632 : Int), AVal.int IntKind.i64 (897 : Int), AVal.int IntKind.i64 (2 : Int), AVal.int IntKind.i64 (48408 : Int), AVal.int IntKind.i64 (11712 : Int), AVal.int IntKind.i64 (1021
 : Int), AVal.int IntKind.i64 (2 : Int), AVal.int IntKind.i64 (51648 : Int), AVal.int IntKind.i64 (12432 : Int), AVal.int IntKind.i64 (1103 : Int), AVal.int IntKind.i64 (2 : Int), AVal.int IntKind.i64
 (53840 : Int), AVal.int IntKind.i64 (13152 : Int), AVal.int IntKind.i64 (1161 : Int), AVal.int IntKind.i64 (2 : Int), AVal.int IntKind.i64 (57472 : Int), AVal.int IntKind.i64 (14232 : Int), AVal.int
 IntKind.i64 (1289 : Int), AVal.int IntKind.i64 (2 : Int), AVal.int IntKind.i64 (58192 : Int), AVal.int IntKind.i64 (0 : Int), AVal.int IntKind.i64 (1313 : Int), AVal.int IntKind.i64 (3 : Int),
 AVal.int IntKind.i64 (48408 : Int), AVal.int IntKind.i64 (11712 : Int), AVal.int IntKind.i64 (1273 : Int), AVal.int IntKind.i64 (3 : Int), AVal.int IntKind.i64 (51648 : Int), AVal.int IntKind.i64
 (12432 : Int), AVal.int IntKind.i64 (1364 : Int), AVal.int IntKind.i64 (3 : Int), AVal.int IntKind.i64 (53840 : Int), AVal.int IntKind.i64 (13152 : Int), AVal.int IntKind.i64 (1428 : Int), AVal.int
 IntKind.i64 (3 : Int), AVal.int IntKind.i64 (57472 : Int), AVal.int IntKind.i64 (14232 : Int), AVal.int IntKind.i64 (1569 : Int), AVal.int IntKind.i64 (3 : Int), AVal.int IntKind.i64 (58192 : Int),
 AVal.int IntKind.i64 (0 : Int), AVal.int IntKind.i64 (1605 : Int)]))) := by kernel_rfl

end Go.Proofs.Ytcgnoegejmhgmaa
