/-
  Walks, printed: what calls come to, as they are reckoned.
-/
import Derived.Test.YtjacnjecggedhaaGseTE
import Derived.Test.YtjacnjecggedhaaEm5
namespace Go.Proofs.Ytjacnjecggedhaa
set_option linter.unusedVariables false
set_option linter.unusedSimpArgs false
open Go.RowKit Ev

set_option maxRecDepth 100000 in
theorem w_allpre (s : List UInt8) (KK : Env → AHeap → Prop) : (wpC (TE.ctx Try.prog) 60 13 0 (seqL (bodyC Try.f13)) (env0 [.str s] 0) ⟨0, []⟩ (fun x E H => match x with | .normal => wpC (TE.ctx Try.prog) 60 13 0 (seqL (seqR (bodyC Try.f13))) E H (fun x E H => match x with | .normal => wpC (TE.ctx Try.prog) 60 13 0 (seqL (seqL (seqR (seqR (bodyC Try.f13))))) E H (fun x E H => match x with | .normal => KK E H | _ => False) | _ => False) | _ => False)
) = (KK
  [((8 : Nat), AVal.func (27 : Nat) [] [AVal.ptr (3 : Nat) (0 : Nat) (0 : Nat) (0 : Nat)]), ((7 : Nat), AVal.str s),
    ((4 : Nat), AVal.ptr (2 : Nat) (0 : Nat) (0 : Nat) (0 : Nat)),
    ((3 : Nat), AVal.ptr (1 : Nat) (0 : Nat) (0 : Nat) (0 : Nat)),
    ((2 : Nat), AVal.ptr (0 : Nat) (0 : Nat) (0 : Nat) (0 : Nat)), ((0 : Nat), AVal.str s)]
  (AHeap.mk (4 : Nat)
    [((3 : Nat), ABlk.cells (9 : Nat) [AVal.str s]), ((2 : Nat), ABlk.cells (39 : Nat) [AVal.nils]),
      ((1 : Nat), ABlk.cells (40 : Nat) [AVal.int IntKind.i64 (0 : Int)]),
      ((0 : Nat), ABlk.cells (39 : Nat) [AVal.nils])])) := by kernel_rfl

end Go.Proofs.Ytjacnjecggedhaa
