/-
  FillKnown: states between its parts.
-/
import Derived.Test.YtjacnjecggedhaaFlOk1
import Derived.Test.YtjacnjecggedhaaEm5
namespace Go.Proofs.Ytjacnjecggedhaa
set_option linter.unusedVariables false
set_option linter.unusedSimpArgs false
open Go.RowKit Ev

def k1S : List UInt8 := [192, 10, 8, 0, 97, 98, 99, 100, 101, 102, 99, 0, 208, 7, 8, 0, 97, 98, 99, 97, 0, 192, 10, 8, 0, 97, 98, 99, 100, 101, 102, 98, 0, 208, 7, 8, 0, 120, 121, 122, 100, 0]
def k1E : Env := [(1, .sl 0 0 5 0 4 (some 4)), (2, .str k1S), (3, .sl 1 0 1 0 4 none)]
def k1P : ABlk := .cells 51 [.int .u8 0, .int .u8 0, .int .u8 1, .str [97], .int .u16 0, .int .u8 0, .int .u8 1, .int .u8 1, .str [98], .int .u16 0, .int .u8 0, .int .u8 1, .int .u8 1, .str [99], .int .u16 0, .int .u8 0, .int .u8 2, .int .u8 1, .str [100], .int .u16 0]
def k1H : AHeap := ⟨2, [(1, .row 33 (intRow .u64) [3, 1, 2, 4] .plain), (0, k1P)]⟩
def itK1 (E : Env) (H : AHeap) : Prop := subER 2 [(1, 581)] k1E E ∧ subHR 2 [(1, 581)] k1H.bs H

def k2E : Env := [(1, .sl 0 0 5 0 4 (some 4))]
def k2H : AHeap := ⟨1, [(0, k1P)]⟩
def itK2 (E : Env) (H : AHeap) : Prop := subER 1 [] k2E E ∧ subHR 1 [] k2H.bs H

def k3S : List UInt8 := [208, 7, 8, 0, 97, 98, 99, 97, 0, 192, 10, 8, 0, 97, 98, 99, 100, 101, 102, 98, 0, 240, 4, 8, 0, 99, 0, 208, 7, 8, 0, 120, 121, 122, 100, 0]
def k3E : Env := [(1, .sl 0 0 5 0 4 (some 4)), (8, .str k3S), (9, .sl 1 0 1 0 4 none)]
def k3H : AHeap := ⟨2, [(1, .row 33 (intRow .u64) [1, 2, 3, 4] .plain), (0, k1P)]⟩
def itK3 (E : Env) (H : AHeap) : Prop := subER 2 [(1, 580)] k3E E ∧ subHR 2 [(1, 580)] k3H.bs H

end Go.Proofs.Ytjacnjecggedhaa
