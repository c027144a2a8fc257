/-
  Fields of a source that answers what it likes: states.
-/
import Derived.Test.YtjacnjecggedhaaPcRow
import Derived.Test.YtjacnjecggedhaaFlOk1
import Derived.Test.YtjacnjecggedhaaEm5
namespace Go.Proofs.Ytjacnjecggedhaa
set_option linter.unusedVariables false
set_option linter.unusedSimpArgs false
open Go.RowKit Ev

noncomputable abbrev fillB : Code := bodyC Try.f9

/-- The source. -/
def oddB (p : PieceR) (last again : Bool) (n : Int) : ABlk := .cells 57 [.bool p.st, .bool p.en, .int .i64 p.id, .int .i64 p.total, .int .i64 p.typ, .int .i64 p.k, .str p.lb, .str p.data, .str p.sum, .bool last, .bool again, .int .i64 n]
def oddA (sp : Int) : List AVal := [.iface 55 (.ptr 0 0 0 0), .int .u64 0, .int .i64 7, .int .i64 sp]

noncomputable abbrev fillI : Code := codeAt [true, false] fillB
def pOut : List Bool := [true, false, true, true, true, true, true, false, true, false, false]
noncomputable abbrev fillO : Code := codeAt [true, false, true, true, true, true, true, false, true, false, false] fillB
noncomputable abbrev fillL : Code := codeAt [true, false, true, true, true, true, true, false, true, false, false, true, false, false, false, false] fillB

def oE0 (sp : Int) : Env := [(3, .int .i64 sp), (4, .ptr 1 0 0 0), (5, .ptr 2 0 0 0), (6, .ptr 3 0 0 0)]
def oH0 (p : PieceR) (last again : Bool) (fst n : Int) : List (Nat × ABlk) := [(0, oddB p last again n), (1, .cells 65 [.iface 55 (.ptr 0 0 0 0)]), (2, .cells 33 [.int .u64 fst]), (3, .cells 3 [.int .i64 7])]
/-- The temporaries of the rounds; s: who is sent; r: what stands behind. -/
def oE (s : AVal) (r : Env) : Env := (4, .ptr 1 0 0 0) :: (5, .ptr 2 0 0 0) :: (6, .ptr 3 0 0 0) :: (10, .ptr 4 0 0 0) :: (11, s) :: (12, .func 16 [] [.ptr 1 0 0 0, .ptr 2 0 0 0, .ptr 3 0 0 0]) :: r
def o13 : Env := [(13, .int .u64 9)]
def o14 (sm : Bool) : Env := [(13, .int .u64 9), (14, .bool sm)]

/-- The field. -/
def fldB (v : AVal) (sp : Int) (beg : Bool) (k : Int) : ABlk := .cells 70 [v, .int .i64 sp, .bool beg, .int .i64 k, .int .i64 0, .str []]
def bRow (L : List UInt8) : ABlk := .row 5 byteRow L .plain
def sRow (S : List Int) : ABlk := .row 33 (intRow .u64) S .plain
def oSl (b n : Nat) : AVal := .sl b 0 1 0 n none

structure OddS where
  p : PieceR
  last : Bool
  again : Bool
  sp : Int

/-- Nothing is laid. -/
def o00 (o : OddS) (n : Int) (r : Env) : Env × AHeap := (oE .nils r, ⟨5, oH0 o.p o.last o.again 0 n ++ [(4, fldB .nils o.sp false 0)]⟩)
/-- Bytes are laid; nobody is sent. -/
def o10 (o : OddS) (n k : Int) (beg : Bool) (L : List UInt8) (r : Env) : Env × AHeap := (oE .nils r, ⟨6, oH0 o.p o.last o.again 0 n ++ [(4, fldB (oSl 5 L.length) o.sp beg k), (5, bRow L)]⟩)
/-- Bytes are laid; some are sent. -/
def o11 (o : OddS) (n k : Int) (beg : Bool) (L : List UInt8) (S : List Int) (r : Env) : Env × AHeap := (oE (oSl 5 S.length) r, ⟨7, oH0 o.p o.last o.again 0 n ++ [(4, fldB (oSl 6 L.length) o.sp beg k), (5, sRow S), (6, bRow L)]⟩)

def ts13 : AExit → List Nat := fun _ => [4, 5, 6, 10, 11, 12, 13]
def ts14 : AExit → List Nat := fun _ => [4, 5, 6, 10, 11, 12, 13, 14]
def tsI : AExit → List Nat := fun _ => [4, 5, 6, 10, 11, 12]
def ts89 : AExit → List Nat := fun _ => [8, 9]
def tsA : AExit → List Nat := fun x => match x with
  | .ret => [8, 9]
  | _ => [3, 4, 5, 6]
/-- A return by R, the rest by Q. -/
def qRet (R Q : AExit → Env → AHeap → Prop) : AExit → Env → AHeap → Prop := fun x E H => match x with
  | .ret => R .ret E H
  | x => Q x E H
def ts0 : AExit → List Nat := fun _ => [3, 4, 5, 6]

end Go.Proofs.Ytjacnjecggedhaa
