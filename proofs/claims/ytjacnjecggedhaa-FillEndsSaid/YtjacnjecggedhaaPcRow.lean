/-
  Pieces, in rows.
-/
import Derived.Test.YtjacnjecggedhaaEm4
namespace Go.Proofs.Ytjacnjecggedhaa
set_option linter.unusedVariables false
set_option linter.unusedSimpArgs false
open Go.RowKit Ev

/-- A piece. -/
structure PieceR where
  st : Bool
  en : Bool
  id : Int
  total : Int
  typ : Int
  k : Int
  lb : List UInt8
  data : List UInt8
  sum : List UInt8
deriving DecidableEq

def PieceR.cells (p : PieceR) : List AVal := [.bool p.st, .bool p.en, .int .i64 p.id, .int .i64 p.total, .int .i64 p.typ, .int .i64 p.k, .str p.lb, .str p.data, .str p.sum]

abbrev pieceRow : RowTy where
  α := PieceR
  sz := 9
  dflt := ⟨false, false, 0, 0, 0, 0, [], [], []⟩
  enc := fun p => [.bool p.st, .bool p.en, .int .i64 p.id, .int .i64 p.total, .int .i64 p.typ, .int .i64 p.k, .str p.lb, .str p.data, .str p.sum]
  dec := fun cs => match cs with
    | [.bool st, .bool en, .int .i64 id, .int .i64 total, .int .i64 typ, .int .i64 k, .str lb, .str data, .str sum] => some (true, ⟨st, en, id, total, typ, k, lb, data, sum⟩)
    | _ => none
  len := fun _ => rfl
  isData := fun _ => rfl
  dec_enc := fun cs a h => by
    split at h
    · simp only [Option.some.injEq, Prod.mk.injEq, true_and] at h
      subst h; rfl
    · cases h
  bytes := none
  toB := fun f g h => by cases h

end Go.Proofs.Ytjacnjecggedhaa
