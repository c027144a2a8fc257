/-
  Rows of the program's structs.
-/
import Derived.Test.YtjacnjecggedhaaEm4
namespace Go.Proofs.Ytjacnjecggedhaa
set_option linter.unusedVariables false
set_option linter.unusedSimpArgs false
open Go.RowKit Ev

structure BoolR where
  b : Bool
deriving DecidableEq

abbrev boolRow : RowTy where
  α := BoolR
  sz := 1
  dflt := ⟨false⟩
  enc := fun p => [.bool p.b]
  dec := fun cs => match cs with
    | [.bool b] => some (true, ⟨b⟩)
    | _ => none
  len := fun _ => rfl
  isData := fun _ => rfl
  dec_enc := fun cs a h => by
    split at h
    · simp only [Option.some.injEq, Prod.mk.injEq, true_and] at h
      subst h; rfl
    · cases h
  bytes := none
  toB := fun f g h => by cases h

structure CutR where
  typ : Int
  k : Int
  lb : List UInt8
  data : List UInt8
  pos : Int
  id : Int
deriving DecidableEq

abbrev cutRow : RowTy where
  α := CutR
  sz := 6
  dflt := ⟨0, 0, [], [], 0, 0⟩
  enc := fun p => [.int .i64 p.typ, .int .i64 p.k, .str p.lb, .str p.data, .int .i64 p.pos, .int .i64 p.id]
  dec := fun cs => match cs with
    | [.int .i64 typ, .int .i64 k, .str lb, .str data, .int .i64 pos, .int .i64 id] => some (true, ⟨typ, k, lb, data, pos, id⟩)
    | _ => none
  len := fun _ => rfl
  isData := fun _ => rfl
  dec_enc := fun cs a h => by
    split at h
    · simp only [Option.some.injEq, Prod.mk.injEq, true_and] at h
      subst h; rfl
    · cases h
  bytes := none
  toB := fun f g h => by cases h

structure PackR where
  cls : Int
  lab : Int
  pos : Int
  data : List UInt8
  zeros : Int
deriving DecidableEq

abbrev packRow : RowTy where
  α := PackR
  sz := 5
  dflt := ⟨0, 0, 0, [], 0⟩
  enc := fun p => [.int .u8 p.cls, .int .u8 p.lab, .int .u8 p.pos, .str p.data, .int .u16 p.zeros]
  dec := fun cs => match cs with
    | [.int .u8 cls, .int .u8 lab, .int .u8 pos, .str data, .int .u16 zeros] => some (true, ⟨cls, lab, pos, data, zeros⟩)
    | _ => none
  len := fun _ => rfl
  isData := fun _ => rfl
  dec_enc := fun cs a h => by
    split at h
    · simp only [Option.some.injEq, Prod.mk.injEq, true_and] at h
      subst h; rfl
    · cases h
  bytes := none
  toB := fun f g h => by cases h

end Go.Proofs.Ytjacnjecggedhaa
