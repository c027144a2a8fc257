/-
  MemberLast: states.
-/
import Derived.Test.YtcgnoegejmhgmaaMbP
namespace Go.Proofs.Ytcgnoegejmhgmaa
set_option linter.unusedVariables false
set_option linter.unusedSimpArgs false
open Go.RowKit Ev

structure PairR where
  a : Int
  b : Int
deriving DecidableEq

abbrev pairRow (k : IntKind) : RowTy where
  α := PairR
  sz := 2
  dflt := ⟨0, 0⟩
  enc := fun p => [.int k p.a, .int k p.b]
  dec := fun cs => match cs with
    | [.int k1 a, .int k2 b] => if k1 = k ∧ k2 = k then some (true, ⟨a, b⟩) else none
    | _ => none
  len := fun _ => rfl
  isData := fun _ => rfl
  dec_enc := fun cs a h => by
    split at h
    · split at h <;> try cases h
      rename_i hk
      obtain ⟨rfl, rfl⟩ := hk
      rfl
    · cases h
  bytes := none
  toB := fun f g h => by cases h

/-- Members under other numbers. -/
def memAt (S : MemS) (b c : Nat) : ABlk := membersB (.sl b 0 1 0 S.modes.length none) (.map c)
def objL (S : MemS) : ABlk := .obj (MapT listV) ⟨S.lists, none⟩ []

noncomputable abbrev mlB : Code := bodyC Try.f3
noncomputable abbrev mlR : Code := codeAt [true, true, true, true, false, true, false, false] mlB
noncomputable abbrev mlR2 : Code := codeAt [true, true, true, true, true, true, true, true, true, true, false, true, false, false] mlB

def oneB (x y : Int) : ABlk := .cells 23 [.int .u8 x, .int .u8 y]
def mlRow (hs : List PairR) : ABlk := .row 23 (pairRow .u8) hs .ro
def mlHs (x y : Int) (S : MemS) : List (Nat × ABlk) := [(1, oneB x y), (2, memAt S 3 4), (3, rowI S.modes), (4, objL S)]
/-- Ahead of the loop, or behind it. -/
def mlE (n : Int) : Env := [(5, .ptr 1 0 0 0), (7, .int .i64 n), (8, .ptr 2 0 0 0)]
/-- In the loop. -/
def mlE1 (v : AVal) (n i : Int) : Env := [(1, v), (5, .ptr 1 0 0 0), (7, .int .i64 n), (8, .ptr 2 0 0 0), (9, .int .i64 i)]
def mlE0 (v : AVal) (n : Int) : Env := [(1, v), (5, .ptr 1 0 0 0), (7, .int .i64 n), (8, .ptr 2 0 0 0)]
def mlV (hs : List PairR) : AVal := .sl 0 0 2 0 hs.length none
def tsL0 : List Nat := [1, 5, 7, 8]
def tsL : AExit → List Nat := fun x => match x with
  | .ret => [6]
  | .normal => [1, 5, 7, 8, 9]
  | _ => [5, 7, 8]
def tsL2 : List Nat := [8, 14, 15, 16, 17, 18]
def tsL3 : AExit → List Nat := fun x => match x with
  | .ret => [6]
  | .normal => [8, 14, 15, 16, 17, 18, 19]
  | _ => [8, 14, 15, 16, 17, 18]
/-- Behind the first loop: t, away, home; the list; what is left of it. -/
def mlE2 (t a h : Int) (r v : AVal) : Env := [(8, .ptr 1 0 0 0), (14, .int .i64 t), (15, .int .i64 a), (16, .int .i64 h), (17, r), (18, v)]
def mlE3 (t a h : Int) (r v : AVal) (i : Int) : Env := [(8, .ptr 1 0 0 0), (14, .int .i64 t), (15, .int .i64 a), (16, .int .i64 h), (17, r), (18, v), (19, .int .i64 i)]
def mlH2 (S : MemS) (o : List Int) : AHeap := ⟨5, [(1, memAt S 3 4), (2, rowI o), (3, rowI S.modes), (4, objL S)]⟩
def mlH3 (S : MemS) (r o : List Int) : AHeap := ⟨6, [(1, memAt S 4 5), (2, rowI r), (3, rowI o), (4, rowI S.modes), (5, objL S)]⟩

end Go.Proofs.Ytcgnoegejmhgmaa
