/-
  Walks, printed: what calls come to, as they are reckoned.
-/
import Derived.Test.YtjacnjecggedhaaGseA2
namespace Go.Proofs.Ytjacnjecggedhaa
set_option linter.unusedVariables false
set_option linter.unusedSimpArgs false
open Go.RowKit Ev

set_option maxRecDepth 100000 in
theorem w_allpost_nil (s0 : List UInt8) (g1 g2 g3 : ABlk) (K : Out → AHeap → Prop) : (wpC (TE.ctx Try.prog) 60 13 7 (seqR (seqR (seqR (bodyC Try.f13)))) ((8, .func 27 [] [.ptr 3 0 0 0]) :: (7, .str s0) :: (4, .ptr 2 0 0 0) :: (3, .ptr 1 0 0 0) :: (2, .ptr 0 0 0 0) :: (0, .str s0) :: []) ⟨7, (6, g1) :: (6, g2) :: (3, g3) :: (2, .cells 39 [.nils]) :: (1, .cells 40 [.int .i64 0]) :: (0, .cells 39 [.nils]) :: []⟩ (endN (TE.ctx Try.prog) Try.f13 K)
) = (K (Out.ret (AVal.tup [AVal.nils, AVal.int IntKind.i64 (0 : Int)]))
  (AHeap.mk (7 : Nat)
    [((1 : Nat), ABlk.cells (40 : Nat) [AVal.int IntKind.i64 (0 : Int)]),
      ((0 : Nat), ABlk.cells (39 : Nat) [AVal.nils]), ((6 : Nat), g1), ((6 : Nat), g2), ((3 : Nat), g3),
      ((2 : Nat), ABlk.cells (39 : Nat) [AVal.nils]),
      ((1 : Nat), ABlk.cells (40 : Nat) [AVal.int IntKind.i64 (0 : Int)]),
      ((0 : Nat), ABlk.cells (39 : Nat) [AVal.nils])])) := by kernel_rfl

set_option maxRecDepth 100000 in
theorem w_allerr_nil (s0 : List UInt8) (e : Int) (g1 g2 g3 g4 g5 g6 g7 g8 : ABlk) (K : Out → AHeap → Prop) : (endA (TE.ctx Try.prog).P Try.f13 K .ret ((8, .func 27 [] [.ptr 3 0 0 0]) :: (7, .str s0) :: (4, .ptr 2 0 0 0) :: (3, .ptr 1 0 0 0) :: (2, .ptr 0 0 0 0) :: (0, .str s0) :: []) ⟨8, (1, .cells 40 [.int .i64 e]) :: (0, .cells 39 [.nils]) :: (7, g1) :: (7, g2) :: (6, g3) :: (6, g4) :: (3, g5) :: (2, g6) :: (1, g7) :: (0, g8) :: []⟩
) = (K (Out.ret (AVal.tup [AVal.nils, AVal.int IntKind.i64 e]))
  (AHeap.mk (8 : Nat)
    [((1 : Nat), ABlk.cells (40 : Nat) [AVal.int IntKind.i64 e]), ((0 : Nat), ABlk.cells (39 : Nat) [AVal.nils]),
      ((7 : Nat), g1), ((7 : Nat), g2), ((6 : Nat), g3), ((6 : Nat), g4), ((3 : Nat), g5), ((2 : Nat), g6),
      ((1 : Nat), g7), ((0 : Nat), g8)])) := by kernel_rfl

set_option maxRecDepth 100000 in
theorem w_allpost_cons (s0 : List UInt8) (acc : List PieceR) (g1 g2 g3 : ABlk) (K : Out → AHeap → Prop) : (wpC (TE.ctx Try.prog) 60 13 7 (seqR (seqR (seqR (bodyC Try.f13)))) ((8, .func 27 [] [.ptr 3 0 0 0]) :: (7, .str s0) :: (4, .ptr 2 0 0 0) :: (3, .ptr 1 0 0 0) :: (2, .ptr 0 0 0 0) :: (0, .str s0) :: []) ⟨7, (6, g1) :: (6, g2) :: (5, .row 46 pieceRow acc .plain) :: (3, g3) :: (2, .cells 39 [.sl 5 0 9 0 acc.length none]) :: (1, .cells 40 [.int .i64 0]) :: (0, .cells 39 [.nils]) :: []⟩ (endN (TE.ctx Try.prog) Try.f13 K)
) = (K
  (Out.ret (AVal.tup [AVal.sl (5 : Nat) (0 : Nat) (9 : Nat) (0 : Nat) acc.length none, AVal.int IntKind.i64 (0 : Int)]))
  (AHeap.mk (7 : Nat)
    [((1 : Nat), ABlk.cells (40 : Nat) [AVal.int IntKind.i64 (0 : Int)]),
      ((0 : Nat), ABlk.cells (39 : Nat) [AVal.sl (5 : Nat) (0 : Nat) (9 : Nat) (0 : Nat) acc.length none]),
      ((6 : Nat), g1), ((6 : Nat), g2), ((5 : Nat), ABlk.row (46 : Nat) pieceRow acc RowMd.plain), ((3 : Nat), g3),
      ((2 : Nat), ABlk.cells (39 : Nat) [AVal.sl (5 : Nat) (0 : Nat) (9 : Nat) (0 : Nat) acc.length none]),
      ((1 : Nat), ABlk.cells (40 : Nat) [AVal.int IntKind.i64 (0 : Int)]),
      ((0 : Nat), ABlk.cells (39 : Nat) [AVal.nils])])) := by kernel_rfl

set_option maxRecDepth 100000 in
theorem w_allerr_cons (s0 : List UInt8) (e : Int) (acc : List PieceR) (g1 g2 g3 g4 g5 g6 g7 g8 : ABlk) (K : Out → AHeap → Prop) : (endA (TE.ctx Try.prog).P Try.f13 K .ret ((8, .func 27 [] [.ptr 3 0 0 0]) :: (7, .str s0) :: (4, .ptr 2 0 0 0) :: (3, .ptr 1 0 0 0) :: (2, .ptr 0 0 0 0) :: (0, .str s0) :: []) ⟨8, (1, .cells 40 [.int .i64 e]) :: (0, .cells 39 [.sl 5 0 9 0 acc.length none]) :: (7, g1) :: (7, g2) :: (6, g3) :: (6, g4) :: (5, .row 46 pieceRow acc .plain) :: (3, g5) :: (2, g6) :: (1, g7) :: (0, g8) :: []⟩
) = (K (Out.ret (AVal.tup [AVal.sl (5 : Nat) (0 : Nat) (9 : Nat) (0 : Nat) acc.length none, AVal.int IntKind.i64 e]))
  (AHeap.mk (8 : Nat)
    [((1 : Nat), ABlk.cells (40 : Nat) [AVal.int IntKind.i64 e]),
      ((0 : Nat), ABlk.cells (39 : Nat) [AVal.sl (5 : Nat) (0 : Nat) (9 : Nat) (0 : Nat) acc.length none]),
      ((7 : Nat), g1), ((7 : Nat), g2), ((6 : Nat), g3), ((6 : Nat), g4),
      ((5 : Nat), ABlk.row (46 : Nat) pieceRow acc RowMd.plain), ((3 : Nat), g5), ((2 : Nat), g6), ((1 : Nat), g7),
      ((0 : Nat), g8)])) := by kernel_rfl

end Go.Proofs.Ytjacnjecggedhaa
