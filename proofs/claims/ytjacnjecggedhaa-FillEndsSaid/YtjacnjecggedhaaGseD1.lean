/-
  Walks, printed: what calls come to, as they are reckoned.
-/
import Derived.Test.YtjacnjecggedhaaGseF
namespace Go.Proofs.Ytjacnjecggedhaa
set_option linter.unusedVariables false
set_option linter.unusedSimpArgs false
open Go.RowKit Ev

set_option maxRecDepth 100000 in
theorem w_take (s : List UInt8) (n : Int) (K : Out → AHeap → Prop) : (callC (TG.ctx Try.prog) 100 41 [.ptr 0 0 0 0, .int .i64 n] ⟨1, [(0, .cells 112 [.str s])]⟩ K
) = (branch (decide ((↑s.length : Int) < n))
  (K (Out.panic (AVal.iface (110 : Nat) (AVal.agg [])))
    (AHeap.mk (1 : Nat) [((0 : Nat), ABlk.cells (112 : Nat) [AVal.str s])]))
  (obl (decide ((0 : Int) ≤ n ∧ n ≤ (↑s.length : Int)))
    (obl (decide ((0 : Int) ≤ n ∧ n ≤ (↑s.length : Int)))
      (K (Out.ret (AVal.str (List.take n.toNat s)))
        (AHeap.mk (1 : Nat)
          [((0 : Nat), ABlk.cells (112 : Nat) [AVal.str (List.drop n.toNat s)]),
            ((0 : Nat), ABlk.cells (112 : Nat) [AVal.str s])]))))) := by kernel_rfl

set_option maxRecDepth 100000 in
theorem w_byte (s : List UInt8) (K : Out → AHeap → Prop) : (callC (TR1.ctx Try.prog) 100 56 [.ptr 0 0 0 0] ⟨1, [(0, .cells 112 [.str s])]⟩ K
) = (branch (decide ((↑s.length : Int) < (1 : Int)))
  (K (Out.panic (AVal.iface (110 : Nat) (AVal.agg [])))
    (AHeap.mk (1 : Nat)
      [((0 : Nat), ABlk.cells (112 : Nat) [AVal.str s]), ((0 : Nat), ABlk.cells (112 : Nat) [AVal.str s])]))
  (obl (decide ((0 : Int) ≤ (0 : Int) ∧ (0 : Int) < (↑(List.take (1 : Nat) s).length : Int)))
    (obl (inI64 (↑((List.take (1 : Nat) s).getD (0 : Nat) (0 : UInt8)).toNat : Int))
      (K (Out.ret (AVal.int IntKind.i64 (↑((List.take (1 : Nat) s).getD (0 : Nat) (0 : UInt8)).toNat : Int)))
        (AHeap.mk (1 : Nat)
          [((0 : Nat), ABlk.cells (112 : Nat) [AVal.str (List.drop (1 : Nat) s)]),
            ((0 : Nat), ABlk.cells (112 : Nat) [AVal.str s])]))))) := by kernel_rfl

set_option maxRecDepth 100000 in
theorem w_word (s : List UInt8) (K : Out → AHeap → Prop) : (callC (TR2.ctx Try.prog) 100 40 [.ptr 0 0 0 0] ⟨1, [(0, .cells 112 [.str s])]⟩ K
) = (branch (decide ((↑s.length : Int) < (1 : Int)))
  (K (Out.panic (AVal.iface (110 : Nat) (AVal.agg [])))
    (AHeap.mk (1 : Nat)
      [((0 : Nat), ABlk.cells (112 : Nat) [AVal.str s]), ((0 : Nat), ABlk.cells (112 : Nat) [AVal.str s])]))
  (obl (true && inI64 (by8 s (0 : Nat) * (256 : Int)))
    (branch (decide ((↑(List.drop (1 : Nat) s).length : Int) < (1 : Int)))
      (K (Out.panic (AVal.iface (110 : Nat) (AVal.agg [])))
        (AHeap.mk (1 : Nat)
          [((0 : Nat), ABlk.cells (112 : Nat) [AVal.str (List.drop (1 : Nat) s)]),
            ((0 : Nat), ABlk.cells (112 : Nat) [AVal.str (List.drop (1 : Nat) s)]),
            ((0 : Nat), ABlk.cells (112 : Nat) [AVal.str s])]))
      (K
        (Out.ret
          (AVal.int IntKind.i64
            (bitsA BinOp.or IntKind.i64 (by8 s (0 : Nat) * (256 : Int)) (by8 (List.drop (1 : Nat) s) (0 : Nat)))))
        (AHeap.mk (1 : Nat)
          [((0 : Nat), ABlk.cells (112 : Nat) [AVal.str (List.drop (1 : Nat) (List.drop (1 : Nat) s))]),
            ((0 : Nat), ABlk.cells (112 : Nat) [AVal.str (List.drop (1 : Nat) s)]),
            ((0 : Nat), ABlk.cells (112 : Nat) [AVal.str s])]))))) := by kernel_rfl

set_option maxRecDepth 100000 in
theorem w_read_tt (k : Int) (b : List UInt8) (K : Out → Prop) : (callC (TR3.ctx Try.prog) 100 42 [.agg [.bool true, .bool true], .int .i64 k, .str b] ⟨0, []⟩ (fun o _ => K o)
) = (branch (decide ((↑b.length : Int) < (2 : Int))) (K (Out.panic (AVal.iface (110 : Nat) (AVal.agg []))))
  (branch (decide ((↑(List.drop (2 : Nat) b).length : Int) < lSize k))
    (K (Out.panic (AVal.iface (110 : Nat) (AVal.agg []))))
    (obl (decide ((0 : Int) ≤ lSize k))
      (K
        (Out.ret
          (AVal.agg
            [AVal.bool true, AVal.bool true, AVal.int IntKind.i64 (0 : Int), AVal.int IntKind.i64 (0 : Int),
              AVal.int IntKind.i64 (w16 b (0 : Nat)), AVal.int IntKind.i64 k,
              AVal.str (List.take (lSize k).toNat (List.drop (2 : Nat) b)),
              AVal.str (List.drop (lSize k).toNat (List.drop (2 : Nat) b)), AVal.str []])))))) := by kernel_rfl

set_option maxRecDepth 100000 in
theorem w_read_tf (k : Int) (b : List UInt8) (K : Out → Prop) : (callC (TR3.ctx Try.prog) 100 42 [.agg [.bool true, .bool false], .int .i64 k, .str b] ⟨0, []⟩ (fun o _ => K o)
) = (branch (decide ((↑b.length : Int) < (1 : Int))) (K (Out.panic (AVal.iface (110 : Nat) (AVal.agg []))))
  (branch (decide ((↑(List.drop (1 : Nat) b).length : Int) < (2 : Int)))
    (K (Out.panic (AVal.iface (110 : Nat) (AVal.agg []))))
    (branch (decide ((↑(List.drop (2 : Nat) (List.drop (1 : Nat) b)).length : Int) < (2 : Int)))
      (K (Out.panic (AVal.iface (110 : Nat) (AVal.agg []))))
      (branch (decide ((↑(List.drop (2 : Nat) (List.drop (2 : Nat) (List.drop (1 : Nat) b))).length : Int) < lSize k))
        (K (Out.panic (AVal.iface (110 : Nat) (AVal.agg []))))
        (obl (decide ((0 : Int) ≤ lSize k))
          (K
            (Out.ret
              (AVal.agg
                [AVal.bool true, AVal.bool false, AVal.int IntKind.i64 (by8 b (0 : Nat)),
                  AVal.int IntKind.i64 (w16 (List.drop (1 : Nat) b) (0 : Nat)),
                  AVal.int IntKind.i64 (w16 (List.drop (2 : Nat) (List.drop (1 : Nat) b)) (0 : Nat)),
                  AVal.int IntKind.i64 k,
                  AVal.str
                    (List.take (lSize k).toNat (List.drop (2 : Nat) (List.drop (2 : Nat) (List.drop (1 : Nat) b)))),
                  AVal.str
                    (List.drop (lSize k).toNat (List.drop (2 : Nat) (List.drop (2 : Nat) (List.drop (1 : Nat) b)))),
                  AVal.str []])))))))) := by kernel_rfl

set_option maxRecDepth 100000 in
theorem w_read_ft (k : Int) (b : List UInt8) (K : Out → Prop) : (callC (TR3.ctx Try.prog) 100 42 [.agg [.bool false, .bool true], .int .i64 k, .str b] ⟨0, []⟩ (fun o _ => K o)
) = (branch (decide ((↑b.length : Int) < (1 : Int))) (K (Out.panic (AVal.iface (110 : Nat) (AVal.agg []))))
  (obl (inI64 ((↑(List.drop (1 : Nat) b).length : Int) - (4 : Int)))
    (branch
      (decide
        ((↑(List.drop (1 : Nat) b).length : Int) < max ((↑(List.drop (1 : Nat) b).length : Int) - (4 : Int)) (0 : Int)))
      (K (Out.panic (AVal.iface (110 : Nat) (AVal.agg []))))
      (obl (decide ((0 : Int) ≤ max ((↑(List.drop (1 : Nat) b).length : Int) - (4 : Int)) (0 : Int)))
        (branch
          (decide
            ((↑(List.drop (max ((↑(List.drop (1 : Nat) b).length : Int) - (4 : Int)) (0 : Int)).toNat
                      (List.drop (1 : Nat) b)).length :
                Int) <
              (4 : Int)))
          (K (Out.panic (AVal.iface (110 : Nat) (AVal.agg []))))
          (K
            (Out.ret
              (AVal.agg
                [AVal.bool false, AVal.bool true, AVal.int IntKind.i64 (by8 b (0 : Nat)),
                  AVal.int IntKind.i64 (0 : Int), AVal.int IntKind.i64 (0 : Int), AVal.int IntKind.i64 (0 : Int),
                  AVal.str [],
                  AVal.str
                    (List.take (max ((↑(List.drop (1 : Nat) b).length : Int) - (4 : Int)) (0 : Int)).toNat
                      (List.drop (1 : Nat) b)),
                  AVal.str
                    (List.take (4 : Nat)
                      (List.drop (max ((↑(List.drop (1 : Nat) b).length : Int) - (4 : Int)) (0 : Int)).toNat
                        (List.drop (1 : Nat) b)))])))))))) := by kernel_rfl

set_option maxRecDepth 100000 in
theorem w_read_ff (k : Int) (b : List UInt8) (K : Out → Prop) : (callC (TR3.ctx Try.prog) 100 42 [.agg [.bool false, .bool false], .int .i64 k, .str b] ⟨0, []⟩ (fun o _ => K o)
) = (branch (decide ((↑b.length : Int) < (1 : Int))) (K (Out.panic (AVal.iface (110 : Nat) (AVal.agg []))))
  (K
    (Out.ret
      (AVal.agg
        [AVal.bool false, AVal.bool false, AVal.int IntKind.i64 (by8 b (0 : Nat)), AVal.int IntKind.i64 (0 : Int),
          AVal.int IntKind.i64 (0 : Int), AVal.int IntKind.i64 (0 : Int), AVal.str [], AVal.str (List.drop (1 : Nat) b),
          AVal.str []])))) := by kernel_rfl

end Go.Proofs.Ytjacnjecggedhaa
