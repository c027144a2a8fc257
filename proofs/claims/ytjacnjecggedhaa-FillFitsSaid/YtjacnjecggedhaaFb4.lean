/-
  Texts for RowFillFits, part 4: the reckoner, walks, contracts and plain laws that its row stands on.
-/
import Derived.Test.YtjacnjecggedhaaFb3
import Derived.RangeFuncRecord
import Derived.RangeFuncCalls
import Derived.TacticsIn
namespace Go.Proofs.Ytjacnjecggedhaa
set_option linter.unusedVariables false
set_option linter.unusedSimpArgs false
open Go.RowKit Ev
set_option maxRecDepth 100000 in
theorem w_next (typ k at_ id lk space : Int) (b data lb : List UInt8) (whole : Bool) (K : Out → Prop) : (callC (TC0.ctx Try.prog) 100 78 [.agg [.int .i64 typ, .int .i64 k, .str b, .str data, .int .i64 at_, .int .i64 id], .agg [.int .i64 lk, .str lb], .int .i64 space, .bool whole] ⟨0, []⟩ (fun o _ => K o)
) = (branch (!cMay typ k b data at_ id) (K (Out.ret (AVal.tup [AVal.agg [AVal.bool false, AVal.bool false, AVal.int IntKind.i64 (0 : Int), AVal.int IntKind.i64 (0 : Int), AVal.int IntKind.i64 (0 : Int),
 AVal.int IntKind.i64 (0 : Int), AVal.str [], AVal.str [], AVal.str []], AVal.agg [AVal.int IntKind.i64 typ, AVal.int IntKind.i64 k, AVal.str b, AVal.str data, AVal.int IntKind.i64 at_, AVal.int
 IntKind.i64 id], AVal.int IntKind.i64 (2 : Int)]))) (branch (!decide ((if lOk lk lb = true then (0 : Int) else (2 : Int)) = (0 : Int))) (K (Out.ret (AVal.tup [AVal.agg [AVal.bool false, AVal.bool
 false, AVal.int IntKind.i64 (0 : Int), AVal.int IntKind.i64 (0 : Int), AVal.int IntKind.i64 (0 : Int), AVal.int IntKind.i64 (0 : Int), AVal.str [], AVal.str [], AVal.str []], AVal.agg [AVal.int
 IntKind.i64 typ, AVal.int IntKind.i64 k, AVal.str b, AVal.str data, AVal.int IntKind.i64 at_, AVal.int IntKind.i64 id], AVal.int IntKind.i64 (2 : Int)]))) (branch (decide (at_ = (0 : Int))) (branch
 (!(decide (lk = k) && (decide (lb = b) && true))) (branch (!decide (lk = (3 : Int))) (K (Out.ret (AVal.tup [AVal.agg [AVal.bool false, AVal.bool false, AVal.int IntKind.i64 (0 : Int), AVal.int
 IntKind.i64 (0 : Int), AVal.int IntKind.i64 (0 : Int), AVal.int IntKind.i64 (0 : Int), AVal.str [], AVal.str [], AVal.str []], AVal.agg [AVal.int IntKind.i64 typ, AVal.int IntKind.i64 k, AVal.str b,
 AVal.str data, AVal.int IntKind.i64 at_, AVal.int IntKind.i64 id], AVal.int IntKind.i64 (2 : Int)]))) (obl (inI64 ((↑data.length : Int) - at_)) (branch (decide (at_ = (0 : Int))) (obl (inI64 (at_ +
 ((↑data.length : Int) - at_))) (obl (inI64 ((4 : Int) + lSize lk)) (obl (inI64 ((4 : Int) + lSize lk + ((↑data.length : Int) - at_))) (branch (decide ((4 : Int) + lSize lk + ((↑data.length : Int) -
 at_) ≤ max (0 : Int) (min space (4097 : Int)))) (K (Out.ret (AVal.tup [AVal.agg [AVal.bool true, AVal.bool true, AVal.int IntKind.i64 (0 : Int), AVal.int IntKind.i64 (0 : Int), AVal.int IntKind.i64
 typ, AVal.int IntKind.i64 lk, AVal.str lb, AVal.str data, AVal.str []], AVal.agg [AVal.int IntKind.i64 typ, AVal.int IntKind.i64 k, AVal.str b, AVal.str data, AVal.int IntKind.i64 (at_ +
 ((↑data.length : Int) - at_)), AVal.int IntKind.i64 id], AVal.int IntKind.i64 (0 : Int)]))) (obl (inI64 (max (0 : Int) (min space (4097 : Int)) - (7 : Int))) (obl (inI64 (max (0 : Int) (min space
 (4097 : Int)) - (7 : Int) - lSize lk)) (obl (inI64 ((↑data.length : Int) - at_ - (1 : Int))) (branch whole (K (Out.ret (AVal.tup [AVal.agg [AVal.bool false, AVal.bool false, AVal.int IntKind.i64 (0 :
 Int), AVal.int IntKind.i64 (0 : Int), AVal.int IntKind.i64 (0 : Int), AVal.int IntKind.i64 (0 : Int), AVal.str [], AVal.str [], AVal.str []], AVal.agg [AVal.int IntKind.i64 typ, AVal.int IntKind.i64
 k, AVal.str b, AVal.str data, AVal.int IntKind.i64 at_, AVal.int IntKind.i64 id], AVal.int IntKind.i64 (12 : Int)]))) (branch (decide (min (max (0 : Int) (min space (4097 : Int)) - (7 : Int) - lSize
 lk) ((↑data.length : Int) - at_ - (1 : Int)) < (1 : Int))) (K (Out.ret (AVal.tup [AVal.agg [AVal.bool false, AVal.bool false, AVal.int IntKind.i64 (0 : Int), AVal.int IntKind.i64 (0 : Int), AVal.int
 IntKind.i64 (0 : Int), AVal.int IntKind.i64 (0 : Int), AVal.str [], AVal.str [], AVal.str []], AVal.agg [AVal.int IntKind.i64 typ, AVal.int IntKind.i64 k, AVal.str b, AVal.str data, AVal.int
 IntKind.i64 at_, AVal.int IntKind.i64 id], AVal.int IntKind.i64 (12 : Int)]))) (obl (inI64 (at_ + min (max (0 : Int) (min space (4097 : Int)) - (7 : Int) - lSize lk) ((↑data.length : Int) - at_ - (1 :
 Int)))) (obl (decide ((0 : Int) ≤ min (max (0 : Int) (min space (4097 : Int)) - (7 : Int) - lSize lk) ((↑data.length : Int) - at_ - (1 : Int)) ∧ min (max (0 : Int) (min space (4097 : Int)) - (7 : Int)
 - lSize lk) ((↑data.length : Int) - at_ - (1 : Int)) ≤ (↑data.length : Int))) (K (Out.ret (AVal.tup [AVal.agg [AVal.bool true, AVal.bool false, AVal.int IntKind.i64 id, AVal.int IntKind.i64 (pTotal lk
 lb ((↑data.length : Int) - at_)), AVal.int IntKind.i64 typ, AVal.int IntKind.i64 lk, AVal.str lb, AVal.str (List.take (min (max (0 : Int) (min space (4097 : Int)) - (7 : Int) - lSize lk)
 ((↑data.length : Int) - at_ - (1 : Int))).toNat data), AVal.str []], AVal.agg [AVal.int IntKind.i64 typ, AVal.int IntKind.i64 lk, AVal.str lb, AVal.str data, AVal.int IntKind.i64 (at_ + min (max (0 :
 Int) (min space (4097 : Int)) - (7 : Int) - lSize lk) ((↑data.length : Int) - at_ - (1 : Int))), AVal.int IntKind.i64 id], AVal.int IntKind.i64 (0 : Int)])))))))))))))) (obl (inI64 ((7 : Int) +
 ((↑data.length : Int) - at_))) (branch (decide (max (0 : Int) (min space (4097 : Int)) < (7 : Int) + ((↑data.length : Int) - at_))) (obl (inI64 (max (0 : Int) (min space (4097 : Int)) - (3 : Int)))
 (obl (inI64 ((↑data.length : Int) - at_ - (1 : Int))) (branch (decide (min (max (0 : Int) (min space (4097 : Int)) - (3 : Int)) ((↑data.length : Int) - at_ - (1 : Int)) < (1 : Int))) (K (Out.ret
 (AVal.tup [AVal.agg [AVal.bool false, AVal.bool false, AVal.int IntKind.i64 (0 : Int), AVal.int IntKind.i64 (0 : Int), AVal.int IntKind.i64 (0 : Int), AVal.int IntKind.i64 (0 : Int), AVal.str [],
 AVal.str [], AVal.str []], AVal.agg [AVal.int IntKind.i64 typ, AVal.int IntKind.i64 k, AVal.str b, AVal.str data, AVal.int IntKind.i64 at_, AVal.int IntKind.i64 id], AVal.int IntKind.i64 (12 :
 Int)]))) (obl (inI64 (at_ + min (max (0 : Int) (min space (4097 : Int)) - (3 : Int)) ((↑data.length : Int) - at_ - (1 : Int)))) (obl (decide ((0 : Int) ≤ at_ ∧ at_ ≤ at_ + min (max (0 : Int) (min
 space (4097 : Int)) - (3 : Int)) ((↑data.length : Int) - at_ - (1 : Int)) ∧ at_ + min (max (0 : Int) (min space (4097 : Int)) - (3 : Int)) ((↑data.length : Int) - at_ - (1 : Int)) ≤ (↑data.length :
 Int))) (obl (inI64 (at_ + min (max (0 : Int) (min space (4097 : Int)) - (3 : Int)) ((↑data.length : Int) - at_ - (1 : Int)))) (K (Out.ret (AVal.tup [AVal.agg [AVal.bool false, AVal.bool false,
 AVal.int IntKind.i64 id, AVal.int IntKind.i64 (0 : Int), AVal.int IntKind.i64 (0 : Int), AVal.int IntKind.i64 (0 : Int), AVal.str [], AVal.str (List.drop at_.toNat (List.take (at_ + min (max (0 : Int)
 (min space (4097 : Int)) - (3 : Int)) ((↑data.length : Int) - at_ - (1 : Int))).toNat data)), AVal.str []], AVal.agg [AVal.int IntKind.i64 typ, AVal.int IntKind.i64 k, AVal.str b, AVal.str data,
 AVal.int IntKind.i64 (at_ + min (max (0 : Int) (min space (4097 : Int)) - (3 : Int)) ((↑data.length : Int) - at_ - (1 : Int))), AVal.int IntKind.i64 id], AVal.int IntKind.i64 (0 : Int)]))))))))) (obl
 (decide (data.length ≤ 9223372036854775000)) (obl (decide ((0 : Int) ≤ at_ ∧ at_ ≤ (↑data.length : Int))) (obl (inI64 (at_ + ((↑data.length : Int) - at_))) (branch (decide (pErr typ k b (↑data.length
 : Int) = (0 : Int))) (K (Out.ret (AVal.tup [AVal.agg [AVal.bool false, AVal.bool true, AVal.int IntKind.i64 id, AVal.int IntKind.i64 (0 : Int), AVal.int IntKind.i64 (0 : Int), AVal.int IntKind.i64 (0
 : Int), AVal.str [], AVal.str (List.drop at_.toNat data), AVal.str (pSum typ k b data)], AVal.agg [AVal.int IntKind.i64 typ, AVal.int IntKind.i64 k, AVal.str b, AVal.str data, AVal.int IntKind.i64
 (at_ + ((↑data.length : Int) - at_)), AVal.int IntKind.i64 id], AVal.int IntKind.i64 (0 : Int)]))) (obl (inI64 (max (0 : Int) (min space (4097 : Int)) - (3 : Int))) (obl (inI64 ((↑data.length : Int) -
 at_ - (1 : Int))) (branch (decide (min (max (0 : Int) (min space (4097 : Int)) - (3 : Int)) ((↑data.length : Int) - at_ - (1 : Int)) < (1 : Int))) (K (Out.ret (AVal.tup [AVal.agg [AVal.bool false,
 AVal.bool false, AVal.int IntKind.i64 (0 : Int), AVal.int IntKind.i64 (0 : Int), AVal.int IntKind.i64 (0 : Int), AVal.int IntKind.i64 (0 : Int), AVal.str [], AVal.str [], AVal.str []], AVal.agg
 [AVal.int IntKind.i64 typ, AVal.int IntKind.i64 k, AVal.str b, AVal.str data, AVal.int IntKind.i64 at_, AVal.int IntKind.i64 id], AVal.int IntKind.i64 (12 : Int)]))) (obl (inI64 (at_ + min (max (0 :
 Int) (min space (4097 : Int)) - (3 : Int)) ((↑data.length : Int) - at_ - (1 : Int)))) (obl (decide ((0 : Int) ≤ at_ ∧ at_ ≤ at_ + min (max (0 : Int) (min space (4097 : Int)) - (3 : Int))
 ((↑data.length : Int) - at_ - (1 : Int)) ∧ at_ + min (max (0 : Int) (min space (4097 : Int)) - (3 : Int)) ((↑data.length : Int) - at_ - (1 : Int)) ≤ (↑data.length : Int))) (obl (inI64 (at_ + min (max
 (0 : Int) (min space (4097 : Int)) - (3 : Int)) ((↑data.length : Int) - at_ - (1 : Int)))) (K (Out.ret (AVal.tup [AVal.agg [AVal.bool false, AVal.bool false, AVal.int IntKind.i64 id, AVal.int
 IntKind.i64 (0 : Int), AVal.int IntKind.i64 (0 : Int), AVal.int IntKind.i64 (0 : Int), AVal.str [], AVal.str (List.drop at_.toNat (List.take (at_ + min (max (0 : Int) (min space (4097 : Int)) - (3 :
 Int)) ((↑data.length : Int) - at_ - (1 : Int))).toNat data)), AVal.str []], AVal.agg [AVal.int IntKind.i64 typ, AVal.int IntKind.i64 k, AVal.str b, AVal.str data, AVal.int IntKind.i64 (at_ + min (max
 (0 : Int) (min space (4097 : Int)) - (3 : Int)) ((↑data.length : Int) - at_ - (1 : Int))), AVal.int IntKind.i64 id], AVal.int IntKind.i64 (0 : Int)])))))))))))))))))) (obl (inI64 ((↑data.length : Int)
 - at_)) (branch (decide (at_ = (0 : Int))) (obl (inI64 (at_ + ((↑data.length : Int) - at_))) (obl (inI64 ((4 : Int) + lSize lk)) (obl (inI64 ((4 : Int) + lSize lk + ((↑data.length : Int) - at_)))
 (branch (decide ((4 : Int) + lSize lk + ((↑data.length : Int) - at_) ≤ max (0 : Int) (min space (4097 : Int)))) (K (Out.ret (AVal.tup [AVal.agg [AVal.bool true, AVal.bool true, AVal.int IntKind.i64 (0
 : Int), AVal.int IntKind.i64 (0 : Int), AVal.int IntKind.i64 typ, AVal.int IntKind.i64 lk, AVal.str lb, AVal.str data, AVal.str []], AVal.agg [AVal.int IntKind.i64 typ, AVal.int IntKind.i64 k,
 AVal.str b, AVal.str data, AVal.int IntKind.i64 (at_ + ((↑data.length : Int) - at_)), AVal.int IntKind.i64 id], AVal.int IntKind.i64 (0 : Int)]))) (obl (inI64 (max (0 : Int) (min space (4097 : Int)) -
 (7 : Int))) (obl (inI64 (max (0 : Int) (min space (4097 : Int)) - (7 : Int) - lSize lk)) (obl (inI64 ((↑data.length : Int) - at_ - (1 : Int))) (branch whole (K (Out.ret (AVal.tup [AVal.agg [AVal.bool
 false, AVal.bool false, AVal.int IntKind.i64 (0 : Int), AVal.int IntKind.i64 (0 : Int), AVal.int IntKind.i64 (0 : Int), AVal.int IntKind.i64 (0 : Int), AVal.str [], AVal.str [], AVal.str []], AVal.agg
 [AVal.int IntKind.i64 typ, AVal.int IntKind.i64 k, AVal.str b, AVal.str data, AVal.int IntKind.i64 at_, AVal.int IntKind.i64 id], AVal.int IntKind.i64 (12 : Int)]))) (branch (decide (min (max (0 :
 Int) (min space (4097 : Int)) - (7 : Int) - lSize lk) ((↑data.length : Int) - at_ - (1 : Int)) < (1 : Int))) (K (Out.ret (AVal.tup [AVal.agg [AVal.bool false, AVal.bool false, AVal.int IntKind.i64 (0
 : Int), AVal.int IntKind.i64 (0 : Int), AVal.int IntKind.i64 (0 : Int), AVal.int IntKind.i64 (0 : Int), AVal.str [], AVal.str [], AVal.str []], AVal.agg [AVal.int IntKind.i64 typ, AVal.int IntKind.i64
 k, AVal.str b, AVal.str data, AVal.int IntKind.i64 at_, AVal.int IntKind.i64 id], AVal.int IntKind.i64 (12 : Int)]))) (obl (inI64 (at_ + min (max (0 : Int) (min space (4097 : Int)) - (7 : Int) - lSize
 lk) ((↑data.length : Int) - at_ - (1 : Int)))) (obl (decide ((0 : Int) ≤ min (max (0 : Int) (min space (4097 : Int)) - (7 : Int) - lSize lk) ((↑data.length : Int) - at_ - (1 : Int)) ∧ min (max (0 :
 Int) (min space (4097 : Int)) - (7 : Int) - lSize lk) ((↑data.length : Int) - at_ - (1 : Int)) ≤ (↑data.length : Int))) (K (Out.ret (AVal.tup [AVal.agg [AVal.bool true, AVal.bool false, AVal.int
 IntKind.i64 id, AVal.int IntKind.i64 (pTotal lk lb ((↑data.length : Int) - at_)), AVal.int IntKind.i64 typ, AVal.int IntKind.i64 lk, AVal.str lb, AVal.str (List.take (min (max (0 : Int) (min space
 (4097 : Int)) - (7 : Int) - lSize lk) ((↑data.length : Int) - at_ - (1 : Int))).toNat data), AVal.str []], AVal.agg [AVal.int IntKind.i64 typ, AVal.int IntKind.i64 lk, AVal.str lb, AVal.str data,
 AVal.int IntKind.i64 (at_ + min (max (0 : Int) (min space (4097 : Int)) - (7 : Int) - lSize lk) ((↑data.length : Int) - at_ - (1 : Int))), AVal.int IntKind.i64 id], AVal.int IntKind.i64 (0 :
 Int)])))))))))))))) (obl (inI64 ((7 : Int) + ((↑data.length : Int) - at_))) (branch (decide (max (0 : Int) (min space (4097 : Int)) < (7 : Int) + ((↑data.length : Int) - at_))) (obl (inI64 (max (0 :
 Int) (min space (4097 : Int)) - (3 : Int))) (obl (inI64 ((↑data.length : Int) - at_ - (1 : Int))) (branch (decide (min (max (0 : Int) (min space (4097 : Int)) - (3 : Int)) ((↑data.length : Int) - at_
 - (1 : Int)) < (1 : Int))) (K (Out.ret (AVal.tup [AVal.agg [AVal.bool false, AVal.bool false, AVal.int IntKind.i64 (0 : Int), AVal.int IntKind.i64 (0 : Int), AVal.int IntKind.i64 (0 : Int), AVal.int
 IntKind.i64 (0 : Int), AVal.str [], AVal.str [], AVal.str []], AVal.agg [AVal.int IntKind.i64 typ, AVal.int IntKind.i64 k, AVal.str b, AVal.str data, AVal.int IntKind.i64 at_, AVal.int IntKind.i64
 id], AVal.int IntKind.i64 (12 : Int)]))) (obl (inI64 (at_ + min (max (0 : Int) (min space (4097 : Int)) - (3 : Int)) ((↑data.length : Int) - at_ - (1 : Int)))) (obl (decide ((0 : Int) ≤ at_ ∧ at_ ≤
 at_ + min (max (0 : Int) (min space (4097 : Int)) - (3 : Int)) ((↑data.length : Int) - at_ - (1 : Int)) ∧ at_ + min (max (0 : Int) (min space (4097 : Int)) - (3 : Int)) ((↑data.length : Int) - at_ -
 (1 : Int)) ≤ (↑data.length : Int))) (obl (inI64 (at_ + min (max (0 : Int) (min space (4097 : Int)) - (3 : Int)) ((↑data.length : Int) - at_ - (1 : Int)))) (K (Out.ret (AVal.tup [AVal.agg [AVal.bool
 false, AVal.bool false, AVal.int IntKind.i64 id, AVal.int IntKind.i64 (0 : Int), AVal.int IntKind.i64 (0 : Int), AVal.int IntKind.i64 (0 : Int), AVal.str [], AVal.str (List.drop at_.toNat (List.take
 (at_ + min (max (0 : Int) (min space (4097 : Int)) - (3 : Int)) ((↑data.length : Int) - at_ - (1 : Int))).toNat data)), AVal.str []], AVal.agg [AVal.int IntKind.i64 typ, AVal.int IntKind.i64 k,
 AVal.str b, AVal.str data, AVal.int IntKind.i64 (at_ + min (max (0 : Int) (min space (4097 : Int)) - (3 : Int)) ((↑data.length : Int) - at_ - (1 : Int))), AVal.int IntKind.i64 id], AVal.int
 IntKind.i64 (0 : Int)]))))))))) (obl (decide (data.length ≤ 9223372036854775000)) (obl (decide ((0 : Int) ≤ at_ ∧ at_ ≤ (↑data.length : Int))) (obl (inI64 (at_ + ((↑data.length : Int) - at_))) (branch
 (decide (pErr typ k b (↑data.length : Int) = (0 : Int))) (K (Out.ret (AVal.tup [AVal.agg [AVal.bool false, AVal.bool true, AVal.int IntKind.i64 id, AVal.int IntKind.i64 (0 : Int), AVal.int IntKind.i64
 (0 : Int), AVal.int IntKind.i64 (0 : Int), AVal.str [], AVal.str (List.drop at_.toNat data), AVal.str (pSum typ k b data)], AVal.agg [AVal.int IntKind.i64 typ, AVal.int IntKind.i64 k, AVal.str b,
 AVal.str data, AVal.int IntKind.i64 (at_ + ((↑data.length : Int) - at_)), AVal.int IntKind.i64 id], AVal.int IntKind.i64 (0 : Int)]))) (obl (inI64 (max (0 : Int) (min space (4097 : Int)) - (3 : Int)))
 (obl (inI64 ((↑data.length : Int) - at_ - (1 : Int))) (branch (decide (min (max (0 : Int) (min space (4097 : Int)) - (3 : Int)) ((↑data.length : Int) - at_ - (1 : Int)) < (1 : Int))) (K (Out.ret
 (AVal.tup [AVal.agg [AVal.bool false, AVal.bool false, AVal.int IntKind.i64 (0 : Int), AVal.int IntKind.i64 (0 : Int), AVal.int IntKind.i64 (0 : Int), AVal.int IntKind.i64 (0 : Int), AVal.str [],
 AVal.str [], AVal.str []], AVal.agg [AVal.int IntKind.i64 typ, AVal.int IntKind.i64 k, AVal.str b, AVal.str data, AVal.int IntKind.i64 at_, AVal.int IntKind.i64 id], AVal.int IntKind.i64 (12 :
 Int)]))) (obl (inI64 (at_ + min (max (0 : Int) (min space (4097 : Int)) - (3 : Int)) ((↑data.length : Int) - at_ - (1 : Int)))) (obl (decide ((0 : Int) ≤ at_ ∧ at_ ≤ at_ + min (max (0 : Int) (min
 space (4097 : Int)) - (3 : Int)) ((↑data.length : Int) - at_ - (1 : Int)) ∧ at_ + min (max (0 : Int) (min space (4097 : Int)) - (3 : Int)) ((↑data.length : Int) - at_ - (1 : Int)) ≤ (↑data.length :
 Int))) (obl (inI64 (at_ + min (max (0 : Int) (min space (4097 : Int)) - (3 : Int)) ((↑data.length : Int) - at_ - (1 : Int)))) (K (Out.ret (AVal.tup [AVal.agg [AVal.bool false, AVal.bool false,
 AVal.int IntKind.i64 id, AVal.int IntKind.i64 (0 : Int), AVal.int IntKind.i64 (0 : Int), AVal.int IntKind.i64 (0 : Int), AVal.str [], AVal.str (List.drop at_.toNat (List.take (at_ + min (max (0 : Int)
 (min space (4097 : Int)) - (3 : Int)) ((↑data.length : Int) - at_ - (1 : Int))).toNat data)), AVal.str []], AVal.agg [AVal.int IntKind.i64 typ, AVal.int IntKind.i64 k, AVal.str b, AVal.str data,
 AVal.int IntKind.i64 (at_ + min (max (0 : Int) (min space (4097 : Int)) - (3 : Int)) ((↑data.length : Int) - at_ - (1 : Int))), AVal.int IntKind.i64 id], AVal.int IntKind.i64 (0 :
 Int)])))))))))))))))))) (obl (inI64 ((↑data.length : Int) - at_)) (branch (decide (at_ = (0 : Int))) (obl (inI64 (at_ + ((↑data.length : Int) - at_))) (obl (inI64 ((4 : Int) + lSize lk)) (obl (inI64
 ((4 : Int) + lSize lk + ((↑data.length : Int) - at_))) (branch (decide ((4 : Int) + lSize lk + ((↑data.length : Int) - at_) ≤ max (0 : Int) (min space (4097 : Int)))) (K (Out.ret (AVal.tup [AVal.agg
 [AVal.bool true, AVal.bool true, AVal.int IntKind.i64 (0 : Int), AVal.int IntKind.i64 (0 : Int), AVal.int IntKind.i64 typ, AVal.int IntKind.i64 lk, AVal.str lb, AVal.str data, AVal.str []], AVal.agg
 [AVal.int IntKind.i64 typ, AVal.int IntKind.i64 k, AVal.str b, AVal.str data, AVal.int IntKind.i64 (at_ + ((↑data.length : Int) - at_)), AVal.int IntKind.i64 id], AVal.int IntKind.i64 (0 : Int)])))
 (obl (inI64 (max (0 : Int) (min space (4097 : Int)) - (7 : Int))) (obl (inI64 (max (0 : Int) (min space (4097 : Int)) - (7 : Int) - lSize lk)) (obl (inI64 ((↑data.length : Int) - at_ - (1 : Int)))
 (branch whole (K (Out.ret (AVal.tup [AVal.agg [AVal.bool false, AVal.bool false, AVal.int IntKind.i64 (0 : Int), AVal.int IntKind.i64 (0 : Int), AVal.int IntKind.i64 (0 : Int), AVal.int IntKind.i64 (0
 : Int), AVal.str [], AVal.str [], AVal.str []], AVal.agg [AVal.int IntKind.i64 typ, AVal.int IntKind.i64 k, AVal.str b, AVal.str data, AVal.int IntKind.i64 at_, AVal.int IntKind.i64 id], AVal.int
 IntKind.i64 (12 : Int)]))) (branch (decide (min (max (0 : Int) (min space (4097 : Int)) - (7 : Int) - lSize lk) ((↑data.length : Int) - at_ - (1 : Int)) < (1 : Int))) (K (Out.ret (AVal.tup [AVal.agg
 [AVal.bool false, AVal.bool false, AVal.int IntKind.i64 (0 : Int), AVal.int IntKind.i64 (0 : Int), AVal.int IntKind.i64 (0 : Int), AVal.int IntKind.i64 (0 : Int), AVal.str [], AVal.str [], AVal.str
 []], AVal.agg [AVal.int IntKind.i64 typ, AVal.int IntKind.i64 k, AVal.str b, AVal.str data, AVal.int IntKind.i64 at_, AVal.int IntKind.i64 id], AVal.int IntKind.i64 (12 : Int)]))) (obl (inI64 (at_ +
 min (max (0 : Int) (min space (4097 : Int)) - (7 : Int) - lSize lk) ((↑data.length : Int) - at_ - (1 : Int)))) (obl (decide ((0 : Int) ≤ min (max (0 : Int) (min space (4097 : Int)) - (7 : Int) - lSize
 lk) ((↑data.length : Int) - at_ - (1 : Int)) ∧ min (max (0 : Int) (min space (4097 : Int)) - (7 : Int) - lSize lk) ((↑data.length : Int) - at_ - (1 : Int)) ≤ (↑data.length : Int))) (K (Out.ret
 (AVal.tup [AVal.agg [AVal.bool true, AVal.bool false, AVal.int IntKind.i64 id, AVal.int IntKind.i64 (pTotal lk lb ((↑data.length : Int) - at_)), AVal.int IntKind.i64 typ, AVal.int IntKind.i64 lk,
 AVal.str lb, AVal.str (List.take (min (max (0 : Int) (min space (4097 : Int)) - (7 : Int) - lSize lk) ((↑data.length : Int) - at_ - (1 : Int))).toNat data), AVal.str []], AVal.agg [AVal.int
 IntKind.i64 typ, AVal.int IntKind.i64 lk, AVal.str lb, AVal.str data, AVal.int IntKind.i64 (at_ + min (max (0 : Int) (min space (4097 : Int)) - (7 : Int) - lSize lk) ((↑data.length : Int) - at_ - (1 :
 Int))), AVal.int IntKind.i64 id], AVal.int IntKind.i64 (0 : Int)])))))))))))))) (obl (inI64 ((7 : Int) + ((↑data.length : Int) - at_))) (branch (decide (max (0 : Int) (min space (4097 : Int)) < (7 :
 Int) + ((↑data.length : Int) - at_))) (obl (inI64 (max (0 : Int) (min space (4097 : Int)) - (3 : Int))) (obl (inI64 ((↑data.length : Int) - at_ - (1 : Int))) (branch (decide (min (max (0 : Int) (min
 space (4097 : Int)) - (3 : Int)) ((↑data.length : Int) - at_ - (1 : Int)) < (1 : Int))) (K (Out.ret (AVal.tup [AVal.agg [AVal.bool false, AVal.bool false, AVal.int IntKind.i64 (0 : Int), AVal.int
 IntKind.i64 (0 : Int), AVal.int IntKind.i64 (0 : Int), AVal.int IntKind.i64 (0 : Int), AVal.str [], AVal.str [], AVal.str []], AVal.agg [AVal.int IntKind.i64 typ, AVal.int IntKind.i64 k, AVal.str b,
 AVal.str data, AVal.int IntKind.i64 at_, AVal.int IntKind.i64 id], AVal.int IntKind.i64 (12 : Int)]))) (obl (inI64 (at_ + min (max (0 : Int) (min space (4097 : Int)) - (3 : Int)) ((↑data.length : Int)
 - at_ - (1 : Int)))) (obl (decide ((0 : Int) ≤ at_ ∧ at_ ≤ at_ + min (max (0 : Int) (min space (4097 : Int)) - (3 : Int)) ((↑data.length : Int) - at_ - (1 : Int)) ∧ at_ + min (max (0 : Int) (min space
 (4097 : Int)) - (3 : Int)) ((↑data.length : Int) - at_ - (1 : Int)) ≤ (↑data.length : Int))) (obl (inI64 (at_ + min (max (0 : Int) (min space (4097 : Int)) - (3 : Int)) ((↑data.length : Int) - at_ -
 (1 : Int)))) (K (Out.ret (AVal.tup [AVal.agg [AVal.bool false, AVal.bool false, AVal.int IntKind.i64 id, AVal.int IntKind.i64 (0 : Int), AVal.int IntKind.i64 (0 : Int), AVal.int IntKind.i64 (0 : Int),
 AVal.str [], AVal.str (List.drop at_.toNat (List.take (at_ + min (max (0 : Int) (min space (4097 : Int)) - (3 : Int)) ((↑data.length : Int) - at_ - (1 : Int))).toNat data)), AVal.str []], AVal.agg
 [AVal.int IntKind.i64 typ, AVal.int IntKind.i64 k, AVal.str b, AVal.str data, AVal.int IntKind.i64 (at_ + min (max (0 : Int) (min space (4097 : Int)) - (3 : Int)) ((↑data.length : Int) - at_ - (1 :
 Int))), AVal.int IntKind.i64 id], AVal.int IntKind.i64 (0 : Int)]))))))))) (obl (decide (data.length ≤ 9223372036854775000)) (obl (decide ((0 : Int) ≤ at_ ∧ at_ ≤ (↑data.length : Int))) (obl (inI64
 (at_ + ((↑data.length : Int) - at_))) (branch (decide (pErr typ k b (↑data.length : Int) = (0 : Int))) (K (Out.ret (AVal.tup [AVal.agg [AVal.bool false, AVal.bool true, AVal.int IntKind.i64 id,
 AVal.int IntKind.i64 (0 : Int), AVal.int IntKind.i64 (0 : Int), AVal.int IntKind.i64 (0 : Int), AVal.str [], AVal.str (List.drop at_.toNat data), AVal.str (pSum typ k b data)], AVal.agg [AVal.int
 IntKind.i64 typ, AVal.int IntKind.i64 k, AVal.str b, AVal.str data, AVal.int IntKind.i64 (at_ + ((↑data.length : Int) - at_)), AVal.int IntKind.i64 id], AVal.int IntKind.i64 (0 : Int)]))) (obl (inI64
 (max (0 : Int) (min space (4097 : Int)) - (3 : Int))) (obl (inI64 ((↑data.length : Int) - at_ - (1 : Int))) (branch (decide (min (max (0 : Int) (min space (4097 : Int)) - (3 : Int)) ((↑data.length :
 Int) - at_ - (1 : Int)) < (1 : Int))) (K (Out.ret (AVal.tup [AVal.agg [AVal.bool false, AVal.bool false, AVal.int IntKind.i64 (0 : Int), AVal.int IntKind.i64 (0 : Int), AVal.int IntKind.i64 (0 : Int),
 AVal.int IntKind.i64 (0 : Int), AVal.str [], AVal.str [], AVal.str []], AVal.agg [AVal.int IntKind.i64 typ, AVal.int IntKind.i64 k, AVal.str b, AVal.str data, AVal.int IntKind.i64 at_, AVal.int
 IntKind.i64 id], AVal.int IntKind.i64 (12 : Int)]))) (obl (inI64 (at_ + min (max (0 : Int) (min space (4097 : Int)) - (3 : Int)) ((↑data.length : Int) - at_ - (1 : Int)))) (obl (decide ((0 : Int) ≤
 at_ ∧ at_ ≤ at_ + min (max (0 : Int) (min space (4097 : Int)) - (3 : Int)) ((↑data.length : Int) - at_ - (1 : Int)) ∧ at_ + min (max (0 : Int) (min space (4097 : Int)) - (3 : Int)) ((↑data.length :
 Int) - at_ - (1 : Int)) ≤ (↑data.length : Int))) (obl (inI64 (at_ + min (max (0 : Int) (min space (4097 : Int)) - (3 : Int)) ((↑data.length : Int) - at_ - (1 : Int)))) (K (Out.ret (AVal.tup [AVal.agg
 [AVal.bool false, AVal.bool false, AVal.int IntKind.i64 id, AVal.int IntKind.i64 (0 : Int), AVal.int IntKind.i64 (0 : Int), AVal.int IntKind.i64 (0 : Int), AVal.str [], AVal.str (List.drop at_.toNat
 (List.take (at_ + min (max (0 : Int) (min space (4097 : Int)) - (3 : Int)) ((↑data.length : Int) - at_ - (1 : Int))).toNat data)), AVal.str []], AVal.agg [AVal.int IntKind.i64 typ, AVal.int
 IntKind.i64 k, AVal.str b, AVal.str data, AVal.int IntKind.i64 (at_ + min (max (0 : Int) (min space (4097 : Int)) - (3 : Int)) ((↑data.length : Int) - at_ - (1 : Int))), AVal.int IntKind.i64 id],
 AVal.int IntKind.i64 (0 : Int)])))))))))))))))))))) := by kernel_rfl
end Go.Proofs.Ytjacnjecggedhaa
namespace Go.Proofs.Ytjacnjecggedhaa
set_option linter.unusedVariables false
set_option linter.unusedSimpArgs false
open Go.RowKit Ev
def nOk (typ k : Int) (b data : List UInt8) (at_ id lk : Int) (lb : List UInt8) : Bool := cMay typ k b data at_ id && lOk lk lb && (!decide (at_ = 0) || (decide (lk = k) && decide (lb = b)) || decide (lk = 3))
def nextV (typ k : Int) (b data : List UInt8) (at_ id lk : Int) (lb : List UInt8) (space : Int) (whole : Bool) : AVal :=
  if nOk typ k b data at_ id lk lb = false then .tup [pieceV false false 0 0 0 0 [] [] [], cutV typ k b data at_ id, .int .i64 2]
  else if at_ = 0 then
    if 4 + lSize lk + (data.length : Int) ≤ max 0 (min space 4097) then .tup [pieceV true true 0 0 typ lk lb data [], cutV typ k b data (data.length : Int) id, .int .i64 0]
    else if whole = true ∨ min (max 0 (min space 4097) - 7 - lSize lk) ((data.length : Int) - 1) < 1 then .tup [pieceV false false 0 0 0 0 [] [] [], cutV typ k b data at_ id, .int .i64 12]
    else .tup [pieceV true false id (pTotal lk lb (data.length : Int)) typ lk lb (data.take (min (max 0 (min space 4097) - 7 - lSize lk) ((data.length : Int) - 1)).toNat) [], cutV typ lk lb data (min (max 0 (min space 4097) - 7 - lSize lk) ((data.length : Int) - 1)) id, .int .i64 0]
  else if 7 + ((data.length : Int) - at_) ≤ max 0 (min space 4097) then .tup [pieceV false true id 0 0 0 [] (data.drop at_.toNat) (pSum typ k b data), cutV typ k b data (data.length : Int) id, .int .i64 0]
  else if min (max 0 (min space 4097) - 3) ((data.length : Int) - at_ - 1) < 1 then .tup [pieceV false false 0 0 0 0 [] [] [], cutV typ k b data at_ id, .int .i64 12]
  else .tup [pieceV false false id 0 0 0 [] ((data.take (at_ + min (max 0 (min space 4097) - 3) ((data.length : Int) - at_ - 1)).toNat).drop at_.toNat) [], cutV typ k b data (at_ + min (max 0 (min space 4097) - 3) ((data.length : Int) - at_ - 1)) id, .int .i64 0]
structure NextR where
  st : Bool
  en : Bool
  id : Int
  total : Int
  typ : Int
  k : Int
  lb : List UInt8
  data : List UInt8
  sum : List UInt8
  k2 : Int
  b2 : List UInt8
  at2 : Int
  err : Int
def nextR (typ k : Int) (b data : List UInt8) (at_ id lk : Int) (lb : List UInt8) (space : Int) (whole : Bool) : NextR :=
  if nOk typ k b data at_ id lk lb = false then ⟨false, false, 0, 0, 0, 0, [], [], [], k, b, at_, 2⟩
  else if at_ = 0 then
    if 4 + lSize lk + (data.length : Int) ≤ max 0 (min space 4097) then ⟨true, true, 0, 0, typ, lk, lb, data, [], k, b, (data.length : Int), 0⟩
    else if whole = true ∨ min (max 0 (min space 4097) - 7 - lSize lk) ((data.length : Int) - 1) < 1 then ⟨false, false, 0, 0, 0, 0, [], [], [], k, b, at_, 12⟩
    else ⟨true, false, id, pTotal lk lb (data.length : Int), typ, lk, lb, data.take (min (max 0 (min space 4097) - 7 - lSize lk) ((data.length : Int) - 1)).toNat, [], lk, lb, min (max 0 (min space 4097) - 7 - lSize lk) ((data.length : Int) - 1), 0⟩
  else if 7 + ((data.length : Int) - at_) ≤ max 0 (min space 4097) then ⟨false, true, id, 0, 0, 0, [], data.drop at_.toNat, pSum typ k b data, k, b, (data.length : Int), 0⟩
  else if min (max 0 (min space 4097) - 3) ((data.length : Int) - at_ - 1) < 1 then ⟨false, false, 0, 0, 0, 0, [], [], [], k, b, at_, 12⟩
  else ⟨false, false, id, 0, 0, 0, [], (data.take (at_ + min (max 0 (min space 4097) - 3) ((data.length : Int) - at_ - 1)).toNat).drop at_.toNat, [], k, b, at_ + min (max 0 (min space 4097) - 3) ((data.length : Int) - at_ - 1), 0⟩
def nextT (typ : Int) (data : List UInt8) (id : Int) (r : NextR) : AVal := .tup [pieceV r.st r.en r.id r.total r.typ r.k r.lb r.data r.sum, cutV typ r.k2 r.b2 data r.at2 id, .int .i64 r.err]
theorem nextT_eq (typ k : Int) (b data : List UInt8) (at_ id lk : Int) (lb : List UInt8) (space : Int) (whole : Bool) : nextT typ data id (nextR typ k b data at_ id lk lb space whole) = nextV typ k b data at_ id lk lb space whole := by
  unfold nextR nextV
  repeat' split
  all_goals rfl
def fcNext : FC := fun args _ => match args with
  | [.agg [.int .i64 typ, .int .i64 k, .str b, .str data, .int .i64 at_, .int .i64 id], .agg [.int .i64 lk, .str lb], .int .i64 space, .bool whole] => some (true, nextT typ data id (nextR typ k b data at_ id lk lb space whole))
  | _ => none
theorem cMay_iff {typ k at_ id : Int} {b data : List UInt8} : cMay typ k b data at_ id = true ↔ 0 ≤ typ ∧ typ ≤ 65535 ∧ lOk k b = true ∧ 0 ≤ at_ ∧ at_ < (data.length : Int) ∧ (data.length : Int) ≤ 65519 ∧ 0 ≤ id ∧ id < 256 := by
  unfold cMay; rw [decide_eq_true_eq]
theorem next_sound : FcSound Try.prog 78 fcNext := by
  refine fc_pure TC0ok.ctx (n := 100) Try.call78 (fun args H v h => ?_)
  unfold fcNext at h
  split at h <;> cases h
  rename_i typ k b data at_ id lk lb space whole
  refine ⟨rfl, rfl, ?_⟩
  rw [nextT_eq, w_next]
  have hk := lSize_le lk
  have hk' := lSize_le k
  have hl : (decide ((if lOk lk lb = true then (0 : Int) else 2) = 0)) = lOk lk lb := by cases lOk lk lb <;> rfl
  simp only [hl, Bool.and_true]
  cases hm : cMay typ k b data at_ id with
  | false =>
    show Out.ret _ = Out.ret _
    have : nOk typ k b data at_ id lk lb = false := by unfold nOk; rw [hm]; rfl
    unfold nextV; rw [if_pos this]
  | true =>
  obtain ⟨m1, m2, m3, m4, m5, m6, m7, m8⟩ := cMay_iff.1 hm
  cases hb : lOk lk lb with
  | false =>
    show Out.ret _ = Out.ret _
    have : nOk typ k b data at_ id lk lb = false := by unfold nOk; rw [hb]; simp
    unfold nextV; rw [if_pos this]
  | true =>
  have e1 : at_ + ((data.length : Int) - at_) = (data.length : Int) := by omega
  have hp : pErr typ k b (data.length : Int) = 0 := pErr_iff.2 ⟨m1, m2, m3, by omega⟩
  simp only [Bool.not_true, e1, hp]
  by_cases h0 : at_ = 0
  · subst h0
    have e2 : (data.length : Int) - 0 = (data.length : Int) := by omega
    simp only [e2, Int.zero_add]
    by_cases hq : ((decide (lk = k) && decide (lb = b)) || decide (lk = 3)) = true
    · have hn : nOk typ k b data 0 id lk lb = true := by unfold nOk; rw [hm, hb]; simpa using hq
      unfold nextV
      rw [if_neg (by rw [hn]; simp)]
      simp only [branch_iff, obl_iff, decide_eq_true_eq, decide_eq_false_iff_not, Bool.not_eq_true', Bool.not_eq_false', inI64_iff, if_true, true_implies, not_true_eq_false, false_implies, and_true, true_and, decide_true, Bool.not_false, Bool.not_true, reduceCtorEq] at hq ⊢
      have key : ∀ (p : Prop), p → p := fun _ h => h
      refine ⟨fun g1 => ⟨fun g2 => ?_, fun g2 => ?_⟩, fun g1 => ?_⟩
      · exfalso
        rw [g1] at hq
        simp only [Bool.false_or, decide_eq_true_eq] at hq
        exact g2 hq
      all_goals
        refine ⟨by omega, by omega, by omega, by omega, fun g3 => ?_, fun g3 => ⟨by omega, by omega, by omega, fun g4 => ?_, fun g4 => ⟨fun g5 => ?_, fun g5 => ⟨by omega, by omega, ?_⟩⟩⟩⟩
        · rw [if_pos g3]
        · rw [if_neg g3, if_pos (.inl g4)]
        · rw [if_neg g3, if_pos (.inr g5)]
        · rw [if_neg g3, if_neg (by rw [g4]; simp; omega)]
    · have hn : nOk typ k b data 0 id lk lb = false := by unfold nOk; rw [hm, hb]; simpa using hq
      unfold nextV
      rw [if_pos hn]
      simp only [Bool.or_eq_true, not_or, Bool.not_eq_true, decide_eq_false_iff_not] at hq
      rw [hq.1]
      simp [branch_iff, hq.2, branch, obl]
  · have hn : nOk typ k b data at_ id lk lb = true := by unfold nOk; rw [hm, hb]; simp [h0]
    unfold nextV
    rw [if_neg (by rw [hn]; simp), if_neg h0]
    simp only [branch_iff, obl_iff, h0, decide_eq_true_eq, decide_eq_false_iff_not, Bool.not_eq_true', Bool.not_eq_false', inI64_iff, if_true, true_implies, not_true_eq_false, false_implies, and_true, true_and, decide_true, Bool.not_false, Bool.not_true, reduceCtorEq, not_false_eq_true, decide_false]
    refine ⟨by omega, by omega, fun g1 => ⟨by omega, by omega, fun g2 => ?_, fun g2 => ⟨by omega, by omega, by omega, ?_⟩⟩, fun g1 => ⟨by omega, by omega, by omega, ?_⟩⟩
    · rw [if_neg (by omega), if_pos g2]
    · rw [if_neg (by omega), if_neg g2]
    · rw [if_pos (by omega)]
noncomputable def TC : Tabs := (TC0.addFc 78 fcNext)
theorem TCok : TabsOk TC Try.prog := (TC0ok.addFc next_sound)
end Go.Proofs.Ytjacnjecggedhaa
namespace Go.Proofs.Ytjacnjecggedhaa
set_option linter.unusedVariables false
set_option linter.unusedSimpArgs false
open Go.RowKit Ev
noncomputable def TE : Tabs := (((TD.addFc 80 fcMayC).addFc 82 fcGone).addFc 78 fcNext)
theorem TEok : TabsOk TE Try.prog := (((TDok.addFc mayC_sound).addFc gone_sound).addFc next_sound)
end Go.Proofs.Ytjacnjecggedhaa
namespace Go.Proofs.Ytjacnjecggedhaa.Ev
set_option linter.unusedVariables false
set_option linter.unusedSimpArgs false
open Go.RowKit
theorem opIn_of_wp {P : Program} {o : Oper} {a : Act} {w : World} {next : Act → World → Prop} {Q : Exit → Act → World → Prop} (h : o.wp P a w next Q) (hnd : ∀ c, o.op ≠ .defer c) (ro : Option Nat) (m : Nat) :
    o.wpIn { Fence.wide with round := ro } m P a w next Q := by
  refine ⟨fun f _ => trivial, ?_⟩
  have e : o.semAt ro a.eval = execOp a.eval o := Oper.semAt_eq ro _ _ hnd
  show o.uponIn _ _ _ _ _ _ ((o.semAt ro a.eval).run P w)
  rw [e]
  unfold Oper.wp at h
  generalize (execOp a.eval o).run P w = r at h
  unfold Oper.upon at h
  unfold Oper.uponIn
  split at h
  · exact h
  · exact h
  · exact h
  · refine ⟨fun hd => by simp [Fence.wide] at hd, ?_⟩
    have := (callsIn_wide (n := m - 1)).2 h
    exact this
  · refine ⟨fun hd => by simp [Fence.wide] at hd, ?_⟩
    intro c cs _
    obtain ⟨v, w', h1, h2⟩ := h c cs
    exact ⟨v, w', h1, stepsIn_wide.2 h2⟩
  · exact h
  · exact h.elim
def notDefer (o : Oper) : Bool := match o.op with
  | .defer _ => false
  | _ => true
theorem notDefer_ne {o : Oper} (h : notDefer o = true) : ∀ c, o.op ≠ .defer c := by
  intro c hc
  simp [notDefer, hc] at h
theorem wpSeqI_sound [Dfs] {X : Ctx} (hX : CtxRows X) (hF : FcOk X) {sm : Bool} {cf : CallF} (hC : CallOk X cf) {ops : Array Oper} {Q : AExit → Env → AHeap → Prop} {ρ0 : Rho} {H0 : AHeap} {w0 : World} {n : Nat} (hdst : ∀ (j : Nat) (o : Oper) (t : Nat), ops[j]? = some o → o.dst = some t → t < n) (hnd : ∀ (j : Nat) (o : Oper), ops[j]? = some o → notDefer o = true) (ro : Option Nat) (m : Nat) :
    ∀ (rest : List Oper) (k : Nat), (∀ j, rest[j]? = ops[k + j]?) → ∀ (E : Env) (H : AHeap) (ρ : Rho) (a : Act) (w : World), wpSeq X sm cf ops.toList rest E H Q → Step ρ0 H0 w0 ρ H w → RelE ρ H.next E a → a.defers = Dfs.D → a.tmps.size = n →
      wpOpsIn { Fence.wide with round := ro } m X.P ops (Lift ρ0 H0 w0 n Q) (List.range' k rest.length) a w
  | [], k, _, E, H, ρ, a, w, h, hS, hE, hd, hn => ⟨.normal, E, H, ρ, trivial, h, hE, hd, hn, hS⟩
  | o :: rest, k, hr, E, H, ρ, a, w, h, hS, hE, hd, hn => by
    have h0 : ops[k]? = some o := by simpa using (hr 0).symm
    have hr' : ∀ j, rest[j]? = ops[k + 1 + j]? := fun j => by have := hr (j + 1); simpa [Nat.add_assoc, Nat.add_comm 1 j] using this
    have hdo : ∀ t, o.dst = some t → t < n := fun t ht => hdst k o t h0 ht
    simp only [List.length_cons, List.range'_succ, wpOpsIn, h0]
    have yes : ∀ E', RelE ρ H.next E' a → stepA X sm cf o E' H (fun E H => wpSeq X sm cf ops.toList rest E H Q) Q → o.wpIn { Fence.wide with round := ro } m X.P a w (wpOpsIn { Fence.wide with round := ro } m X.P ops (Lift ρ0 H0 w0 n Q) (List.range' (k + 1) rest.length)) (Lift ρ0 H0 w0 n Q) := by
      intro E' hE' hs
      exact opIn_of_wp (stepA_sound hX hF hC hs hS hE' hd hn hdo (fun E'' H'' ρ'' a'' w'' hk hS' hE'' hd' hn' _ _ => wpSeqI_sound hX hF hC hdst hnd ro m rest (k + 1) hr' E'' H'' ρ'' a'' w'' hk hS' hE'' hd' hn')) (notDefer_ne (hnd k o h0)) ro m
    have no : ∀ E', RelE ρ H.next E' a → wpSeq X sm cf ops.toList rest (putE E' o.dst (.tup [])) H Q → (∀ f, o.about X.P w a.eval = some f → True) ∧ wpOpsIn { Fence.wide with round := ro } m X.P ops (Lift ρ0 H0 w0 n Q) (List.range' (k + 1) rest.length) (a.put o.dst undef) w := by
      intro E' hE' hs
      have := hE'.put (v := .tup []) (dst := o.dst) rfl (fun t ht => by rw [hn]; exact hdo t ht)
      exact ⟨fun _ _ => trivial, wpSeqI_sound hX hF hC hdst hnd ro m rest (k + 1) hr' _ H ρ _ w hs hS this (by rw [put_defers]; exact hd) (by rw [put_size]; exact hn)⟩
    unfold wpSeq at h
    split at h
    · rename_i hw
      rw [if_pos (wantA_yes hw a)]
      exact yes E hE h
    · rename_i hw
      rw [if_neg (by rw [wantA_no hw hE]; simp)]
      exact no E hE h
    · rename_i t b want hw
      obtain ⟨h1, h2⟩ := wantA_ask hw hE
      rw [h1]
      split at h
      · rw [branch_iff] at h
        cases b with
        | true => rw [if_pos (show (true == true) = true from rfl)]; exact yes _ (hE.over h2) (h.1 rfl)
        | false => rw [if_neg (by simp)]; exact no _ (hE.over h2) (h.2 rfl)
      · rw [branch_iff] at h
        cases b with
        | true => rw [if_neg (by simp)]; exact no _ (hE.over h2) (h.1 rfl)
        | false => rw [if_pos (show (false == false) = true from rfl)]; exact yes _ (hE.over h2) (h.2 rfl)
    · exact (not_stuck h).elim
def plainC : Code → Bool
  | .skip | .ret | .exit _ => true
  | .seq a b => plainC a && plainC b
  | .cond _ a b => plainC a && plainC b
  | .block _ c => plainC c
  | .region _ ops draw => !draw && ops.toList.all notDefer
  | _ => false
theorem callC_all {X : Ctx} (hX : CtxOk X) (n : Nat) : CallOk X (callC X n) := callC_ok hX n
theorem wpCI_sound {X : Ctx} (hX : CtxOk X) [Dfs] {fn : Func} (ro : Option Nat) (m : Nat) : ∀ (n : Nat) (f : FuncId) (base : Nat) (c : Code) (E : Env) (H : AHeap) (Q : AExit → Env → AHeap → Prop), wpC X n f base c E H Q →
    (∀ p ∈ blocksC c, X.lcs f p.1 = none) → plainC c = true → okDst fn.ntmps c = true → ∀ {ρ0 : Rho} {H0 : AHeap} {w0 : World} {N : Nat} {ρ : Rho} {a : Act} {w : World}, fn.ntmps ≤ N →
      Step ρ0 H0 w0 ρ H w → RelE ρ H.next E a → a.defers = Dfs.D → a.tmps.size = N → c.wpIn { Fence.wide with round := ro } m X.P (Lift ρ0 H0 w0 N Q) a w := by
  intro n
  induction n with
  | zero => intro f base c E H Q h; exact (not_stuck h).elim
  | succ n ih =>
    intro f base c E H Q h hl hp hok ρ0 H0 w0 N ρ a w hN0 hS hE hd hN
    unfold wpC at h
    cases c with
    | skip => exact wpIn_skip ⟨.normal, E, H, ρ, trivial, h, hE, hd, hN, hS⟩
    | ret => exact wpIn_ret ⟨.ret, E, H, ρ, trivial, h, hE, hd, hN, hS⟩
    | exit id => exact wpIn_exit ⟨.exit id, E, H, ρ, rfl, h, hE, hd, hN, hS⟩
    | seq x y =>
      simp only [okDst, plainC, Bool.and_eq_true] at hok hp
      refine wpIn_seq (wpIn_mono (ih f base x E H _ h (fun p hpp => hl p (by simp [blocksC, hpp])) hp.1 hok.1 hN0 hS hE hd hN) ?_)
      rintro e a' w' ⟨x', E', H', ρ', h1, h2, h3, h4, h5, h6⟩
      cases x' with
      | normal =>
        cases e <;> simp only [AExit.rel] at h1
        exact ih f base y E' H' Q h2 (fun p hpp => hl p (by simp [blocksC, hpp])) hp.2 hok.2 hN0 h6 h3 h4 h5
      | exit i => cases e <;> simp only [AExit.rel] at h1; exact ⟨.exit i, E', H', ρ', h1, h2, h3, h4, h5, h6⟩
      | ret => cases e <;> simp only [AExit.rel] at h1; exact ⟨.ret, E', H', ρ', trivial, h2, h3, h4, h5, h6⟩
      | panic v => cases e <;> simp only [AExit.rel] at h1; exact ⟨.panic v, E', H', ρ', h1, h2, h3, h4, h5, h6⟩
    | cond b x y =>
      simp only [okDst, plainC, Bool.and_eq_true] at hok hp
      simp only at h
      split at h
      · rename_i b' hb
        obtain ⟨h1, h2⟩ := evalO_tr hE hb
        rw [branch_iff] at h
        refine wpIn_cond_split (t := b') (by rw [h1]; rfl) (fun ht => ?_) (fun ht => ?_)
        · exact ih f base x E H Q (h.1 ht) (fun p hpp => hl p (by simp [blocksC, hpp])) hp.1 hok.1 hN0 hS hE hd hN
        · exact ih f base y E H Q (h.2 ht) (fun p hpp => hl p (by simp [blocksC, hpp])) hp.2 hok.2 hN0 hS hE hd hN
      · exact h.elim
    | block id c =>
      simp only [okDst, plainC] at hok hp
      have hlc : X.lcs f id = none := hl (id, c) (by simp [blocksC])
      simp only [hlc] at h
      refine wpIn_block (wpIn_mono (ih f base c E H _ h (fun p hpp => hl p (by simp [blocksC, hpp])) hp hok hN0 hS hE hd hN) ?_)
      rintro e a' w' ⟨x', E', H', ρ', h1, h2, h3, h4, h5, h6⟩
      cases x' with
      | normal => cases e <;> simp only [AExit.rel] at h1; exact ⟨.normal, E', H', ρ', trivial, h2, h3, h4, h5, h6⟩
      | exit i =>
        cases e <;> simp only [AExit.rel] at h1
        subst h1
        simp only [inBlk] at h2
        split at h2
        · rename_i hi
          have := nat_beq_eq.1 hi
          simp only [Exit.inBlock, if_pos this]
          exact ⟨.normal, E', H', ρ', trivial, h2, h3, h4, h5, h6⟩
        · rename_i hi
          have := nat_beq_ne.1 hi
          simp only [Exit.inBlock, if_neg this]
          exact ⟨.exit i, E', H', ρ', rfl, h2, h3, h4, h5, h6⟩
      | ret => cases e <;> simp only [AExit.rel] at h1; exact ⟨.ret, E', H', ρ', trivial, h2, h3, h4, h5, h6⟩
      | panic v => cases e <;> simp only [AExit.rel] at h1; exact ⟨.panic v, E', H', ρ', h1, h2, h3, h4, h5, h6⟩
    | region id ops draw =>
      simp only [okDst, plainC, Bool.and_eq_true, Bool.not_eq_true'] at hok hp
      obtain ⟨rfl, hp⟩ := hp
      have hdst : ∀ (j : Nat) (o : Oper) (t : Nat), ops[j]? = some o → o.dst = some t → t < N := by
        intro j o t hj ht
        rw [List.all_eq_true] at hok
        have := hok o (List.mem_of_getElem? (by simpa using hj))
        rw [ht] at this
        have hlt : t < fn.ntmps := by simpa using this
        omega
      have hnd : ∀ (j : Nat) (o : Oper), ops[j]? = some o → notDefer o = true := by
        intro j o hj
        rw [List.all_eq_true] at hp
        exact hp o (List.mem_of_getElem? (by simpa using hj))
      refine wpIn_region ?_
      have := wpSeqI_sound hX.rows hX.fcs (callC_all hX n) (ops := ops) hdst hnd ro m ops.toList 0 (by simp) E H ρ a w h hS hE hd hN
      rw [List.range_eq_range']
      simpa using this
    | _ => simp [plainC] at hp
theorem own_cells {ρ : Rho} {H : AHeap} {w : World} (hR : Rel ρ H w) {g : Nat} (h : Owns ρ H g) : ∃ cs e fz, w.heap[g]? = some (.cells cs e fz) := by
  obtain ⟨b, x, hx, ho, rfl⟩ := h
  obtain ⟨_, _, _, h4⟩ := hR.blk b x hx
  cases x with
  | cells e l => obtain ⟨_, _, fz, h, _⟩ := h4; exact ⟨_, _, _, h⟩
  | row e T l md =>
    cases md with
    | plain => obtain ⟨cur, fz, h, _⟩ := h4.cells; exact ⟨_, _, _, h⟩
    | strish => obtain ⟨cur, fz, h, _⟩ := h4.cells; exact ⟨_, _, _, h⟩
    | ro => cases ho
  | dead => cases ho
theorem Rel.obj {ρ : Rho} {H : AHeap} {w : World} (hR : Rel ρ H w) {l : Nat} {o : Obj} (ho : w.heap[l]? = some o) (hc : o.isCells = false) (o' : Obj) : Rel ρ H (w.putObj l o') := by
  refine ⟨fun b x hx => ?_, hR.inj⟩
  obtain ⟨h1, h2, h3, h4⟩ := hR.blk b x hx
  have keep : ∀ {cs e fz}, w.heap[ρ.blk b]? = some (.cells cs e fz) → (w.putObj l o').heap[ρ.blk b]? = some (.cells cs e fz) := by
    intro cs e fz h
    rw [World.putObj_heap_other (fun e => by rw [e, ho] at h; cases h; simp [Obj.isCells] at hc)]
    exact h
  refine ⟨h1, h2, by simpa using h3, ?_⟩
  cases x with
  | cells e l' => obtain ⟨q1, q2, fz, q3, q4⟩ := h4; exact ⟨q1, q2, fz, keep q3, q4⟩
  | row e T l' md =>
    cases md with
    | plain => obtain ⟨q1, q2, q3, cur, fz, q4, q5⟩ := h4; exact ⟨q1, q2, q3, cur, fz, keep q4, q5⟩
    | strish => obtain ⟨q1, q2, q3, cur, fz, q4, q5⟩ := h4; exact ⟨q1, q2, q3, cur, fz, keep q4, q5⟩
    | ro =>
      obtain ⟨q1, q2, q3, q4⟩ := h4
      refine ⟨q1, q2, by simpa using q3, fun i v hi => ?_⟩
      have := q4 i v hi
      unfold World.cell? at this ⊢
      simp only at this ⊢
      split at this
      · rename_i cs e' fz hcs
        rw [keep hcs]
        exact this
      · cases this
  | dead => trivial
theorem Step.obj {ρ0 ρ : Rho} {H0 H : AHeap} {w0 w : World} (hS : Step ρ0 H0 w0 ρ H w) {l : Nat} {o : Obj} (hl : w0.heap.size ≤ l) (ho : w.heap[l]? = some o) (hc : o.isCells = false) (o' : Obj) : Step ρ0 H0 w0 ρ H (w.putObj l o') :=
  ⟨hS.agree, hS.next, hS.rel.obj ho hc o', hS.os, hS.tape, hS.output, by simpa using hS.size, fun g hg hn => by rw [World.putObj_heap_other (by omega)]; exact hS.old g hg hn, hS.owns⟩
theorem Step.keeps {ρ ρ' : Rho} {H H' : AHeap} {w w' : World} (hS : Step ρ H w ρ' H' w') {l : Nat} {o : Obj} (ho : w.heap[l]? = some o) (hc : o.isCells = false) (hR : Rel ρ H w) : w'.heap[l]? = some o := by
  rw [hS.old l (Array.getElem?_eq_some_iff.1 ho).1 fun hn => by
    obtain ⟨cs, e, fz, h⟩ := own_cells hR hn
    rw [ho] at h
    cases h
    simp [Obj.isCells] at hc]
  exact ho
def recL (f : Nat) (T : Array Value) (ps : Array Tmp) (assign body : Code) (D : Nat) (pd : Option Code) : Loop :=
  { state := if pd.isNone then .ready else .done, pending := pd, fn := f, tmps := T, params := ps, assign, body, defers := D }
def foldE : List Nat → List AVal → Env → Env
  | t :: ts, v :: vs, E => foldE ts vs ((t, v) :: E)
  | _, _, E => E
theorem foldE_rel {ρ : Rho} {N : Nat} : ∀ (ps : List Nat) (as : List AVal) (E : Env) (T : Array Value), RelE ρ N E { tmps := T, defers := [] } → belowL N as = true → (∀ t ∈ ps, t < T.size) →
    RelE ρ N (foldE ps as E) { tmps := (ps.zip (trL ρ as)).foldl (fun t p => t.setIfInBounds p.1 p.2) T, defers := [] }
  | [], as, E, T, h, _, _ => by cases as <;> exact h
  | t :: ts, [], E, T, h, _, _ => h
  | t :: ts, v :: vs, E, T, h, hb, ht => by
    simp only [belowL, Bool.and_eq_true] at hb
    simp only [foldE, trL, List.zip_cons_cons, List.foldl_cons]
    refine foldE_rel ts vs _ _ ?_ hb.2 (fun x hx => by simpa using ht x (List.mem_cons_of_mem _ hx))
    have := h.put (v := v) (dst := some t) hb.1 (fun t' ht' => by cases ht'; exact ht _ (List.mem_cons_self))
    exact ⟨fun u x hx => this.get u x hx⟩
noncomputable def roundA (X : Ctx) (n f : Nat) (ET : Env) (ps : List Nat) (assign body : Code) (as : List AVal) (H : AHeap) (K : Option Code → AHeap → Prop) : Prop :=
  match Nat.beq as.length ps.length with
  | true => wpC X n f H.next assign (foldE ps as ET) H fun x E1 H1 => match x with
    | .normal => wpC X n f H.next body E1 H1 fun x _ H2 => match x with
      | .normal => K none H2
      | .ret => K (some .ret) H2
      | .exit i => K (some (.exit i)) H2
      | .panic _ => False
    | _ => False
  | false => False
structure LoopOk (X : Ctx) (f : Nat) (fn : Func) (ps : List Nat) (assign body : Code) : Prop where
  la : ∀ p ∈ blocksC assign, X.lcs f p.1 = none
  lb : ∀ p ∈ blocksC body, X.lcs f p.1 = none
  pa : plainC assign = true
  pb : plainC body = true
  oa : okDst fn.ntmps assign = true
  ob : okDst fn.ntmps body = true
  ps : ∀ t ∈ ps, t < fn.ntmps
theorem round_sound {X : Ctx} (hX : CtxOk X) {f n fr : Nat} {fn : Func} {ps : List Nat} {assign body : Code} (hL : LoopOk X f fn ps assign body) {ET : Env} {T : Array Value} {as : List AVal} {H : AHeap} {K : Option Code → AHeap → Prop} (h : roundA X n f ET ps assign body as H K)
    {ρ0 ρ : Rho} {H0 : AHeap} {w0 w : World} {l D : Nat} (hS : Step ρ0 H0 w0 ρ H w) (hT : RelE ρ H.next ET { tmps := T, defers := [] }) (hTs : fn.ntmps ≤ T.size) (has : belowL H.next as = true) (hl0 : w0.heap.size ≤ l)
    (hl : w.heap[l]? = some (.loop (recL fr T ps.toArray assign body D none))) (hD : w.heap[D]? = some (.deferred (some []))) (m : Nat) :
    ∃ T', (Instr.yield l (trL ρ as).toArray).run X.P w = .ok (.round l fr T' assign body) w ∧ RoundIn Fence.wide m X.P l fr T' assign body w fun e w' => ∃ jump H' ρ', e = .returned (.bool jump.isNone) ∧ K jump H' ∧ Rho.agree H.next ρ ρ' ∧ H.next ≤ H'.next ∧ Step ρ0 H0 w0 ρ' H' w' ∧ w'.heap[l]? = some (.loop (recL fr T ps.toArray assign body D jump)) ∧ w'.heap[D]? = some (.deferred (some [])) := by
  have hlen : as.length = ps.length := by
    unfold roundA at h
    split at h
    · rename_i hb; exact nat_beq_eq.1 hb
    · exact h.elim
  have hy := run_yield (P := X.P) (args := (trL ρ as).toArray) hl (by simp [recL, trL_length, hlen])
  refine ⟨_, hy, ?_⟩
  unfold roundA at h
  rw [nat_beq_eq.2 hlen] at h
  simp only at h
  have hR := hS.rel
  have hne : l ≠ D := by rintro rfl; rw [hl] at hD; cases hD
  have hE0 := foldE_rel ps as ET T hT has (fun t ht => Nat.lt_of_lt_of_le (hL.ps t ht) hTs)
  have hfold : ((recL fr T ps.toArray assign body D none).params.zip (trL ρ as).toArray).foldl (fun tmps (t, a) => tmps.setIfInBounds t a) (recL fr T ps.toArray assign body D none).tmps = (ps.zip (trL ρ as)).foldl (fun t p => t.setIfInBounds p.1 p.2) T := by
    simp [recL]
  rw [hfold]
  refine roundIn_of_wpIn (F := Fence.wide) trivial ?_
  have hsz : ∀ (q : List (Nat × Value)) (T : Array Value), (q.foldl (fun t p => t.setIfInBounds p.1 p.2) T).size = T.size := by
    intro q
    induction q with
    | nil => intro T; rfl
    | cons p q ih => intro T; simp [ih]
  refine wpIn_mono (@wpCI_sound X hX ⟨[]⟩ fn (some l) m n f H.next assign _ H _ h hL.la hL.pa hL.oa _ _ _ _ _ _ _ (by rw [hsz]; exact hTs) (Step.refl hR) hE0 rfl rfl) ?_
  rintro e a1 w1 ⟨x1, E1, H1, ρ1, p1, p2, p3, p4, p5, p6⟩
  cases x1 with
  | exit i => exact p2.elim
  | ret => exact p2.elim
  | panic v => exact p2.elim
  | normal =>
    cases e <;> simp only [AExit.rel] at p1
    have hl1 := p6.keeps hl rfl hR
    have hD1 := p6.keeps hD rfl hR
    refine ⟨_, run_beginRound hl1 rfl, ?_⟩
    have hlt1 := (Array.getElem?_eq_some_iff.1 hl1).1
    have hS1 := (hS.trans p6).obj hl0 hl1 rfl (.loop { recL fr T ps.toArray assign body D none with state := .busy })
    have hl2 : (w1.putObj l (.loop { recL fr T ps.toArray assign body D none with state := .busy })).heap[l]? = some (.loop { recL fr T ps.toArray assign body D none with state := .busy }) := World.putObj_heap_same hlt1
    have hD2 : (w1.putObj l (.loop { recL fr T ps.toArray assign body D none with state := .busy })).heap[D]? = some (.deferred (some [])) := (World.putObj_heap_other (Ne.symm hne)).trans hD1
    refine wpIn_mono (@wpCI_sound X hX ⟨[]⟩ fn (some l) m n f H.next body E1 H1 _ p2 hL.lb hL.pb hL.ob _ _ _ _ _ _ _ (by rw [p5, hsz]; exact hTs) (Step.refl hS1.rel) p3 p4 rfl) ?_
    rintro e a3 w3 ⟨x3, E3, H3, ρ3, q1, q2, q3, q4, q5, q6⟩
    have hl3 := q6.keeps hl2 rfl hS1.rel
    have hD3 := q6.keeps hD2 rfl hS1.rel
    have hlt3 := (Array.getElem?_eq_some_iff.1 hl3).1
    have fin : ∀ jump : Option Code, K jump H3 → ∃ v w', (Instr.endRound l jump).run X.P w3 = .ok v w' ∧ ∃ jump' H' ρ', Ending.returned v = .returned (.bool jump'.isNone) ∧ K jump' H' ∧ Rho.agree H.next ρ ρ' ∧ H.next ≤ H'.next ∧ Step ρ0 H0 w0 ρ' H' w' ∧ w'.heap[l]? = some (.loop (recL fr T ps.toArray assign body D jump')) ∧ w'.heap[D]? = some (.deferred (some [])) := by
      intro jump hk
      refine ⟨_, _, run_endRound jump hl3, jump, H3, ρ3, rfl, hk, (p6.agree.trans q6.agree p6.next), Nat.le_trans p6.next q6.next, (hS1.trans q6).obj hl0 hl3 rfl _, ?_, (World.putObj_heap_other (Ne.symm hne)).trans hD3⟩
      rw [World.putObj_heap_same hlt3]
      rfl
    cases x3 with
    | normal => cases e <;> simp only [AExit.rel] at q1; exact fin none q2
    | ret => cases e <;> simp only [AExit.rel] at q1; exact fin (some .ret) q2
    | exit i => cases e <;> simp only [AExit.rel] at q1; subst q1; exact fin (some (.exit i)) q2
    | panic v => exact q2.elim
def isYield (y : Nat) (o : Oper) (E : Env) : Option (List AVal) := match o.op with
  | .call { callee := .value x, args := args, .. } => match evalO E x with
    | some (.yld b) => match Nat.beq b y with
      | true => evalL E args.toList
      | false => none
    | _ => none
  | _ => none
abbrev YF := List AVal → AHeap → (Option Code → AHeap → Prop) → Prop
noncomputable def goY (X : Ctx) (sm : Bool) (cf : CallF) (y : Nat) (Y : YF) (R : Env → AHeap → Option Code → Prop) (o : Oper) (E : Env) (H : AHeap) (pd : Option Code) (Q : AExit → Env → AHeap → Option Code → Prop) : Prop :=
  match isYield y o E with
  | some as => match pd with
    | none => Y as H fun j H' => R (putE E o.dst (.bool j.isNone)) H' j
    | some _ => Stuck 50 [o]
  | none => stepA X sm cf o E H (fun E H => R E H pd) (fun x E H => Q x E H pd)
noncomputable def wpSeqY (X : Ctx) (sm : Bool) (cf : CallF) (y : Nat) (Y : YF) (all : List Oper) : List Oper → Env → AHeap → Option Code → (AExit → Env → AHeap → Option Code → Prop) → Prop
  | [], E, H, pd, Q => Q .normal E H pd
  | o :: rest, E, H, pd, Q =>
    match wantA all o E with
    | .yes => goY X sm cf y Y (fun E H pd => wpSeqY X sm cf y Y all rest E H pd Q) o E H pd Q
    | .no => wpSeqY X sm cf y Y all rest (putE E o.dst (.tup [])) H pd Q
    | .ask t b want => match want with
      | true => branch b (goY X sm cf y Y (fun E H pd => wpSeqY X sm cf y Y all rest E H pd Q) o ((t, .bool true) :: E) H pd Q) (wpSeqY X sm cf y Y all rest (putE ((t, .bool false) :: E) o.dst (.tup [])) H pd Q)
      | false => branch b (wpSeqY X sm cf y Y all rest (putE ((t, .bool true) :: E) o.dst (.tup [])) H pd Q) (goY X sm cf y Y (fun E H pd => wpSeqY X sm cf y Y all rest E H pd Q) o ((t, .bool false) :: E) H pd Q)
    | .bad => Stuck 3 [o]
noncomputable def wpY (X : Ctx) (y : Nat) (Y : YF) : Nat → Nat → Code → Env → AHeap → Option Code → (AExit → Env → AHeap → Option Code → Prop) → Prop
  | 0, _, _, _, _, _, _ => Stuck 8 []
  | n + 1, g, c, E, H, pd, Q => match c with
    | .skip => Q .normal E H pd
    | .seq x x' => wpY X y Y n g x E H pd fun e E H pd => match e with
      | .normal => wpY X y Y n g x' E H pd Q
      | .exit i => Q (.exit i) E H pd
      | .ret => Q .ret E H pd
      | .panic v => Q (.panic v) E H pd
    | .cond b x x' => match evalO E b with
      | some (.bool b) => branch b (wpY X y Y n g x E H pd Q) (wpY X y Y n g x' E H pd Q)
      | _ => False
    | .block id c => wpY X y Y n g c E H pd fun e E H pd => match e with
      | .exit i => match Nat.beq i id with
        | true => Q .normal E H pd
        | false => Q (.exit i) E H pd
      | .normal => Q .normal E H pd
      | .ret => Q .ret E H pd
      | .panic v => Q (.panic v) E H pd
    | .loop c => wpY X y Y n g c E H pd fun e E H pd => match e with
      | .normal => wpY X y Y n g (.loop c) E H pd Q
      | .exit i => Q (.exit i) E H pd
      | .ret => Q .ret E H pd
      | .panic v => Q (.panic v) E H pd
    | .exit id => Q (.exit id) E H pd
    | .ret => Q .ret E H pd
    | .region _ ops draw => match draw with
      | false => wpSeqY X (X.sms g) (callC X 100) y Y ops.toList ops.toList E H pd Q
      | true => Stuck 51 []
    | _ => Stuck 9 []
def LoopAt (l D f : Nat) (T : Array Value) (ps : List Nat) (assign body : Code) (pd : Option Code) (w : World) : Prop :=
  w.heap[l]? = some (.loop (recL f T ps.toArray assign body D pd)) ∧ w.heap[D]? = some (.deferred (some []))
def LiftY (ρ0 : Rho) (H0 : AHeap) (w0 : World) (n : Nat) (At : Option Code → World → Prop) (Q : AExit → Env → AHeap → Option Code → Prop) : Exit → Act → World → Prop := fun x a w =>
  ∃ x' E H ρ pd, AExit.rel ρ H.next x' x ∧ Q x' E H pd ∧ RelE ρ H.next E a ∧ a.defers = [] ∧ a.tmps.size = n ∧ Step ρ0 H0 w0 ρ H w ∧ At pd w
def YOk (X : Ctx) (y : Nat) (Y : YF) (ρ0 : Rho) (H0 : AHeap) (w0 : World) (At : Option Code → World → Prop) : Prop :=
  ∀ as H K, Y as H K → ∀ ρ w, Step ρ0 H0 w0 ρ H w → belowL H.next as = true → At none w → ∀ m, ∃ f T' assign body, (Instr.yield (ρ.blk y) (trL ρ as).toArray).run X.P w = .ok (.round (ρ.blk y) f T' assign body) w ∧
    RoundIn Fence.wide m X.P (ρ.blk y) f T' assign body w fun e w' => ∃ jump H' ρ', e = .returned (.bool jump.isNone) ∧ K jump H' ∧ Rho.agree H.next ρ ρ' ∧ H.next ≤ H'.next ∧ Step ρ0 H0 w0 ρ' H' w' ∧ At jump w'
def AtKeeps (At : Option Code → World → Prop) : Prop := ∀ pd w w', At pd w → (∀ (g : Nat) (o : Obj), w.heap[g]? = some o → o.isCells = false → w'.heap[g]? = some o) → At pd w'
theorem loopAt_keeps {l D f : Nat} {T : Array Value} {ps : List Nat} {assign body : Code} : AtKeeps (LoopAt l D f T ps assign body) := fun pd w w' h hk => ⟨hk _ _ h.1 rfl, hk _ _ h.2 rfl⟩
theorem uponIn_mono {F : Fence} {n : Nat} {P : Program} {o : Oper} {a : Act} {next : Act → World → Prop} {Q Q' : Exit → Act → World → Prop} {r : Result Next} (h : o.uponIn F n P a next Q r) (hq : ∀ x a w, Q x a w → Q' x a w) : o.uponIn F n P a next Q' r := by
  have out : LetsOut Q → LetsOut Q' := fun ⟨a, w, h⟩ => ⟨a, w, hq _ _ _ h⟩
  unfold Oper.uponIn at h ⊢
  split at h
  · exact h
  · exact h
  · exact h
  · refine ⟨h.1, h.2.mono ?_⟩
    intro e w' he
    cases e with
    | returned v => exact he
    | panicked ch => exact hq _ _ _ he
    | outgrown => exact out he
  · exact h
  · refine ⟨h.1, h.2.mono ?_⟩
    intro e w' he
    cases e with
    | returned v => exact he
    | panicked ch => exact hq _ _ _ he
    | outgrown => exact out he
  · exact hq _ _ _ h
  · exact h.elim
theorem isYield_sound {X : Ctx} {y : Nat} {o : Oper} {E : Env} {as : List AVal} (h : isYield y o E = some as) {ρ : Rho} {N : Nat} {a : Act} (hE : RelE ρ N E a) (w : World) :
    (execOp a.eval o).run X.P w = (Instr.yield (ρ.blk y) (trL ρ as).toArray).run X.P w ∧ belowL N as = true ∧ notDefer o = true := by
  unfold isYield at h
  split at h <;> try cases h
  rename_i x args ts ho
  split at h <;> try cases h
  rename_i b hx
  split at h <;> try cases h
  rename_i hb
  have hb := nat_beq_eq.1 hb
  subst hb
  obtain ⟨h1, h2⟩ := evalO_tr hE hx
  obtain ⟨k1, k2⟩ := evalL_tr hE h
  have e1 : args.map a.eval = (trL ρ as).toArray := by rw [← k1]; apply Array.ext'; simp
  refine ⟨?_, k2, by simp [notDefer, ho]⟩
  simp only [execOp, ho, resolve, Sem.run_bind, Sem.run_pure, Result.andThen_ok, h1, tr, Deferred.ofValue, e1, invoke]
  simp
section
variable {X : Ctx} {y : Nat} {Y : YF} {ρ0 : Rho} {H0 : AHeap} {w0 : World} {At : Option Code → World → Prop} {N : Nat}
theorem wpSeqY_sound (hX : CtxRows X) (hF : FcOk X) {sm : Bool} {cf : CallF} (hC : CallOk X cf) (hY : YOk X y Y ρ0 H0 w0 At) (hAt : AtKeeps At) {ops : Array Oper} {Q : AExit → Env → AHeap → Option Code → Prop} (hdst : ∀ (j : Nat) (o : Oper) (t : Nat), ops[j]? = some o → o.dst = some t → t < N) (hnd : ∀ (j : Nat) (o : Oper), ops[j]? = some o → notDefer o = true) (m : Nat) :
    ∀ (rest : List Oper) (k : Nat), (∀ j, rest[j]? = ops[k + j]?) → ∀ (E : Env) (H : AHeap) (pd : Option Code) (ρ : Rho) (a : Act) (w : World), wpSeqY X sm cf y Y ops.toList rest E H pd Q → Step ρ0 H0 w0 ρ H w → RelE ρ H.next E a → a.defers = [] → a.tmps.size = N → At pd w →
      wpOpsIn Fence.wide m X.P ops (LiftY ρ0 H0 w0 N At Q) (List.range' k rest.length) a w
  | [], k, _, E, H, pd, ρ, a, w, h, hS, hE, hd, hn, hat => ⟨.normal, E, H, ρ, pd, trivial, h, hE, hd, hn, hS, hat⟩
  | o :: rest, k, hr, E, H, pd, ρ, a, w, h, hS, hE, hd, hn, hat => by
    have h0 : ops[k]? = some o := by simpa using (hr 0).symm
    have hr' : ∀ j, rest[j]? = ops[k + 1 + j]? := fun j => by have := hr (j + 1); simpa [Nat.add_assoc, Nat.add_comm 1 j] using this
    have hdo : ∀ t, o.dst = some t → t < N := fun t ht => hdst k o t h0 ht
    simp only [List.length_cons, List.range'_succ, wpOpsIn, h0]
    have yes : ∀ E', RelE ρ H.next E' a → goY X sm cf y Y (fun E H pd => wpSeqY X sm cf y Y ops.toList rest E H pd Q) o E' H pd Q → o.wpIn Fence.wide m X.P a w (wpOpsIn Fence.wide m X.P ops (LiftY ρ0 H0 w0 N At Q) (List.range' (k + 1) rest.length)) (LiftY ρ0 H0 w0 N At Q) := by
      intro E' hE' hs
      unfold goY at hs
      split at hs
      · rename_i as has
        split at hs
        · obtain ⟨i1, i2, i3⟩ := isYield_sound (X := X) has hE' w
          obtain ⟨f, T', assign, body, y1, y2⟩ := hY as H _ hs ρ w hS i2 (by assumption) (m - 1)
          refine ⟨fun f _ => trivial, ?_⟩
          show o.uponIn _ _ _ _ _ _ ((execOp a.eval o).run X.P w)
          rw [i1, y1, Oper.uponIn_round]
          refine ⟨fun hd => by simp [Fence.wide] at hd, ?_⟩
          refine y2.mono ?_
          rintro e w' ⟨jump, H', ρ', rfl, hk, hag, hnx, hS', hat'⟩
          have hE2 := (hE'.step hag hnx).put (v := .bool jump.isNone) (dst := o.dst) rfl (fun t ht => by rw [hn]; exact hdo t ht)
          exact wpSeqY_sound hX hF hC hY hAt hdst hnd m rest (k + 1) hr' _ H' jump ρ' _ w' hk hS' hE2 (by rw [put_defers]; exact hd) (by rw [put_size]; exact hn) hat'
        · exact (not_stuck hs).elim
      · have hcell : ∀ {ρ' : Rho} {H' : AHeap} {w' : World}, Step ρ H w ρ' H' w' → At pd w' := fun hst => hAt pd w _ hat (fun g o ho hc => hst.keeps ho hc hS.rel)
        have key := @stepA_sound X ⟨[]⟩ hX hF sm cf hC o E' H _ _ hs ρ H w N ρ a w (Step.refl hS.rel) hE' hd hn hdo
          (wpOpsIn Fence.wide m X.P ops (LiftY ρ0 H0 w0 N At Q) (List.range' (k + 1) rest.length))
          (fun E'' H'' ρ'' a'' w'' hk hS' hE'' hd' hn' _ _ => wpSeqY_sound hX hF hC hY hAt hdst hnd m rest (k + 1) hr' E'' H'' pd ρ'' a'' w'' hk (hS.trans hS') hE'' hd' hn' (hcell hS'))
        have key2 := opIn_of_wp key (notDefer_ne (hnd k o h0)) none m
        refine ⟨key2.1, ?_⟩
        have conv : ∀ x a' w', @Lift ⟨[]⟩ ρ H w N (fun x E H => Q x E H pd) x a' w' → LiftY ρ0 H0 w0 N At Q x a' w' := by
          rintro x a' w' ⟨x', E2, H2, ρ2, p1, p2, p3, p4, p5, p6⟩
          exact ⟨x', E2, H2, ρ2, pd, p1, p2, p3, p4, p5, hS.trans p6, hcell p6⟩
        exact uponIn_mono key2.2 conv
    have no : ∀ E', RelE ρ H.next E' a → wpSeqY X sm cf y Y ops.toList rest (putE E' o.dst (.tup [])) H pd Q → (∀ f, o.about X.P w a.eval = some f → True) ∧ wpOpsIn Fence.wide m X.P ops (LiftY ρ0 H0 w0 N At Q) (List.range' (k + 1) rest.length) (a.put o.dst undef) w := by
      intro E' hE' hs
      have := hE'.put (v := .tup []) (dst := o.dst) rfl (fun t ht => by rw [hn]; exact hdo t ht)
      exact ⟨fun _ _ => trivial, wpSeqY_sound hX hF hC hY hAt hdst hnd m rest (k + 1) hr' _ H pd ρ _ w hs hS this (by rw [put_defers]; exact hd) (by rw [put_size]; exact hn) hat⟩
    unfold wpSeqY at h
    split at h
    · rename_i hw
      rw [if_pos (wantA_yes hw a)]
      exact yes E hE h
    · rename_i hw
      rw [if_neg (by rw [wantA_no hw hE]; simp)]
      exact no E hE h
    · rename_i t b want hw
      obtain ⟨h1, h2⟩ := wantA_ask hw hE
      rw [h1]
      split at h
      · rw [branch_iff] at h
        cases b with
        | true => rw [if_pos (show (true == true) = true from rfl)]; exact yes _ (hE.over h2) (h.1 rfl)
        | false => rw [if_neg (by simp)]; exact no _ (hE.over h2) (h.2 rfl)
      · rw [branch_iff] at h
        cases b with
        | true => rw [if_neg (by simp)]; exact no _ (hE.over h2) (h.1 rfl)
        | false => rw [if_pos (show (false == false) = true from rfl)]; exact yes _ (hE.over h2) (h.2 rfl)
    · exact (not_stuck h).elim
def plainY : Code → Bool
  | .skip | .ret | .exit _ => true
  | .seq a b => plainY a && plainY b
  | .cond _ a b => plainY a && plainY b
  | .block _ c => plainY c
  | .loop c => plainY c
  | .region _ ops draw => !draw && ops.toList.all notDefer
  | _ => false
theorem wpY_both (hX : CtxOk X) (hY : YOk X y Y ρ0 H0 w0 At) (hAt : AtKeeps At) {fn : Func} (hN0 : fn.ntmps ≤ N) : ∀ (n : Nat) (g : Nat) (c : Code) (E : Env) (H : AHeap) (pd : Option Code) (Q : AExit → Env → AHeap → Option Code → Prop), wpY X y Y n g c E H pd Q →
    plainY c = true → okDst fn.ntmps c = true → ∀ {ρ : Rho} {a : Act} {w : World}, Step ρ0 H0 w0 ρ H w → RelE ρ H.next E a → a.defers = [] → a.tmps.size = N → At pd w → c.wp X.P (LiftY ρ0 H0 w0 N At Q) a w ∧ (∀ c', c = .loop c' → Code.rounds X.P c' (LiftY ρ0 H0 w0 N At Q) n a w) := by
  intro n
  induction n with
  | zero => intro g c E H pd Q h; exact (not_stuck h).elim
  | succ n ih2 =>
    have ih : ∀ (g : Nat) (c : Code) (E : Env) (H : AHeap) (pd : Option Code) (Q : AExit → Env → AHeap → Option Code → Prop), wpY X y Y n g c E H pd Q →
        plainY c = true → okDst fn.ntmps c = true → ∀ {ρ : Rho} {a : Act} {w : World}, Step ρ0 H0 w0 ρ H w → RelE ρ H.next E a → a.defers = [] → a.tmps.size = N → At pd w → c.wp X.P (LiftY ρ0 H0 w0 N At Q) a w :=
      fun g c E H pd Q h1 h2 h3 _ _ _ h4 h5 h6 h7 h8 => (ih2 g c E H pd Q h1 h2 h3 h4 h5 h6 h7 h8).1
    intro g c E H pd Q h hp hok ρ a w hS hE hd hN hat
    suffices hmain : (match c with
        | .loop c' => Code.rounds X.P c' (LiftY ρ0 H0 w0 N At Q) (n + 1) a w
        | c => c.wp X.P (LiftY ρ0 H0 w0 N At Q) a w) by
      cases c with
      | loop c' => exact ⟨wp_loop_rounds (n + 1) hmain, fun c'' h => by cases h; exact hmain⟩
      | _ => exact ⟨hmain, fun c'' h => by cases h⟩
    unfold wpY at h
    cases c with
    | skip => exact wp_skip ⟨.normal, E, H, ρ, pd, trivial, h, hE, hd, hN, hS, hat⟩
    | ret => exact wp_ret ⟨.ret, E, H, ρ, pd, trivial, h, hE, hd, hN, hS, hat⟩
    | exit id => exact wp_exit ⟨.exit id, E, H, ρ, pd, rfl, h, hE, hd, hN, hS, hat⟩
    | seq x x2 =>
      simp only [okDst, plainY, Bool.and_eq_true] at hok hp
      refine wp_seq (wp_mono (ih g x E H pd _ h hp.1 hok.1 hS hE hd hN hat) ?_)
      rintro e a' w' ⟨x', E', H', ρ', pd', h1, h2, h3, h4, h5, h6, h7⟩
      cases x' with
      | normal =>
        cases e <;> simp only [AExit.rel] at h1
        exact ih g x2 E' H' pd' Q h2 hp.2 hok.2 h6 h3 h4 h5 h7
      | exit i => cases e <;> simp only [AExit.rel] at h1; exact ⟨.exit i, E', H', ρ', pd', h1, h2, h3, h4, h5, h6, h7⟩
      | ret => cases e <;> simp only [AExit.rel] at h1; exact ⟨.ret, E', H', ρ', pd', trivial, h2, h3, h4, h5, h6, h7⟩
      | panic v => cases e <;> simp only [AExit.rel] at h1; exact ⟨.panic v, E', H', ρ', pd', h1, h2, h3, h4, h5, h6, h7⟩
    | cond b x x2 =>
      simp only [okDst, plainY, Bool.and_eq_true] at hok hp
      simp only at h
      split at h
      · rename_i b' hb
        obtain ⟨h1, h2⟩ := evalO_tr hE hb
        rw [branch_iff] at h
        refine wp_cond_split (t := b') (by rw [h1]; rfl) (fun ht => ?_) (fun ht => ?_)
        · exact ih g x E H pd Q (h.1 ht) hp.1 hok.1 hS hE hd hN hat
        · exact ih g x2 E H pd Q (h.2 ht) hp.2 hok.2 hS hE hd hN hat
      · exact h.elim
    | block id c =>
      simp only [okDst, plainY] at hok hp
      refine wp_block (wp_mono (ih g c E H pd _ h hp hok hS hE hd hN hat) ?_)
      rintro e a' w' ⟨x', E', H', ρ', pd', h1, h2, h3, h4, h5, h6, h7⟩
      cases x' with
      | normal => cases e <;> simp only [AExit.rel] at h1; exact ⟨.normal, E', H', ρ', pd', trivial, h2, h3, h4, h5, h6, h7⟩
      | exit i =>
        cases e <;> simp only [AExit.rel] at h1
        subst h1
        simp only at h2
        split at h2
        · rename_i hi
          have := nat_beq_eq.1 hi
          simp only [Exit.inBlock, if_pos this]
          exact ⟨.normal, E', H', ρ', pd', trivial, h2, h3, h4, h5, h6, h7⟩
        · rename_i hi
          have := nat_beq_ne.1 hi
          simp only [Exit.inBlock, if_neg this]
          exact ⟨.exit i, E', H', ρ', pd', rfl, h2, h3, h4, h5, h6, h7⟩
      | ret => cases e <;> simp only [AExit.rel] at h1; exact ⟨.ret, E', H', ρ', pd', trivial, h2, h3, h4, h5, h6, h7⟩
      | panic v => cases e <;> simp only [AExit.rel] at h1; exact ⟨.panic v, E', H', ρ', pd', h1, h2, h3, h4, h5, h6, h7⟩
    | loop c =>
      simp only [okDst, plainY] at hok hp
      show Code.wp X.P c (Exit.then (Code.rounds X.P c (LiftY ρ0 H0 w0 N At Q) n) (LiftY ρ0 H0 w0 N At Q)) a w
      refine (wp_mono (ih g c E H pd _ h hp hok hS hE hd hN hat) ?_)
      rintro e a' w' ⟨x', E', H', ρ', pd', h1, h2, h3, h4, h5, h6, h7⟩
      cases x' with
      | normal =>
        cases e <;> simp only [AExit.rel] at h1
        exact (ih2 g (.loop c) E' H' pd' Q h2 hp hok h6 h3 h4 h5 h7).2 c rfl
      | exit i => cases e <;> simp only [AExit.rel] at h1; exact ⟨.exit i, E', H', ρ', pd', h1, h2, h3, h4, h5, h6, h7⟩
      | ret => cases e <;> simp only [AExit.rel] at h1; exact ⟨.ret, E', H', ρ', pd', trivial, h2, h3, h4, h5, h6, h7⟩
      | panic v => cases e <;> simp only [AExit.rel] at h1; exact ⟨.panic v, E', H', ρ', pd', h1, h2, h3, h4, h5, h6, h7⟩
    | region id ops draw =>
      simp only [okDst, plainY, Bool.and_eq_true, Bool.not_eq_true'] at hok hp
      obtain ⟨hdraw, hpp⟩ := hp
      subst hdraw
      have hdst : ∀ (j : Nat) (o : Oper) (t : Nat), ops[j]? = some o → o.dst = some t → t < N := by
        intro j o t hj ht
        rw [List.all_eq_true] at hok
        have := hok o (List.mem_of_getElem? (by simpa using hj))
        rw [ht] at this
        have hlt : t < fn.ntmps := by simpa using this
        omega
      have hnd : ∀ (j : Nat) (o : Oper), ops[j]? = some o → notDefer o = true := by
        intro j o hj
        rw [List.all_eq_true] at hpp
        exact hpp o (List.mem_of_getElem? (by simpa using hj))
      have := wpSeqY_sound hX.rows hX.fcs (callC_all hX 100) hY hAt (ops := ops) hdst hnd 0 ops.toList 0 (by simp) E H pd ρ a w h hS hE hd hN hat
      refine (wpIn_wide (n := 0)).1 (wpIn_region ?_)
      rw [List.range_eq_range']
      simpa using this
    | _ => simp [plainY] at hp
end
theorem Rel.more {ρ : Rho} {H : AHeap} {w : World} (hR : Rel ρ H w) (g c : Nat) : Rel (ρ.set H.next g c) ⟨H.next + 1, H.bs⟩ w := by
  have hb : ∀ b, b < H.next → (ρ.set H.next g c).blk b = ρ.blk b := fun b hb => (Rho.set_agree ρ H.next g c b hb).1
  refine ⟨fun b x hx => ?_, fun b b' x x' hx hx' ho hne => ?_⟩
  · obtain ⟨h1, h2, h3, h4⟩ := hR.blk b x hx
    refine ⟨Nat.lt_succ_of_lt h1, ?_, by rw [hb b h1]; exact h3, ABlk.ok_keep h4 h2 (Rho.set_agree ρ H.next g c) h1 (Nat.le_refl _) rfl⟩
    cases x with
    | cells e l => exact belowL_mono (Nat.le_succ _) _ h2
    | row e T l md => rfl
    | dead => rfl
  · rw [hb b (hR.blk b x hx).1, hb b' (hR.blk b' x' hx').1]
    exact hR.inj b b' x x' hx hx' ho hne
def blkC : Code → Code
  | .block _ c => c
  | c => c
def lpC : Code → Code
  | .loop c => c
  | c => c
def rfAssign : Code → Code
  | .rangeFunc _ _ a _ => a
  | c => c
def rfBody : Code → Code
  | .rangeFunc _ _ _ b => b
  | c => c
def RoundY (base : Nat) {S : Type} (st : S → Env × AHeap) (μ : S → Nat) (T : S → Prop) (s : S) (Q : AExit → Env → AHeap → Option Code → Prop) : AExit → Env → AHeap → Option Code → Prop
  | .normal, E, H, pd => pd = none ∧ ∃ s' σ, μ s' < μ s ∧ T s' ∧ sigOk base σ = true ∧ sigInj σ (st s').2.bs = true ∧ subER (st s').2.next σ (st s').1 E ∧ subHR (st s').2.next σ (st s').2.bs H
  | x, E, H, pd => Q x E H pd
theorem loopY_sound {X : Ctx} (hX : CtxOk X) {y : Nat} {Y : YF} {ρ0 : Rho} {H0 : AHeap} {w0 : World} {At : Option Code → World → Prop} {N : Nat} (hY : YOk X y Y ρ0 H0 w0 At) (hAt : AtKeeps At) {gn : Func} (hN0 : gn.ntmps ≤ N) {g n : Nat} {c : Code} (hp : plainY c = true) (hok : okDst gn.ntmps c = true)
    {S : Type} {base : Nat} (st : S → Env × AHeap) (hb : H0.next ≤ base) (hnx : ∀ s, base ≤ (st s).2.next) (μ : S → Nat) (T : S → Prop) (Q : AExit → Env → AHeap → Option Code → Prop)
    (hround : ∀ s, T s → ∃ R, (∀ x E H pd, R x E H pd → RoundY base st μ T s Q x E H pd) ∧ wpY X y Y n g c (st s).1 (st s).2 none R) :
    ∀ s, T s → ∀ ρ a w, Step ρ0 H0 w0 ρ (st s).2 w → RelE ρ (st s).2.next (st s).1 a → a.defers = [] → a.tmps.size = N → At none w → (Code.loop c).wp X.P (LiftY ρ0 H0 w0 N At Q) a w := by
  intro s hT ρ a w hS hE hd hN hat
  refine wp_loop_rounds (μ s + 1) ?_
  have key : ∀ (m : Nat) (s : S) (ρ : Rho) (a : Act) (w : World), μ s < m → T s → Step ρ0 H0 w0 ρ (st s).2 w → RelE ρ (st s).2.next (st s).1 a → a.defers = [] → a.tmps.size = N → At none w → Code.rounds X.P c (LiftY ρ0 H0 w0 N At Q) m a w := by
    intro m
    induction m with
    | zero => intro s ρ a w h; omega
    | succ m ih =>
      intro s ρ a w hm hT hS hE hd hN hat
      show Code.wp X.P c (Exit.then (Code.rounds X.P c (LiftY ρ0 H0 w0 N At Q) m) (LiftY ρ0 H0 w0 N At Q)) a w
      obtain ⟨R, hRR, hwp⟩ := hround s hT
      refine wp_mono (wpY_both hX hY hAt hN0 n g c _ _ none R hwp hp hok hS hE hd hN hat).1 ?_
      rintro e a' w' ⟨x', E', H', ρ', pd, q1, q2, q3, q4, q5, q6, q7⟩
      have q2 := hRR _ _ _ _ q2
      cases x' with
      | normal =>
        cases e <;> simp only [AExit.rel] at q1
        obtain ⟨rfl, s', σ, g1, g2, g3, g4, g5, g6⟩ := q2
        obtain ⟨k1, k2⟩ := sub_stepR q6 q3 hb g3 g4 g5 g6 (Nat.le_trans hb (hnx s'))
        exact ih s' _ a' w' (by omega) g2 k1 k2 q4 q5 q7
      | exit i => cases e <;> simp only [AExit.rel] at q1; exact ⟨.exit i, E', H', ρ', pd, q1, q2, q3, q4, q5, q6, q7⟩
      | ret => cases e <;> simp only [AExit.rel] at q1; exact ⟨.ret, E', H', ρ', pd, trivial, q2, q3, q4, q5, q6, q7⟩
      | panic v => cases e <;> simp only [AExit.rel] at q1; exact ⟨.panic v, E', H', ρ', pd, q1, q2, q3, q4, q5, q6, q7⟩
  exact key _ s ρ a w (Nat.lt_succ_self _) hT hS hE hd hN hat
def endN (X : Ctx) (fn : Func) (K : Out → AHeap → Prop) : AExit → Env → AHeap → Prop := fun x E H => match x with
  | .normal | .ret => endA X.P fn K .ret E H
  | _ => False
noncomputable def behindRF (X : Ctx) (n f : Nat) (fn : Func) (post : Code) (E : Env) (K : Out → AHeap → Prop) (H : AHeap) (pd : Option Code) : Prop := match pd with
  | none => wpC X n f H.next post E H (endN X fn K)
  | some .ret => endA X.P fn K .ret E H
  | _ => False
noncomputable def wpRF (X : Ctx) (n f g t : Nat) (c0 c1 c2 : Code) (It : Env → AHeap → List AVal → Prop) (args : List AVal) (H0 : AHeap) : Prop :=
  wpC X n f H0.next c0 (env0 args 0) H0 fun x E H => match x with
    | .normal => wpC X n f H0.next c1 E H fun x E H => match x with
      | .normal => wpC X n f H0.next c2 E H fun x E H => match x with
        | .normal => match getE E t with
          | some (.func g' [] cs) => match Nat.beq g' g with
            | true => forceH H fun H => It E H cs
            | false => False
          | _ => False
        | _ => False
      | _ => False
    | _ => False
theorem wpRF_sound {X : Ctx} (hX : CtxOk X) {n f g t bid : Nat} {ps : List Nat} {fn gn : Func} {c0 c1 c2 assign body post : Code}
    (hf : X.fns f = some fn) (hg : X.fns g = some gn)
    (hb : fn.body = some (.seq c0 (.seq c1 (.seq (.seq c2 (.block bid (.rangeFunc (.tmp t) ps.toArray assign body))) post))))
    (hgr : gn.results = #[])
    (hL : LoopOk X f fn ps assign body) (hpost : okDst fn.ntmps post = true)
    {It : Env → AHeap → List AVal → Prop} {K : Out → AHeap → Prop}
    (hIt : ∀ E H cs, It E H cs → ∀ ρ0 w0 At ρ a w, YOk X H.next (roundA X n f E ps assign body) ρ0 ⟨H.next + 1, H.bs⟩ w0 At → AtKeeps At → Step ρ0 ⟨H.next + 1, H.bs⟩ w0 ρ ⟨H.next + 1, H.bs⟩ w → RelE ρ (H.next + 1) (env0 (.yld H.next :: cs) 0) a → a.defers = [] → gn.ntmps ≤ a.tmps.size → At none w →
      (bodyC gn).wp X.P (LiftY ρ0 ⟨H.next + 1, H.bs⟩ w0 a.tmps.size At (fun x _ H' pd => (x = .normal ∨ x = .ret) ∧ behindRF X n f fn post E K H' pd)) a w)
    {args : List AVal} {H0 : AHeap} (h : wpRF X n f g t c0 c1 c2 It args H0) {ρ0 : Rho} {w0 : World} (hR : Rel ρ0 H0 w0) (hargs : belowL H0.next args = true) :
    Calls X.P f (trL ρ0 args).toArray w0 fun e w' => ∃ out H' ρ', Out.rel ρ' H'.next out e ∧ K out H' ∧ Step ρ0 H0 w0 ρ' H' w' := by
  obtain ⟨q1, q2, c3, q3, q4⟩ := hX.fns f fn hf
  rw [hb] at q3
  cases q3
  obtain ⟨g1, g2, c4, g3, g4⟩ := hX.fns g gn hg
  have hgc : bodyC gn = c4 := by unfold bodyC; rw [g3]
  simp only [okDst, Bool.and_eq_true] at q4
  refine (callsIn_wide (n := 1)).1 (callsIn_of_wp_marks q1 hb trivial ?_)
  refine wpIn_wide.2 ?_
  have hE0 := env0_rel (ρ := ρ0) hargs (fn.ntmps - (trL ρ0 args).toArray.size)
  generalize ha0 : (Act.mk ((trL ρ0 args).toArray ++ Array.replicate (fn.ntmps - (trL ρ0 args).toArray.size) undef) []) = a0 at hE0 ⊢
  have hN0 : fn.ntmps ≤ a0.tmps.size := by rw [← ha0]; simp; omega
  have hd0 : a0.defers = [] := by rw [← ha0]
  obtain ⟨whole, hW⟩ : ∃ whole, (Code.seq c0 (.seq c1 (.seq (.seq c2 (.block bid (.rangeFunc (.tmp t) ps.toArray assign body))) post))) = whole := ⟨_, rfl⟩
  have hb' : fn.body = some whole := by rw [hb, hW]
  have sub0 : ∀ {c : Code}, (∀ p ∈ blocksC c, p ∈ blocksC whole) → okDst fn.ntmps c = true → ∃ fn', X.fns f = some fn' ∧ fn'.ntmps ≤ a0.tmps.size ∧ ∃ body, fn'.body = some body ∧ (∀ p ∈ blocksC c, p ∈ blocksC body) ∧ okDst fn'.ntmps c = true :=
    fun hc ho => ⟨fn, hf, hN0, _, hb', hc, ho⟩
  unfold wpRF at h
  -- the first part
  refine wp_seq (wp_mono (@wpC_sound X hX ⟨[]⟩ _ _ _ _ _ _ _ h _ _ _ _ _ _ _ (Nat.le_refl _) (sub0 (fun p hp => by rw [← hW]; simp [blocksC, hp]) q4.1) (Step.refl hR) hE0 hd0 rfl) ?_)
  rintro e a1 w1 ⟨x1, E1, H1, ρ1, p1, p2, p3, p4, p5, p6⟩
  cases x1 with
  | exit i => exact p2.elim
  | ret => exact p2.elim
  | panic v => exact p2.elim
  | normal =>
  cases e <;> simp only [AExit.rel] at p1
  refine wp_seq (wp_mono (@wpC_sound X hX ⟨[]⟩ _ _ _ _ _ _ _ p2 _ _ _ _ _ _ _ (Nat.le_refl _) (sub0 (fun p hp => by rw [← hW]; simp [blocksC, hp]) q4.2.1) p6 p3 p4 p5) ?_)
  rintro e a2 w2 ⟨x2, E2, H2, ρ2, r1, r2, r3, r4, r5, r6⟩
  cases x2 with
  | exit i => exact r2.elim
  | ret => exact r2.elim
  | panic v => exact r2.elim
  | normal =>
  cases e <;> simp only [AExit.rel] at r1
  refine wp_seq (wp_seq (wp_mono (@wpC_sound X hX ⟨[]⟩ _ _ _ _ _ _ _ r2 _ _ _ _ _ _ _ (Nat.le_refl _) (sub0 (fun p hp => by rw [← hW]; simp [blocksC, hp]) q4.2.2.1.1) r6 r3 r4 r5) ?_))
  rintro e a w ⟨x3, E, H, ρ, s1, s2, s3, s4, s5, s6⟩
  cases x3 with
  | exit i => exact s2.elim
  | ret => exact s2.elim
  | panic v => exact s2.elim
  | normal =>
  cases e <;> simp only [AExit.rel] at s1
  simp only at s2
  split at s2
  · rename_i g' cs hcs
    split at s2
    · rename_i hgg
      have hgg := nat_beq_eq.1 hgg
      subst hgg
      rw [forceH_eq] at s2
      have s4' : a.defers = [] := s4
      have hRw := s6.rel
      obtain ⟨t1, t2⟩ := s3.get t _ hcs
      simp only [AVal.under, belowL, Bool.and_eq_true, true_and] at t2
      -- the objects of the loop
      generalize hl : w.heap.size + 1 = l
      have hev : a.eval (.tmp t) = .func (.func g') #[] (trL ρ cs).toArray := by simp [Act.eval, Array.getD_eq_getD_getElem?, t1, tr, trL]
      refine wp_block (wpIn_wide (n := 1) |>.1 (wpIn_rangeFunc (F := Fence.wide) ?_))
      intro fr _
      have hW1 : ∃ W1, (w.alloc (.deferred (some []))).alloc (.loop (recL fr a.tmps ps.toArray assign body w.heap.size none)) = W1 := ⟨_, rfl⟩
      obtain ⟨W1, hW1⟩ := hW1
      have hL1 : W1.heap[l]? = some (.loop (recL fr a.tmps ps.toArray assign body w.heap.size none)) := by
        rw [← hW1, ← hl]; have := World.alloc_heap_new (w.alloc (.deferred (some []))) (.loop (recL fr a.tmps ps.toArray assign body w.heap.size none)); rwa [World.size_alloc] at this
      have hD1 : W1.heap[w.heap.size]? = some (.deferred (some [])) := by
        rw [← hW1]; exact (Below.heap_alloc _ _ _ (by simp)).trans (World.alloc_heap_new w _)
      have hB1 : Below w.heap.size w W1 := by
        rw [← hW1]; exact ((Below.refl _ w).alloc (Nat.le_refl _) _).alloc (by simp) _
      refine ⟨l, [{ target := .collected w.heap.size, args := #[] }], W1, { target := .fn (.func g') (trL ρ cs).toArray, args := #[.func (.yield l) #[] #[]] }, W1, g', #[.func (.yield l) #[] #[]] ++ (trL ρ cs).toArray, W1, ?_, ?_, fun _ _ => trivial, ?_, fun _ => Nat.le_refl _, ?_⟩
      · rw [← hW1, ← hl]; exact run_enterLoop_outer _ _ _ _ _
      · simp only [resolve, hev, Sem.run_bind, Sem.run_pure, Result.andThen_ok, Deferred.ofValue]
        simp [Act.eval]
      · simp [invoke, g2]
      · -- the iterator
        have hRy : Rel (ρ.set H.next l 0) ⟨H.next + 1, H.bs⟩ w := hRw.more l 0
        have hSy : Step (ρ.set H.next l 0) ⟨H.next + 1, H.bs⟩ w (ρ.set H.next l 0) ⟨H.next + 1, H.bs⟩ W1 := Step.grow hRy hB1
        have hyb : (ρ.set H.next l 0).blk H.next = l := by simp [Rho.set]
        have hagy : Rho.agree H.next ρ (ρ.set H.next l 0) := Rho.set_agree ρ H.next l 0
        have htr : #[Value.func (.yield l) #[] #[]] ++ (trL ρ cs).toArray = (trL (ρ.set H.next l 0) (.yld H.next :: cs)).toArray := by
          simp only [trL, tr, hyb]
          rw [trL_agree hagy cs t2]
          simp
        rw [htr]
        have hay : belowL (H.next + 1) (.yld H.next :: cs) = true := by
          simp only [belowL, AVal.under, Bool.and_eq_true, Nat.blt_eq]
          exact ⟨Nat.lt_succ_self _, belowL_mono (Nat.le_succ _) cs t2⟩
        refine callsIn_of_wp g1 g3 trivial (wpIn_wide.2 ?_)
        have hEy := env0_rel (ρ := ρ.set H.next l 0) hay (gn.ntmps - (trL (ρ.set H.next l 0) (.yld H.next :: cs)).toArray.size)
        generalize hay0 : (Act.mk ((trL (ρ.set H.next l 0) (.yld H.next :: cs)).toArray ++ Array.replicate (gn.ntmps - (trL (ρ.set H.next l 0) (.yld H.next :: cs)).toArray.size) undef) []) = ay at hEy ⊢
        have hNy : gn.ntmps ≤ ay.tmps.size := by rw [← hay0]; simp; omega
        have hdy : ay.defers = [] := by rw [← hay0]
        have hY : YOk X H.next (roundA X n f E ps assign body) (ρ.set H.next l 0) ⟨H.next + 1, H.bs⟩ w (LoopAt l w.heap.size fr a.tmps ps assign body) := by
          intro as H' K' hk ρ' w' hS' has hat m
          have hb' : ρ'.blk H.next = l := by rw [(hS'.agree H.next (Nat.lt_succ_self _)).1, hyb]
          have hET : RelE ρ' H'.next E { tmps := a.tmps, defers := [] } := by
            have h1 := s3.step (hagy.trans (hS'.agree) (Nat.le_succ _)) (Nat.le_trans (Nat.le_succ _) hS'.next)
            exact ⟨fun u v hu => h1.get u v hu⟩
          obtain ⟨T', y1, y2⟩ := round_sound hX hL hk hS' hET (by rw [s5]; exact hN0) has (by omega) hat.1 hat.2 m
          rw [hb']
          exact ⟨fr, T', assign, body, y1, y2⟩
        have hrun := hIt E H cs s2 _ _ _ _ _ _ hY loopAt_keeps hSy hEy hdy hNy ⟨hL1, hD1⟩
        rw [hgc] at hrun
        refine wp_mono hrun ?_
        rintro e ag wg ⟨xg, Eg, Hg, ρg, pd, u1, u2, u3, u4, u5, u6, u7⟩
        -- behind the iterator
        have hpend : (Instr.endLoop l).run X.P wg = .ok pd (wg.putObj l (.loop { recL fr a.tmps ps.toArray assign body w.heap.size pd with state := .exhausted })) := by
          have := run_endLoop (P := X.P) u7.1 (by unfold recL; cases pd <;> simp)
          exact this
        have hlD : l ≠ w.heap.size := by omega
        have hwsz : w0.heap.size ≤ w.heap.size := s6.size
        have hS4 : Step ρ0 H0 w0 ρg Hg (wg.putObj l (.loop { recL fr a.tmps ps.toArray assign body w.heap.size pd with state := .exhausted })) := by
          have h1 : Step ρ H w (ρ.set H.next l 0) ⟨H.next + 1, H.bs⟩ w :=
            ⟨hagy, Nat.le_succ _, hRy, rfl, rfl, rfl, Nat.le_refl _, fun _ _ _ => rfl, fun gg hg' => by
              obtain ⟨b, x, hx, ho, rfl⟩ := hg'
              refine .inr ⟨b, x, hx, ho, ?_⟩
              exact (hagy b (hRw.blk b x hx).1).1.symm⟩
          exact ((s6.trans h1).trans u6).obj (by omega) u7.1 rfl _
        have hD4 : (wg.putObj l (.loop { recL fr a.tmps ps.toArray assign body w.heap.size pd with state := .exhausted })).heap[w.heap.size]? = some (.deferred (some [])) := (World.putObj_heap_other (Ne.symm hlD)).trans u7.2
        generalize hw4 : wg.putObj l (.loop { recL fr a.tmps ps.toArray assign body w.heap.size pd with state := .exhausted }) = w4 at hpend hS4 hD4
        have hag4 : Rho.agree H.next ρ ρg := hagy.trans u6.agree (Nat.le_succ _)
        have hE4 : RelE ρg Hg.next E { a with defers := [{ target := .collected w.heap.size, args := #[] }] ++ a.defers } := by
          have h1 := s3.step hag4 (Nat.le_trans (Nat.le_succ _) u6.next)
          exact ⟨fun u v hu => h1.get u v hu⟩
        have hd4 : ({ a with defers := [{ target := .collected w.heap.size, args := #[] }] ++ a.defers } : Act).defers = [{ target := .collected w.heap.size, args := #[] }] := by simp [s4']
        -- the end of the function
        have leave : ∀ (E5 : Env) (H5 : AHeap) (ρ5 : Rho) (a5 : Act) (w5 : World), endA X.P fn K .ret E5 H5 → RelE ρ5 H5.next E5 a5 → a5.defers = [{ target := .collected w.heap.size, args := #[] }] → Step ρ0 H0 w0 ρ5 H5 w5 → w5.heap[w.heap.size]? = some (.deferred (some [])) →
            LeavesInM Fence.wide 1 X.P fn a5.tmps (fun e w' => ∃ out H' ρ', Out.rel ρ' H'.next out e ∧ K out H' ∧ Step ρ0 H0 w0 ρ' H' w') a5.defers .returning w5 := by
          intro E5 H5 ρ5 a5 w5 he hE5 hd5 hS5 hD5
          rw [hd5]
          have hS6 := hS5.obj (by omega) hD5 rfl (.deferred none)
          refine ⟨by simp, .inl ⟨w.heap.size, _, rfl, run_takeDeferred hD5, ?_⟩⟩
          obtain ⟨v, hv1, hv2⟩ := end_results he hE5 hS6
          exact ⟨v, hv1, hv2⟩
        have fin : ∀ (x : Exit), behindRF X n f fn post E K Hg pd → bodyPost X.P gn (rangePost Fence.wide 1 X.P l (Exit.inBlock bid (Exit.then (post.wp X.P (bodyPostM Fence.wide 1 X.P fn fun e w' => ∃ out H' ρ', Out.rel ρ' H'.next out e ∧ K out H' ∧ Step ρ0 H0 w0 ρ' H' w')) (bodyPostM Fence.wide 1 X.P fn fun e w' => ∃ out H' ρ', Out.rel ρ' H'.next out e ∧ K out H' ∧ Step ρ0 H0 w0 ρ' H' w'))) { a with defers := [{ target := .collected w.heap.size, args := #[] }] ++ a.defers }) .ret ag wg := by
          intro x hk
          refine ⟨u4, .tuple #[], by simp [results, hgr], pd, w4, hpend, ?_⟩
          unfold behindRF at hk
          cases pd with
          | none =>
            show (post.wp X.P _) _ _
            refine wp_mono (@wpC_sound X hX ⟨[{ target := .collected w.heap.size, args := #[] }]⟩ _ _ _ _ _ _ _ hk _ _ _ _ _ _ _ (Nat.le_refl _) (by
              obtain ⟨fn', z1, z2, z3⟩ := sub0 (c := post) (fun p hp => by rw [← hW]; simp [blocksC, hp]) hpost
              exact ⟨fn', z1, z2, z3⟩) (Step.refl hS4.rel) hE4 hd4 (by rw [← s5])) ?_
            rintro e5 a5 w5 ⟨x5, E5, H5, ρ5, v1, v2, v3, v4, v5, v6⟩
            have hD5 := v6.keeps hD4 rfl hS4.rel
            cases x5 with
            | normal => cases e5 <;> simp only [AExit.rel] at v1; exact leave E5 H5 ρ5 a5 w5 v2 v3 v4 (hS4.trans v6) hD5
            | ret => cases e5 <;> simp only [AExit.rel] at v1; exact leave E5 H5 ρ5 a5 w5 v2 v3 v4 (hS4.trans v6) hD5
            | exit i => exact v2.elim
            | panic v => exact v2.elim
          | some c =>
            cases c with
            | ret =>
              refine wpIn_ret ?_
              exact leave E Hg ρg _ w4 hk hE4 hd4 hS4 hD4
            | _ => exact hk.elim
        cases xg with
        | normal =>
          cases e <;> simp only [AExit.rel] at u1
          exact fin .ret u2.2
        | ret =>
          cases e <;> simp only [AExit.rel] at u1
          exact fin .ret u2.2
        | exit i => rcases u2.1 with h | h <;> cases h
        | panic v => rcases u2.1 with h | h <;> cases h
    · exact s2.elim
  · exact s2.elim
end Go.Proofs.Ytjacnjecggedhaa.Ev
namespace Go.Proofs.Ytjacnjecggedhaa.Ev
set_option linter.unusedVariables false
set_option linter.unusedSimpArgs false
open Go.RowKit
noncomputable def wpCut (X : Ctx) (n f : Nat) (fn : Func) (c0 : Code) (args : List AVal) (H0 : AHeap) (It : Env → AHeap → Prop) (K : Out → AHeap → Prop) : Prop :=
  wpC X n f H0.next c0 (env0 args 0) H0 fun x E H => match x with
    | .normal => It E H
    | .ret => endA X.P fn K .ret E H
    | _ => False
theorem fn_cut {X : Ctx} (hX : CtxOk X) {n f : Nat} {fn : Func} {c0 r : Code} (hf : X.fns f = some fn) (hb : fn.body = some (.seq c0 r)) {args : List AVal} {H0 : AHeap} {It : Env → AHeap → Prop} {K : Out → AHeap → Prop} (h : wpCut X n f fn c0 args H0 It K)
    (hIt : ∀ E H, It E H → ∀ ρ0 w0 N ρ a w, fn.ntmps ≤ N → Step ρ0 H0 w0 ρ H w → RelE ρ H.next E a → a.defers = [] → a.tmps.size = N → r.wp X.P (@Lift ⟨[]⟩ ρ0 H0 w0 N (endA X.P fn K)) a w)
    {ρ : Rho} {w : World} (hR : Rel ρ H0 w) (hargs : belowL H0.next args = true) :
    Calls X.P f (trL ρ args).toArray w fun e w' => ∃ out H' ρ', Out.rel ρ' H'.next out e ∧ K out H' ∧ Step ρ H0 w ρ' H' w' := by
  obtain ⟨q1, q2, c2, q3, q4⟩ := hX.fns f fn hf
  rw [hb] at q3
  cases q3
  simp only [okDst, Bool.and_eq_true] at q4
  refine fn_sound q1 hb hR hargs (fun a hE hd hN => ?_)
  refine wp_seq (wp_mono (@wpC_sound X hX ⟨[]⟩ _ _ _ _ _ _ _ h _ _ _ _ _ _ _ (Nat.le_refl _) ⟨fn, hf, hN, _, hb, fun p hp => by simp [blocksC, hp], q4.1⟩ (Step.refl hR) hE hd rfl) ?_)
  rintro e a' w' ⟨x', E', H', ρ', h1, h2, h3, h4, h5, h6⟩
  cases x' with
  | normal =>
    cases e <;> simp only [AExit.rel] at h1
    exact hIt E' H' h2 ρ w _ ρ' a' w' hN h6 h3 h4 h5
  | ret => cases e <;> simp only [AExit.rel] at h1; exact ⟨.ret, E', H', ρ', trivial, h2, h3, h4, h5, h6⟩
  | exit i => exact h2.elim
  | panic v => exact h2.elim
theorem wpN_sound [Dfs] {X : Ctx} (hX : CtxOk X) {f base : Nat} {fn : Func} {body : Code} (hf : X.fns f = some fn) (hb : fn.body = some body) {ρ0 : Rho} {H0 : AHeap} {w0 : World} {N : Nat} (hbase : H0.next ≤ base) (hN : fn.ntmps ≤ N) {It : Env → AHeap → Prop} {Q : AExit → Env → AHeap → Prop} : ∀ (k n : Nat) (c : Code) (E : Env) (H : AHeap), isSeqs k c = true → (∀ p ∈ blocksC c, p ∈ blocksC body) → okDst fn.ntmps c = true → wpN X k n f base c E H It Q →
    (∀ E H, It E H → ∀ ρ a w, Step ρ0 H0 w0 ρ H w → RelE ρ H.next E a → a.defers = Dfs.D → a.tmps.size = N → (tailN k c).wp X.P (Lift ρ0 H0 w0 N Q) a w) →
    ∀ ρ a w, Step ρ0 H0 w0 ρ H w → RelE ρ H.next E a → a.defers = Dfs.D → a.tmps.size = N → c.wp X.P (Lift ρ0 H0 w0 N Q) a w
  | 0, n, c, E, H, _, _, _, h, hIt, ρ, a, w, hS, hE, hd, hn => hIt E H h ρ a w hS hE hd hn
  | k + 1, 0, c, E, H, _, _, _, h, _, _, _, _, _, _, _, _ => h.elim
  | k + 1, n + 1, c, E, H, hs, hsub, hok, h, hIt, ρ, a, w, hS, hE, hd, hn => by
    cases c with
    | seq x y =>
      simp only [okDst, Bool.and_eq_true] at hok
      refine wp_seq (wp_mono (wpC_sound hX h hbase ⟨fn, hf, hN, body, hb, fun p hp => hsub p (by simp [blocksC]; exact .inl hp), hok.1⟩ hS hE hd hn) ?_)
      rintro e a' w' ⟨x', E', H', ρ', h1, h2, h3, h4, h5, h6⟩
      cases x' with
      | normal =>
        cases e <;> simp only [AExit.rel] at h1
        exact wpN_sound hX hf hb hbase hN k n y E' H' hs (fun p hp => hsub p (by simp [blocksC]; exact .inr hp)) hok.2 h2 hIt ρ' a' w' h6 h3 h4 h5
      | exit i => cases e <;> simp only [AExit.rel] at h1; exact ⟨.exit i, E', H', ρ', h1, h2, h3, h4, h5, h6⟩
      | ret => cases e <;> simp only [AExit.rel] at h1; exact ⟨.ret, E', H', ρ', trivial, h2, h3, h4, h5, h6⟩
      | panic v => cases e <;> simp only [AExit.rel] at h1; exact ⟨.panic v, E', H', ρ', h1, h2, h3, h4, h5, h6⟩
    | _ => simp [isSeqs] at hs
theorem fn_cutN {X : Ctx} (hX : CtxOk X) {k n f : Nat} {fn : Func} {c : Code} (hf : X.fns f = some fn) (hb : fn.body = some c) (hs : isSeqs k c = true) {args : List AVal} {H0 : AHeap} {It : Env → AHeap → Prop} {K : Out → AHeap → Prop} (h : wpN X k n f H0.next c (env0 args 0) H0 It (endA X.P fn K))
    (hIt : ∀ E H, It E H → ∀ ρ0 w0 N ρ a w, fn.ntmps ≤ N → Step ρ0 H0 w0 ρ H w → RelE ρ H.next E a → a.defers = [] → a.tmps.size = N → (tailN k c).wp X.P (@Lift ⟨[]⟩ ρ0 H0 w0 N (endA X.P fn K)) a w)
    {ρ : Rho} {w : World} (hR : Rel ρ H0 w) (hargs : belowL H0.next args = true) :
    Calls X.P f (trL ρ args).toArray w fun e w' => ∃ out H' ρ', Out.rel ρ' H'.next out e ∧ K out H' ∧ Step ρ H0 w ρ' H' w' := by
  obtain ⟨q1, q2, c2, q3, q4⟩ := hX.fns f fn hf
  rw [hb] at q3
  cases q3
  refine fn_sound q1 hb hR hargs (fun a hE hd hN => ?_)
  exact @wpN_sound ⟨[]⟩ X hX f H0.next fn c hf hb ρ H0 w _ (Nat.le_refl _) hN It _ k n c _ _ hs (fun p hp => hp) q4 h (fun E H hi ρ' a' w' h1 h2 h3 h4 => hIt E H hi ρ w _ ρ' a' w' hN h1 h2 h3 h4) ρ a w (Step.refl hR) hE hd rfl
def RoundC (base : Nat) {S : Type} (st : S → Env × AHeap) (μ : S → Nat) (T : S → Prop) (s : S) (Q : AExit → Env → AHeap → Prop) : AExit → Env → AHeap → Prop
  | .normal, E, H => ∃ s' σ, μ s' < μ s ∧ T s' ∧ sigOk base σ = true ∧ sigInj σ (st s').2.bs = true ∧ subER (st s').2.next σ (st s').1 E ∧ subHR (st s').2.next σ (st s').2.bs H
  | x, E, H => Q x E H
theorem loopC_sound [Dfs] {X : Ctx} (hX : CtxOk X) {ρ0 : Rho} {H0 : AHeap} {w0 : World} {N : Nat} {f n base : Nat} {fn : Func} {body c : Code} (hf : X.fns f = some fn) (hb : fn.body = some body) (hsub : ∀ p ∈ blocksC c, p ∈ blocksC body) (hok : okDst fn.ntmps c = true) (hN0 : fn.ntmps ≤ N)
    {S : Type} (st : S → Env × AHeap) (hbase : H0.next ≤ base) (hnx : ∀ s, base ≤ (st s).2.next) (μ : S → Nat) (T : S → Prop) (Q : AExit → Env → AHeap → Prop)
    (hround : ∀ s, T s → ∃ R, (∀ x E H, R x E H → RoundC base st μ T s Q x E H) ∧ wpC X n f base c (st s).1 (st s).2 R) :
    ∀ s, T s → ∀ ρ a w, Step ρ0 H0 w0 ρ (st s).2 w → RelE ρ (st s).2.next (st s).1 a → a.defers = Dfs.D → a.tmps.size = N → (Code.loop c).wp X.P (Lift ρ0 H0 w0 N Q) a w := by
  intro s hT ρ a w hS hE hd hN
  refine wp_loop_rounds (μ s + 1) ?_
  have key : ∀ (m : Nat) (s : S) (ρ : Rho) (a : Act) (w : World), μ s < m → T s → Step ρ0 H0 w0 ρ (st s).2 w → RelE ρ (st s).2.next (st s).1 a → a.defers = Dfs.D → a.tmps.size = N → Code.rounds X.P c (Lift ρ0 H0 w0 N Q) m a w := by
    intro m
    induction m with
    | zero => intro s ρ a w h; omega
    | succ m ih =>
      intro s ρ a w hm hT hS hE hd hN
      show Code.wp X.P c (Exit.then (Code.rounds X.P c (Lift ρ0 H0 w0 N Q) m) (Lift ρ0 H0 w0 N Q)) a w
      obtain ⟨R, hRR, hwp⟩ := hround s hT
      refine wp_mono (wpC_sound hX hwp hbase ⟨fn, hf, hN0, body, hb, hsub, hok⟩ hS hE hd hN) ?_
      rintro e a' w' ⟨x', E', H', ρ', q1, q2, q3, q4, q5, q6⟩
      have q2 := hRR _ _ _ q2
      cases x' with
      | normal =>
        cases e <;> simp only [AExit.rel] at q1
        obtain ⟨s', σ, g1, g2, g3, g4, g5, g6⟩ := q2
        obtain ⟨k1, k2⟩ := sub_stepR q6 q3 hbase g3 g4 g5 g6 (Nat.le_trans hbase (hnx s'))
        exact ih s' _ a' w' (by omega) g2 k1 k2 q4 q5
      | exit i => cases e <;> simp only [AExit.rel] at q1; exact ⟨.exit i, E', H', ρ', q1, q2, q3, q4, q5, q6⟩
      | ret => cases e <;> simp only [AExit.rel] at q1; exact ⟨.ret, E', H', ρ', trivial, q2, q3, q4, q5, q6⟩
      | panic v => cases e <;> simp only [AExit.rel] at q1; exact ⟨.panic v, E', H', ρ', q1, q2, q3, q4, q5, q6⟩
  exact key _ s ρ a w (Nat.lt_succ_self _) hT hS hE hd hN
theorem Step.more {ρ0 ρ : Rho} {H0 : AHeap} {w0 w : World} {n : Nat} {bs : List (Nat × ABlk)} (h : Step ρ0 H0 w0 ρ ⟨n, bs⟩ w) : Step ρ0 H0 w0 (ρ.set n 0 0) ⟨n + 1, bs⟩ w := by
  refine ⟨h.agree.trans (Rho.set_agree ρ n 0 0) h.next, Nat.le_succ_of_le h.next, h.rel.more 0 0, h.os, h.tape, h.output, h.size, h.old, fun g hg => ?_⟩
  obtain ⟨b, x, hx, ho, rfl⟩ := hg
  have e : (ρ.set n 0 0).blk b = ρ.blk b := (Rho.set_agree ρ n 0 0 b (h.rel.blk b x hx).1).1
  rw [e]
  exact h.owns _ ⟨b, x, hx, ho, rfl⟩
theorem RelE.more {ρ : Rho} {n : Nat} {E : Env} {a : Act} (h : RelE ρ n E a) : RelE (ρ.set n 0 0) (n + 1) E a := h.step (Rho.set_agree ρ n 0 0) (Nat.le_succ _)
theorem seqloop_sound [Dfs] {X : Ctx} (hX : CtxOk X) {ρ0 : Rho} {H0 : AHeap} {w0 : World} {N : Nat} {f n base id : Nat} {fn : Func} {body a c r : Code} (hf : X.fns f = some fn) (hb : fn.body = some body) (hsub : ∀ p ∈ blocksC (Code.seq (.seq a (.block id (.loop c))) r), p ∈ blocksC body) (hok : okDst fn.ntmps (Code.seq (.seq a (.block id (.loop c))) r) = true) (hN0 : fn.ntmps ≤ N)
    {S : Type} (st : S → Env × AHeap) (hbase : H0.next ≤ base) (hnx : ∀ s, base ≤ (st s).2.next) (μ : S → Nat) (T : S → Prop) (Q : AExit → Env → AHeap → Prop) {E : Env} {H : AHeap}
    (ha : wpC X n f base a E H fun x E H => match x with
      | .normal => ∃ s σ, T s ∧ sigOk base σ = true ∧ sigInj σ (st s).2.bs = true ∧ subER (st s).2.next σ (st s).1 E ∧ subHR (st s).2.next σ (st s).2.bs H
      | _ => False)
    (hround : ∀ s, T s → ∃ R, (∀ x E H, R x E H → RoundC base st μ T s (fun x E H => match x with
      | .exit i => i = id ∧ wpC X n f base r E H Q
      | .ret => Q .ret E H
      | _ => False) x E H) ∧ wpC X n f base c (st s).1 (st s).2 R) :
    ∀ ρ act w, Step ρ0 H0 w0 ρ H w → RelE ρ H.next E act → act.defers = Dfs.D → act.tmps.size = N → (Code.seq (.seq a (.block id (.loop c))) r).wp X.P (Lift ρ0 H0 w0 N Q) act w := by
  intro ρ act w hS hE hd hN
  simp only [okDst, Bool.and_eq_true] at hok
  obtain ⟨⟨ok1, ok2⟩, ok3⟩ := hok
  refine wp_seq (wp_seq (wp_mono (wpC_sound hX ha hbase ⟨fn, hf, hN0, body, hb, fun p hp => hsub p (by simp only [blocksC, List.mem_append, List.mem_cons]; exact .inl (.inl hp)), ok1⟩ hS hE hd hN) ?_))
  rintro e a' w' ⟨x', E', H', ρ', q1, q2, q3, q4, q5, q6⟩
  cases x' with
  | exit i => exact q2.elim
  | ret => exact q2.elim
  | panic v => exact q2.elim
  | normal =>
    cases e <;> simp only [AExit.rel] at q1
    obtain ⟨s, σ, g2, g3, g4, g5, g6⟩ := q2
    obtain ⟨k1, k2⟩ := sub_stepR q6 q3 hbase g3 g4 g5 g6 (Nat.le_trans hbase (hnx s))
    refine wp_block (wp_mono (loopC_sound hX (n := n) (c := c) hf hb (fun p hp => hsub p (by simp only [blocksC, List.mem_append, List.mem_cons]; exact .inl (.inr (.inr hp)))) ok2 hN0 st hbase hnx μ T _ hround s g2 _ _ _ k1 k2 q4 q5) ?_)
    rintro e a2 w2 ⟨x2, E2, H2, ρ2, r1, r2, r3, r4, r5, r6⟩
    cases x2 with
    | normal => exact r2.elim
    | panic v => exact r2.elim
    | ret => cases e <;> simp only [AExit.rel] at r1; exact ⟨.ret, E2, H2, ρ2, trivial, r2, r3, r4, r5, r6⟩
    | exit i =>
      cases e <;> simp only [AExit.rel] at r1
      obtain ⟨rfl, r7⟩ := r2
      subst r1
      simp only [Exit.inBlock, if_pos]
      exact wpC_sound hX r7 hbase ⟨fn, hf, hN0, body, hb, fun p hp => hsub p (by simp only [blocksC, List.mem_append, List.mem_cons]; exact .inr hp), ok3⟩ r6 r3 r4 r5
theorem seqloopR_sound [Dfs] {X : Ctx} (hX : CtxOk X) {ρ0 : Rho} {H0 : AHeap} {w0 : World} {N : Nat} {f n base id : Nat} {fn : Func} {body a c r : Code} (hf : X.fns f = some fn) (hb : fn.body = some body) (hsub : ∀ p ∈ blocksC (Code.seq (.seq a (.block id (.loop c))) r), p ∈ blocksC body) (hok : okDst fn.ntmps (Code.seq (.seq a (.block id (.loop c))) r) = true) (hN0 : fn.ntmps ≤ N)
    {S : Type} (st : S → Env × AHeap) (hbase : H0.next ≤ base) (hnx : ∀ s, base ≤ (st s).2.next) (μ : S → Nat) (T : S → Prop) (Q : AExit → Env → AHeap → Prop) {E : Env} {H : AHeap}
    (ha : wpC X n f base a E H fun x E H => match x with
      | .normal => ∃ s σ, T s ∧ sigOk base σ = true ∧ sigInj σ (st s).2.bs = true ∧ subER (st s).2.next σ (st s).1 E ∧ subHR (st s).2.next σ (st s).2.bs H
      | _ => False)
    (hround : ∀ s, T s → ∃ R, (∀ x E H, R x E H → RoundC base st μ T s (fun x E H => match x with
      | .exit i => i = id ∧ ∃ E1 H1 σ, base ≤ H1.next ∧ sigOk base σ = true ∧ sigInj σ H1.bs = true ∧ subER H1.next σ E1 E ∧ subHR H1.next σ H1.bs H ∧ wpC X n f base r E1 H1 Q
      | .ret => Q .ret E H
      | _ => False) x E H) ∧ wpC X n f base c (st s).1 (st s).2 R) :
    ∀ ρ act w, Step ρ0 H0 w0 ρ H w → RelE ρ H.next E act → act.defers = Dfs.D → act.tmps.size = N → (Code.seq (.seq a (.block id (.loop c))) r).wp X.P (Lift ρ0 H0 w0 N Q) act w := by
  intro ρ act w hS hE hd hN
  simp only [okDst, Bool.and_eq_true] at hok
  obtain ⟨⟨ok1, ok2⟩, ok3⟩ := hok
  refine wp_seq (wp_seq (wp_mono (wpC_sound hX ha hbase ⟨fn, hf, hN0, body, hb, fun p hp => hsub p (by simp only [blocksC, List.mem_append, List.mem_cons]; exact .inl (.inl hp)), ok1⟩ hS hE hd hN) ?_))
  rintro e a' w' ⟨x', E', H', ρ', q1, q2, q3, q4, q5, q6⟩
  cases x' with
  | exit i => exact q2.elim
  | ret => exact q2.elim
  | panic v => exact q2.elim
  | normal =>
    cases e <;> simp only [AExit.rel] at q1
    obtain ⟨s, σ, g2, g3, g4, g5, g6⟩ := q2
    obtain ⟨k1, k2⟩ := sub_stepR q6 q3 hbase g3 g4 g5 g6 (Nat.le_trans hbase (hnx s))
    refine wp_block (wp_mono (loopC_sound hX (n := n) (c := c) hf hb (fun p hp => hsub p (by simp only [blocksC, List.mem_append, List.mem_cons]; exact .inl (.inr (.inr hp)))) ok2 hN0 st hbase hnx μ T _ hround s g2 _ _ _ k1 k2 q4 q5) ?_)
    rintro e a2 w2 ⟨x2, E2, H2, ρ2, r1, r2, r3, r4, r5, r6⟩
    cases x2 with
    | normal => exact r2.elim
    | panic v => exact r2.elim
    | ret => cases e <;> simp only [AExit.rel] at r1; exact ⟨.ret, E2, H2, ρ2, trivial, r2, r3, r4, r5, r6⟩
    | exit i =>
      cases e <;> simp only [AExit.rel] at r1
      obtain ⟨rfl, E1, H1, σ1, g1, g3, g4, g5, g6, r7⟩ := r2
      obtain ⟨k3, k4⟩ := sub_stepR r6 r3 hbase g3 g4 g5 g6 (Nat.le_trans hbase g1)
      subst r1
      simp only [Exit.inBlock, if_pos]
      exact wpC_sound hX r7 hbase ⟨fn, hf, hN0, body, hb, fun p hp => hsub p (by simp only [blocksC, List.mem_append, List.mem_cons]; exact .inr hp), ok3⟩ k3 k4 r4 r5
end Go.Proofs.Ytjacnjecggedhaa.Ev
namespace Go.Proofs.Ytjacnjecggedhaa.Ev
set_option linter.unusedVariables false
set_option linter.unusedSimpArgs false
open Go.RowKit
def InFn (X : Ctx) (f : FuncId) (c : Code) : Prop := ∃ fn, X.fns f = some fn ∧ ∃ body, fn.body = some body ∧ (∀ p ∈ blocksC c, p ∈ blocksC body) ∧ okDst fn.ntmps c = true
def codeAt : List Bool → Code → Code
  | [], c => c
  | b :: p, c => codeAt p (match c with
    | .seq x y => match b with
      | false => x
      | true => y
    | .cond _ x y => match b with
      | false => x
      | true => y
    | .block _ c => c
    | .loop c => c
    | .scope c => c
    | c => c)
theorem codeAt_in {n : Nat} : ∀ (p : List Bool) (c : Code), okDst n c = true → (∀ q ∈ blocksC (codeAt p c), q ∈ blocksC c) ∧ okDst n (codeAt p c) = true
  | [], c, h => ⟨fun q hq => hq, h⟩
  | b :: p, c, h => by
    have key : ∀ c', okDst n c' = true → (∀ q ∈ blocksC c', q ∈ blocksC c) → (∀ q ∈ blocksC (codeAt p c'), q ∈ blocksC c) ∧ okDst n (codeAt p c') = true := fun c' h1 h2 =>
      ⟨fun q hq => h2 q ((codeAt_in p c' h1).1 q hq), (codeAt_in p c' h1).2⟩
    show (∀ q ∈ blocksC (codeAt p _), q ∈ blocksC c) ∧ okDst n (codeAt p _) = true
    refine key _ ?_ ?_ <;> clear key
    · cases c <;> cases b <;> simp only [okDst, Bool.and_eq_true] at h ⊢ <;> first | exact h | exact h.1 | exact h.2
    · cases c <;> cases b <;> intro q hq <;> simp only [blocksC, List.mem_append, List.mem_cons] at hq ⊢ <;> first | exact hq | exact .inl hq | exact .inr hq
theorem inFn_at {X : Ctx} (hX : CtxOk X) {f : FuncId} {fn : Func} {body : Code} (hf : X.fns f = some fn) (hb : fn.body = some body) (p : List Bool) : InFn X f (codeAt p body) := by
  obtain ⟨_, _, c, hc, hok⟩ := hX.fns f fn hf
  rw [hb] at hc
  cases hc
  obtain ⟨h1, h2⟩ := codeAt_in p body hok
  exact ⟨fn, hf, body, hb, h1, h2⟩
def Gd (X : Ctx) (f : FuncId) (H0 : AHeap) (c : Code) (Q : AExit → Env → AHeap → Prop) (E : Env) (H : AHeap) : Prop :=
  ∀ fn, X.fns f = some fn → ∀ N, fn.ntmps ≤ N → ∀ (d : Dfs) ρ0 w0 ρ a w, Step ρ0 H0 w0 ρ H w → RelE ρ H.next E a → a.defers = d.D → a.tmps.size = N → c.wp X.P (@Lift d ρ0 H0 w0 N Q) a w
section
variable {X : Ctx} {f : FuncId} {H0 : AHeap} {Q : AExit → Env → AHeap → Prop} {E : Env} {H : AHeap}
theorem Gd.walk (hX : CtxOk X) {n base : Nat} {c : Code} (hb : H0.next ≤ base) (hin : InFn X f c) (h : wpC X n f base c E H Q) : Gd X f H0 c Q E H := by
  intro fn hf N hN d ρ0 w0 ρ a w hS hE hd hn
  obtain ⟨fn', hf', body, q1, q2, q3⟩ := hin
  rw [hf] at hf'
  cases hf'
  exact @wpC_sound X hX d n f base c E H Q h ρ0 H0 w0 N ρ a w hb ⟨fn, hf, hN, body, q1, q2, q3⟩ hS hE hd hn
theorem Gd.mono {c : Code} {Q' : AExit → Env → AHeap → Prop} (h : Gd X f H0 c Q E H) (hq : ∀ x E H, Q x E H → Q' x E H) : Gd X f H0 c Q' E H := by
  intro fn hf N hN d ρ0 w0 ρ a w hS hE hd hn
  refine wp_mono (h fn hf N hN d ρ0 w0 ρ a w hS hE hd hn) ?_
  rintro e a' w' ⟨x, E', H', ρ', q1, q2, q3⟩
  exact ⟨x, E', H', ρ', q1, hq _ _ _ q2, q3⟩
theorem Gd.sub {c : Code} {base : Nat} {σ : List (Nat × Nat)} {E1 : Env} {H1 : AHeap} (hb : H0.next ≤ base) (hn1 : H0.next ≤ H1.next) (h : Gd X f H0 c Q E1 H1)
    (hσ : sigOk base σ = true) (hi : sigInj σ H1.bs = true) (h1 : subER H1.next σ E1 E) (h2 : subHR H1.next σ H1.bs H) : Gd X f H0 c Q E H := by
  intro fn hf N hN d ρ0 w0 ρ a w hS hE hd hn
  obtain ⟨k1, k2⟩ := sub_stepR hS hE hb hσ hi h1 h2 hn1
  exact h fn hf N hN d ρ0 w0 _ a w k1 k2 hd hn
theorem Gd.seq {c1 c2 : Code} (h : Gd X f H0 c1 (fun x E H => match x with
      | .normal => Gd X f H0 c2 Q E H
      | x => Q x E H) E H) : Gd X f H0 (.seq c1 c2) Q E H := by
  intro fn hf N hN d ρ0 w0 ρ a w hS hE hd hn
  refine wp_seq (wp_mono (h fn hf N hN d ρ0 w0 ρ a w hS hE hd hn) ?_)
  rintro e a' w' ⟨x, E', H', ρ', q1, q2, q3, q4, q5, q6⟩
  cases x with
  | normal => cases e <;> simp only [AExit.rel] at q1; exact q2 fn hf N hN d ρ0 w0 ρ' a' w' q6 q3 q4 q5
  | exit i => cases e <;> simp only [AExit.rel] at q1; exact ⟨.exit i, E', H', ρ', q1, q2, q3, q4, q5, q6⟩
  | ret => cases e <;> simp only [AExit.rel] at q1; exact ⟨.ret, E', H', ρ', trivial, q2, q3, q4, q5, q6⟩
  | panic v => cases e <;> simp only [AExit.rel] at q1; exact ⟨.panic v, E', H', ρ', q1, q2, q3, q4, q5, q6⟩
theorem Gd.block {c : Code} {i : Nat} (h : Gd X f H0 c (fun x E H => match x with
      | .exit j => match Nat.beq j i with
        | true => Q .normal E H
        | false => Q (.exit j) E H
      | x => Q x E H) E H) : Gd X f H0 (.block i c) Q E H := by
  intro fn hf N hN d ρ0 w0 ρ a w hS hE hd hn
  refine wp_block (wp_mono (h fn hf N hN d ρ0 w0 ρ a w hS hE hd hn) ?_)
  rintro e a' w' ⟨x, E', H', ρ', q1, q2, q3, q4, q5, q6⟩
  cases x with
  | normal => cases e <;> simp only [AExit.rel] at q1; exact ⟨.normal, E', H', ρ', trivial, q2, q3, q4, q5, q6⟩
  | exit j =>
    cases e <;> simp only [AExit.rel] at q1
    subst q1
    cases hj : Nat.beq j i with
    | true =>
      simp only [hj] at q2
      have hj' := nat_beq_eq.1 hj
      simp only [Exit.inBlock, hj', if_true]
      exact ⟨.normal, E', H', ρ', trivial, q2, q3, q4, q5, q6⟩
    | false =>
      simp only [hj] at q2
      have hj' := nat_beq_ne.1 hj
      simp only [Exit.inBlock, hj', if_false]
      exact ⟨.exit j, E', H', ρ', rfl, q2, q3, q4, q5, q6⟩
  | ret => cases e <;> simp only [AExit.rel] at q1; exact ⟨.ret, E', H', ρ', trivial, q2, q3, q4, q5, q6⟩
  | panic v => cases e <;> simp only [AExit.rel] at q1; exact ⟨.panic v, E', H', ρ', q1, q2, q3, q4, q5, q6⟩
theorem Gd.scope {c : Code} (h : Gd X f H0 c Q E H) : Gd X f H0 (.scope c) Q E H := by
  intro fn hf N hN d ρ0 w0 ρ a w hS hE hd hn
  refine wp_scope_straight (wp_mono (h fn hf N hN d ρ0 w0 ρ a w hS hE hd hn) ?_)
  rintro e a' w' ⟨x, E', H', ρ', q1, q2⟩
  cases e <;> cases x <;> simp only [AExit.rel] at q1
  · exact ⟨.normal, E', H', ρ', trivial, q2⟩
  · exact ⟨.exit _, E', H', ρ', q1, q2⟩
  · exact ⟨.ret, E', H', ρ', trivial, q2⟩
  · exact ⟨.panic _, E', H', ρ', q1, q2⟩
theorem Gd.loop {c : Code} (I : Nat → Env → AHeap → Prop)
    (hr : ∀ m E H, I m E H → Gd X f H0 c (fun x E H => match x with
      | .normal => ∃ m', m' < m ∧ I m' E H
      | x => Q x E H) E H) : ∀ m E H, I m E H → Gd X f H0 (.loop c) Q E H := by
  intro m E H hI fn hf N hN d ρ0 w0 ρ a w hS hE hd hn
  refine wp_loop_rounds (m + 1) ?_
  have key : ∀ (k m : Nat) (E : Env) (H : AHeap) (ρ : Rho) (a : Act) (w : World), m < k → I m E H → Step ρ0 H0 w0 ρ H w → RelE ρ H.next E a → a.defers = d.D → a.tmps.size = N → Code.rounds X.P c (@Lift d ρ0 H0 w0 N Q) k a w := by
    intro k
    induction k with
    | zero => intro m E H ρ a w h; omega
    | succ k ih =>
      intro m E H ρ a w hm hI hS hE hd hn
      show Code.wp X.P c (Exit.then (Code.rounds X.P c (@Lift d ρ0 H0 w0 N Q) k) (@Lift d ρ0 H0 w0 N Q)) a w
      refine wp_mono (hr m E H hI fn hf N hN d ρ0 w0 ρ a w hS hE hd hn) ?_
      rintro e a' w' ⟨x, E', H', ρ', q1, q2, q3, q4, q5, q6⟩
      cases x with
      | normal =>
        cases e <;> simp only [AExit.rel] at q1
        obtain ⟨m', g1, g2⟩ := q2
        exact ih m' E' H' ρ' a' w' (by omega) g2 q6 q3 q4 q5
      | exit i => cases e <;> simp only [AExit.rel] at q1; exact ⟨.exit i, E', H', ρ', q1, q2, q3, q4, q5, q6⟩
      | ret => cases e <;> simp only [AExit.rel] at q1; exact ⟨.ret, E', H', ρ', trivial, q2, q3, q4, q5, q6⟩
      | panic v => cases e <;> simp only [AExit.rel] at q1; exact ⟨.panic v, E', H', ρ', q1, q2, q3, q4, q5, q6⟩
  exact key _ m E H ρ a w (Nat.lt_succ_self _) hI hS hE hd hn
theorem Gd.states {c : Code} {S : Type} (st : S → Env × AHeap) {base : Nat} (hb : H0.next ≤ base) (hnx : ∀ s, base ≤ (st s).2.next) (μ : S → Nat) (T : S → Prop)
    (hr : ∀ s, T s → Gd X f H0 c (RoundC base st μ T s Q) (st s).1 (st s).2) : ∀ s, T s → Gd X f H0 (.loop c) Q (st s).1 (st s).2 := by
  intro s hT
  refine Gd.loop (fun m E H => ∃ s, μ s = m ∧ T s ∧ ∀ c Q', Gd X f H0 c Q' (st s).1 (st s).2 → Gd X f H0 c Q' E H) (fun m E H hI => ?_) (μ s) _ _ ⟨s, rfl, hT, fun _ _ h => h⟩
  obtain ⟨s, rfl, hT, hs⟩ := hI
  refine hs _ _ (Gd.mono (hr s hT) (fun x E H h => ?_))
  cases x with
  | normal =>
    obtain ⟨s', σ, k1, k2, g1, g2, g3, g4⟩ := h
    exact ⟨μ s', k1, s', rfl, k2, fun c Q' h => Gd.sub hb (Nat.le_trans hb (hnx s')) h g1 g2 g3 g4⟩
  | exit i => exact h
  | ret => exact h
  | panic v => exact h
theorem Gd.walkN (hX : CtxOk X) {base : Nat} (hb : H0.next ≤ base) {It : Env → AHeap → Prop} : ∀ (k n : Nat) (c : Code) (E : Env) (H : AHeap), isSeqs k c = true → InFn X f c → wpN X k n f base c E H It Q →
    (∀ E H, It E H → Gd X f H0 (tailN k c) Q E H) → Gd X f H0 c Q E H := by
  intro k n c E H hs hin h hIt fn hf N hN d ρ0 w0 ρ a w hS hE hd hn
  obtain ⟨fn', hf', body, q1, q2, q3⟩ := hin
  rw [hf] at hf'
  cases hf'
  exact @wpN_sound d X hX f base fn body hf q1 ρ0 H0 w0 N hb hN It Q k n c E H hs q2 q3 h (fun E H hi ρ a w h1 h2 h3 h4 => hIt E H hi fn hf N hN d ρ0 w0 ρ a w h1 h2 h3 h4) ρ a w hS hE hd hn
end
theorem fn_good {X : Ctx} (hX : CtxOk X) {f : FuncId} {fn : Func} {c : Code} (hf : X.fns f = some fn) (hb : fn.body = some c) {args : List AVal} {H0 : AHeap} {K : Out → AHeap → Prop}
    (h : Gd X f H0 c (endA X.P fn K) (env0 args 0) H0) {ρ : Rho} {w : World} (hR : Rel ρ H0 w) (hargs : belowL H0.next args = true) :
    Calls X.P f (trL ρ args).toArray w fun e w' => ∃ out H' ρ', Out.rel ρ' H'.next out e ∧ K out H' ∧ Step ρ H0 w ρ' H' w' := by
  obtain ⟨q1, q2, c2, q3, q4⟩ := hX.fns f fn hf
  exact fn_sound q1 hb hR hargs (fun a hE hd hN => h fn hf _ hN ⟨[]⟩ ρ w ρ a w (Step.refl hR) hE hd rfl)
theorem law_good {X : Ctx} (hX : CtxOk X) {f : FuncId} {fn : Func} {c : Code} (hf : X.fns f = some fn) (hb : fn.body = some c) {args : List AVal}
    (h : Gd X f ⟨0, []⟩ c (endA X.P fn (fun o _ => o = .ret (.bool true))) (env0 args 0) ⟨0, []⟩) (ha : belowL 0 args = true) (ρ : Rho) (w : World) :
    Calls X.P f (trL ρ args).toArray w fun e w' => e = .returned (.bool true) ∧ Below w.heap.size w w' := by
  refine (fn_good hX hf hb h (rel_nil ρ w) ha).mono ?_
  rintro e w' ⟨out, H', ρ', q1, rfl, q3⟩
  cases e <;> simp only [Out.rel] at q1
  exact ⟨by rw [q1.1]; rfl, q3.below (Nat.le_refl _) (fun g hg => by obtain ⟨b, x, hx, _⟩ := hg; simp [AHeap.get, getB] at hx)⟩
end Go.Proofs.Ytjacnjecggedhaa.Ev
namespace Go.Proofs.Ytjacnjecggedhaa.Ev
set_option linter.unusedVariables false
set_option linter.unusedSimpArgs false
open Go.RowKit
universe u
def extS (σ : List (Nat × Nat)) : Nat → Nat → Nat → List (Nat × Nat)
  | _, 0, _ => σ
  | k, m + 1, N => (k, N) :: extS σ (k + 1) m (N + 1)
theorem extS_get {σ : List (Nat × Nat)} : ∀ {m k N b : Nat}, sigA (extS σ k m N) b = if k ≤ b ∧ b < k + m then N + (b - k) else sigA σ b
  | 0, k, N, b => by rw [if_neg (by omega)]; rfl
  | m + 1, k, N, b => by
    have ih := @extS_get σ m (k + 1) (N + 1) b
    by_cases hb : k = b
    · subst hb
      rw [if_pos (by omega), Nat.sub_self]
      simp only [sigA, extS, tab, nat_beq_eq.2 rfl, Nat.add_zero]
    · have e : sigA (extS σ k (m + 1) N) b = sigA (extS σ (k + 1) m (N + 1)) b := by
        simp only [sigA, extS, tab, nat_beq_ne.2 hb]
      rw [e, ih]
      by_cases h : k + 1 ≤ b ∧ b < k + 1 + m
      · rw [if_pos h, if_pos (by omega)]; omega
      · rw [if_neg h, if_neg (by omega)]
mutual
theorem renV_under {σ : List (Nat × Nat)} {N M : Nat} (h : ∀ b, b < N → sigA σ b < M) : ∀ v : AVal, v.under N = true → (renV σ v).under M = true
  | .int _ _, _ | .bool _, _ | .str _, _ | .nilp, _ | .nils, _ | .nilm, _ | .nilf, _ | .niface, _ => rfl
  | .ptr b i sz j, hb | .sl b i sz j n c, hb | .map b, hb | .yld b, hb => by
    simp only [renV, AVal.under, Nat.blt_eq] at hb ⊢
    exact h b hb
  | .func f a c, hb => by
    simp only [renV, AVal.under, Bool.and_eq_true] at hb ⊢
    exact ⟨renL_under h a hb.1, renL_under h c hb.2⟩
  | .agg l, hb => by simp only [renV, AVal.under] at hb ⊢; exact renL_under h l hb
  | .tup l, hb => by simp only [renV, AVal.under] at hb ⊢; exact renL_under h l hb
  | .iface t v, hb => by simp only [renV, AVal.under] at hb ⊢; exact renV_under h v hb
  | .meth m v, hb => by simp only [renV, AVal.under] at hb ⊢; exact renV_under h v hb
theorem renL_under {σ : List (Nat × Nat)} {N M : Nat} (h : ∀ b, b < N → sigA σ b < M) : ∀ l : List AVal, belowL N l = true → belowL M (renL σ l) = true
  | [], _ => rfl
  | v :: r, hb => by
    simp only [renL, belowL, Bool.and_eq_true] at hb ⊢
    exact ⟨renV_under h v hb.1, renL_under h r hb.2⟩
end
theorem ok_ren {σ : List (Nat × Nat)} {ρ : Rho} {w : World} {b : Nat} {x : ABlk} (h : x.ok (ρ.pull σ) w b) : (renB σ x).ok ρ w (sigA σ b) := by
  cases x with
  | cells e l =>
    obtain ⟨h1, h2, fz, h3, h4⟩ := h
    rw [← renL_scalar σ] at h2
    rw [← trL_ren] at h3
    rw [← renL_length σ] at h4
    exact ⟨h1, h2, fz, h3, h4⟩
  | row e T l md =>
    have hd : ∀ a, a ∈ T.flat l → tr ρ a = tr (ρ.pull σ) a := fun a ha => AVal.data_tr ((List.all_eq_true.1 (flat_data T l)) a ha) _ _
    have hL : trL ρ (T.flat l) = trL (ρ.pull σ) (T.flat l) := by rw [trL_eq, trL_eq]; exact List.map_congr_left hd
    cases md with
    | plain =>
      obtain ⟨h1, h2, h3, cur, fz, h4, h5, h6, h7⟩ := h
      exact ⟨h1, h2, h3, cur, fz, h4, h5, h6, hL ▸ h7⟩
    | strish =>
      obtain ⟨h1, h2, h3, cur, fz, h4, h5, h6, h7⟩ := h
      exact ⟨h1, h2, h3, cur, fz, h4, h5, h6, hL ▸ h7⟩
    | ro =>
      obtain ⟨h1, h2, h3, h4⟩ := h
      refine ⟨h1, h2, h3, fun i v hv => ?_⟩
      rw [hd v (List.mem_of_getElem? hv)]
      exact h4 i v hv
  | dead => trivial
def safeB (k : Nat) (B : List (Nat × ABlk)) (b : Nat) (y : ABlk) : ABlk := match y.own with
  | true => y
  | false => match Nat.blt b k with
    | true => match getB B b with
      | some x => match x.own with
        | true => .dead
        | false => y
      | none => .dead
    | false => .dead
def enumB (σ : List (Nat × Nat)) (k : Nat) (B C : List (Nat × ABlk)) : Nat → Nat → List (Nat × ABlk) → List (Nat × ABlk)
  | _, 0, r => r
  | i, m + 1, r => (sigA σ i, match getB C i with
    | some y => renB σ (safeB k B i y)
    | none => .dead) :: enumB σ k B C (i + 1) m r
theorem getB_dead : ∀ (l : List (Nat × ABlk)) (b : Nat), getB l b ≠ some .dead
  | [], b => by simp [getB]
  | (c, z) :: l, b => by
    rw [getB_cons]
    by_cases h : c = b
    · rw [if_pos h]; cases z <;> simp [ABlk.live]
    · rw [if_neg h]; exact getB_dead l b
theorem getB_enum {σ : List (Nat × Nat)} {k : Nat} {B C r : List (Nat × ABlk)} {c : Nat} {x : ABlk} : ∀ {m i : Nat}, getB (enumB σ k B C i m r) c = some x →
    (∃ b y, i ≤ b ∧ b < i + m ∧ sigA σ b = c ∧ getB C b = some y ∧ safeB k B b y = y ∧ x = renB σ y) ∨ (getB r c = some x ∧ ∀ b, i ≤ b → b < i + m → sigA σ b ≠ c)
  | 0, i, h => .inr ⟨h, fun b h1 h2 => by omega⟩
  | m + 1, i, h => by
    unfold enumB at h
    rw [getB_cons] at h
    by_cases hc : sigA σ i = c
    · rw [if_pos hc] at h
      refine .inl ?_
      cases hg : getB C i with
      | none => rw [hg] at h; cases h
      | some y =>
        rw [hg] at h
        have : safeB k B i y = y ∧ x = renB σ y := by
          have hs : safeB k B i y = y ∨ safeB k B i y = .dead := by
            unfold safeB
            (repeat' split) <;> first | exact .inl rfl | exact .inr rfl
          rcases hs with hs | hs
          · simp only [hs] at h
            cases y <;> simp only [renB, ABlk.live] at h <;> first | (cases h; exact ⟨hs, rfl⟩) | cases h
          · simp only [hs] at h
            cases h
        exact ⟨i, y, Nat.le_refl _, by omega, hc, hg, this.1, this.2⟩
    · rw [if_neg hc] at h
      rcases getB_enum h with ⟨b, y, h1, h2, h3⟩ | ⟨h1, h2⟩
      · exact .inl ⟨b, y, by omega, by omega, h3⟩
      · refine .inr ⟨h1, fun b hb1 hb2 => ?_⟩
        by_cases hb : b = i
        · subst hb; exact hc
        · exact h2 b (by omega) (by omega)
def mergeH (σ : List (Nat × Nat)) (C H C' : AHeap) : AHeap :=
  ⟨H.next + (C'.next - C.next), enumB (extS σ C.next (C'.next - C.next) H.next) C.next C.bs C'.bs 0 C'.next H.bs⟩
def renO (σ : List (Nat × Nat)) : Out → Out
  | .ret v => .ret (renV σ v)
  | .panic v => .panic (renV σ v)
noncomputable def gcSub {S : Type u} (dec : List AVal → AHeap → Option (List (Nat × Nat) × S)) (cheap : S → AHeap) (F : S → (Out → AHeap → Prop) → Prop) : GC := fun args H K => match dec args H with
  | some (σ, s) => F s (fun out C' => forceH (mergeH σ (cheap s) H C') (K (renO (extS σ (cheap s).next (C'.next - (cheap s).next) H.next) out)))
  | none => Stuck 34 []
structure DecOk {S : Type u} (dec : List AVal → AHeap → Option (List (Nat × Nat) × S)) (cargs : S → List AVal) (cheap : S → AHeap) : Prop where
  ok : ∀ args H σ s, dec args H = some (σ, s) → belowL H.next args = true → (∀ b x, H.get b = some x → b < H.next ∧ x.under H.next = true) →
    args = renL σ (cargs s) ∧ belowL (cheap s).next (cargs s) = true ∧ (∀ b x, (cheap s).get b = some x → b < (cheap s).next ∧ x.under (cheap s).next = true ∧ H.get (sigA σ b) = some (renB σ x)) ∧
    (∀ b b', b < (cheap s).next → b' < (cheap s).next → b ≠ b' → sigA σ b ≠ sigA σ b') ∧ ∀ b, b < (cheap s).next → sigA σ b < H.next
theorem gc_sub {P : Program} {f : FuncId} {S : Type u} {dec : List AVal → AHeap → Option (List (Nat × Nat) × S)} {cargs : S → List AVal} {cheap : S → AHeap} {F : S → (Out → AHeap → Prop) → Prop} (he : ∀ vs w, (callFunc f vs).run P w = .ok (.enter f vs) w) (hdec : DecOk dec cargs cheap)
    (hF : ∀ s k, F s k → ∀ ρ w, Rel ρ (cheap s) w → belowL (cheap s).next (cargs s) = true → Calls P f (trL ρ (cargs s)).toArray w fun e w' => ∃ out H' ρ', Out.rel ρ' H'.next out e ∧ k out H' ∧ Step ρ (cheap s) w ρ' H' w') : GcSound P f (gcSub dec cheap F) := by
  intro args H K hK ρ w hR hargs
  refine ⟨he, ?_⟩
  unfold gcSub at hK
  split at hK
  rotate_left
  · exact (not_stuck hK).elim
  rename_i σ s hd
  obtain ⟨d1, d2, d3, d4, d5⟩ := hdec.ok args H σ s hd hargs (fun b x hx => ⟨(hR.blk b x hx).1, (hR.blk b x hx).2.1⟩)
  generalize hC : cheap s = C at d2 d3 d4 d5 hK
  have hRel : Rel (ρ.pull σ) C w := by
    refine ⟨fun b x hx => ?_, fun b b' x x' hx hx' ho hne => ?_⟩
    · obtain ⟨q1, q2, q3⟩ := d3 b x hx
      obtain ⟨r1, r2, r3, r4⟩ := hR.blk _ _ q3
      exact ⟨q1, q2, r3, ren_ok r4⟩
    · exact hR.inj _ _ _ _ (d3 b x hx).2.2 (d3 b' x' hx').2.2 (by rw [renB_own]; exact ho) (d4 b b' (d3 b x hx).1 (d3 b' x' hx').1 hne)
  have hcall := hF s _ hK (ρ.pull σ) w (by rw [hC]; exact hRel) (by rw [hC]; exact d2)
  rw [d1, trL_ren]
  refine hcall.mono ?_
  rintro e w' ⟨out, C', ρ', h1, h2, h3⟩
  rw [hC] at h3
  rw [forceH_eq] at h2
  have hle := h3.next
  generalize hm : C'.next - C.next = m at h2
  have hCm : C'.next = C.next + m := by omega
  generalize hτ : extS σ C.next m H.next = τ at h2
  have hτ1 : ∀ b, b < C.next → sigA τ b = sigA σ b := fun b hb => by rw [← hτ, extS_get, if_neg (by omega)]
  have hτ2 : ∀ b, C.next ≤ b → b < C'.next → sigA τ b = H.next + (b - C.next) := fun b hb hb' => by rw [← hτ, extS_get, if_pos (by omega)]
  have hτM : ∀ b, b < C'.next → sigA τ b < H.next + m := fun b hb => by
    by_cases hk : b < C.next
    · rw [hτ1 b hk]; have := d5 b hk; omega
    · rw [hτ2 b (by omega) hb]; omega
  have hτi : ∀ b b', b < C'.next → b' < C'.next → b ≠ b' → sigA τ b ≠ sigA τ b' := fun b b' hb hb' hne => by
    by_cases hk : b < C.next <;> by_cases hk' : b' < C.next
    · rw [hτ1 b hk, hτ1 b' hk']; exact d4 b b' hk hk' hne
    · rw [hτ1 b hk, hτ2 b' (by omega) hb']; have := d5 b hk; omega
    · rw [hτ2 b (by omega) hb, hτ1 b' hk']; have := d5 b' hk'; omega
    · rw [hτ2 b (by omega) hb, hτ2 b' (by omega) hb']; omega
  let π : Rho := ⟨fun c => if c < H.next then ρ.blk c else ρ'.blk (C.next + (c - H.next)), fun c => if c < H.next then ρ.off c else ρ'.off (C.next + (c - H.next)), fun c => if c < H.next then ρ.cap c else ρ'.cap (C.next + (c - H.next))⟩
  have hπ : Rho.agree H.next ρ π := fun c hc => ⟨if_pos hc, if_pos hc, if_pos hc⟩
  have hA : Rho.agree C'.next ρ' (π.pull τ) := by
    intro b hb
    by_cases hk : b < C.next
    · obtain ⟨a1, a2, a3⟩ := h3.agree b hk
      have hlt := d5 b hk
      simp only [Rho.pull, hτ1 b hk]
      exact ⟨(if_pos hlt).trans a1.symm, (if_pos hlt).trans a2.symm, (if_pos hlt).trans a3.symm⟩
    · have hx := hτ2 b (by omega) hb
      have hn : ¬ (H.next + (b - C.next) < H.next) := by omega
      have hi : C.next + (H.next + (b - C.next) - H.next) = b := by omega
      simp only [Rho.pull, hx]
      refine ⟨(if_neg hn).trans (by rw [hi]), (if_neg hn).trans (by rw [hi]), (if_neg hn).trans (by rw [hi])⟩
  have hτblk : ∀ b, b < C'.next → π.blk (sigA τ b) = ρ'.blk b := fun b hb => (hA b hb).1
  have hownC : ∀ g, Owns (ρ.pull σ) C g → Owns ρ H g := by
    rintro g ⟨b, x, hx, ho, rfl⟩
    exact ⟨sigA σ b, renB σ x, (d3 b x hx).2.2, by rw [renB_own]; exact ho, rfl⟩
  have hget : ∀ c x, (mergeH σ C H C').get c = some x → (∃ b y, b < C'.next ∧ sigA τ b = c ∧ C'.get b = some y ∧ safeB C.next C.bs b y = y ∧ x = renB τ y) ∨ (H.get c = some x ∧ ∀ b, b < C'.next → sigA τ b ≠ c) := by
    intro c x hx
    unfold mergeH AHeap.get at hx
    simp only [hm, hτ] at hx
    rcases getB_enum hx with ⟨b, y, g1, g2, g3, g4, g5, g6⟩ | ⟨g1, g2⟩
    · exact .inl ⟨b, y, by omega, g3, g4, g5, g6⟩
    · exact .inr ⟨g1, fun b hb => g2 b (Nat.zero_le _) (by omega)⟩
  have hnext : (mergeH σ C H C').next = H.next + m := by unfold mergeH; simp only [hm]
  -- a block of the great memory that is none of the small one's is not owned by it
  have hout : ∀ c x, H.get c = some x → (∀ b, b < C'.next → sigA τ b ≠ c) → ¬ Owns (ρ.pull σ) C (ρ.blk c) := by
    rintro c x hx hc ⟨b, y, hy, ho, hg⟩
    obtain ⟨q1, _, q3⟩ := d3 b y hy
    refine hR.inj (sigA σ b) c _ _ q3 hx (by rw [renB_own]; exact ho) ?_ hg
    rw [← hτ1 b q1]
    exact hc b (by omega)
  have hne : ∀ b y c x, b < C'.next → C'.get b = some y → safeB C.next C.bs b y = y → H.get c = some x → (∀ b, b < C'.next → sigA τ b ≠ c) → (y.own = true ∨ x.own = true) → ρ'.blk b ≠ ρ.blk c := by
    intro b y c x hb hy hsf hx hc ho heq
    cases hyo : y.own with
    | true =>
      rcases h3.owns _ ⟨b, y, hy, hyo, rfl⟩ with g | g
      · have := (hR.blk c x hx).2.2.1; omega
      · rw [heq] at g; exact hout c x hx hc g
    | false =>
      have hxo : x.own = true := ho.resolve_left (fun h => by rw [hyo] at h; cases h)
      have hdead : y ≠ .dead := by rintro rfl; exact getB_dead _ _ hy
      unfold safeB at hsf
      rw [hyo] at hsf
      simp only at hsf
      split at hsf
      · rename_i hbk
        split at hsf
        · rename_i z hz
          split at hsf
          · exact hdead hsf.symm
          · have hbk' : b < C.next := by simpa only [Nat.blt_eq] using hbk
            obtain ⟨_, _, q3⟩ := d3 b z hz
            have e1 : ρ'.blk b = ρ.blk (sigA σ b) := (h3.agree b hbk').1
            rw [e1] at heq
            exact hR.inj c (sigA σ b) _ _ hx q3 hxo (by rw [← hτ1 b hbk']; exact fun h => hc b hb h.symm) heq.symm
        · exact hdead hsf.symm
      · exact hdead hsf.symm
  have hstep : Step ρ H w π (mergeH σ C H C') w' := by
    refine ⟨hπ, by rw [hnext]; omega, ⟨fun c x hx => ?_, fun c c' x x' hx hx' ho hcc => ?_⟩, h3.os, h3.tape, h3.output, h3.size, fun g hg hn => h3.old g hg fun h => hn (hownC g h), fun g hg => ?_⟩
    · rcases hget c x hx with ⟨b, y, g1, rfl, g3, _, rfl⟩ | ⟨g1, g2⟩
      · obtain ⟨r1, r2, r3, r4⟩ := h3.rel.blk b y g3
        refine ⟨by rw [hnext]; exact hτM b g1, ?_, by rw [hτblk b g1]; exact r3, ok_ren (ABlk.ok_keep r4 r2 hA g1 (Nat.le_refl _) rfl)⟩
        rw [hnext]
        cases y with
        | cells e l => exact renL_under hτM l r2
        | row e T l md => rfl
        | dead => rfl
      · obtain ⟨r1, r2, r3, r4⟩ := hR.blk c x g1
        refine ⟨by rw [hnext]; omega, ?_, ?_, ABlk.ok_keep r4 r2 hπ r1 h3.size (h3.old _ r3 (hout c x g1 g2))⟩
        · rw [hnext]
          cases x with
          | cells e l => exact belowL_mono (Nat.le_add_right _ _) l r2
          | row e T l md => rfl
          | dead => rfl
        · rw [(hπ c r1).1]; exact Nat.lt_of_lt_of_le r3 h3.size
    · rcases hget c x hx with ⟨b, y, g1, rfl, g3, g4, rfl⟩ | ⟨g1, g2⟩ <;> rcases hget c' x' hx' with ⟨b', y', g1', rfl, g3', g4', rfl⟩ | ⟨g1', g2'⟩
      · rw [hτblk b g1, hτblk b' g1']
        exact h3.rel.inj b b' y y' g3 g3' (by rw [renB_own] at ho; exact ho) (fun h => hcc (by rw [h]))
      · rw [hτblk b g1, (hπ c' (hR.blk c' x' g1').1).1]
        exact hne b y c' x' g1 g3 g4 g1' g2' (.inl (by rw [renB_own] at ho; exact ho))
      · rw [hτblk b' g1', (hπ c (hR.blk c x g1).1).1]
        exact fun h => hne b' y' c x g1' g3' g4' g1 g2 (.inr ho) h.symm
      · rw [(hπ c (hR.blk c x g1).1).1, (hπ c' (hR.blk c' x' g1').1).1]
        exact hR.inj c c' x x' g1 g1' ho hcc
    · obtain ⟨c, x, hx, ho, rfl⟩ := hg
      rcases hget c x hx with ⟨b, y, g1, rfl, g3, _, rfl⟩ | ⟨g1, g2⟩
      · rw [hτblk b g1]
        rw [renB_own] at ho
        rcases h3.owns _ ⟨b, y, g3, ho, rfl⟩ with g | g
        · exact .inl g
        · exact .inr (hownC _ g)
      · rw [(hπ c (hR.blk c x g1).1).1]
        exact .inr ⟨c, x, g1, ho, rfl⟩
  refine ⟨_, _, π, ?_, h2, hstep⟩
  rw [hnext]
  have key : ∀ v : AVal, v.under C'.next = true → tr ρ' v = tr π (renV τ v) ∧ (renV τ v).under (H.next + m) = true := fun v hv =>
    ⟨by rw [tr_ren, tr_agree hA v hv], renV_under hτM v hv⟩
  cases out with
  | ret v =>
    cases e <;> simp only [Out.rel] at h1
    exact ⟨h1.1.trans (key v h1.2).1, (key v h1.2).2⟩
  | panic v =>
    cases e <;> simp only [Out.rel] at h1
    refine ⟨?_, (key v h1.2).2⟩
    rw [h1.1, (key v h1.2).1]
end Go.Proofs.Ytjacnjecggedhaa.Ev
namespace Go.Proofs.Ytjacnjecggedhaa.Ev
set_option linter.unusedVariables false
set_option linter.unusedSimpArgs false
open Go.RowKit
mutual
def idsV : AVal → List Nat
  | .ptr b _ _ _ | .sl b _ _ _ _ _ | .map b | .yld b => [b]
  | .func _ a c => idsL a ++ idsL c
  | .agg l => idsL l
  | .tup l => idsL l
  | .iface _ v => idsV v
  | .meth _ v => idsV v
  | _ => []
def idsL : List AVal → List Nat
  | [] => []
  | v :: r => idsV v ++ idsL r
end
def okId (σ τ : List (Nat × Nat)) (N b : Nat) : Bool := Nat.beq (sigA σ (sigA τ b)) b && Nat.blt (sigA τ b) N
def okIds (σ τ : List (Nat × Nat)) (N : Nat) : List Nat → Bool
  | [] => true
  | b :: r => okId σ τ N b && okIds σ τ N r
theorem okIds_append {σ τ : List (Nat × Nat)} {N : Nat} : ∀ {a b : List Nat}, okIds σ τ N (a ++ b) = true → okIds σ τ N a = true ∧ okIds σ τ N b = true
  | [], b, h => ⟨rfl, h⟩
  | x :: a, b, h => by
    simp only [List.cons_append, okIds, Bool.and_eq_true] at h ⊢
    obtain ⟨h1, h2⟩ := okIds_append h.2
    exact ⟨⟨h.1, h1⟩, h2⟩
theorem okId_iff {σ τ : List (Nat × Nat)} {N b : Nat} (h : okIds σ τ N [b] = true) : sigA σ (sigA τ b) = b ∧ sigA τ b < N := by
  simp only [okIds, okId, Bool.and_eq_true, Nat.blt_eq, Bool.and_true] at h
  exact ⟨nat_beq_eq.1 h.1, h.2⟩
mutual
theorem ren_inv {σ τ : List (Nat × Nat)} {N : Nat} : ∀ v : AVal, okIds σ τ N (idsV v) = true → renV σ (renV τ v) = v ∧ (renV τ v).under N = true
  | .int _ _, _ | .bool _, _ | .str _, _ | .nilp, _ | .nils, _ | .nilm, _ | .nilf, _ | .niface, _ => ⟨rfl, rfl⟩
  | .ptr b i sz j, h | .sl b i sz j n c, h | .map b, h | .yld b, h => by
    obtain ⟨h1, h2⟩ := okId_iff h
    simp only [renV, h1, AVal.under, Nat.blt_eq, h2, and_self]
  | .func f a c, h => by
    obtain ⟨h1, h2⟩ := okIds_append h
    obtain ⟨a1, a2⟩ := renL_inv a h1
    obtain ⟨c1, c2⟩ := renL_inv c h2
    simp only [renV, a1, c1, AVal.under, a2, c2, Bool.and_self, and_self]
  | .agg l, h => by
    obtain ⟨a1, a2⟩ := renL_inv l h
    simp only [renV, a1, AVal.under, a2, and_self]
  | .tup l, h => by
    obtain ⟨a1, a2⟩ := renL_inv l h
    simp only [renV, a1, AVal.under, a2, and_self]
  | .iface t v, h => by
    obtain ⟨a1, a2⟩ := ren_inv v h
    simp only [renV, a1, AVal.under, a2, and_self]
  | .meth m v, h => by
    obtain ⟨a1, a2⟩ := ren_inv v h
    simp only [renV, a1, AVal.under, a2, and_self]
theorem renL_inv {σ τ : List (Nat × Nat)} {N : Nat} : ∀ l : List AVal, okIds σ τ N (idsL l) = true → renL σ (renL τ l) = l ∧ belowL N (renL τ l) = true
  | [], _ => ⟨rfl, rfl⟩
  | v :: r, h => by
    obtain ⟨h1, h2⟩ := okIds_append h
    obtain ⟨a1, a2⟩ := ren_inv v h1
    obtain ⟨c1, c2⟩ := renL_inv r h2
    simp only [renL, a1, c1, belowL, a2, c2, Bool.and_self, and_self]
end
def mkE (τ : List (Nat × Nat)) (E : Env) : List Nat → Env
  | [] => []
  | t :: ts => match getE E t with
    | some v => (t, renV τ v) :: mkE τ E ts
    | none => mkE τ E ts
def okE (σ τ : List (Nat × Nat)) (N : Nat) (E : Env) : List Nat → Bool
  | [] => true
  | t :: ts => match getE E t with
    | some v => okIds σ τ N (idsV v) && okE σ τ N E ts
    | none => okE σ τ N E ts
def mkB (σ τ : List (Nat × Nat)) (H : AHeap) : Nat → Nat → List (Nat × ABlk)
  | _, 0 => []
  | i, m + 1 => match H.get (sigA σ i) with
    | some x => (i, renB τ x) :: mkB σ τ H (i + 1) m
    | none => mkB σ τ H (i + 1) m
def okB (σ τ : List (Nat × Nat)) (N : Nat) (H : AHeap) : Nat → Nat → Bool
  | _, 0 => true
  | i, m + 1 => match H.get (sigA σ i) with
    | some x => (match x with
      | .cells _ l => okIds σ τ N (idsL l)
      | _ => true) && (Nat.blt i N && okB σ τ N H (i + 1) m)
    | none => okB σ τ N H (i + 1) m
theorem mkE_sub {σ τ : List (Nat × Nat)} {N : Nat} {E : Env} : ∀ ts : List Nat, okE σ τ N E ts = true → subER N σ (mkE τ E ts) E
  | [], _ => trivial
  | t :: ts, h => by
    cases hv : getE E t with
    | some v =>
      simp only [okE, hv, Bool.and_eq_true] at h
      obtain ⟨a1, a2⟩ := ren_inv v h.1
      simp only [mkE, hv]
      exact subER_cons hv a2 a1.symm (mkE_sub ts h.2)
    | none =>
      simp only [okE, hv] at h
      simp only [mkE, hv]
      exact mkE_sub ts h
theorem mkB_sub {σ τ : List (Nat × Nat)} {N : Nat} {H : AHeap} : ∀ m i : Nat, okB σ τ N H i m = true → subHR N σ (mkB σ τ H i m) H
  | 0, i, _ => trivial
  | m + 1, i, h => by
    cases hx : H.get (sigA σ i) with
    | some x =>
      simp only [okB, hx, Bool.and_eq_true] at h
      obtain ⟨h1, h2, h3⟩ := h
      simp only [mkB, hx]
      refine subHR_cons hx h2 ?_ ?_ (mkB_sub m (i + 1) h3)
      · cases x with
        | cells e l => exact (renL_inv l h1).2
        | row e T l md => rfl
        | dead => rfl
      · cases x with
        | cells e l => simp only [renB, (renL_inv l h1).1]
        | row e T l md => rfl
        | dead => rfl
    | none =>
      simp only [okB, hx] at h
      simp only [mkB, hx]
      exact mkB_sub m (i + 1) h
def elemN (b : Nat) : List Nat → Bool
  | [] => false
  | c :: r => match Nat.beq b c with
    | true => true
    | false => elemN b r
def addIds : List Nat → List Nat → List Nat
  | acc, [] => acc
  | acc, b :: r => match elemN b acc with
    | true => addIds acc r
    | false => addIds (acc ++ [b]) r
def upN : Nat → Nat → List Nat
  | _, 0 => []
  | i, m + 1 => i :: upN (i + 1) m
def rootsE (E : Env) : List Nat → List Nat
  | [] => []
  | t :: ts => match getE E t with
    | some v => idsV v ++ rootsE E ts
    | none => rootsE E ts
def reach (H : AHeap) : Nat → List Nat → List Nat → List Nat
  | 0, done, todo => done ++ todo
  | _ + 1, done, [] => done
  | n + 1, done, b :: r => match H.get b with
    | some (.cells _ l) => reach H n (done ++ [b]) (addMore done b r (idsL l))
    | _ => reach H n (done ++ [b]) r
where addMore (done : List Nat) (b : Nat) (r : List Nat) : List Nat → List Nat
  | [] => r
  | c :: l => match elemN c done || (Nat.beq c b || elemN c r) with
    | true => addMore done b r l
    | false => addMore done b (r ++ [c]) l
def zipS (base : Nat) : Nat → List Nat → List (Nat × Nat)
  | _, [] => []
  | i, b :: r => match Nat.ble base i with
    | true => (i, b) :: zipS base (i + 1) r
    | false => zipS base (i + 1) r
def zipT (base : Nat) : Nat → List Nat → List (Nat × Nat)
  | _, [] => []
  | i, b :: r => match Nat.ble base i with
    | true => (b, i) :: zipT base (i + 1) r
    | false => zipT base (i + 1) r
def forceL (l : List Nat) (K : List Nat → Prop) : Prop := match l with
  | [] => K []
  | a :: r => forceK a fun a => forceL r fun r => K (a :: r)
theorem forceL_eq : ∀ (l : List Nat) (K : List Nat → Prop), forceL l K = K l
  | [], _ => rfl
  | a :: r, K => by simp only [forceL, forceK_eq, forceL_eq r]
noncomputable def canonK (base : Nat) (ts : List Nat) (E : Env) (H : AHeap) (K : Env → AHeap → Prop) : Prop :=
  forceL (reach H 60 [] (addIds (upN 0 base) (rootsE E ts))) fun ids => forceK ids.length fun n =>
    match (sigOk base (zipS base 0 ids) && sigInj (zipS base 0 ids) (mkB (zipS base 0 ids) (zipT base 0 ids) H 0 n)) && (okE (zipS base 0 ids) (zipT base 0 ids) n E ts && okB (zipS base 0 ids) (zipT base 0 ids) n H 0 n) with
    | true => match Nat.ble base n with
      | true => K (mkE (zipT base 0 ids) E ts) ⟨n, mkB (zipS base 0 ids) (zipT base 0 ids) H 0 n⟩
      | false => Stuck 41 []
    | false => Stuck 40 []
theorem canonK_ok {base : Nat} {ts : List Nat} {E : Env} {H : AHeap} {K : Env → AHeap → Prop} (h : canonK base ts E H K) :
    ∃ E' H' σ, K E' H' ∧ sigOk base σ = true ∧ sigInj σ H'.bs = true ∧ subER H'.next σ E' E ∧ subHR H'.next σ H'.bs H ∧ base ≤ H'.next := by
  unfold canonK at h
  rw [forceL_eq, forceK_eq] at h
  generalize reach H 60 [] (addIds (upN 0 base) (rootsE E ts)) = ids at h
  split at h
  · rename_i hc
    simp only [Bool.and_eq_true] at hc
    split at h
    · rename_i hb
      exact ⟨_, _, zipS base 0 ids, h, hc.1.1, hc.1.2, mkE_sub ts hc.2.1, mkB_sub _ 0 hc.2.2, by simpa only [Nat.ble_eq] using hb⟩
    · exact (not_stuck h).elim
  · exact (not_stuck h).elim
noncomputable def canQ (base : Nat) (ts : AExit → List Nat) (Q : AExit → Env → AHeap → Prop) : AExit → Env → AHeap → Prop
  | .panic v, E, H => Q (.panic v) E H
  | .ret, E, H => match ts .ret with
    | [] => Q .ret E H
    | t :: l => canonK base (t :: l) E H (Q .ret)
  | .normal, E, H => canonK base (ts .normal) E H (Q .normal)
  | .exit i, E, H => canonK base (ts (.exit i)) E H (Q (.exit i))
theorem Gd.can {X : Ctx} {f : FuncId} {H0 : AHeap} {c : Code} {Q : AExit → Env → AHeap → Prop} {E : Env} {H : AHeap} {base : Nat} {ts : AExit → List Nat} (hb : H0.next ≤ base) (h : Gd X f H0 c (canQ base ts Q) E H) : Gd X f H0 c Q E H := by
  intro fn hf N hN d ρ0 w0 ρ a w hS hE hd hn
  refine wp_mono (h fn hf N hN d ρ0 w0 ρ a w hS hE hd hn) ?_
  rintro e a' w' ⟨x, E', H', ρ', q1, q2, q3, q4, q5, q6⟩
  cases x with
  | panic v => exact ⟨_, E', H', ρ', q1, q2, q3, q4, q5, q6⟩
  | ret =>
    simp only [canQ] at q2
    split at q2
    · exact ⟨_, E', H', ρ', q1, q2, q3, q4, q5, q6⟩
    · obtain ⟨E1, H1, σ, g1, g2, g3, g4, g5, g6⟩ := canonK_ok q2
      obtain ⟨k1, k2⟩ := sub_stepR q6 q3 hb g2 g3 g4 g5 (Nat.le_trans hb g6)
      cases e <;> simp only [AExit.rel] at q1
      exact ⟨.ret, E1, H1, _, trivial, g1, k2, q4, q5, k1⟩
  | normal =>
    obtain ⟨E1, H1, σ, g1, g2, g3, g4, g5, g6⟩ := canonK_ok q2
    obtain ⟨k1, k2⟩ := sub_stepR q6 q3 hb g2 g3 g4 g5 (Nat.le_trans hb g6)
    cases e <;> simp only [AExit.rel] at q1
    exact ⟨.normal, E1, H1, _, trivial, g1, k2, q4, q5, k1⟩
  | exit i =>
    obtain ⟨E1, H1, σ, g1, g2, g3, g4, g5, g6⟩ := canonK_ok q2
    obtain ⟨k1, k2⟩ := sub_stepR q6 q3 hb g2 g3 g4 g5 (Nat.le_trans hb g6)
    cases e <;> simp only [AExit.rel] at q1
    exact ⟨.exit i, E1, H1, _, q1, g1, k2, q4, q5, k1⟩
theorem Gd.walkC {X : Ctx} (hX : CtxOk X) {f : FuncId} {H0 : AHeap} {n : Nat} {c : Code} {Q : AExit → Env → AHeap → Prop} {E : Env} {H : AHeap} (base : Nat) (ts : AExit → List Nat) (hb : H0.next ≤ base) (hin : InFn X f c) (h : wpC X n f base c E H (canQ base ts Q)) : Gd X f H0 c Q E H :=
  Gd.can hb (Gd.walk hX hb hin h)
def same (c : Bool) (A : Prop) : Prop := branch c A A
def twice (A : Prop) : Prop := A ∧ A
theorem twice_iff (A : Prop) : twice A ↔ A := and_self_iff
theorem same_iff (c : Bool) (A : Prop) : same c A ↔ A := by cases c <;> exact Iff.rfl
theorem obl_mk {c : Bool} {A : Prop} (h : c = true) (hA : A) : obl c A := obl_iff.2 ⟨h, hA⟩
theorem obl_dec {p : Prop} [Decidable p] {A : Prop} (h : p) (hA : A) : obl (decide p) A := obl_iff.2 ⟨decide_eq_true h, hA⟩
theorem obl_and {p : Prop} [Decidable p] {b : Bool} {A : Prop} (h : p) (hb : b = true) (hA : A) : obl (decide p && b) A := obl_iff.2 ⟨by rw [decide_eq_true h, hb]; rfl, hA⟩
theorem obl_tt {b : Bool} {A : Prop} (hb : b = true) (hA : A) : obl (true && b) A := obl_iff.2 ⟨by rw [hb]; rfl, hA⟩
theorem br_mk {c : Bool} {A B : Prop} (h1 : c = true → A) (h2 : c = false → B) : branch c A B := branch_iff.2 ⟨h1, h2⟩
theorem br_dec {p : Prop} [Decidable p] {A B : Prop} (h1 : p → A) (h2 : ¬ p → B) : branch (decide p) A B := branch_iff.2 ⟨fun h => h1 (of_decide_eq_true h), fun h => h2 (of_decide_eq_false h)⟩
def symT (T : Tabs) (f : Nat) : Tabs := { T with sms := f :: T.sms }
theorem symT_ok {T : Tabs} {P : Program} (h : TabsOk T P) (f : Nat) : TabsOk (symT T f) P := ⟨h.mixed, h.fns, h.rows, h.fcs, h.gcs, h.lcs, h.op⟩
end Go.Proofs.Ytjacnjecggedhaa.Ev
namespace Go.Proofs.Ytjacnjecggedhaa
set_option linter.unusedVariables false
set_option linter.unusedSimpArgs false
open Go.RowKit Ev
set_option maxRecDepth 100000 in
theorem w_allpre (s : List UInt8) (KK : Env → AHeap → Prop) : (wpC (TE.ctx Try.prog) 60 13 0 (seqL (bodyC Try.f13)) (env0 [.str s] 0) ⟨0, []⟩ (fun x E H => match x with | .normal => wpC (TE.ctx Try.prog) 60 13 0 (seqL (seqR (bodyC Try.f13))) E H (fun x E H => match x with | .normal => wpC (TE.ctx Try.prog) 60 13 0 (seqL (seqL (seqR (seqR (bodyC Try.f13))))) E H (fun x E H => match x with | .normal => KK E H | _ => False) | _ => False) | _ => False)
) = (KK [(8, AVal.func 27 [] [AVal.ptr 3 0 0 0]), (7, AVal.str s), (4, AVal.ptr 2 0 0 0), (3, AVal.ptr 1 0 0 0), (2, AVal.ptr 0 0 0 0), (0, AVal.str s)] (AHeap.mk 4 [(3, ABlk.cells 9 [AVal.str s]), (2,
 ABlk.cells 39 [AVal.nils]), (1, ABlk.cells 40 [AVal.int IntKind.i64 (0 : Int)]), (0, ABlk.cells 39 [AVal.nils])])) := by kernel_rfl
end Go.Proofs.Ytjacnjecggedhaa
namespace Go.Proofs.Ytjacnjecggedhaa
set_option linter.unusedVariables false
set_option linter.unusedSimpArgs false
open Go.RowKit Ev
set_option maxRecDepth 100000 in
theorem w_allround_nil (s0 s : List UInt8) (QQ : AExit → Env → AHeap → Option Code → Prop) : (wpY (TE.ctx Try.prog) 4 (roundA (TE.ctx Try.prog) 60 13 ((8, .func 27 [] [.ptr 3 0 0 0]) :: (7, .str s0) :: (4, .ptr 2 0 0 0) :: (3, .ptr 1 0 0 0) :: (2, .ptr 0 0 0 0) :: (0, .str s0) :: []) [9, 10] (rfAssign (blkC (seqR (seqL (seqR (seqR (bodyC Try.f13))))))) (rfBody (blkC (seqR (seqL (seqR (seqR (bodyC Try.f13)))))))) 60 27 (lpC (blkC (bodyC Try.f27))) [(0, .yld 4), (1, .ptr 3 0 0 0)] ⟨6, [(3, .cells 9 [.str s]), (2, .cells 39 [.nils]), (1, .cells 40 [.int .i64 0]), (0, .cells 39 [.nils])]⟩ none QQ
) = (obl (decide (s.length ≤ 9223372036854775000)) (branch (decide ((dec s).e = (5 : Int))) (QQ AExit.ret [(24, AVal.bool true), (23, AVal.tup []), (21, AVal.bool true), (22, AVal.tup []), (21, AVal.bool
 true), (21, AVal.bool true), (20, AVal.bool true), (19, AVal.tup []), (14, AVal.bool true), (18, AVal.tup []), (14, AVal.bool true), (17, AVal.tup []), (14, AVal.bool true), (16, AVal.tup []), (14,
 AVal.bool true), (15, AVal.tup []), (14, AVal.bool true), (14, AVal.bool (decide ((dec s).e = (5 : Int)))), (13, AVal.bool (decide ((dec s).e = (5 : Int)))), (12, AVal.int IntKind.i64 (dec s).e), (5,
 AVal.int IntKind.i64 (dec s).e), (4, AVal.int IntKind.i64 (dec s).n), (3, AVal.ptr 6 0 0 0), (11, AVal.int IntKind.i64 (dec s).e), (10, AVal.int IntKind.i64 (dec s).n), (9, AVal.agg [AVal.bool (dec
 s).p.st, AVal.bool (dec s).p.en, AVal.int IntKind.i64 (dec s).p.id, AVal.int IntKind.i64 (dec s).p.total, AVal.int IntKind.i64 (dec s).p.typ, AVal.int IntKind.i64 (dec s).p.k, AVal.str (dec s).p.lb,
 AVal.str (dec s).p.data, AVal.str (dec s).p.sum]), (6, AVal.tup [AVal.agg [AVal.bool (dec s).p.st, AVal.bool (dec s).p.en, AVal.int IntKind.i64 (dec s).p.id, AVal.int IntKind.i64 (dec s).p.total,
 AVal.int IntKind.i64 (dec s).p.typ, AVal.int IntKind.i64 (dec s).p.k, AVal.str (dec s).p.lb, AVal.str (dec s).p.data, AVal.str (dec s).p.sum], AVal.int IntKind.i64 (dec s).n, AVal.int IntKind.i64 (dec
 s).e]), (8, AVal.tup [AVal.agg [AVal.bool (dec s).p.st, AVal.bool (dec s).p.en, AVal.int IntKind.i64 (dec s).p.id, AVal.int IntKind.i64 (dec s).p.total, AVal.int IntKind.i64 (dec s).p.typ, AVal.int
 IntKind.i64 (dec s).p.k, AVal.str (dec s).p.lb, AVal.str (dec s).p.data, AVal.str (dec s).p.sum], AVal.int IntKind.i64 (dec s).n, AVal.int IntKind.i64 (dec s).e]), (7, AVal.str s), (0, AVal.yld 4),
 (1, AVal.ptr 3 0 0 0)] (AHeap.mk 7 [(6, ABlk.cells 46 [AVal.bool (dec s).p.st, AVal.bool (dec s).p.en, AVal.int IntKind.i64 (dec s).p.id, AVal.int IntKind.i64 (dec s).p.total, AVal.int IntKind.i64
 (dec s).p.typ, AVal.int IntKind.i64 (dec s).p.k, AVal.str (dec s).p.lb, AVal.str (dec s).p.data, AVal.str (dec s).p.sum]), (6, ABlk.cells 46 [AVal.bool false, AVal.bool false, AVal.int IntKind.i64 (0
 : Int), AVal.int IntKind.i64 (0 : Int), AVal.int IntKind.i64 (0 : Int), AVal.int IntKind.i64 (0 : Int), AVal.str [], AVal.str [], AVal.str []]), (3, ABlk.cells 9 [AVal.str s]), (2, ABlk.cells 39
 [AVal.nils]), (1, ABlk.cells 40 [AVal.int IntKind.i64 (0 : Int)]), (0, ABlk.cells 39 [AVal.nils])]) none) (branch (!decide ((dec s).e = (0 : Int))) (QQ AExit.ret [(24, AVal.bool true), (23, AVal.tup
 []), (21, AVal.bool true), (22, AVal.tup []), (21, AVal.bool true), (21, AVal.bool true), (20, AVal.bool true), (19, AVal.bool true), (14, AVal.bool false), (18, AVal.bool false), (14, AVal.bool
 false), (17, AVal.int IntKind.i64 (dec s).e), (14, AVal.bool false), (16, AVal.agg [AVal.bool (dec s).p.st, AVal.bool (dec s).p.en, AVal.int IntKind.i64 (dec s).p.id, AVal.int IntKind.i64 (dec
 s).p.total, AVal.int IntKind.i64 (dec s).p.typ, AVal.int IntKind.i64 (dec s).p.k, AVal.str (dec s).p.lb, AVal.str (dec s).p.data, AVal.str (dec s).p.sum]), (14, AVal.bool false), (15, AVal.yld 4),
 (14, AVal.bool false), (14, AVal.bool (decide ((dec s).e = (5 : Int)))), (13, AVal.bool (decide ((dec s).e = (5 : Int)))), (12, AVal.int IntKind.i64 (dec s).e), (5, AVal.int IntKind.i64 (dec s).e),
 (4, AVal.int IntKind.i64 (dec s).n), (3, AVal.ptr 6 0 0 0), (11, AVal.int IntKind.i64 (dec s).e), (10, AVal.int IntKind.i64 (dec s).n), (9, AVal.agg [AVal.bool (dec s).p.st, AVal.bool (dec s).p.en,
 AVal.int IntKind.i64 (dec s).p.id, AVal.int IntKind.i64 (dec s).p.total, AVal.int IntKind.i64 (dec s).p.typ, AVal.int IntKind.i64 (dec s).p.k, AVal.str (dec s).p.lb, AVal.str (dec s).p.data, AVal.str
 (dec s).p.sum]), (6, AVal.tup [AVal.agg [AVal.bool (dec s).p.st, AVal.bool (dec s).p.en, AVal.int IntKind.i64 (dec s).p.id, AVal.int IntKind.i64 (dec s).p.total, AVal.int IntKind.i64 (dec s).p.typ,
 AVal.int IntKind.i64 (dec s).p.k, AVal.str (dec s).p.lb, AVal.str (dec s).p.data, AVal.str (dec s).p.sum], AVal.int IntKind.i64 (dec s).n, AVal.int IntKind.i64 (dec s).e]), (8, AVal.tup [AVal.agg
 [AVal.bool (dec s).p.st, AVal.bool (dec s).p.en, AVal.int IntKind.i64 (dec s).p.id, AVal.int IntKind.i64 (dec s).p.total, AVal.int IntKind.i64 (dec s).p.typ, AVal.int IntKind.i64 (dec s).p.k, AVal.str
 (dec s).p.lb, AVal.str (dec s).p.data, AVal.str (dec s).p.sum], AVal.int IntKind.i64 (dec s).n, AVal.int IntKind.i64 (dec s).e]), (7, AVal.str s), (0, AVal.yld 4), (1, AVal.ptr 3 0 0 0)] (AHeap.mk 8
 [(1, ABlk.cells 40 [AVal.int IntKind.i64 (dec s).e]), (0, ABlk.cells 39 [AVal.nils]), (7, ABlk.cells 46 [AVal.bool (dec s).p.st, AVal.bool (dec s).p.en, AVal.int IntKind.i64 (dec s).p.id, AVal.int
 IntKind.i64 (dec s).p.total, AVal.int IntKind.i64 (dec s).p.typ, AVal.int IntKind.i64 (dec s).p.k, AVal.str (dec s).p.lb, AVal.str (dec s).p.data, AVal.str (dec s).p.sum]), (7, ABlk.cells 46
 [AVal.bool false, AVal.bool false, AVal.int IntKind.i64 (0 : Int), AVal.int IntKind.i64 (0 : Int), AVal.int IntKind.i64 (0 : Int), AVal.int IntKind.i64 (0 : Int), AVal.str [], AVal.str [], AVal.str
 []]), (6, ABlk.cells 46 [AVal.bool (dec s).p.st, AVal.bool (dec s).p.en, AVal.int IntKind.i64 (dec s).p.id, AVal.int IntKind.i64 (dec s).p.total, AVal.int IntKind.i64 (dec s).p.typ, AVal.int
 IntKind.i64 (dec s).p.k, AVal.str (dec s).p.lb, AVal.str (dec s).p.data, AVal.str (dec s).p.sum]), (6, ABlk.cells 46 [AVal.bool false, AVal.bool false, AVal.int IntKind.i64 (0 : Int), AVal.int
 IntKind.i64 (0 : Int), AVal.int IntKind.i64 (0 : Int), AVal.int IntKind.i64 (0 : Int), AVal.str [], AVal.str [], AVal.str []]), (3, ABlk.cells 9 [AVal.str s]), (2, ABlk.cells 39 [AVal.nils]), (1,
 ABlk.cells 40 [AVal.int IntKind.i64 (0 : Int)]), (0, ABlk.cells 39 [AVal.nils])]) (some Code.ret)) (branch (!decide ((dec s).e = (0 : Int))) (QQ AExit.ret [(24, AVal.bool !decide ((dec s).e = (0 :
 Int))), (23, AVal.bool !decide ((dec s).e = (0 : Int))), (21, AVal.bool false), (22, AVal.int IntKind.i64 (dec s).e), (21, AVal.bool false), (21, AVal.bool false), (20, AVal.bool false), (19,
 AVal.bool false), (14, AVal.bool false), (18, AVal.bool true), (14, AVal.bool false), (17, AVal.int IntKind.i64 (dec s).e), (14, AVal.bool false), (16, AVal.agg [AVal.bool (dec s).p.st, AVal.bool (dec
 s).p.en, AVal.int IntKind.i64 (dec s).p.id, AVal.int IntKind.i64 (dec s).p.total, AVal.int IntKind.i64 (dec s).p.typ, AVal.int IntKind.i64 (dec s).p.k, AVal.str (dec s).p.lb, AVal.str (dec s).p.data,
 AVal.str (dec s).p.sum]), (14, AVal.bool false), (15, AVal.yld 4), (14, AVal.bool false), (14, AVal.bool (decide ((dec s).e = (5 : Int)))), (13, AVal.bool (decide ((dec s).e = (5 : Int)))), (12,
 AVal.int IntKind.i64 (dec s).e), (5, AVal.int IntKind.i64 (dec s).e), (4, AVal.int IntKind.i64 (dec s).n), (3, AVal.ptr 6 0 0 0), (11, AVal.int IntKind.i64 (dec s).e), (10, AVal.int IntKind.i64 (dec
 s).n), (9, AVal.agg [AVal.bool (dec s).p.st, AVal.bool (dec s).p.en, AVal.int IntKind.i64 (dec s).p.id, AVal.int IntKind.i64 (dec s).p.total, AVal.int IntKind.i64 (dec s).p.typ, AVal.int IntKind.i64
 (dec s).p.k, AVal.str (dec s).p.lb, AVal.str (dec s).p.data, AVal.str (dec s).p.sum]), (6, AVal.tup [AVal.agg [AVal.bool (dec s).p.st, AVal.bool (dec s).p.en, AVal.int IntKind.i64 (dec s).p.id,
 AVal.int IntKind.i64 (dec s).p.total, AVal.int IntKind.i64 (dec s).p.typ, AVal.int IntKind.i64 (dec s).p.k, AVal.str (dec s).p.lb, AVal.str (dec s).p.data, AVal.str (dec s).p.sum], AVal.int
 IntKind.i64 (dec s).n, AVal.int IntKind.i64 (dec s).e]), (8, AVal.tup [AVal.agg [AVal.bool (dec s).p.st, AVal.bool (dec s).p.en, AVal.int IntKind.i64 (dec s).p.id, AVal.int IntKind.i64 (dec
 s).p.total, AVal.int IntKind.i64 (dec s).p.typ, AVal.int IntKind.i64 (dec s).p.k, AVal.str (dec s).p.lb, AVal.str (dec s).p.data, AVal.str (dec s).p.sum], AVal.int IntKind.i64 (dec s).n, AVal.int
 IntKind.i64 (dec s).e]), (7, AVal.str s), (0, AVal.yld 4), (1, AVal.ptr 3 0 0 0)] (AHeap.mk 10 [(2, ABlk.cells 39 [AVal.sl 9 0 9 0 1 none]), (9, ABlk.row 46 pieceRow [PieceR.mk (dec s).p.st (dec
 s).p.en (dec s).p.id (dec s).p.total (dec s).p.typ (dec s).p.k (dec s).p.lb (dec s).p.data (dec s).p.sum] RowMd.plain), (8, ABlk.cells 46 [AVal.bool (dec s).p.st, AVal.bool (dec s).p.en, AVal.int
 IntKind.i64 (dec s).p.id, AVal.int IntKind.i64 (dec s).p.total, AVal.int IntKind.i64 (dec s).p.typ, AVal.int IntKind.i64 (dec s).p.k, AVal.str (dec s).p.lb, AVal.str (dec s).p.data, AVal.str (dec
 s).p.sum]), (7, ABlk.cells 46 [AVal.bool (dec s).p.st, AVal.bool (dec s).p.en, AVal.int IntKind.i64 (dec s).p.id, AVal.int IntKind.i64 (dec s).p.total, AVal.int IntKind.i64 (dec s).p.typ, AVal.int
 IntKind.i64 (dec s).p.k, AVal.str (dec s).p.lb, AVal.str (dec s).p.data, AVal.str (dec s).p.sum]), (7, ABlk.cells 46 [AVal.bool false, AVal.bool false, AVal.int IntKind.i64 (0 : Int), AVal.int
 IntKind.i64 (0 : Int), AVal.int IntKind.i64 (0 : Int), AVal.int IntKind.i64 (0 : Int), AVal.str [], AVal.str [], AVal.str []]), (6, ABlk.cells 46 [AVal.bool (dec s).p.st, AVal.bool (dec s).p.en,
 AVal.int IntKind.i64 (dec s).p.id, AVal.int IntKind.i64 (dec s).p.total, AVal.int IntKind.i64 (dec s).p.typ, AVal.int IntKind.i64 (dec s).p.k, AVal.str (dec s).p.lb, AVal.str (dec s).p.data, AVal.str
 (dec s).p.sum]), (6, ABlk.cells 46 [AVal.bool false, AVal.bool false, AVal.int IntKind.i64 (0 : Int), AVal.int IntKind.i64 (0 : Int), AVal.int IntKind.i64 (0 : Int), AVal.int IntKind.i64 (0 : Int),
 AVal.str [], AVal.str [], AVal.str []]), (3, ABlk.cells 9 [AVal.str s]), (2, ABlk.cells 39 [AVal.nils]), (1, ABlk.cells 40 [AVal.int IntKind.i64 (0 : Int)]), (0, ABlk.cells 39 [AVal.nils])]) none)
 (obl (decide ((0 : Int) ≤ (dec s).n ∧ (dec s).n ≤ (↑s.length : Int))) (QQ AExit.normal [(27, AVal.str (List.drop (dec s).n.toNat s)), (26, AVal.int IntKind.i64 (dec s).n), (25, AVal.str s), (24,
 AVal.bool !decide ((dec s).e = (0 : Int))), (23, AVal.bool !decide ((dec s).e = (0 : Int))), (21, AVal.bool false), (22, AVal.int IntKind.i64 (dec s).e), (21, AVal.bool false), (21, AVal.bool false),
 (20, AVal.bool false), (19, AVal.bool false), (14, AVal.bool false), (18, AVal.bool true), (14, AVal.bool false), (17, AVal.int IntKind.i64 (dec s).e), (14, AVal.bool false), (16, AVal.agg [AVal.bool
 (dec s).p.st, AVal.bool (dec s).p.en, AVal.int IntKind.i64 (dec s).p.id, AVal.int IntKind.i64 (dec s).p.total, AVal.int IntKind.i64 (dec s).p.typ, AVal.int IntKind.i64 (dec s).p.k, AVal.str (dec
 s).p.lb, AVal.str (dec s).p.data, AVal.str (dec s).p.sum]), (14, AVal.bool false), (15, AVal.yld 4), (14, AVal.bool false), (14, AVal.bool (decide ((dec s).e = (5 : Int)))), (13, AVal.bool (decide
 ((dec s).e = (5 : Int)))), (12, AVal.int IntKind.i64 (dec s).e), (5, AVal.int IntKind.i64 (dec s).e), (4, AVal.int IntKind.i64 (dec s).n), (3, AVal.ptr 6 0 0 0), (11, AVal.int IntKind.i64 (dec s).e),
 (10, AVal.int IntKind.i64 (dec s).n), (9, AVal.agg [AVal.bool (dec s).p.st, AVal.bool (dec s).p.en, AVal.int IntKind.i64 (dec s).p.id, AVal.int IntKind.i64 (dec s).p.total, AVal.int IntKind.i64 (dec
 s).p.typ, AVal.int IntKind.i64 (dec s).p.k, AVal.str (dec s).p.lb, AVal.str (dec s).p.data, AVal.str (dec s).p.sum]), (6, AVal.tup [AVal.agg [AVal.bool (dec s).p.st, AVal.bool (dec s).p.en, AVal.int
 IntKind.i64 (dec s).p.id, AVal.int IntKind.i64 (dec s).p.total, AVal.int IntKind.i64 (dec s).p.typ, AVal.int IntKind.i64 (dec s).p.k, AVal.str (dec s).p.lb, AVal.str (dec s).p.data, AVal.str (dec
 s).p.sum], AVal.int IntKind.i64 (dec s).n, AVal.int IntKind.i64 (dec s).e]), (8, AVal.tup [AVal.agg [AVal.bool (dec s).p.st, AVal.bool (dec s).p.en, AVal.int IntKind.i64 (dec s).p.id, AVal.int
 IntKind.i64 (dec s).p.total, AVal.int IntKind.i64 (dec s).p.typ, AVal.int IntKind.i64 (dec s).p.k, AVal.str (dec s).p.lb, AVal.str (dec s).p.data, AVal.str (dec s).p.sum], AVal.int IntKind.i64 (dec
 s).n, AVal.int IntKind.i64 (dec s).e]), (7, AVal.str s), (0, AVal.yld 4), (1, AVal.ptr 3 0 0 0)] (AHeap.mk 10 [(3, ABlk.cells 9 [AVal.str (List.drop (dec s).n.toNat s)]), (2, ABlk.cells 39 [AVal.sl 9
 0 9 0 1 none]), (9, ABlk.row 46 pieceRow [PieceR.mk (dec s).p.st (dec s).p.en (dec s).p.id (dec s).p.total (dec s).p.typ (dec s).p.k (dec s).p.lb (dec s).p.data (dec s).p.sum] RowMd.plain), (8,
 ABlk.cells 46 [AVal.bool (dec s).p.st, AVal.bool (dec s).p.en, AVal.int IntKind.i64 (dec s).p.id, AVal.int IntKind.i64 (dec s).p.total, AVal.int IntKind.i64 (dec s).p.typ, AVal.int IntKind.i64 (dec
 s).p.k, AVal.str (dec s).p.lb, AVal.str (dec s).p.data, AVal.str (dec s).p.sum]), (7, ABlk.cells 46 [AVal.bool (dec s).p.st, AVal.bool (dec s).p.en, AVal.int IntKind.i64 (dec s).p.id, AVal.int
 IntKind.i64 (dec s).p.total, AVal.int IntKind.i64 (dec s).p.typ, AVal.int IntKind.i64 (dec s).p.k, AVal.str (dec s).p.lb, AVal.str (dec s).p.data, AVal.str (dec s).p.sum]), (7, ABlk.cells 46
 [AVal.bool false, AVal.bool false, AVal.int IntKind.i64 (0 : Int), AVal.int IntKind.i64 (0 : Int), AVal.int IntKind.i64 (0 : Int), AVal.int IntKind.i64 (0 : Int), AVal.str [], AVal.str [], AVal.str
 []]), (6, ABlk.cells 46 [AVal.bool (dec s).p.st, AVal.bool (dec s).p.en, AVal.int IntKind.i64 (dec s).p.id, AVal.int IntKind.i64 (dec s).p.total, AVal.int IntKind.i64 (dec s).p.typ, AVal.int
 IntKind.i64 (dec s).p.k, AVal.str (dec s).p.lb, AVal.str (dec s).p.data, AVal.str (dec s).p.sum]), (6, ABlk.cells 46 [AVal.bool false, AVal.bool false, AVal.int IntKind.i64 (0 : Int), AVal.int
 IntKind.i64 (0 : Int), AVal.int IntKind.i64 (0 : Int), AVal.int IntKind.i64 (0 : Int), AVal.str [], AVal.str [], AVal.str []]), (3, ABlk.cells 9 [AVal.str s]), (2, ABlk.cells 39 [AVal.nils]), (1,
 ABlk.cells 40 [AVal.int IntKind.i64 (0 : Int)]), (0, ABlk.cells 39 [AVal.nils])]) none)))))) := by kernel_rfl
set_option maxRecDepth 100000 in
theorem w_allround_cons (s0 s : List UInt8) (acc : List PieceR) (QQ : AExit → Env → AHeap → Option Code → Prop) : (wpY (TE.ctx Try.prog) 4 (roundA (TE.ctx Try.prog) 60 13 ((8, .func 27 [] [.ptr 3 0 0 0]) :: (7, .str s0) :: (4, .ptr 2 0 0 0) :: (3, .ptr 1 0 0 0) :: (2, .ptr 0 0 0 0) :: (0, .str s0) :: []) [9, 10] (rfAssign (blkC (seqR (seqL (seqR (seqR (bodyC Try.f13))))))) (rfBody (blkC (seqR (seqL (seqR (seqR (bodyC Try.f13)))))))) 60 27 (lpC (blkC (bodyC Try.f27))) [(0, .yld 4), (1, .ptr 3 0 0 0)] ⟨6, [(5, .row 46 pieceRow acc .plain), (3, .cells 9 [.str s]), (2, .cells 39 [.sl 5 0 9 0 acc.length none]), (1, .cells 40 [.int .i64 0]), (0, .cells 39 [.nils])]⟩ none QQ
) = (obl (decide (s.length ≤ 9223372036854775000)) (branch (decide ((dec s).e = (5 : Int))) (QQ AExit.ret [(24, AVal.bool true), (23, AVal.tup []), (21, AVal.bool true), (22, AVal.tup []), (21, AVal.bool
 true), (21, AVal.bool true), (20, AVal.bool true), (19, AVal.tup []), (14, AVal.bool true), (18, AVal.tup []), (14, AVal.bool true), (17, AVal.tup []), (14, AVal.bool true), (16, AVal.tup []), (14,
 AVal.bool true), (15, AVal.tup []), (14, AVal.bool true), (14, AVal.bool (decide ((dec s).e = (5 : Int)))), (13, AVal.bool (decide ((dec s).e = (5 : Int)))), (12, AVal.int IntKind.i64 (dec s).e), (5,
 AVal.int IntKind.i64 (dec s).e), (4, AVal.int IntKind.i64 (dec s).n), (3, AVal.ptr 6 0 0 0), (11, AVal.int IntKind.i64 (dec s).e), (10, AVal.int IntKind.i64 (dec s).n), (9, AVal.agg [AVal.bool (dec
 s).p.st, AVal.bool (dec s).p.en, AVal.int IntKind.i64 (dec s).p.id, AVal.int IntKind.i64 (dec s).p.total, AVal.int IntKind.i64 (dec s).p.typ, AVal.int IntKind.i64 (dec s).p.k, AVal.str (dec s).p.lb,
 AVal.str (dec s).p.data, AVal.str (dec s).p.sum]), (6, AVal.tup [AVal.agg [AVal.bool (dec s).p.st, AVal.bool (dec s).p.en, AVal.int IntKind.i64 (dec s).p.id, AVal.int IntKind.i64 (dec s).p.total,
 AVal.int IntKind.i64 (dec s).p.typ, AVal.int IntKind.i64 (dec s).p.k, AVal.str (dec s).p.lb, AVal.str (dec s).p.data, AVal.str (dec s).p.sum], AVal.int IntKind.i64 (dec s).n, AVal.int IntKind.i64 (dec
 s).e]), (8, AVal.tup [AVal.agg [AVal.bool (dec s).p.st, AVal.bool (dec s).p.en, AVal.int IntKind.i64 (dec s).p.id, AVal.int IntKind.i64 (dec s).p.total, AVal.int IntKind.i64 (dec s).p.typ, AVal.int
 IntKind.i64 (dec s).p.k, AVal.str (dec s).p.lb, AVal.str (dec s).p.data, AVal.str (dec s).p.sum], AVal.int IntKind.i64 (dec s).n, AVal.int IntKind.i64 (dec s).e]), (7, AVal.str s), (0, AVal.yld 4),
 (1, AVal.ptr 3 0 0 0)] (AHeap.mk 7 [(6, ABlk.cells 46 [AVal.bool (dec s).p.st, AVal.bool (dec s).p.en, AVal.int IntKind.i64 (dec s).p.id, AVal.int IntKind.i64 (dec s).p.total, AVal.int IntKind.i64
 (dec s).p.typ, AVal.int IntKind.i64 (dec s).p.k, AVal.str (dec s).p.lb, AVal.str (dec s).p.data, AVal.str (dec s).p.sum]), (6, ABlk.cells 46 [AVal.bool false, AVal.bool false, AVal.int IntKind.i64 (0
 : Int), AVal.int IntKind.i64 (0 : Int), AVal.int IntKind.i64 (0 : Int), AVal.int IntKind.i64 (0 : Int), AVal.str [], AVal.str [], AVal.str []]), (5, ABlk.row 46 pieceRow acc RowMd.plain), (3,
 ABlk.cells 9 [AVal.str s]), (2, ABlk.cells 39 [AVal.sl 5 0 9 0 acc.length none]), (1, ABlk.cells 40 [AVal.int IntKind.i64 (0 : Int)]), (0, ABlk.cells 39 [AVal.nils])]) none) (branch (!decide ((dec
 s).e = (0 : Int))) (QQ AExit.ret [(24, AVal.bool true), (23, AVal.tup []), (21, AVal.bool true), (22, AVal.tup []), (21, AVal.bool true), (21, AVal.bool true), (20, AVal.bool true), (19, AVal.bool
 true), (14, AVal.bool false), (18, AVal.bool false), (14, AVal.bool false), (17, AVal.int IntKind.i64 (dec s).e), (14, AVal.bool false), (16, AVal.agg [AVal.bool (dec s).p.st, AVal.bool (dec s).p.en,
 AVal.int IntKind.i64 (dec s).p.id, AVal.int IntKind.i64 (dec s).p.total, AVal.int IntKind.i64 (dec s).p.typ, AVal.int IntKind.i64 (dec s).p.k, AVal.str (dec s).p.lb, AVal.str (dec s).p.data, AVal.str
 (dec s).p.sum]), (14, AVal.bool false), (15, AVal.yld 4), (14, AVal.bool false), (14, AVal.bool (decide ((dec s).e = (5 : Int)))), (13, AVal.bool (decide ((dec s).e = (5 : Int)))), (12, AVal.int
 IntKind.i64 (dec s).e), (5, AVal.int IntKind.i64 (dec s).e), (4, AVal.int IntKind.i64 (dec s).n), (3, AVal.ptr 6 0 0 0), (11, AVal.int IntKind.i64 (dec s).e), (10, AVal.int IntKind.i64 (dec s).n), (9,
 AVal.agg [AVal.bool (dec s).p.st, AVal.bool (dec s).p.en, AVal.int IntKind.i64 (dec s).p.id, AVal.int IntKind.i64 (dec s).p.total, AVal.int IntKind.i64 (dec s).p.typ, AVal.int IntKind.i64 (dec s).p.k,
 AVal.str (dec s).p.lb, AVal.str (dec s).p.data, AVal.str (dec s).p.sum]), (6, AVal.tup [AVal.agg [AVal.bool (dec s).p.st, AVal.bool (dec s).p.en, AVal.int IntKind.i64 (dec s).p.id, AVal.int
 IntKind.i64 (dec s).p.total, AVal.int IntKind.i64 (dec s).p.typ, AVal.int IntKind.i64 (dec s).p.k, AVal.str (dec s).p.lb, AVal.str (dec s).p.data, AVal.str (dec s).p.sum], AVal.int IntKind.i64 (dec
 s).n, AVal.int IntKind.i64 (dec s).e]), (8, AVal.tup [AVal.agg [AVal.bool (dec s).p.st, AVal.bool (dec s).p.en, AVal.int IntKind.i64 (dec s).p.id, AVal.int IntKind.i64 (dec s).p.total, AVal.int
 IntKind.i64 (dec s).p.typ, AVal.int IntKind.i64 (dec s).p.k, AVal.str (dec s).p.lb, AVal.str (dec s).p.data, AVal.str (dec s).p.sum], AVal.int IntKind.i64 (dec s).n, AVal.int IntKind.i64 (dec s).e]),
 (7, AVal.str s), (0, AVal.yld 4), (1, AVal.ptr 3 0 0 0)] (AHeap.mk 8 [(1, ABlk.cells 40 [AVal.int IntKind.i64 (dec s).e]), (0, ABlk.cells 39 [AVal.sl 5 0 9 0 acc.length none]), (7, ABlk.cells 46
 [AVal.bool (dec s).p.st, AVal.bool (dec s).p.en, AVal.int IntKind.i64 (dec s).p.id, AVal.int IntKind.i64 (dec s).p.total, AVal.int IntKind.i64 (dec s).p.typ, AVal.int IntKind.i64 (dec s).p.k, AVal.str
 (dec s).p.lb, AVal.str (dec s).p.data, AVal.str (dec s).p.sum]), (7, ABlk.cells 46 [AVal.bool false, AVal.bool false, AVal.int IntKind.i64 (0 : Int), AVal.int IntKind.i64 (0 : Int), AVal.int
 IntKind.i64 (0 : Int), AVal.int IntKind.i64 (0 : Int), AVal.str [], AVal.str [], AVal.str []]), (6, ABlk.cells 46 [AVal.bool (dec s).p.st, AVal.bool (dec s).p.en, AVal.int IntKind.i64 (dec s).p.id,
 AVal.int IntKind.i64 (dec s).p.total, AVal.int IntKind.i64 (dec s).p.typ, AVal.int IntKind.i64 (dec s).p.k, AVal.str (dec s).p.lb, AVal.str (dec s).p.data, AVal.str (dec s).p.sum]), (6, ABlk.cells 46
 [AVal.bool false, AVal.bool false, AVal.int IntKind.i64 (0 : Int), AVal.int IntKind.i64 (0 : Int), AVal.int IntKind.i64 (0 : Int), AVal.int IntKind.i64 (0 : Int), AVal.str [], AVal.str [], AVal.str
 []]), (5, ABlk.row 46 pieceRow acc RowMd.plain), (3, ABlk.cells 9 [AVal.str s]), (2, ABlk.cells 39 [AVal.sl 5 0 9 0 acc.length none]), (1, ABlk.cells 40 [AVal.int IntKind.i64 (0 : Int)]), (0,
 ABlk.cells 39 [AVal.nils])]) (some Code.ret)) (obl (true && decide (acc.length = acc.length ∧ 9 = 9 ∧ 9 = 9 ∧ 0 < 9 ∧ (acc ++ [PieceR.mk (dec s).p.st (dec s).p.en (dec s).p.id (dec s).p.total (dec
 s).p.typ (dec s).p.k (dec s).p.lb (dec s).p.data (dec s).p.sum]).length ≤ 9223372036854775807 ∧ (acc ++ [PieceR.mk (dec s).p.st (dec s).p.en (dec s).p.id (dec s).p.total (dec s).p.typ (dec s).p.k (dec
 s).p.lb (dec s).p.data (dec s).p.sum]).length * 88 ≤ 140737488355328)) (branch (!decide ((dec s).e = (0 : Int))) (QQ AExit.ret [(24, AVal.bool !decide ((dec s).e = (0 : Int))), (23, AVal.bool !decide
 ((dec s).e = (0 : Int))), (21, AVal.bool false), (22, AVal.int IntKind.i64 (dec s).e), (21, AVal.bool false), (21, AVal.bool false), (20, AVal.bool false), (19, AVal.bool false), (14, AVal.bool
 false), (18, AVal.bool true), (14, AVal.bool false), (17, AVal.int IntKind.i64 (dec s).e), (14, AVal.bool false), (16, AVal.agg [AVal.bool (dec s).p.st, AVal.bool (dec s).p.en, AVal.int IntKind.i64
 (dec s).p.id, AVal.int IntKind.i64 (dec s).p.total, AVal.int IntKind.i64 (dec s).p.typ, AVal.int IntKind.i64 (dec s).p.k, AVal.str (dec s).p.lb, AVal.str (dec s).p.data, AVal.str (dec s).p.sum]), (14,
 AVal.bool false), (15, AVal.yld 4), (14, AVal.bool false), (14, AVal.bool (decide ((dec s).e = (5 : Int)))), (13, AVal.bool (decide ((dec s).e = (5 : Int)))), (12, AVal.int IntKind.i64 (dec s).e), (5,
 AVal.int IntKind.i64 (dec s).e), (4, AVal.int IntKind.i64 (dec s).n), (3, AVal.ptr 6 0 0 0), (11, AVal.int IntKind.i64 (dec s).e), (10, AVal.int IntKind.i64 (dec s).n), (9, AVal.agg [AVal.bool (dec
 s).p.st, AVal.bool (dec s).p.en, AVal.int IntKind.i64 (dec s).p.id, AVal.int IntKind.i64 (dec s).p.total, AVal.int IntKind.i64 (dec s).p.typ, AVal.int IntKind.i64 (dec s).p.k, AVal.str (dec s).p.lb,
 AVal.str (dec s).p.data, AVal.str (dec s).p.sum]), (6, AVal.tup [AVal.agg [AVal.bool (dec s).p.st, AVal.bool (dec s).p.en, AVal.int IntKind.i64 (dec s).p.id, AVal.int IntKind.i64 (dec s).p.total,
 AVal.int IntKind.i64 (dec s).p.typ, AVal.int IntKind.i64 (dec s).p.k, AVal.str (dec s).p.lb, AVal.str (dec s).p.data, AVal.str (dec s).p.sum], AVal.int IntKind.i64 (dec s).n, AVal.int IntKind.i64 (dec
 s).e]), (8, AVal.tup [AVal.agg [AVal.bool (dec s).p.st, AVal.bool (dec s).p.en, AVal.int IntKind.i64 (dec s).p.id, AVal.int IntKind.i64 (dec s).p.total, AVal.int IntKind.i64 (dec s).p.typ, AVal.int
 IntKind.i64 (dec s).p.k, AVal.str (dec s).p.lb, AVal.str (dec s).p.data, AVal.str (dec s).p.sum], AVal.int IntKind.i64 (dec s).n, AVal.int IntKind.i64 (dec s).e]), (7, AVal.str s), (0, AVal.yld 4),
 (1, AVal.ptr 3 0 0 0)] (AHeap.mk 10 [(2, ABlk.cells 39 [AVal.sl 9 0 9 0 (acc ++ [PieceR.mk (dec s).p.st (dec s).p.en (dec s).p.id (dec s).p.total (dec s).p.typ (dec s).p.k (dec s).p.lb (dec s).p.data
 (dec s).p.sum]).length none]), (9, ABlk.row 46 pieceRow (acc ++ [PieceR.mk (dec s).p.st (dec s).p.en (dec s).p.id (dec s).p.total (dec s).p.typ (dec s).p.k (dec s).p.lb (dec s).p.data (dec s).p.sum])
 RowMd.plain), (5, ABlk.dead), (8, ABlk.cells 46 [AVal.bool (dec s).p.st, AVal.bool (dec s).p.en, AVal.int IntKind.i64 (dec s).p.id, AVal.int IntKind.i64 (dec s).p.total, AVal.int IntKind.i64 (dec
 s).p.typ, AVal.int IntKind.i64 (dec s).p.k, AVal.str (dec s).p.lb, AVal.str (dec s).p.data, AVal.str (dec s).p.sum]), (7, ABlk.cells 46 [AVal.bool (dec s).p.st, AVal.bool (dec s).p.en, AVal.int
 IntKind.i64 (dec s).p.id, AVal.int IntKind.i64 (dec s).p.total, AVal.int IntKind.i64 (dec s).p.typ, AVal.int IntKind.i64 (dec s).p.k, AVal.str (dec s).p.lb, AVal.str (dec s).p.data, AVal.str (dec
 s).p.sum]), (7, ABlk.cells 46 [AVal.bool false, AVal.bool false, AVal.int IntKind.i64 (0 : Int), AVal.int IntKind.i64 (0 : Int), AVal.int IntKind.i64 (0 : Int), AVal.int IntKind.i64 (0 : Int),
 AVal.str [], AVal.str [], AVal.str []]), (6, ABlk.cells 46 [AVal.bool (dec s).p.st, AVal.bool (dec s).p.en, AVal.int IntKind.i64 (dec s).p.id, AVal.int IntKind.i64 (dec s).p.total, AVal.int
 IntKind.i64 (dec s).p.typ, AVal.int IntKind.i64 (dec s).p.k, AVal.str (dec s).p.lb, AVal.str (dec s).p.data, AVal.str (dec s).p.sum]), (6, ABlk.cells 46 [AVal.bool false, AVal.bool false, AVal.int
 IntKind.i64 (0 : Int), AVal.int IntKind.i64 (0 : Int), AVal.int IntKind.i64 (0 : Int), AVal.int IntKind.i64 (0 : Int), AVal.str [], AVal.str [], AVal.str []]), (5, ABlk.row 46 pieceRow acc
 RowMd.plain), (3, ABlk.cells 9 [AVal.str s]), (2, ABlk.cells 39 [AVal.sl 5 0 9 0 acc.length none]), (1, ABlk.cells 40 [AVal.int IntKind.i64 (0 : Int)]), (0, ABlk.cells 39 [AVal.nils])]) none) (obl
 (decide ((0 : Int) ≤ (dec s).n ∧ (dec s).n ≤ (↑s.length : Int))) (QQ AExit.normal [(27, AVal.str (List.drop (dec s).n.toNat s)), (26, AVal.int IntKind.i64 (dec s).n), (25, AVal.str s), (24, AVal.bool
 !decide ((dec s).e = (0 : Int))), (23, AVal.bool !decide ((dec s).e = (0 : Int))), (21, AVal.bool false), (22, AVal.int IntKind.i64 (dec s).e), (21, AVal.bool false), (21, AVal.bool false), (20,
 AVal.bool false), (19, AVal.bool false), (14, AVal.bool false), (18, AVal.bool true), (14, AVal.bool false), (17, AVal.int IntKind.i64 (dec s).e), (14, AVal.bool false), (16, AVal.agg [AVal.bool (dec
 s).p.st, AVal.bool (dec s).p.en, AVal.int IntKind.i64 (dec s).p.id, AVal.int IntKind.i64 (dec s).p.total, AVal.int IntKind.i64 (dec s).p.typ, AVal.int IntKind.i64 (dec s).p.k, AVal.str (dec s).p.lb,
 AVal.str (dec s).p.data, AVal.str (dec s).p.sum]), (14, AVal.bool false), (15, AVal.yld 4), (14, AVal.bool false), (14, AVal.bool (decide ((dec s).e = (5 : Int)))), (13, AVal.bool (decide ((dec s).e =
 (5 : Int)))), (12, AVal.int IntKind.i64 (dec s).e), (5, AVal.int IntKind.i64 (dec s).e), (4, AVal.int IntKind.i64 (dec s).n), (3, AVal.ptr 6 0 0 0), (11, AVal.int IntKind.i64 (dec s).e), (10, AVal.int
 IntKind.i64 (dec s).n), (9, AVal.agg [AVal.bool (dec s).p.st, AVal.bool (dec s).p.en, AVal.int IntKind.i64 (dec s).p.id, AVal.int IntKind.i64 (dec s).p.total, AVal.int IntKind.i64 (dec s).p.typ,
 AVal.int IntKind.i64 (dec s).p.k, AVal.str (dec s).p.lb, AVal.str (dec s).p.data, AVal.str (dec s).p.sum]), (6, AVal.tup [AVal.agg [AVal.bool (dec s).p.st, AVal.bool (dec s).p.en, AVal.int IntKind.i64
 (dec s).p.id, AVal.int IntKind.i64 (dec s).p.total, AVal.int IntKind.i64 (dec s).p.typ, AVal.int IntKind.i64 (dec s).p.k, AVal.str (dec s).p.lb, AVal.str (dec s).p.data, AVal.str (dec s).p.sum],
 AVal.int IntKind.i64 (dec s).n, AVal.int IntKind.i64 (dec s).e]), (8, AVal.tup [AVal.agg [AVal.bool (dec s).p.st, AVal.bool (dec s).p.en, AVal.int IntKind.i64 (dec s).p.id, AVal.int IntKind.i64 (dec
 s).p.total, AVal.int IntKind.i64 (dec s).p.typ, AVal.int IntKind.i64 (dec s).p.k, AVal.str (dec s).p.lb, AVal.str (dec s).p.data, AVal.str (dec s).p.sum], AVal.int IntKind.i64 (dec s).n, AVal.int
 IntKind.i64 (dec s).e]), (7, AVal.str s), (0, AVal.yld 4), (1, AVal.ptr 3 0 0 0)] (AHeap.mk 10 [(3, ABlk.cells 9 [AVal.str (List.drop (dec s).n.toNat s)]), (2, ABlk.cells 39 [AVal.sl 9 0 9 0 (acc ++
 [PieceR.mk (dec s).p.st (dec s).p.en (dec s).p.id (dec s).p.total (dec s).p.typ (dec s).p.k (dec s).p.lb (dec s).p.data (dec s).p.sum]).length none]), (9, ABlk.row 46 pieceRow (acc ++ [PieceR.mk (dec
 s).p.st (dec s).p.en (dec s).p.id (dec s).p.total (dec s).p.typ (dec s).p.k (dec s).p.lb (dec s).p.data (dec s).p.sum]) RowMd.plain), (5, ABlk.dead), (8, ABlk.cells 46 [AVal.bool (dec s).p.st,
 AVal.bool (dec s).p.en, AVal.int IntKind.i64 (dec s).p.id, AVal.int IntKind.i64 (dec s).p.total, AVal.int IntKind.i64 (dec s).p.typ, AVal.int IntKind.i64 (dec s).p.k, AVal.str (dec s).p.lb, AVal.str
 (dec s).p.data, AVal.str (dec s).p.sum]), (7, ABlk.cells 46 [AVal.bool (dec s).p.st, AVal.bool (dec s).p.en, AVal.int IntKind.i64 (dec s).p.id, AVal.int IntKind.i64 (dec s).p.total, AVal.int
 IntKind.i64 (dec s).p.typ, AVal.int IntKind.i64 (dec s).p.k, AVal.str (dec s).p.lb, AVal.str (dec s).p.data, AVal.str (dec s).p.sum]), (7, ABlk.cells 46 [AVal.bool false, AVal.bool false, AVal.int
 IntKind.i64 (0 : Int), AVal.int IntKind.i64 (0 : Int), AVal.int IntKind.i64 (0 : Int), AVal.int IntKind.i64 (0 : Int), AVal.str [], AVal.str [], AVal.str []]), (6, ABlk.cells 46 [AVal.bool (dec
 s).p.st, AVal.bool (dec s).p.en, AVal.int IntKind.i64 (dec s).p.id, AVal.int IntKind.i64 (dec s).p.total, AVal.int IntKind.i64 (dec s).p.typ, AVal.int IntKind.i64 (dec s).p.k, AVal.str (dec s).p.lb,
 AVal.str (dec s).p.data, AVal.str (dec s).p.sum]), (6, ABlk.cells 46 [AVal.bool false, AVal.bool false, AVal.int IntKind.i64 (0 : Int), AVal.int IntKind.i64 (0 : Int), AVal.int IntKind.i64 (0 : Int),
 AVal.int IntKind.i64 (0 : Int), AVal.str [], AVal.str [], AVal.str []]), (5, ABlk.row 46 pieceRow acc RowMd.plain), (3, ABlk.cells 9 [AVal.str s]), (2, ABlk.cells 39 [AVal.sl 5 0 9 0 acc.length
 none]), (1, ABlk.cells 40 [AVal.int IntKind.i64 (0 : Int)]), (0, ABlk.cells 39 [AVal.nils])]) none))))))) := by kernel_rfl
end Go.Proofs.Ytjacnjecggedhaa
namespace Go.Proofs.Ytjacnjecggedhaa
set_option linter.unusedVariables false
set_option linter.unusedSimpArgs false
open Go.RowKit Ev
set_option maxRecDepth 100000 in
theorem w_allpost_nil (s0 : List UInt8) (g1 g2 g3 : ABlk) (K : Out → AHeap → Prop) : (wpC (TE.ctx Try.prog) 60 13 7 (seqR (seqR (seqR (bodyC Try.f13)))) ((8, .func 27 [] [.ptr 3 0 0 0]) :: (7, .str s0) :: (4, .ptr 2 0 0 0) :: (3, .ptr 1 0 0 0) :: (2, .ptr 0 0 0 0) :: (0, .str s0) :: []) ⟨7, (6, g1) :: (6, g2) :: (3, g3) :: (2, .cells 39 [.nils]) :: (1, .cells 40 [.int .i64 0]) :: (0, .cells 39 [.nils]) :: []⟩ (endN (TE.ctx Try.prog) Try.f13 K)
) = (K (Out.ret (AVal.tup [AVal.nils, AVal.int IntKind.i64 (0 : Int)])) (AHeap.mk 7 [(1, ABlk.cells 40 [AVal.int IntKind.i64 (0 : Int)]), (0, ABlk.cells 39 [AVal.nils]), (6, g1), (6, g2), (3, g3), (2,
 ABlk.cells 39 [AVal.nils]), (1, ABlk.cells 40 [AVal.int IntKind.i64 (0 : Int)]), (0, ABlk.cells 39 [AVal.nils])])) := by kernel_rfl
set_option maxRecDepth 100000 in
theorem w_allerr_nil (s0 : List UInt8) (e : Int) (g1 g2 g3 g4 g5 g6 g7 g8 : ABlk) (K : Out → AHeap → Prop) : (endA (TE.ctx Try.prog).P Try.f13 K .ret ((8, .func 27 [] [.ptr 3 0 0 0]) :: (7, .str s0) :: (4, .ptr 2 0 0 0) :: (3, .ptr 1 0 0 0) :: (2, .ptr 0 0 0 0) :: (0, .str s0) :: []) ⟨8, (1, .cells 40 [.int .i64 e]) :: (0, .cells 39 [.nils]) :: (7, g1) :: (7, g2) :: (6, g3) :: (6, g4) :: (3, g5) :: (2, g6) :: (1, g7) :: (0, g8) :: []⟩
) = (K (Out.ret (AVal.tup [AVal.nils, AVal.int IntKind.i64 e])) (AHeap.mk 8 [(1, ABlk.cells 40 [AVal.int IntKind.i64 e]), (0, ABlk.cells 39 [AVal.nils]), (7, g1), (7, g2), (6, g3), (6, g4), (3, g5), (2,
 g6), (1, g7), (0, g8)])) := by kernel_rfl
set_option maxRecDepth 100000 in
theorem w_allpost_cons (s0 : List UInt8) (acc : List PieceR) (g1 g2 g3 : ABlk) (K : Out → AHeap → Prop) : (wpC (TE.ctx Try.prog) 60 13 7 (seqR (seqR (seqR (bodyC Try.f13)))) ((8, .func 27 [] [.ptr 3 0 0 0]) :: (7, .str s0) :: (4, .ptr 2 0 0 0) :: (3, .ptr 1 0 0 0) :: (2, .ptr 0 0 0 0) :: (0, .str s0) :: []) ⟨7, (6, g1) :: (6, g2) :: (5, .row 46 pieceRow acc .plain) :: (3, g3) :: (2, .cells 39 [.sl 5 0 9 0 acc.length none]) :: (1, .cells 40 [.int .i64 0]) :: (0, .cells 39 [.nils]) :: []⟩ (endN (TE.ctx Try.prog) Try.f13 K)
) = (K (Out.ret (AVal.tup [AVal.sl 5 0 9 0 acc.length none, AVal.int IntKind.i64 (0 : Int)])) (AHeap.mk 7 [(1, ABlk.cells 40 [AVal.int IntKind.i64 (0 : Int)]), (0, ABlk.cells 39 [AVal.sl 5 0 9 0
 acc.length none]), (6, g1), (6, g2), (5, ABlk.row 46 pieceRow acc RowMd.plain), (3, g3), (2, ABlk.cells 39 [AVal.sl 5 0 9 0 acc.length none]), (1, ABlk.cells 40 [AVal.int IntKind.i64 (0 : Int)]), (0,
 ABlk.cells 39 [AVal.nils])])) := by kernel_rfl
set_option maxRecDepth 100000 in
theorem w_allerr_cons (s0 : List UInt8) (e : Int) (acc : List PieceR) (g1 g2 g3 g4 g5 g6 g7 g8 : ABlk) (K : Out → AHeap → Prop) : (endA (TE.ctx Try.prog).P Try.f13 K .ret ((8, .func 27 [] [.ptr 3 0 0 0]) :: (7, .str s0) :: (4, .ptr 2 0 0 0) :: (3, .ptr 1 0 0 0) :: (2, .ptr 0 0 0 0) :: (0, .str s0) :: []) ⟨8, (1, .cells 40 [.int .i64 e]) :: (0, .cells 39 [.sl 5 0 9 0 acc.length none]) :: (7, g1) :: (7, g2) :: (6, g3) :: (6, g4) :: (5, .row 46 pieceRow acc .plain) :: (3, g5) :: (2, g6) :: (1, g7) :: (0, g8) :: []⟩
) = (K (Out.ret (AVal.tup [AVal.sl 5 0 9 0 acc.length none, AVal.int IntKind.i64 e])) (AHeap.mk 8 [(1, ABlk.cells 40 [AVal.int IntKind.i64 e]), (0, ABlk.cells 39 [AVal.sl 5 0 9 0 acc.length none]), (7,
 g1), (7, g2), (6, g3), (6, g4), (5, ABlk.row 46 pieceRow acc RowMd.plain), (3, g5), (2, g6), (1, g7), (0, g8)])) := by kernel_rfl
end Go.Proofs.Ytjacnjecggedhaa
namespace Go.Proofs.Ytjacnjecggedhaa
set_option linter.unusedVariables false
set_option linter.unusedSimpArgs false
open Go.RowKit Ev
def allL : Nat → List UInt8 → List PieceR × Int
  | 0, _ => ([], 0)
  | n + 1, s => if (dec s).e = 5 then ([], 0) else if (dec s).e = 0 then ((dec s).p :: (allL n (s.drop (dec s).n.toNat)).1, (allL n (s.drop (dec s).n.toNat)).2) else ([], (dec s).e)
def allP (s : List UInt8) : List PieceR := (allL (s.length + 1) s).1
def allE (s : List UInt8) : Int := (allL (s.length + 1) s).2
theorem allL_more : ∀ (n m : Nat) (s : List UInt8), s.length < n → s.length < m → allL n s = allL m s
  | 0, _, s, h, _ => by omega
  | _ + 1, 0, s, _, h => by omega
  | n + 1, m + 1, s, h1, h2 => by
    unfold allL
    split
    · rfl
    · split
      · rename_i h0
        obtain ⟨_, g2, g3, _⟩ := dec_again h0
        have hl : (s.drop (dec s).n.toNat).length < n ∧ (s.drop (dec s).n.toNat).length < m := by
          rw [List.length_drop]; omega
        rw [allL_more n m _ hl.1 hl.2]
      · rfl
theorem all_5 {s : List UInt8} (h : (dec s).e = 5) : allP s = [] ∧ allE s = 0 := by
  unfold allP allE allL
  rw [if_pos h]
  exact ⟨rfl, rfl⟩
theorem all_4 {s : List UInt8} (h : (dec s).e ≠ 5) (h0 : (dec s).e ≠ 0) : allP s = [] ∧ allE s = (dec s).e := by
  unfold allP allE allL
  rw [if_neg h, if_neg h0]
  exact ⟨rfl, rfl⟩
theorem all_0 {s : List UInt8} (h0 : (dec s).e = 0) : allP s = (dec s).p :: allP (s.drop (dec s).n.toNat) ∧ allE s = allE (s.drop (dec s).n.toNat) := by
  obtain ⟨_, g2, g3, _⟩ := dec_again h0
  have hl : (s.drop (dec s).n.toNat).length < s.length := by rw [List.length_drop]; omega
  have e := allL_more s.length ((s.drop (dec s).n.toNat).length + 1) _ hl (Nat.lt_succ_self _)
  have e1 : allP s = (dec s).p :: (allL s.length (s.drop (dec s).n.toNat)).1 := by
    show (allL (s.length + 1) s).1 = _
    rw [allL, if_neg (by omega), if_pos h0]
  have e2 : allE s = (allL s.length (s.drop (dec s).n.toNat)).2 := by
    show (allL (s.length + 1) s).2 = _
    rw [allL, if_neg (by omega), if_pos h0]
  rw [e1, e2, e]
  exact ⟨rfl, rfl⟩
noncomputable def gcAll : GC := fun args H K => match args with
  | [.str s] => obl (decide (s.length ≤ 1000000000)) <| branch (allP s).isEmpty (K (.ret (.tup [.nils, .int .i64 (allE s)])) H) (forceK H.next fun id => forceH (H.new (.row 46 pieceRow (allP s) .plain)) (K (.ret (.tup [.sl id 0 9 0 (allP s).length none, .int .i64 (allE s)]))))
  | _ => Stuck 60 []
def kAll (s : List UInt8) : Out → AHeap → Prop := fun out H => match allP s with
  | [] => out = .ret (.tup [.nils, .int .i64 (allE s)])
  | _ => ∃ r, out = .ret (.tup [.sl r 0 9 0 (allP s).length none, .int .i64 (allE s)]) ∧ H.get r = some (.row 46 pieceRow (allP s) .plain)
theorem kAll_nil {s : List UInt8} {H : AHeap} {e : Int} (h : allP s = []) (he : allE s = e) : kAll s (.ret (.tup [.nils, .int .i64 e])) H := by
  unfold kAll; rw [h, he]
theorem kAll_cons {s : List UInt8} {H : AHeap} {r : Nat} {p : PieceR} {l : List PieceR} {e : Int} (h : allP s = p :: l) (he : allE s = e) (hr : H.get r = some (.row 46 pieceRow (p :: l) .plain)) : kAll s (.ret (.tup [.sl r 0 9 0 (p :: l).length none, .int .i64 e])) H := by
  unfold kAll; rw [h, he]; exact ⟨r, rfl, hr⟩
def stAll (x : List UInt8 × List PieceR) : Env × AHeap := ([(0, .yld 4), (1, .ptr 3 0 0 0)], match x.2 with
  | [] => ⟨6, [(3, .cells 9 [.str x.1]), (2, .cells 39 [.nils]), (1, .cells 40 [.int .i64 0]), (0, .cells 39 [.nils])]⟩
  | p :: l => ⟨6, [(5, .row 46 pieceRow (p :: l) .plain), (3, .cells 9 [.str x.1]), (2, .cells 39 [.sl 5 0 9 0 (p :: l).length none]), (1, .cells 40 [.int .i64 0]), (0, .cells 39 [.nils])]⟩)
def tAll (s0 : List UInt8) (x : List UInt8 × List PieceR) : Prop := s0.length ≤ 1000000000 ∧ x.2 ++ allP x.1 = allP s0 ∧ allE x.1 = allE s0 ∧ x.1.length + 2 * x.2.length ≤ s0.length
def envAll (s0 : List UInt8) : Env := (8, .func 27 [] [.ptr 3 0 0 0]) :: (7, .str s0) :: (4, .ptr 2 0 0 0) :: (3, .ptr 1 0 0 0) :: (2, .ptr 0 0 0 0) :: (0, .str s0) :: []
noncomputable abbrev rfAll : Code := blkC (seqR (seqL (seqR (seqR (bodyC Try.f13)))))
noncomputable abbrev postAll : Code := seqR (seqR (seqR (bodyC Try.f13)))
def qAll (s0 : List UInt8) : AExit → Env → AHeap → Option Code → Prop := fun x _ H' pd => (x = .normal ∨ x = .ret) ∧ behindRF (TE.ctx Try.prog) 60 13 Try.f13 postAll (envAll s0) (kAll s0) H' pd
theorem q_none {s0 : List UInt8} {E : Env} {H : AHeap} (h : wpC (TE.ctx Try.prog) 60 13 H.next postAll (envAll s0) H (endN (TE.ctx Try.prog) Try.f13 (kAll s0))) : qAll s0 .ret E H none := ⟨.inr rfl, h⟩
theorem q_err {s0 : List UInt8} {E : Env} {H : AHeap} (h : endA (TE.ctx Try.prog).P Try.f13 (kAll s0) .ret (envAll s0) H) : qAll s0 .ret E H (some .ret) := ⟨.inr rfl, h⟩
theorem all_done {s0 s : List UInt8} {acc : List PieceR} (h : tAll s0 (s, acc)) (hp : allP s = []) : allP s0 = acc := by
  have := h.2.1
  rw [hp, List.append_nil] at this
  exact this.symm
set_option maxRecDepth 100000 in
theorem all_round (s0 : List UInt8) : ∀ x, tAll s0 x → wpY (TE.ctx Try.prog) 4 (roundA (TE.ctx Try.prog) 60 13 (envAll s0) [9, 10] (rfAssign rfAll) (rfBody rfAll)) 60 27 (lpC (blkC (bodyC Try.f27))) (stAll x).1 (stAll x).2 none (RoundY 5 stAll (fun x => x.1.length) (tAll s0) x (qAll s0)) := by
  rintro ⟨s, acc⟩ hT
  have hT' := hT
  obtain ⟨t0, t1, t2, t3⟩ := hT'
  simp only at t1 t2 t3
  have next : (dec s).e = 0 → tAll s0 (s.drop (dec s).n.toNat, acc ++ [(dec s).p]) ∧ (s.drop (dec s).n.toNat).length < s.length := by
    intro h0
    obtain ⟨_, g2, g3, _⟩ := dec_again h0
    obtain ⟨a1, a2⟩ := all_0 h0
    refine ⟨⟨t0, ?_, ?_, ?_⟩, ?_⟩
    · simp only; rw [← t1, a1]; simp
    · simp only; rw [← t2, a2]
    · simp only [List.length_drop, List.length_append, List.length_cons, List.length_nil]; omega
    · rw [List.length_drop]; omega
  cases acc with
  | nil =>
    refine Eq.mpr (w_allround_nil s0 s _) ?_
    simp only [obl_iff, branch_iff, decide_eq_true_eq, decide_eq_false_iff_not, Bool.not_eq_true', Bool.not_eq_false', Bool.and_eq_true, true_and]
    simp only [List.length_nil] at t3
    refine ⟨by omega, fun h5 => ?_, fun h5 => ⟨fun h4 => ?_, fun h4 => ?_⟩⟩
    · obtain ⟨a1, a2⟩ := all_5 h5
      show qAll s0 .ret [] _ none
      apply q_none
      refine (Eq.mpr (w_allpost_nil s0 _ _ _ (kAll s0)) ?_)
      exact kAll_nil (all_done hT a1) (t2.symm.trans a2)
    · obtain ⟨a1, a2⟩ := all_4 h5 h4
      show qAll s0 .ret [] _ (some .ret)
      apply q_err
      refine (Eq.mpr (w_allerr_nil s0 _ _ _ _ _ _ _ _ _ (kAll s0)) ?_)
      exact kAll_nil (all_done hT a1) (t2.symm.trans a2)
    · obtain ⟨n1, n2⟩ := next h4
      obtain ⟨_, g2, g3, _⟩ := dec_again h4
      refine ⟨fun h => absurd h4 h, fun _ => ⟨⟨by omega, by omega⟩, rfl, (_, [(dec s).p]), [(5, 9)], n2, n1, by decide, by kernel_rfl, ?_, ?_⟩⟩
      · exact subER_cons rfl rfl rfl (subER_cons rfl rfl rfl subER_nil)
      · exact subHR_cons rfl rfl rfl rfl (subHR_cons rfl rfl rfl rfl (subHR_cons rfl rfl rfl rfl (subHR_cons rfl rfl rfl rfl (subHR_cons rfl rfl rfl rfl subHR_nil))))
  | cons p l =>
    refine Eq.mpr (w_allround_cons s0 s (p :: l) _) ?_
    simp only [obl_iff, branch_iff, decide_eq_true_eq, decide_eq_false_iff_not, Bool.not_eq_true', Bool.not_eq_false', Bool.and_eq_true, true_and]
    simp only [List.length_cons] at t3
    refine ⟨by omega, fun h5 => ?_, fun h5 => ⟨fun h4 => ?_, fun h4 => ?_⟩⟩
    · obtain ⟨a1, a2⟩ := all_5 h5
      show qAll s0 .ret [] _ none
      apply q_none
      refine (Eq.mpr (w_allpost_cons s0 (p :: l) _ _ _ (kAll s0)) ?_)
      exact kAll_cons (r := 5) (all_done hT a1) (t2.symm.trans a2) rfl
    · obtain ⟨a1, a2⟩ := all_4 h5 h4
      show qAll s0 .ret [] _ (some .ret)
      apply q_err
      refine (Eq.mpr (w_allerr_cons s0 _ (p :: l) _ _ _ _ _ _ _ _ (kAll s0)) ?_)
      exact kAll_cons (r := 5) (all_done hT a1) (t2.symm.trans a2) rfl
    · obtain ⟨n1, n2⟩ := next h4
      obtain ⟨_, g2, g3, _⟩ := dec_again h4
      refine ⟨?_, fun h => absurd h4 h, fun _ => ⟨⟨by omega, by omega⟩, rfl, (_, p :: (l ++ [(dec s).p])), [(5, 9)], n2, n1, by decide, by kernel_rfl, ?_, ?_⟩⟩
      · simp only [List.length_cons, List.length_append, List.length_nil]
        (repeat' apply And.intro) <;> first | omega | rfl | decide
      · exact subER_cons rfl rfl rfl (subER_cons rfl rfl rfl subER_nil)
      · exact subHR_cons rfl rfl rfl rfl (subHR_cons rfl rfl rfl rfl (subHR_cons rfl rfl rfl rfl (subHR_cons rfl rfl rfl rfl (subHR_cons rfl rfl rfl rfl subHR_nil))))
end Go.Proofs.Ytjacnjecggedhaa
namespace Go.Proofs.Ytjacnjecggedhaa
set_option linter.unusedVariables false
set_option linter.unusedSimpArgs false
open Go.RowKit Ev
theorem pieces_code : bodyC Try.f27 = .block 0 (.loop (lpC (blkC (bodyC Try.f27)))) := by kernel_rfl
def itAll (s0 : List UInt8) : Env → AHeap → List AVal → Prop := fun E H cs => s0.length ≤ 1000000000 ∧ E = envAll s0 ∧ cs = [.ptr 3 0 0 0] ∧ H = ⟨4, [(3, .cells 9 [.str s0]), (2, .cells 39 [.nils]), (1, .cells 40 [.int .i64 0]), (0, .cells 39 [.nils])]⟩
theorem all_it (s0 : List UInt8) : ∀ E H cs, itAll s0 E H cs → ∀ ρ0 w0 At ρ a w, YOk (TE.ctx Try.prog) H.next (roundA (TE.ctx Try.prog) 60 13 E [9, 10] (rfAssign rfAll) (rfBody rfAll)) ρ0 ⟨H.next + 1, H.bs⟩ w0 At → AtKeeps At → Step ρ0 ⟨H.next + 1, H.bs⟩ w0 ρ ⟨H.next + 1, H.bs⟩ w → RelE ρ (H.next + 1) (env0 (.yld H.next :: cs) 0) a → a.defers = [] → Try.f27.ntmps ≤ a.tmps.size → At none w →
      (bodyC Try.f27).wp (TE.ctx Try.prog).P (LiftY ρ0 ⟨H.next + 1, H.bs⟩ w0 a.tmps.size At (fun x _ H' pd => (x = .normal ∨ x = .ret) ∧ behindRF (TE.ctx Try.prog) 60 13 Try.f13 postAll E (kAll s0) H' pd)) a w := by
  rintro E H cs ⟨hl, rfl, rfl, rfl⟩ ρ0 w0 At ρ a w hY hAt hS hE hd hN hat
  have hT : tAll s0 (s0, []) := ⟨hl, by simp, rfl, by simp⟩
  have hS6 : Step ρ0 ⟨5, [(3, .cells 9 [.str s0]), (2, .cells 39 [.nils]), (1, .cells 40 [.int .i64 0]), (0, .cells 39 [.nils])]⟩ w0 (ρ.set 5 0 0) (stAll (s0, [])).2 w := by
    have h1 := hS.rel.more 0 0
    refine ⟨hS.agree.trans (Rho.set_agree ρ 5 0 0) (Nat.le_refl _), Nat.le_succ _, h1, hS.os, hS.tape, hS.output, hS.size, hS.old, fun g hg => ?_⟩
    obtain ⟨b, x, hx, ho, rfl⟩ := hg
    have hb := (hS.rel.blk b x hx).1
    have e : (ρ.set 5 0 0).blk b = ρ.blk b := (Rho.set_agree ρ 5 0 0 b hb).1
    rw [e]
    exact hS.owns _ ⟨b, x, hx, ho, rfl⟩
  have hE6 : RelE (ρ.set 5 0 0) (stAll (s0, [])).2.next (stAll (s0, [])).1 a := hE.step (Rho.set_agree ρ 5 0 0) (Nat.le_succ _)
  rw [pieces_code]
  have hrun := loopY_sound TEok.ctx hY hAt hN (g := 27) (n := 60) (c := lpC (blkC (bodyC Try.f27))) (by kernel_rfl) (by kernel_rfl) (base := 5) stAll (Nat.le_refl _) (fun x => by obtain ⟨s, acc⟩ := x; cases acc <;> exact (by decide : 5 ≤ 6)) (fun x => x.1.length) (tAll s0) (qAll s0)
    (fun x hx => ⟨_, fun _ _ _ _ h => h, all_round s0 x hx⟩) (s0, []) hT _ a w hS6 hE6 hd rfl hat
  refine wp_block (wp_mono hrun ?_)
  rintro e a' w' ⟨x', E', H', ρ', pd, q1, q2, q3, q4, q5, q6, q7⟩
  have q2' := q2
  obtain ⟨q8, q9⟩ := q2
  cases x' with
  | normal => cases e <;> simp only [AExit.rel] at q1; exact ⟨.normal, E', H', ρ', pd, trivial, q2', q3, q4, q5, q6, q7⟩
  | ret => cases e <;> simp only [AExit.rel] at q1; exact ⟨.ret, E', H', ρ', pd, trivial, q2', q3, q4, q5, q6, q7⟩
  | exit i => rcases q8 with h | h <;> cases h
  | panic v => rcases q8 with h | h <;> cases h
set_option maxRecDepth 100000 in
theorem all_walk (s0 : List UInt8) (hl : s0.length ≤ 1000000000) : wpRF (TE.ctx Try.prog) 60 13 27 8 (seqL (bodyC Try.f13)) (seqL (seqR (bodyC Try.f13))) (seqL (seqL (seqR (seqR (bodyC Try.f13))))) (itAll s0) [.str s0] ⟨0, []⟩ := by
  refine Eq.mpr (w_allpre s0 (fun E H => match getE E 8 with
    | some (.func g' [] cs) => match Nat.beq g' 27 with
      | true => forceH H fun H => itAll s0 E H cs
      | false => False
    | _ => False)) ?_
  exact ⟨hl, rfl, rfl, rfl⟩
set_option maxRecDepth 100000 in
theorem all_calls (s0 : List UInt8) (hl : s0.length ≤ 1000000000) (ρ : Rho) (w : World) : Calls Try.prog 13 (trL ρ [.str s0]).toArray w fun e w' => ∃ out H' ρ', Out.rel ρ' H'.next out e ∧ kAll s0 out H' ∧ Step ρ ⟨0, []⟩ w ρ' H' w' :=
  wpRF_sound TEok.ctx (bid := 0) (ps := [9, 10]) (fn := Try.f13) (gn := Try.f27) (assign := rfAssign rfAll) (body := rfBody rfAll) (post := postAll) (by kernel_rfl) (by kernel_rfl) (by kernel_rfl) rfl
    ⟨by simp [show (TE.ctx Try.prog).lcs = fun _ _ => none from rfl], by simp [show (TE.ctx Try.prog).lcs = fun _ _ => none from rfl], by kernel_rfl, by kernel_rfl, by kernel_rfl, by kernel_rfl, by decide⟩ (by kernel_rfl) (all_it s0) (all_walk s0 hl) (rel_nil ρ w) rfl
theorem gcAll_of {f : Nat} (he : ∀ vs w, (callFunc f vs).run Try.prog w = .ok (.enter f vs) w) (hc : ∀ s : List UInt8, s.length ≤ 1000000000 → ∀ ρ w, Calls Try.prog f (trL ρ [.str s]).toArray w fun e w' => ∃ out H' ρ', Out.rel ρ' H'.next out e ∧ kAll s out H' ∧ Step ρ ⟨0, []⟩ w ρ' H' w') : GcSound Try.prog f gcAll := by
  intro args H K hK ρ w hR hargs
  refine ⟨he, ?_⟩
  unfold gcAll at hK
  split at hK
  · rename_i s
    simp only [obl_iff, branch_iff, decide_eq_true_eq, forceK_eq, forceH_eq] at hK
    obtain ⟨hl, hnil, hcons⟩ := hK
    refine (hc s hl ρ w).mono ?_
    rintro e w' ⟨out, H', ρ', h1, h2, h3⟩
    have hno : ∀ g, ¬ Owns ρ ⟨0, []⟩ g := by
      rintro g ⟨b, x, hx, _⟩
      simp [AHeap.get, getB] at hx
    have hbelow : Below w.heap.size w w' := h3.below (Nat.le_refl _) (fun g hg => absurd hg (hno g))
    unfold kAll at h2
    split at h2
    · rename_i hp
      subst h2
      cases e <;> simp only [Out.rel] at h1
      obtain ⟨rfl, _⟩ := h1
      refine ⟨.ret (.tup [.nils, .int .i64 (allE s)]), H, ρ, ⟨rfl, rfl⟩, hnil (by rw [hp]; rfl), Step.grow hR hbelow⟩
    · rename_i hp
      obtain ⟨r, rfl, hr⟩ := h2
      cases e <;> simp only [Out.rel] at h1
      obtain ⟨rfl, _⟩ := h1
      obtain ⟨r1, r2, r3, r4⟩ := h3.rel.blk r _ hr
      obtain ⟨o1, o2, o3, cur, fz, o4, o5, o6, o7⟩ := r4
      have hge : w.heap.size ≤ ρ'.blk r := by
        rcases h3.owns _ ⟨r, _, hr, rfl, rfl⟩ with h | h
        · exact h
        · exact absurd h (hno _)
      have hne : (allP s).isEmpty = false := by
        cases hq : allP s with
        | nil => exact absurd hq hp
        | cons p l => rfl
      have hnew : NewTo ρ H.next w (.tup [.sl H.next 0 9 0 (allP s).length none, .int .i64 (allE s)]) (.row 46 pieceRow (allP s) .plain) (tr ρ' (.tup [.sl r 0 9 0 (allP s).length none, .int .i64 (allE s)])) w' := by
        refine ⟨⟨ρ'.blk r, ρ'.cap r, ?_, hge, r3, ⟨?_, ?_, ?_, cur, fz, ?_, o5, ?_, ?_⟩⟩, hbelow, rfl, ?_⟩
        · simp only [tr, trL, o1, (set_self ρ H.next (ρ'.blk r) (ρ'.cap r)).1, (set_self ρ H.next (ρ'.blk r) (ρ'.cap r)).2.1, (set_self ρ H.next (ρ'.blk r) (ρ'.cap r)).2.2]
        · exact (set_self ρ H.next _ _).2.1
        · rw [(set_self ρ H.next _ _).2.2]; exact o2
        · rw [(set_self ρ H.next _ _).2.2]; exact o3
        · rw [(set_self ρ H.next _ _).1]; exact o4
        · rw [(set_self ρ H.next _ _).2.2]; exact o6
        · rw [o7, trL_eq, trL_eq]
          apply List.map_congr_left
          intro y hy
          have hd := flat_data pieceRow (allP s)
          rw [List.all_eq_true] at hd
          exact AVal.data_tr (hd y hy) _ _
        · constructor
          · simp [AVal.under, belowL]
          · rfl
      obtain ⟨ρ'', s1, s2, s3⟩ := Step.new hR hnew
      rw [s2]
      exact ⟨.ret (.tup [.sl H.next 0 9 0 (allP s).length none, .int .i64 (allE s)]), _, ρ'', ⟨rfl, s3⟩, hcons hne, s1⟩
  · exact (not_stuck hK).elim
theorem all_sound : GcSound Try.prog 13 gcAll := gcAll_of Try.call13 all_calls
noncomputable def TA : Tabs := TE.addGc 13 gcAll
theorem TAok : TabsOk TA Try.prog := TEok.addGc all_sound
end Go.Proofs.Ytjacnjecggedhaa
namespace Go.Proofs.Ytjacnjecggedhaa
set_option linter.unusedVariables false
set_option linter.unusedSimpArgs false
open Go.RowKit Ev
set_option maxRecDepth 100000 in
theorem w_works24 (K : Out → Prop) : (callC (TA.ctx Try.prog) 400 10 [] ⟨0, []⟩ (fun o _ => K o)
) = (twice (twice (twice (K (Out.ret (AVal.bool true)))))) := by kernel_rfl
end Go.Proofs.Ytjacnjecggedhaa
namespace Go.Proofs.Ytjacnjecggedhaa
set_option linter.unusedVariables false
set_option linter.unusedSimpArgs false
open Go.RowKit Ev
def fcWorks24 : FC := fun args _ => match args with
  | [] => some (true, .bool true)
  | _ => none
set_option maxRecDepth 100000 in
theorem works_sound24 : FcSound Try.prog 10 fcWorks24 := by
  refine fc_pure TAok.ctx (n := 400) Try.call10 (fun args H v h => ?_)
  unfold fcWorks24 at h
  split at h <;> cases h
  refine ⟨rfl, rfl, Eq.mpr (w_works24 _) ?_⟩
  simp only [twice_iff, and_self]
noncomputable def TF : Tabs := (TA.addFc 10 fcWorks24)
theorem TFok : TabsOk TF Try.prog := (TAok.addFc works_sound24)
end Go.Proofs.Ytjacnjecggedhaa
namespace Go.Proofs.Ytjacnjecggedhaa
set_option linter.unusedVariables false
set_option linter.unusedSimpArgs false
open Go.RowKit Ev
noncomputable abbrev fillB : Code := bodyC Try.f9
def oddB (p : PieceR) (last again : Bool) (n : Int) : ABlk := .cells 57 [.bool p.st, .bool p.en, .int .i64 p.id, .int .i64 p.total, .int .i64 p.typ, .int .i64 p.k, .str p.lb, .str p.data, .str p.sum, .bool last, .bool again, .int .i64 n]
def oddA (sp : Int) : List AVal := [.iface 55 (.ptr 0 0 0 0), .int .u64 0, .int .i64 7, .int .i64 sp]
noncomputable abbrev fillI : Code := codeAt [true, false] fillB
def pOut : List Bool := [true, false, true, true, true, true, true, false, true, false, false]
noncomputable abbrev fillO : Code := codeAt [true, false, true, true, true, true, true, false, true, false, false] fillB
noncomputable abbrev fillL : Code := codeAt [true, false, true, true, true, true, true, false, true, false, false, true, false, false, false, false] fillB
def oE0 (sp : Int) : Env := [(3, .int .i64 sp), (4, .ptr 1 0 0 0), (5, .ptr 2 0 0 0), (6, .ptr 3 0 0 0)]
def oH0 (p : PieceR) (last again : Bool) (fst n : Int) : List (Nat × ABlk) := [(0, oddB p last again n), (1, .cells 65 [.iface 55 (.ptr 0 0 0 0)]), (2, .cells 33 [.int .u64 fst]), (3, .cells 3 [.int .i64 7])]
def oE (s : AVal) (r : Env) : Env := (4, .ptr 1 0 0 0) :: (5, .ptr 2 0 0 0) :: (6, .ptr 3 0 0 0) :: (10, .ptr 4 0 0 0) :: (11, s) :: (12, .func 16 [] [.ptr 1 0 0 0, .ptr 2 0 0 0, .ptr 3 0 0 0]) :: r
def o13 : Env := [(13, .int .u64 9)]
def o14 (sm : Bool) : Env := [(13, .int .u64 9), (14, .bool sm)]
def fldB (v : AVal) (sp : Int) (beg : Bool) (k : Int) : ABlk := .cells 70 [v, .int .i64 sp, .bool beg, .int .i64 k, .int .i64 0, .str []]
def bRow (L : List UInt8) : ABlk := .row 5 byteRow L .plain
def sRow (S : List Int) : ABlk := .row 33 (intRow .u64) S .plain
def oSl (b n : Nat) : AVal := .sl b 0 1 0 n none
structure OddS where
  p : PieceR
  last : Bool
  again : Bool
  sp : Int
def o00 (o : OddS) (n : Int) (r : Env) : Env × AHeap := (oE .nils r, ⟨5, oH0 o.p o.last o.again 0 n ++ [(4, fldB .nils o.sp false 0)]⟩)
def o10 (o : OddS) (n k : Int) (beg : Bool) (L : List UInt8) (r : Env) : Env × AHeap := (oE .nils r, ⟨6, oH0 o.p o.last o.again 0 n ++ [(4, fldB (oSl 5 L.length) o.sp beg k), (5, bRow L)]⟩)
def o11 (o : OddS) (n k : Int) (beg : Bool) (L : List UInt8) (S : List Int) (r : Env) : Env × AHeap := (oE (oSl 5 S.length) r, ⟨7, oH0 o.p o.last o.again 0 n ++ [(4, fldB (oSl 6 L.length) o.sp beg k), (5, sRow S), (6, bRow L)]⟩)
def ts13 : AExit → List Nat := fun _ => [4, 5, 6, 10, 11, 12, 13]
def ts14 : AExit → List Nat := fun _ => [4, 5, 6, 10, 11, 12, 13, 14]
def tsI : AExit → List Nat := fun _ => [4, 5, 6, 10, 11, 12]
def ts89 : AExit → List Nat := fun _ => [8, 9]
def tsA : AExit → List Nat := fun x => match x with
  | .ret => [8, 9]
  | _ => [3, 4, 5, 6]
def qRet (R Q : AExit → Env → AHeap → Prop) : AExit → Env → AHeap → Prop := fun x E H => match x with
  | .ret => R .ret E H
  | x => Q x E H
def ts0 : AExit → List Nat := fun _ => [3, 4, 5, 6]
theorem fillO_eq : fillO = .seq (seqL fillO) (.seq (.block 1 (.block 2 (.loop fillL))) (seqR (seqR fillO))) := by kernel_rfl
theorem fillB_eq : fillB = .seq (codeAt [false] fillB) (.scope fillI) := by kernel_rfl
theorem fillI_eq : fillI = .seq (seqL fillI) (seqR fillI) := by kernel_rfl
theorem fillT_eq : tailN 4 (seqR fillI) = .seq (.seq (seqL (seqL (tailN 5 fillI))) (.block 0 (.loop fillO))) (seqR (tailN 5 fillI)) := by kernel_rfl
end Go.Proofs.Ytjacnjecggedhaa
namespace Go.Proofs.Ytjacnjecggedhaa
set_option linter.unusedVariables false
set_option linter.unusedSimpArgs false
open Go.RowKit Ev
theorem obl_int {n : Int} {A : Prop} (h : -9223372036854775808 ≤ n ∧ n ≤ 9223372036854775807) (hA : A) : obl (inI64 n) A := obl_iff.2 ⟨inI64_iff.2 h, hA⟩
noncomputable def TX0 : Tabs := symT TF 8
theorem TX0ok : TabsOk TX0 Try.prog := symT_ok TFok _
noncomputable abbrev ofB : Code := bodyC Try.f8
noncomputable abbrev ofR : Code := codeAt [true, true, false, true, false, false] ofB
def noPack : PackR := ⟨0, 0, 0, [], 0⟩
def srcB (a b : AVal) : ABlk := .cells 29 [a, b]
def cRow (cs : List CutR) : ABlk := .row 48 cutRow cs .plain
def dRow (ds : List BoolR) : ABlk := .row 4 boolRow ds .plain
def pRow (hs : List PackR) (md : RowMd) : ABlk := .row 51 packRow hs md
def ofE (n : Nat) (i : Int) : Env := [(0, .sl 0 0 5 0 n none), (3, .ptr 1 0 0 0), (4, .int .i64 i)]
def of0 (hs : List PackR) (md : RowMd) (i : Int) : Env × AHeap := (ofE hs.length i, ⟨2, [(0, pRow hs md), (1, srcB .nils .nils)]⟩)
def of1 (hs : List PackR) (md : RowMd) (i : Int) (cs : List CutR) (ds : List BoolR) : Env × AHeap := (ofE hs.length i, ⟨4, [(0, pRow hs md), (1, srcB (.sl 2 0 6 0 cs.length none) (.sl 3 0 1 0 ds.length none)), (2, cRow cs), (3, dRow ds)]⟩)
def tsP2 : AExit → List Nat := fun _ => [2]
def tsOf : AExit → List Nat := fun _ => [0, 3, 4]
end Go.Proofs.Ytjacnjecggedhaa
namespace Go.Proofs.Ytjacnjecggedhaa
set_option linter.unusedVariables false
set_option linter.unusedSimpArgs false
open Go.RowKit Ev
set_option maxRecDepth 100000 in
theorem w_of_pre (hs : List PackR) (md : RowMd) (It : Env → AHeap → Prop) (Q : AExit → Env → AHeap → Prop) : (wpN (TX0.ctx Try.prog) 2 400 8 1 ofB (env0 [.sl 0 0 5 0 hs.length none] 0) ⟨1, [(0, pRow hs md)]⟩ (fun E H => canonK 1 [0, 3] E H It) Q
) = (It [(0, AVal.sl 0 0 5 0 hs.length none), (3, AVal.ptr 1 0 0 0)] (AHeap.mk 2 [(0, ABlk.row 51 packRow hs md), (1, ABlk.cells 29 [AVal.nils, AVal.nils])])) := by kernel_rfl
set_option maxRecDepth 100000 in
theorem w_of_0 (hs : List PackR) (md : RowMd) (i : Int) (Q : AExit → Env → AHeap → Prop) : (wpC (TX0.ctx Try.prog) 400 8 1 ofR (of0 hs md i).1 (of0 hs md i).2 (canQ 1 tsOf Q)
) = (branch (decide (i < (↑hs.length : Int))) (branch (decide (i < (30 : Int))) (obl (decide ((0 : Int) ≤ i ∧ i < (↑hs.length : Int))) (obl (decide (0 + i.toNat < hs.length)) (obl (decide ((0 : Int) ≤ i ∧
 i < (↑hs.length : Int))) (obl (decide (0 + i.toNat < hs.length)) (obl (decide ((0 : Int) ≤ min (↑(hs.getD (0 + i.toNat) noPack).data.length : Int) (300 : Int) ∧ min (↑(hs.getD (0 + i.toNat)
 noPack).data.length : Int) (300 : Int) ≤ (↑(hs.getD (0 + i.toNat) noPack).data.length : Int))) (obl (decide ((0 : Int) ≤ i ∧ i < (↑hs.length : Int))) (obl (decide (0 + i.toNat < hs.length)) (obl
 (inI64 (hs.getD (0 + i.toNat) noPack).zeros) (obl (decide ((0 : Int) ≤ (hs.getD (0 + i.toNat) noPack).zeros ∧ (0 : Int) < (5000 : Int))) (obl (inI64 ((1 : Int) + (hs.getD (0 + i.toNat) noPack).zeros %
 (5000 : Int))) (obl (decide ((0 : Int) ≤ (1 : Int) + (hs.getD (0 + i.toNat) noPack).zeros % (5000 : Int) ∧ (1 : Int) + (hs.getD (0 + i.toNat) noPack).zeros % (5000 : Int) = (1 : Int) + (hs.getD (0 +
 i.toNat) noPack).zeros % (5000 : Int) ∧ (1 : Int) + (hs.getD (0 + i.toNat) noPack).zeros % (5000 : Int) ≤ (9223372036854775807 : Int) ∧ (1 : Int) * ((1 : Int) + (hs.getD (0 + i.toNat) noPack).zeros %
 (5000 : Int)) ≤ (281474976710656 : Int) ∧ 1 = 1 ∧ 0 < 1)) (obl (decide (0 + ((1 : Int) + (hs.getD (0 + i.toNat) noPack).zeros % (5000 : Int)).toNat ≤ (repN ((1 : Int) + (hs.getD (0 + i.toNat)
 noPack).zeros % (5000 : Int)).toNat (0 : UInt8)).length)) (obl (decide ((↑((List.take (min (↑(hs.getD (0 + i.toNat) noPack).data.length : Int) (300 : Int)).toNat (hs.getD (0 + i.toNat)
 noPack).data).length + (List.take ((1 : Int) + (hs.getD (0 + i.toNat) noPack).zeros % (5000 : Int)).toNat (List.drop 0 (repN ((1 : Int) + (hs.getD (0 + i.toNat) noPack).zeros % (5000 : Int)).toNat (0
 : UInt8)))).length) : Int) ≤ (9223372036854775807 : Int))) (obl (decide ((0 : Int) ≤ i ∧ i < (↑hs.length : Int))) (obl (decide (0 + i.toNat < hs.length)) (obl (decide ((0 : Int) ≤ (hs.getD (0 +
 i.toNat) noPack).pos ∧ (0 : Int) < (4 : Int))) (branch (decide ((hs.getD (0 + i.toNat) noPack).pos % (4 : Int) = (0 : Int))) (obl (decide ((0 : Int) ≤ i ∧ i < (↑hs.length : Int))) (obl (decide (0 +
 i.toNat < hs.length)) (obl (inI64 (hs.getD (0 + i.toNat) noPack).pos) (obl (decide ((0 : Int) ≤ (hs.getD (0 + i.toNat) noPack).pos ∧ (0 : Int) < (↑(List.take (min (↑(hs.getD (0 + i.toNat)
 noPack).data.length : Int) (300 : Int)).toNat (hs.getD (0 + i.toNat) noPack).data ++ List.take ((1 : Int) + (hs.getD (0 + i.toNat) noPack).zeros % (5000 : Int)).toNat (List.drop 0 (repN ((1 : Int) +
 (hs.getD (0 + i.toNat) noPack).zeros % (5000 : Int)).toNat (0 : UInt8)))).length : Int))) (obl (decide ((0 : Int) ≤ i ∧ i < (↑hs.length : Int))) (obl (decide (0 + i.toNat < hs.length)) (obl (decide
 ((0 : Int) ≤ (hs.getD (0 + i.toNat) noPack).cls ∧ (0 : Int) < (3 : Int))) (obl (inI64 ((hs.getD (0 + i.toNat) noPack).cls % (3 : Int))) (obl (inI64 ((2048 : Int) + (hs.getD (0 + i.toNat) noPack).cls %
 (3 : Int))) (obl (decide ((0 : Int) ≤ i ∧ i < (↑hs.length : Int))) (obl (decide (0 + i.toNat < hs.length)) (obl (decide ((0 : Int) ≤ (hs.getD (0 + i.toNat) noPack).lab ∧ (0 : Int) < (3 : Int))) (obl
 (decide (0 + i.toNat < hs.length) && sameV (AVal.int IntKind.u8 (hs.getD (0 + i.toNat) noPack).lab) (AVal.int IntKind.u8 (hs.getD (0 + i.toNat) noPack).lab)) (obl (decide (0 + i.toNat < hs.length) &&
 sameV (AVal.int IntKind.u8 (hs.getD (0 + i.toNat) noPack).cls) (AVal.int IntKind.u8 (hs.getD (0 + i.toNat) noPack).cls)) (obl (decide ((0 : Int) ≤ (hs.getD (0 + i.toNat) noPack).lab % (3 : Int) ∧
 (hs.getD (0 + i.toNat) noPack).lab % (3 : Int) < (3 : Int))) (obl (inI64 (i + (1 : Int))) (Q AExit.normal [(0, AVal.sl 0 0 5 0 hs.length none), (3, AVal.ptr 1 0 0 0), (4, AVal.int IntKind.i64 (i + (1
 : Int)))] (AHeap.mk 4 [(0, ABlk.row 51 packRow hs md), (1, ABlk.cells 29 [AVal.sl 2 0 6 0 1 none, AVal.sl 3 0 1 0 1 none]), (2, ABlk.row 48 cutRow [CutR.mk ((2048 : Int) + (hs.getD (0 + i.toNat)
 noPack).cls % (3 : Int)) ([(1 : Int), (0 : Int), (1 : Int)].getD ((hs.getD (0 + i.toNat) noPack).lab % (3 : Int)).toNat (0 : Int)) ([[(97 : UInt8), (98 : UInt8), (99 : UInt8)], [(97 : UInt8), (98 :
 UInt8), (99 : UInt8), (100 : UInt8), (101 : UInt8), (102 : UInt8)], [(120 : UInt8), (121 : UInt8), (122 : UInt8)]].getD ((hs.getD (0 + i.toNat) noPack).lab % (3 : Int)).toNat []) (List.take (min
 (↑(hs.getD (0 + i.toNat) noPack).data.length : Int) (300 : Int)).toNat (hs.getD (0 + i.toNat) noPack).data ++ List.take ((1 : Int) + (hs.getD (0 + i.toNat) noPack).zeros % (5000 : Int)).toNat
 (List.drop 0 (repN ((1 : Int) + (hs.getD (0 + i.toNat) noPack).zeros % (5000 : Int)).toNat (0 : UInt8)))) ((hs.getD (0 + i.toNat) noPack).pos % (↑(List.take (min (↑(hs.getD (0 + i.toNat)
 noPack).data.length : Int) (300 : Int)).toNat (hs.getD (0 + i.toNat) noPack).data ++ List.take ((1 : Int) + (hs.getD (0 + i.toNat) noPack).zeros % (5000 : Int)).toNat (List.drop 0 (repN ((1 : Int) +
 (hs.getD (0 + i.toNat) noPack).zeros % (5000 : Int)).toNat (0 : UInt8)))).length : Int)) i] RowMd.plain), (3, ABlk.row 4 boolRow [BoolR.mk false] RowMd.plain)])))))))))))))))))) (obl (decide ((0 :
 Int) ≤ i ∧ i < (↑hs.length : Int))) (obl (decide (0 + i.toNat < hs.length)) (obl (decide ((0 : Int) ≤ (hs.getD (0 + i.toNat) noPack).cls ∧ (0 : Int) < (3 : Int))) (obl (inI64 ((hs.getD (0 + i.toNat)
 noPack).cls % (3 : Int))) (obl (inI64 ((2048 : Int) + (hs.getD (0 + i.toNat) noPack).cls % (3 : Int))) (obl (decide ((0 : Int) ≤ i ∧ i < (↑hs.length : Int))) (obl (decide (0 + i.toNat < hs.length))
 (obl (decide ((0 : Int) ≤ (hs.getD (0 + i.toNat) noPack).lab ∧ (0 : Int) < (3 : Int))) (obl (decide (0 + i.toNat < hs.length) && sameV (AVal.int IntKind.u8 (hs.getD (0 + i.toNat) noPack).lab)
 (AVal.int IntKind.u8 (hs.getD (0 + i.toNat) noPack).lab)) (obl (decide (0 + i.toNat < hs.length) && sameV (AVal.int IntKind.u8 (hs.getD (0 + i.toNat) noPack).cls) (AVal.int IntKind.u8 (hs.getD (0 +
 i.toNat) noPack).cls)) (obl (decide ((0 : Int) ≤ (hs.getD (0 + i.toNat) noPack).lab % (3 : Int) ∧ (hs.getD (0 + i.toNat) noPack).lab % (3 : Int) < (3 : Int))) (obl (inI64 (i + (1 : Int))) (Q
 AExit.normal [(0, AVal.sl 0 0 5 0 hs.length none), (3, AVal.ptr 1 0 0 0), (4, AVal.int IntKind.i64 (i + (1 : Int)))] (AHeap.mk 4 [(0, ABlk.row 51 packRow hs md), (1, ABlk.cells 29 [AVal.sl 2 0 6 0 1
 none, AVal.sl 3 0 1 0 1 none]), (2, ABlk.row 48 cutRow [CutR.mk ((2048 : Int) + (hs.getD (0 + i.toNat) noPack).cls % (3 : Int)) ([(1 : Int), (0 : Int), (1 : Int)].getD ((hs.getD (0 + i.toNat)
 noPack).lab % (3 : Int)).toNat (0 : Int)) ([[(97 : UInt8), (98 : UInt8), (99 : UInt8)], [(97 : UInt8), (98 : UInt8), (99 : UInt8), (100 : UInt8), (101 : UInt8), (102 : UInt8)], [(120 : UInt8), (121 :
 UInt8), (122 : UInt8)]].getD ((hs.getD (0 + i.toNat) noPack).lab % (3 : Int)).toNat []) (List.take (min (↑(hs.getD (0 + i.toNat) noPack).data.length : Int) (300 : Int)).toNat (hs.getD (0 + i.toNat)
 noPack).data ++ List.take ((1 : Int) + (hs.getD (0 + i.toNat) noPack).zeros % (5000 : Int)).toNat (List.drop 0 (repN ((1 : Int) + (hs.getD (0 + i.toNat) noPack).zeros % (5000 : Int)).toNat (0 :
 UInt8)))) (0 : Int) i] RowMd.plain), (3, ABlk.row 4 boolRow [BoolR.mk false] RowMd.plain)]))))))))))))))))))))))))))))))) (Q (AExit.exit 0) [(0, AVal.sl 0 0 5 0 hs.length none), (3, AVal.ptr 1 0 0 0),
 (4, AVal.int IntKind.i64 i)] (AHeap.mk 2 [(0, ABlk.row 51 packRow hs md), (1, ABlk.cells 29 [AVal.nils, AVal.nils])]))) (Q (AExit.exit 0) [(0, AVal.sl 0 0 5 0 hs.length none), (3, AVal.ptr 1 0 0 0),
 (4, AVal.int IntKind.i64 i)] (AHeap.mk 2 [(0, ABlk.row 51 packRow hs md), (1, ABlk.cells 29 [AVal.nils, AVal.nils])]))) := by kernel_rfl
set_option maxRecDepth 100000 in
theorem w_of_1 (hs : List PackR) (md : RowMd) (i : Int) (cs : List CutR) (ds : List BoolR) (Q : AExit → Env → AHeap → Prop) : (wpC (TX0.ctx Try.prog) 400 8 1 ofR (of1 hs md i cs ds).1 (of1 hs md i cs ds).2 (canQ 1 tsOf Q)
) = (branch (decide (i < (↑hs.length : Int))) (branch (decide (i < (30 : Int))) (obl (decide ((0 : Int) ≤ i ∧ i < (↑hs.length : Int))) (obl (decide (0 + i.toNat < hs.length)) (obl (decide ((0 : Int) ≤ i ∧
 i < (↑hs.length : Int))) (obl (decide (0 + i.toNat < hs.length)) (obl (decide ((0 : Int) ≤ min (↑(hs.getD (0 + i.toNat) noPack).data.length : Int) (300 : Int) ∧ min (↑(hs.getD (0 + i.toNat)
 noPack).data.length : Int) (300 : Int) ≤ (↑(hs.getD (0 + i.toNat) noPack).data.length : Int))) (obl (decide ((0 : Int) ≤ i ∧ i < (↑hs.length : Int))) (obl (decide (0 + i.toNat < hs.length)) (obl
 (inI64 (hs.getD (0 + i.toNat) noPack).zeros) (obl (decide ((0 : Int) ≤ (hs.getD (0 + i.toNat) noPack).zeros ∧ (0 : Int) < (5000 : Int))) (obl (inI64 ((1 : Int) + (hs.getD (0 + i.toNat) noPack).zeros %
 (5000 : Int))) (obl (decide ((0 : Int) ≤ (1 : Int) + (hs.getD (0 + i.toNat) noPack).zeros % (5000 : Int) ∧ (1 : Int) + (hs.getD (0 + i.toNat) noPack).zeros % (5000 : Int) = (1 : Int) + (hs.getD (0 +
 i.toNat) noPack).zeros % (5000 : Int) ∧ (1 : Int) + (hs.getD (0 + i.toNat) noPack).zeros % (5000 : Int) ≤ (9223372036854775807 : Int) ∧ (1 : Int) * ((1 : Int) + (hs.getD (0 + i.toNat) noPack).zeros %
 (5000 : Int)) ≤ (281474976710656 : Int) ∧ 1 = 1 ∧ 0 < 1)) (obl (decide (0 + ((1 : Int) + (hs.getD (0 + i.toNat) noPack).zeros % (5000 : Int)).toNat ≤ (repN ((1 : Int) + (hs.getD (0 + i.toNat)
 noPack).zeros % (5000 : Int)).toNat (0 : UInt8)).length)) (obl (decide ((↑((List.take (min (↑(hs.getD (0 + i.toNat) noPack).data.length : Int) (300 : Int)).toNat (hs.getD (0 + i.toNat)
 noPack).data).length + (List.take ((1 : Int) + (hs.getD (0 + i.toNat) noPack).zeros % (5000 : Int)).toNat (List.drop 0 (repN ((1 : Int) + (hs.getD (0 + i.toNat) noPack).zeros % (5000 : Int)).toNat (0
 : UInt8)))).length) : Int) ≤ (9223372036854775807 : Int))) (obl (decide ((0 : Int) ≤ i ∧ i < (↑hs.length : Int))) (obl (decide (0 + i.toNat < hs.length)) (obl (decide ((0 : Int) ≤ (hs.getD (0 +
 i.toNat) noPack).pos ∧ (0 : Int) < (4 : Int))) (branch (decide ((hs.getD (0 + i.toNat) noPack).pos % (4 : Int) = (0 : Int))) (obl (decide ((0 : Int) ≤ i ∧ i < (↑hs.length : Int))) (obl (decide (0 +
 i.toNat < hs.length)) (obl (inI64 (hs.getD (0 + i.toNat) noPack).pos) (obl (decide ((0 : Int) ≤ (hs.getD (0 + i.toNat) noPack).pos ∧ (0 : Int) < (↑(List.take (min (↑(hs.getD (0 + i.toNat)
 noPack).data.length : Int) (300 : Int)).toNat (hs.getD (0 + i.toNat) noPack).data ++ List.take ((1 : Int) + (hs.getD (0 + i.toNat) noPack).zeros % (5000 : Int)).toNat (List.drop 0 (repN ((1 : Int) +
 (hs.getD (0 + i.toNat) noPack).zeros % (5000 : Int)).toNat (0 : UInt8)))).length : Int))) (obl (decide ((0 : Int) ≤ i ∧ i < (↑hs.length : Int))) (obl (decide (0 + i.toNat < hs.length)) (obl (decide
 ((0 : Int) ≤ (hs.getD (0 + i.toNat) noPack).cls ∧ (0 : Int) < (3 : Int))) (obl (inI64 ((hs.getD (0 + i.toNat) noPack).cls % (3 : Int))) (obl (inI64 ((2048 : Int) + (hs.getD (0 + i.toNat) noPack).cls %
 (3 : Int))) (obl (decide ((0 : Int) ≤ i ∧ i < (↑hs.length : Int))) (obl (decide (0 + i.toNat < hs.length)) (obl (decide ((0 : Int) ≤ (hs.getD (0 + i.toNat) noPack).lab ∧ (0 : Int) < (3 : Int))) (obl
 (decide (0 + i.toNat < hs.length) && sameV (AVal.int IntKind.u8 (hs.getD (0 + i.toNat) noPack).lab) (AVal.int IntKind.u8 (hs.getD (0 + i.toNat) noPack).lab)) (obl (decide (0 + i.toNat < hs.length) &&
 sameV (AVal.int IntKind.u8 (hs.getD (0 + i.toNat) noPack).cls) (AVal.int IntKind.u8 (hs.getD (0 + i.toNat) noPack).cls)) (obl (true && sameV (AVal.sl 2 0 6 0 cs.length none) (AVal.sl 2 0 6 0 cs.length
 none)) (obl (decide ((0 : Int) ≤ (hs.getD (0 + i.toNat) noPack).lab % (3 : Int) ∧ (hs.getD (0 + i.toNat) noPack).lab % (3 : Int) < (3 : Int))) (obl (true && decide (cs.length = cs.length ∧ 6 = 6 ∧ 6 =
 6 ∧ 0 < 6 ∧ (cs ++ [CutR.mk ((2048 : Int) + (hs.getD (0 + i.toNat) noPack).cls % (3 : Int)) ([(1 : Int), (0 : Int), (1 : Int)].getD ((hs.getD (0 + i.toNat) noPack).lab % (3 : Int)).toNat (0 : Int))
 ([[(97 : UInt8), (98 : UInt8), (99 : UInt8)], [(97 : UInt8), (98 : UInt8), (99 : UInt8), (100 : UInt8), (101 : UInt8), (102 : UInt8)], [(120 : UInt8), (121 : UInt8), (122 : UInt8)]].getD ((hs.getD (0
 + i.toNat) noPack).lab % (3 : Int)).toNat []) (List.take (min (↑(hs.getD (0 + i.toNat) noPack).data.length : Int) (300 : Int)).toNat (hs.getD (0 + i.toNat) noPack).data ++ List.take ((1 : Int) +
 (hs.getD (0 + i.toNat) noPack).zeros % (5000 : Int)).toNat (List.drop 0 (repN ((1 : Int) + (hs.getD (0 + i.toNat) noPack).zeros % (5000 : Int)).toNat (0 : UInt8)))) ((hs.getD (0 + i.toNat) noPack).pos
 % (↑(List.take (min (↑(hs.getD (0 + i.toNat) noPack).data.length : Int) (300 : Int)).toNat (hs.getD (0 + i.toNat) noPack).data ++ List.take ((1 : Int) + (hs.getD (0 + i.toNat) noPack).zeros % (5000 :
 Int)).toNat (List.drop 0 (repN ((1 : Int) + (hs.getD (0 + i.toNat) noPack).zeros % (5000 : Int)).toNat (0 : UInt8)))).length : Int)) i]).length ≤ 9223372036854775807 ∧ (cs ++ [CutR.mk ((2048 : Int) +
 (hs.getD (0 + i.toNat) noPack).cls % (3 : Int)) ([(1 : Int), (0 : Int), (1 : Int)].getD ((hs.getD (0 + i.toNat) noPack).lab % (3 : Int)).toNat (0 : Int)) ([[(97 : UInt8), (98 : UInt8), (99 : UInt8)],
 [(97 : UInt8), (98 : UInt8), (99 : UInt8), (100 : UInt8), (101 : UInt8), (102 : UInt8)], [(120 : UInt8), (121 : UInt8), (122 : UInt8)]].getD ((hs.getD (0 + i.toNat) noPack).lab % (3 : Int)).toNat [])
 (List.take (min (↑(hs.getD (0 + i.toNat) noPack).data.length : Int) (300 : Int)).toNat (hs.getD (0 + i.toNat) noPack).data ++ List.take ((1 : Int) + (hs.getD (0 + i.toNat) noPack).zeros % (5000 :
 Int)).toNat (List.drop 0 (repN ((1 : Int) + (hs.getD (0 + i.toNat) noPack).zeros % (5000 : Int)).toNat (0 : UInt8)))) ((hs.getD (0 + i.toNat) noPack).pos % (↑(List.take (min (↑(hs.getD (0 + i.toNat)
 noPack).data.length : Int) (300 : Int)).toNat (hs.getD (0 + i.toNat) noPack).data ++ List.take ((1 : Int) + (hs.getD (0 + i.toNat) noPack).zeros % (5000 : Int)).toNat (List.drop 0 (repN ((1 : Int) +
 (hs.getD (0 + i.toNat) noPack).zeros % (5000 : Int)).toNat (0 : UInt8)))).length : Int)) i]).length * 64 ≤ 140737488355328)) (obl (true && decide (ds.length = ds.length ∧ 1 = 1 ∧ 1 = 1 ∧ 0 < 1 ∧ (ds
 ++ [BoolR.mk false]).length ≤ 9223372036854775807 ∧ (ds ++ [BoolR.mk false]).length * 1 ≤ 140737488355328)) (obl (inI64 (i + (1 : Int))) (Q AExit.normal [(0, AVal.sl 0 0 5 0 hs.length none), (3,
 AVal.ptr 1 0 0 0), (4, AVal.int IntKind.i64 (i + (1 : Int)))] (AHeap.mk 4 [(0, ABlk.row 51 packRow hs md), (1, ABlk.cells 29 [AVal.sl 2 0 6 0 (cs ++ [CutR.mk ((2048 : Int) + (hs.getD (0 + i.toNat)
 noPack).cls % (3 : Int)) ([(1 : Int), (0 : Int), (1 : Int)].getD ((hs.getD (0 + i.toNat) noPack).lab % (3 : Int)).toNat (0 : Int)) ([[(97 : UInt8), (98 : UInt8), (99 : UInt8)], [(97 : UInt8), (98 :
 UInt8), (99 : UInt8), (100 : UInt8), (101 : UInt8), (102 : UInt8)], [(120 : UInt8), (121 : UInt8), (122 : UInt8)]].getD ((hs.getD (0 + i.toNat) noPack).lab % (3 : Int)).toNat []) (List.take (min
 (↑(hs.getD (0 + i.toNat) noPack).data.length : Int) (300 : Int)).toNat (hs.getD (0 + i.toNat) noPack).data ++ List.take ((1 : Int) + (hs.getD (0 + i.toNat) noPack).zeros % (5000 : Int)).toNat
 (List.drop 0 (repN ((1 : Int) + (hs.getD (0 + i.toNat) noPack).zeros % (5000 : Int)).toNat (0 : UInt8)))) ((hs.getD (0 + i.toNat) noPack).pos % (↑(List.take (min (↑(hs.getD (0 + i.toNat)
 noPack).data.length : Int) (300 : Int)).toNat (hs.getD (0 + i.toNat) noPack).data ++ List.take ((1 : Int) + (hs.getD (0 + i.toNat) noPack).zeros % (5000 : Int)).toNat (List.drop 0 (repN ((1 : Int) +
 (hs.getD (0 + i.toNat) noPack).zeros % (5000 : Int)).toNat (0 : UInt8)))).length : Int)) i]).length none, AVal.sl 3 0 1 0 (ds ++ [BoolR.mk false]).length none]), (2, ABlk.row 48 cutRow (cs ++ [CutR.mk
 ((2048 : Int) + (hs.getD (0 + i.toNat) noPack).cls % (3 : Int)) ([(1 : Int), (0 : Int), (1 : Int)].getD ((hs.getD (0 + i.toNat) noPack).lab % (3 : Int)).toNat (0 : Int)) ([[(97 : UInt8), (98 : UInt8),
 (99 : UInt8)], [(97 : UInt8), (98 : UInt8), (99 : UInt8), (100 : UInt8), (101 : UInt8), (102 : UInt8)], [(120 : UInt8), (121 : UInt8), (122 : UInt8)]].getD ((hs.getD (0 + i.toNat) noPack).lab % (3 :
 Int)).toNat []) (List.take (min (↑(hs.getD (0 + i.toNat) noPack).data.length : Int) (300 : Int)).toNat (hs.getD (0 + i.toNat) noPack).data ++ List.take ((1 : Int) + (hs.getD (0 + i.toNat)
 noPack).zeros % (5000 : Int)).toNat (List.drop 0 (repN ((1 : Int) + (hs.getD (0 + i.toNat) noPack).zeros % (5000 : Int)).toNat (0 : UInt8)))) ((hs.getD (0 + i.toNat) noPack).pos % (↑(List.take (min
 (↑(hs.getD (0 + i.toNat) noPack).data.length : Int) (300 : Int)).toNat (hs.getD (0 + i.toNat) noPack).data ++ List.take ((1 : Int) + (hs.getD (0 + i.toNat) noPack).zeros % (5000 : Int)).toNat
 (List.drop 0 (repN ((1 : Int) + (hs.getD (0 + i.toNat) noPack).zeros % (5000 : Int)).toNat (0 : UInt8)))).length : Int)) i]) RowMd.plain), (3, ABlk.row 4 boolRow (ds ++ [BoolR.mk false])
 RowMd.plain)]))))))))))))))))))))) (obl (decide ((0 : Int) ≤ i ∧ i < (↑hs.length : Int))) (obl (decide (0 + i.toNat < hs.length)) (obl (decide ((0 : Int) ≤ (hs.getD (0 + i.toNat) noPack).cls ∧ (0 :
 Int) < (3 : Int))) (obl (inI64 ((hs.getD (0 + i.toNat) noPack).cls % (3 : Int))) (obl (inI64 ((2048 : Int) + (hs.getD (0 + i.toNat) noPack).cls % (3 : Int))) (obl (decide ((0 : Int) ≤ i ∧ i <
 (↑hs.length : Int))) (obl (decide (0 + i.toNat < hs.length)) (obl (decide ((0 : Int) ≤ (hs.getD (0 + i.toNat) noPack).lab ∧ (0 : Int) < (3 : Int))) (obl (decide (0 + i.toNat < hs.length) && sameV
 (AVal.int IntKind.u8 (hs.getD (0 + i.toNat) noPack).lab) (AVal.int IntKind.u8 (hs.getD (0 + i.toNat) noPack).lab)) (obl (decide (0 + i.toNat < hs.length) && sameV (AVal.int IntKind.u8 (hs.getD (0 +
 i.toNat) noPack).cls) (AVal.int IntKind.u8 (hs.getD (0 + i.toNat) noPack).cls)) (obl (true && sameV (AVal.sl 2 0 6 0 cs.length none) (AVal.sl 2 0 6 0 cs.length none)) (obl (decide ((0 : Int) ≤
 (hs.getD (0 + i.toNat) noPack).lab % (3 : Int) ∧ (hs.getD (0 + i.toNat) noPack).lab % (3 : Int) < (3 : Int))) (obl (true && decide (cs.length = cs.length ∧ 6 = 6 ∧ 6 = 6 ∧ 0 < 6 ∧ (cs ++ [CutR.mk
 ((2048 : Int) + (hs.getD (0 + i.toNat) noPack).cls % (3 : Int)) ([(1 : Int), (0 : Int), (1 : Int)].getD ((hs.getD (0 + i.toNat) noPack).lab % (3 : Int)).toNat (0 : Int)) ([[(97 : UInt8), (98 : UInt8),
 (99 : UInt8)], [(97 : UInt8), (98 : UInt8), (99 : UInt8), (100 : UInt8), (101 : UInt8), (102 : UInt8)], [(120 : UInt8), (121 : UInt8), (122 : UInt8)]].getD ((hs.getD (0 + i.toNat) noPack).lab % (3 :
 Int)).toNat []) (List.take (min (↑(hs.getD (0 + i.toNat) noPack).data.length : Int) (300 : Int)).toNat (hs.getD (0 + i.toNat) noPack).data ++ List.take ((1 : Int) + (hs.getD (0 + i.toNat)
 noPack).zeros % (5000 : Int)).toNat (List.drop 0 (repN ((1 : Int) + (hs.getD (0 + i.toNat) noPack).zeros % (5000 : Int)).toNat (0 : UInt8)))) (0 : Int) i]).length ≤ 9223372036854775807 ∧ (cs ++
 [CutR.mk ((2048 : Int) + (hs.getD (0 + i.toNat) noPack).cls % (3 : Int)) ([(1 : Int), (0 : Int), (1 : Int)].getD ((hs.getD (0 + i.toNat) noPack).lab % (3 : Int)).toNat (0 : Int)) ([[(97 : UInt8), (98
 : UInt8), (99 : UInt8)], [(97 : UInt8), (98 : UInt8), (99 : UInt8), (100 : UInt8), (101 : UInt8), (102 : UInt8)], [(120 : UInt8), (121 : UInt8), (122 : UInt8)]].getD ((hs.getD (0 + i.toNat)
 noPack).lab % (3 : Int)).toNat []) (List.take (min (↑(hs.getD (0 + i.toNat) noPack).data.length : Int) (300 : Int)).toNat (hs.getD (0 + i.toNat) noPack).data ++ List.take ((1 : Int) + (hs.getD (0 +
 i.toNat) noPack).zeros % (5000 : Int)).toNat (List.drop 0 (repN ((1 : Int) + (hs.getD (0 + i.toNat) noPack).zeros % (5000 : Int)).toNat (0 : UInt8)))) (0 : Int) i]).length * 64 ≤ 140737488355328))
 (obl (true && decide (ds.length = ds.length ∧ 1 = 1 ∧ 1 = 1 ∧ 0 < 1 ∧ (ds ++ [BoolR.mk false]).length ≤ 9223372036854775807 ∧ (ds ++ [BoolR.mk false]).length * 1 ≤ 140737488355328)) (obl (inI64 (i +
 (1 : Int))) (Q AExit.normal [(0, AVal.sl 0 0 5 0 hs.length none), (3, AVal.ptr 1 0 0 0), (4, AVal.int IntKind.i64 (i + (1 : Int)))] (AHeap.mk 4 [(0, ABlk.row 51 packRow hs md), (1, ABlk.cells 29
 [AVal.sl 2 0 6 0 (cs ++ [CutR.mk ((2048 : Int) + (hs.getD (0 + i.toNat) noPack).cls % (3 : Int)) ([(1 : Int), (0 : Int), (1 : Int)].getD ((hs.getD (0 + i.toNat) noPack).lab % (3 : Int)).toNat (0 :
 Int)) ([[(97 : UInt8), (98 : UInt8), (99 : UInt8)], [(97 : UInt8), (98 : UInt8), (99 : UInt8), (100 : UInt8), (101 : UInt8), (102 : UInt8)], [(120 : UInt8), (121 : UInt8), (122 : UInt8)]].getD
 ((hs.getD (0 + i.toNat) noPack).lab % (3 : Int)).toNat []) (List.take (min (↑(hs.getD (0 + i.toNat) noPack).data.length : Int) (300 : Int)).toNat (hs.getD (0 + i.toNat) noPack).data ++ List.take ((1 :
 Int) + (hs.getD (0 + i.toNat) noPack).zeros % (5000 : Int)).toNat (List.drop 0 (repN ((1 : Int) + (hs.getD (0 + i.toNat) noPack).zeros % (5000 : Int)).toNat (0 : UInt8)))) (0 : Int) i]).length none,
 AVal.sl 3 0 1 0 (ds ++ [BoolR.mk false]).length none]), (2, ABlk.row 48 cutRow (cs ++ [CutR.mk ((2048 : Int) + (hs.getD (0 + i.toNat) noPack).cls % (3 : Int)) ([(1 : Int), (0 : Int), (1 : Int)].getD
 ((hs.getD (0 + i.toNat) noPack).lab % (3 : Int)).toNat (0 : Int)) ([[(97 : UInt8), (98 : UInt8), (99 : UInt8)], [(97 : UInt8), (98 : UInt8), (99 : UInt8), (100 : UInt8), (101 : UInt8), (102 : UInt8)],
 [(120 : UInt8), (121 : UInt8), (122 : UInt8)]].getD ((hs.getD (0 + i.toNat) noPack).lab % (3 : Int)).toNat []) (List.take (min (↑(hs.getD (0 + i.toNat) noPack).data.length : Int) (300 : Int)).toNat
 (hs.getD (0 + i.toNat) noPack).data ++ List.take ((1 : Int) + (hs.getD (0 + i.toNat) noPack).zeros % (5000 : Int)).toNat (List.drop 0 (repN ((1 : Int) + (hs.getD (0 + i.toNat) noPack).zeros % (5000 :
 Int)).toNat (0 : UInt8)))) (0 : Int) i]) RowMd.plain), (3, ABlk.row 4 boolRow (ds ++ [BoolR.mk false]) RowMd.plain)])))))))))))))))))))))))))))))))))) (Q (AExit.exit 0) [(0, AVal.sl 0 0 5 0 hs.length
 none), (3, AVal.ptr 1 0 0 0), (4, AVal.int IntKind.i64 i)] (AHeap.mk 4 [(0, ABlk.row 51 packRow hs md), (1, ABlk.cells 29 [AVal.sl 2 0 6 0 cs.length none, AVal.sl 3 0 1 0 ds.length none]), (2,
 ABlk.row 48 cutRow cs RowMd.plain), (3, ABlk.row 4 boolRow ds RowMd.plain)]))) (Q (AExit.exit 0) [(0, AVal.sl 0 0 5 0 hs.length none), (3, AVal.ptr 1 0 0 0), (4, AVal.int IntKind.i64 i)] (AHeap.mk 4
 [(0, ABlk.row 51 packRow hs md), (1, ABlk.cells 29 [AVal.sl 2 0 6 0 cs.length none, AVal.sl 3 0 1 0 ds.length none]), (2, ABlk.row 48 cutRow cs RowMd.plain), (3, ABlk.row 4 boolRow ds RowMd.plain)]))) := by kernel_rfl
set_option maxRecDepth 100000 in
theorem w_of_end0 (hs : List PackR) (md : RowMd) (i : Int) (K : Out → AHeap → Prop) : (wpC (TX0.ctx Try.prog) 400 8 1 (seqR (tailN 2 ofB)) (of0 hs md i).1 (of0 hs md i).2 (canQ 1 tsP2 (endA (TX0.ctx Try.prog).P Try.f8 K))
) = (K (Out.ret (AVal.ptr 1 0 0 0)) (AHeap.mk 2 [(0, ABlk.row 51 packRow hs md), (1, ABlk.cells 29 [AVal.nils, AVal.nils])])) := by kernel_rfl
set_option maxRecDepth 100000 in
theorem w_of_end1 (hs : List PackR) (md : RowMd) (i : Int) (cs : List CutR) (ds : List BoolR) (K : Out → AHeap → Prop) : (wpC (TX0.ctx Try.prog) 400 8 1 (seqR (tailN 2 ofB)) (of1 hs md i cs ds).1 (of1 hs md i cs ds).2 (canQ 1 tsP2 (endA (TX0.ctx Try.prog).P Try.f8 K))
) = (K (Out.ret (AVal.ptr 1 0 0 0)) (AHeap.mk 4 [(0, ABlk.row 51 packRow hs md), (1, ABlk.cells 29 [AVal.sl 2 0 6 0 cs.length none, AVal.sl 3 0 1 0 ds.length none]), (2, ABlk.row 48 cutRow cs
 RowMd.plain), (3, ABlk.row 4 boolRow ds RowMd.plain)])) := by kernel_rfl
set_option maxRecDepth 100000 in
theorem w_of_set (hs : List PackR) (md : RowMd) (Q : AExit → Env → AHeap → Prop) : (wpC (TX0.ctx Try.prog) 400 8 1 (seqL (seqL (tailN 2 ofB))) [(0, .sl 0 0 5 0 hs.length none), (3, .ptr 1 0 0 0)] (of0 hs md 0).2 (canQ 1 tsOf Q)
) = (Q AExit.normal [(0, AVal.sl 0 0 5 0 hs.length none), (3, AVal.ptr 1 0 0 0), (4, AVal.int IntKind.i64 (0 : Int))] (AHeap.mk 2 [(0, ABlk.row 51 packRow hs md), (1, ABlk.cells 29 [AVal.nils,
 AVal.nils])])) := by kernel_rfl
end Go.Proofs.Ytjacnjecggedhaa
namespace Go.Proofs.Ytjacnjecggedhaa
set_option linter.unusedVariables false
set_option linter.unusedSimpArgs false
open Go.RowKit Ev
noncomputable def ofD (x : PackR) : List UInt8 := List.take (min (x.data.length : Int) 300).toNat x.data ++ List.take (1 + x.zeros % 5000).toNat (List.drop 0 (repN (1 + x.zeros % 5000).toNat 0))
noncomputable def cutOf (i : Int) (x : PackR) : CutR := ⟨2048 + x.cls % 3, [1, 0, 1].getD (x.lab % 3).toNat 0, [[97, 98, 99], [97, 98, 99, 100, 101, 102], [120, 121, 122]].getD (x.lab % 3).toNat [], ofD x, if x.pos % 4 = 0 then x.pos % ((ofD x).length : Int) else 0, i⟩
noncomputable def ofN (hs : List PackR) (n : Nat) : List CutR := (List.range n).map fun (j : Nat) => cutOf j (hs.getD j noPack)
def dsN (n : Nat) : List BoolR := List.replicate n ⟨false⟩
structure PackOk (x : PackR) : Prop where
  c0 : 0 ≤ x.cls
  c1 : x.cls ≤ 255
  l0 : 0 ≤ x.lab
  l1 : x.lab ≤ 255
  p0 : 0 ≤ x.pos
  p1 : x.pos ≤ 255
  z0 : 0 ≤ x.zeros
  z1 : x.zeros ≤ 65535
theorem ofN_succ (hs : List PackR) (n : Nat) : ofN hs (n + 1) = ofN hs n ++ [cutOf n (hs.getD n noPack)] := by
  unfold ofN; rw [List.range_succ, List.map_append]; rfl
theorem dsN_succ (n : Nat) : dsN (n + 1) = dsN n ++ [⟨false⟩] := List.replicate_succ' ..
theorem ofN_length (hs : List PackR) (n : Nat) : (ofN hs n).length = n := by unfold ofN; simp
theorem dsN_length (n : Nat) : (dsN n).length = n := by unfold dsN; simp
theorem ofD_length {x : PackR} (h : PackOk x) : 1 ≤ (ofD x).length ∧ (ofD x).length ≤ 5300 := by
  have h0 := h.z0
  have hz : 0 ≤ x.zeros % 5000 ∧ x.zeros % 5000 < 5000 := by omega
  unfold ofD
  rw [List.length_append, List.length_take, List.length_take, List.drop_zero, repN_eq, List.length_replicate]
  omega
def pOk (hs : List PackR) : Prop := ∀ x ∈ hs, PackOk x
theorem getD_ok {hs : List PackR} (h : pOk hs) {i : Nat} (hi : i < hs.length) : PackOk (hs.getD i noPack) := by
  rw [List.getD_eq_getElem?_getD, List.getElem?_eq_getElem hi]
  exact h _ (List.getElem_mem hi)
def ofI (hs : List PackR) (md : RowMd) (m : Nat) (E : Env) (H : AHeap) : Prop :=
  ∃ i : Nat, i ≤ hs.length ∧ i ≤ 30 ∧ m = 30 - i ∧ ((i = 0 ∧ E = (of0 hs md i).1 ∧ H = (of0 hs md i).2) ∨ (1 ≤ i ∧ E = (of1 hs md i (ofN hs i) (dsN i)).1 ∧ H = (of1 hs md i (ofN hs i) (dsN i)).2))
def ofF (hs : List PackR) (md : RowMd) : AExit → Env → AHeap → Prop := fun x E H => match x with
  | .exit 0 => ∃ i : Nat, i = min hs.length 30 ∧ ((i = 0 ∧ E = (of0 hs md i).1 ∧ H = (of0 hs md i).2) ∨ (1 ≤ i ∧ E = (of1 hs md i (ofN hs i) (dsN i)).1 ∧ H = (of1 hs md i (ofN hs i) (dsN i)).2))
  | _ => False
theorem ofIn (p : List Bool) : InFn (TX0.ctx Try.prog) 8 (codeAt p ofB) :=
  inFn_at TX0ok.ctx (fn := Try.f8) (by kernel_rfl) (by kernel_rfl) p
abbrev OGd (hs : List PackR) (md : RowMd) (c : Code) (Q : AExit → Env → AHeap → Prop) (E : Env) (H : AHeap) : Prop := Gd (TX0.ctx Try.prog) 8 ⟨1, [(0, pRow hs md)]⟩ c Q E H
set_option maxRecDepth 100000 in
theorem of_loop (hs : List PackR) (md : RowMd) (hp : pOk hs) : ∀ m E H, ofI hs md m E H → OGd hs md (.loop ofR) (ofF hs md) E H := by
  refine Gd.loop (ofI hs md) (fun m E H hI => ?_)
  obtain ⟨i, hi, hi30, hm, h⟩ := hI
  have idx : (0 + (i : Int).toNat) = i := by omega
  have inn : ∀ n : Int, -100000 ≤ n → n ≤ 100000 → inI64 n = true := fun n h1 h2 => inI64_iff.2 ⟨by omega, by omega⟩
  rcases h with ⟨hz, rfl, rfl⟩ | ⟨h1, rfl, rfl⟩
  · refine Gd.walkC TX0ok.ctx 1 tsOf (Nat.le_refl _) (ofIn [true, true, false, true, false, false]) (Eq.mpr (w_of_0 hs md i _) ?_)
    rw [branch_iff]
    refine ⟨fun hl => ?_, fun hl => ⟨i, ?_, .inl ⟨hz, rfl, rfl⟩⟩⟩
    rotate_left
    · have := of_decide_eq_false hl; omega
    rw [branch_iff]
    refine ⟨fun hl2 => ?_, fun hl2 => ⟨i, ?_, .inl ⟨hz, rfl, rfl⟩⟩⟩
    rotate_left
    · have := of_decide_eq_false hl2; omega
    have hl := of_decide_eq_true hl
    have hx := getD_ok hp (i := i) (by omega)
    rw [idx]
    generalize hxe : hs.getD i noPack = x
    have hxe' : hs.getD i noPack = x := hxe
    rw [hxe'] at hx
    have hD : List.take (min (x.data.length : Int) 300).toNat x.data ++ List.take (1 + x.zeros % 5000).toNat (List.drop 0 (repN (1 + x.zeros % 5000).toNat 0)) = ofD x := rfl
    rw [hD]
    have leaf : ∀ c, c = cutOf i x → ∃ m', m' < m ∧ ofI hs md m' (of1 hs md ((i : Int) + 1) [c] [⟨false⟩]).1 (of1 hs md ((i : Int) + 1) [c] [⟨false⟩]).2 := by
      rintro c rfl
      refine ⟨30 - (i + 1), by omega, i + 1, by omega, by omega, rfl, .inr ⟨by omega, ?_, ?_⟩⟩ <;> rw [ofN_succ, dsN_succ, hxe'] <;> subst hz <;> rfl
    have d1 := ofD_length hx
    obtain ⟨c0, c1, l0, l1, p0, p1, z0, z1⟩ := hx
    have r1 : 0 + (1 + x.zeros % 5000).toNat ≤ (repN (1 + x.zeros % 5000).toNat (0 : UInt8)).length := by rw [repN_eq, List.length_replicate]; omega
    have r2 : (((List.take (min (x.data.length : Int) 300).toNat x.data).length + (List.take (1 + x.zeros % 5000).toNat (List.drop 0 (repN (1 + x.zeros % 5000).toNat (0 : UInt8)))).length : Nat) : Int) ≤ 9223372036854775807 := by
      rw [List.length_take, List.length_take, List.drop_zero, repN_eq, List.length_replicate]
      omega
    have s1 : sameV (.int .u8 x.lab) (.int .u8 x.lab) = true := by simp [sameV]
    have s2 : sameV (.int .u8 x.cls) (.int .u8 x.cls) = true := by simp [sameV]
    (repeat (first | refine obl_dec (by omega) ?_ | refine obl_int (by omega) ?_ | refine obl_mk (decide_eq_true r1) ?_ | refine obl_mk (decide_eq_true r2) ?_ | refine obl_and (by omega) s1 ?_ | refine obl_and (by omega) s2 ?_))
    refine br_dec (fun hp4 => ?_) (fun hp4 => ?_)
    · (repeat (first | refine obl_dec (by omega) ?_ | refine obl_int (by omega) ?_ | refine obl_mk (decide_eq_true r1) ?_ | refine obl_mk (decide_eq_true r2) ?_ | refine obl_and (by omega) s1 ?_ | refine obl_and (by omega) s2 ?_))
      exact leaf _ (by unfold cutOf; rw [if_pos hp4])
    · (repeat (first | refine obl_dec (by omega) ?_ | refine obl_int (by omega) ?_ | refine obl_mk (decide_eq_true r1) ?_ | refine obl_mk (decide_eq_true r2) ?_ | refine obl_and (by omega) s1 ?_ | refine obl_and (by omega) s2 ?_))
      exact leaf _ (by unfold cutOf; rw [if_neg hp4])
  · refine Gd.walkC TX0ok.ctx 1 tsOf (Nat.le_refl _) (ofIn [true, true, false, true, false, false]) (Eq.mpr (w_of_1 hs md i (ofN hs i) (dsN i) _) ?_)
    rw [branch_iff]
    refine ⟨fun hl => ?_, fun hl => ⟨i, ?_, .inr ⟨h1, rfl, rfl⟩⟩⟩
    rotate_left
    · have := of_decide_eq_false hl; omega
    rw [branch_iff]
    refine ⟨fun hl2 => ?_, fun hl2 => ⟨i, ?_, .inr ⟨h1, rfl, rfl⟩⟩⟩
    rotate_left
    · have := of_decide_eq_false hl2; omega
    have hl := of_decide_eq_true hl
    have hl3 := of_decide_eq_true hl2
    have hx := getD_ok hp (i := i) (by omega)
    rw [idx]
    generalize hxe : hs.getD i noPack = x
    have hxe' : hs.getD i noPack = x := hxe
    rw [hxe'] at hx
    have hD : List.take (min (x.data.length : Int) 300).toNat x.data ++ List.take (1 + x.zeros % 5000).toNat (List.drop 0 (repN (1 + x.zeros % 5000).toNat 0)) = ofD x := rfl
    rw [hD]
    have leaf : ∀ c, c = cutOf i x → ∃ m', m' < m ∧ ofI hs md m' (of1 hs md ((i : Int) + 1) (ofN hs i ++ [c]) (dsN i ++ [⟨false⟩])).1 (of1 hs md ((i : Int) + 1) (ofN hs i ++ [c]) (dsN i ++ [⟨false⟩])).2 := by
      rintro c rfl
      refine ⟨30 - (i + 1), by omega, i + 1, by omega, by omega, rfl, .inr ⟨by omega, ?_, ?_⟩⟩ <;> rw [ofN_succ, dsN_succ, hxe'] <;> rfl
    have d1 := ofD_length hx
    obtain ⟨c0, c1, l0, l1, p0, p1, z0, z1⟩ := hx
    have r1 : 0 + (1 + x.zeros % 5000).toNat ≤ (repN (1 + x.zeros % 5000).toNat (0 : UInt8)).length := by rw [repN_eq, List.length_replicate]; omega
    have r2 : (((List.take (min (x.data.length : Int) 300).toNat x.data).length + (List.take (1 + x.zeros % 5000).toNat (List.drop 0 (repN (1 + x.zeros % 5000).toNat (0 : UInt8)))).length : Nat) : Int) ≤ 9223372036854775807 := by
      rw [List.length_take, List.length_take, List.drop_zero, repN_eq, List.length_replicate]
      omega
    have n1 := ofN_length hs i
    have n2 := dsN_length i
    have s3 : sameV (.sl 2 0 6 0 (ofN hs i).length none) (.sl 2 0 6 0 (ofN hs i).length none) = true := by simp [sameV]
    have q1 : ∀ c : CutR, (ofN hs i).length = (ofN hs i).length ∧ 6 = 6 ∧ 6 = 6 ∧ 0 < 6 ∧ (ofN hs i ++ [c]).length ≤ 9223372036854775807 ∧ (ofN hs i ++ [c]).length * 64 ≤ 140737488355328 := fun c => ⟨rfl, rfl, rfl, by omega, by rw [List.length_append, n1]; simp only [List.length_cons, List.length_nil]; omega, by rw [List.length_append, n1]; simp only [List.length_cons, List.length_nil]; omega⟩
    have q2 : (dsN i).length = (dsN i).length ∧ 1 = 1 ∧ 1 = 1 ∧ 0 < 1 ∧ (dsN i ++ [(⟨false⟩ : BoolR)]).length ≤ 9223372036854775807 ∧ (dsN i ++ [(⟨false⟩ : BoolR)]).length * 1 ≤ 140737488355328 := ⟨rfl, rfl, rfl, by omega, by rw [List.length_append, n2]; simp only [List.length_cons, List.length_nil]; omega, by rw [List.length_append, n2]; simp only [List.length_cons, List.length_nil]; omega⟩
    have s1 : sameV (.int .u8 x.lab) (.int .u8 x.lab) = true := by simp [sameV]
    have s2 : sameV (.int .u8 x.cls) (.int .u8 x.cls) = true := by simp [sameV]
    (repeat (first | refine obl_dec (by omega) ?_ | refine obl_int (by omega) ?_ | refine obl_mk (decide_eq_true r1) ?_ | refine obl_mk (decide_eq_true r2) ?_ | refine obl_and (by omega) s1 ?_ | refine obl_and (by omega) s2 ?_ | refine obl_tt s3 ?_ | refine obl_tt (decide_eq_true (q1 _)) ?_ | refine obl_tt (decide_eq_true q2) ?_))
    refine br_dec (fun hp4 => ?_) (fun hp4 => ?_)
    · (repeat (first | refine obl_dec (by omega) ?_ | refine obl_int (by omega) ?_ | refine obl_mk (decide_eq_true r1) ?_ | refine obl_mk (decide_eq_true r2) ?_ | refine obl_and (by omega) s1 ?_ | refine obl_and (by omega) s2 ?_ | refine obl_tt s3 ?_ | refine obl_tt (decide_eq_true (q1 _)) ?_ | refine obl_tt (decide_eq_true q2) ?_))
      exact leaf _ (by unfold cutOf; rw [if_pos hp4])
    · (repeat (first | refine obl_dec (by omega) ?_ | refine obl_int (by omega) ?_ | refine obl_mk (decide_eq_true r1) ?_ | refine obl_mk (decide_eq_true r2) ?_ | refine obl_and (by omega) s1 ?_ | refine obl_and (by omega) s2 ?_ | refine obl_tt s3 ?_ | refine obl_tt (decide_eq_true (q1 _)) ?_ | refine obl_tt (decide_eq_true q2) ?_))
      exact leaf _ (by unfold cutOf; rw [if_neg hp4])
def fOf (s : List PackR × RowMd) (K : Out → AHeap → Prop) : Prop := pOk s.1 ∧
  branch (decide (s.1.length = 0)) (K (.ret (.ptr 1 0 0 0)) ⟨2, [(0, pRow s.1 s.2), (1, srcB .nils .nils)]⟩)
    (K (.ret (.ptr 1 0 0 0)) ⟨4, [(0, pRow s.1 s.2), (1, srcB (.sl 2 0 6 0 (ofN s.1 (min s.1.length 30)).length none) (.sl 3 0 1 0 (dsN (min s.1.length 30)).length none)), (2, cRow (ofN s.1 (min s.1.length 30))), (3, dRow (dsN (min s.1.length 30)))]⟩)
theorem ofB_eq : tailN 2 ofB = .seq (.seq (seqL (seqL (tailN 2 ofB))) (.block 0 (.loop ofR))) (seqR (tailN 2 ofB)) := by kernel_rfl
set_option maxRecDepth 100000 in
theorem of_good (hs : List PackR) (md : RowMd) (K : Out → AHeap → Prop) (hK : fOf (hs, md) K) : OGd hs md ofB (endA (TX0.ctx Try.prog).P Try.f8 K) (env0 [.sl 0 0 5 0 hs.length none] 0) ⟨1, [(0, pRow hs md)]⟩ := by
  obtain ⟨hp, hK⟩ := hK
  refine Gd.walkN TX0ok.ctx (base := 1) (Nat.le_refl _) (It := fun E H => canonK 1 [0, 3] E H (fun E H => E = [(0, .sl 0 0 5 0 hs.length none), (3, .ptr 1 0 0 0)] ∧ H = (of0 hs md 0).2)) 2 400 _ _ _ (by kernel_rfl) (ofIn []) (Eq.mpr (w_of_pre hs md _ _) ⟨rfl, rfl⟩) (fun E H h => ?_)
  obtain ⟨E', H', σ, ⟨rfl, rfl⟩, g2, g3, g4, g5, g6⟩ := canonK_ok h
  refine Gd.sub (base := 1) (Nat.le_refl _) g6 ?_ g2 g3 g4 g5
  rw [ofB_eq]
  refine Gd.seq (Gd.seq (Gd.walkC TX0ok.ctx 1 tsOf (Nat.le_refl _) (ofIn [true, true, false, false]) (Eq.mpr (w_of_set hs md _) ?_)))
  refine Gd.block (Gd.mono (of_loop hs md hp 30 _ _ ⟨0, Nat.zero_le _, Nat.zero_le _, rfl, .inl ⟨rfl, rfl, rfl⟩⟩) (fun x E H h => ?_))
  unfold ofF at h
  split at h
  · obtain ⟨i, hi, ⟨hz, rfl, rfl⟩ | ⟨h1, rfl, rfl⟩⟩ := h
    · refine Gd.walkC TX0ok.ctx 1 tsP2 (Nat.le_refl _) (ofIn [true, true, true]) (Eq.mpr (w_of_end0 hs md i K) ?_)
      exact (branch_iff.1 hK).1 (decide_eq_true (by show hs.length = 0; omega))
    · refine Gd.walkC TX0ok.ctx 1 tsP2 (Nat.le_refl _) (ofIn [true, true, true]) (Eq.mpr (w_of_end1 hs md i _ _ K) ?_)
      have := (branch_iff.1 hK).2 (decide_eq_false (by show ¬ hs.length = 0; omega))
      rw [← hi] at this
      exact this
  · exact h.elim
def decOf (args : List AVal) (H : AHeap) : Option (List (Nat × Nat) × (ABlk × Nat)) := match args with
  | [.sl b 0 5 0 n none] => match H.get b with
    | some (.row e T l md) => some ([(0, b)], (.row e T l md, n))
    | _ => none
  | _ => none
theorem decOf_ok : DecOk decOf (fun (s : ABlk × Nat) => [.sl 0 0 5 0 s.2 none]) (fun (s : ABlk × Nat) => ⟨1, [(0, s.1)]⟩) := by
  refine ⟨fun args H σ s h hb hH => ?_⟩
  unfold decOf at h
  split at h
  · rename_i b n
    split at h
    · rename_i e T l md hg
      simp only [Option.some.injEq, Prod.mk.injEq] at h
      obtain ⟨rfl, rfl⟩ := h
      refine ⟨rfl, rfl, fun c x hx => ?_, fun c c' hc hc' hne => ?_, fun c hc => ?_⟩
      · obtain ⟨rfl, hx⟩ := get_one hx
        cases hx
        exact ⟨Nat.one_pos, rfl, hg⟩
      · have h1 : c < 1 := hc
        have h2 : c' < 1 := hc'
        omega
      · have h1 : c < 1 := hc
        obtain rfl : c = 0 := by omega
        exact (hH b _ hg).1
    · cases h
  · cases h
noncomputable def gcOf (hs : List PackR) (md : RowMd) : GC := gcSub decOf (fun (s : ABlk × Nat) => ⟨1, [(0, s.1)]⟩) (fun s K => (s.1 = pRow hs md ∧ s.2 = hs.length) ∧ fOf (hs, md) K)
theorem gcOf_sound (hs : List PackR) (md : RowMd) : GcSound Try.prog 8 (gcOf hs md) := by
  refine gc_sub Try.call8 decOf_ok (fun s k hk ρ w hR hb => ?_)
  obtain ⟨blk, n⟩ := s
  obtain ⟨⟨h1, h2⟩, hk⟩ := hk
  simp only at h1 h2
  subst h1
  subst h2
  exact fn_good TX0ok.ctx (fn := Try.f8) (by kernel_rfl) (by kernel_rfl) (of_good hs md k hk) hR hb
end Go.Proofs.Ytjacnjecggedhaa
namespace Go.Proofs.Ytjacnjecggedhaa
set_option linter.unusedVariables false
set_option linter.unusedSimpArgs false
open Go.RowKit Ev
noncomputable abbrev moB : Code := bodyC Try.f76
noncomputable abbrev moR : Code := codeAt [true, false, true, false, false] moB
def srcH (cs : List CutR) (ds : List BoolR) : List (Nat × ABlk) := [(0, srcB (.sl 1 0 6 0 cs.length none) (.sl 2 0 1 0 ds.length none)), (1, cRow cs), (2, dRow ds)]
def moE (no : Int) : Env := [(0, .ptr 0 0 0 0), (1, .int .u64 no), (2, .int .i64 7)]
def moE8 (no i : Int) : Env := [(0, .ptr 0 0 0 0), (1, .int .u64 no), (2, .int .i64 7), (8, .int .i64 i)]
def tsM : AExit → List Nat := fun x => match x with
  | .ret => [6, 7]
  | _ => [0, 1, 2, 8]
def qRet2 (R Q : AExit → Env → AHeap → Prop) : AExit → Env → AHeap → Prop := fun x E H => match x with
  | .ret => R .ret E H
  | x => Q x E H
end Go.Proofs.Ytjacnjecggedhaa
namespace Go.Proofs.Ytjacnjecggedhaa
set_option linter.unusedVariables false
set_option linter.unusedSimpArgs false
open Go.RowKit Ev
set_option maxRecDepth 100000 in
theorem w_mo_pre (cs : List CutR) (ds : List BoolR) (no : Int) (It : Env → AHeap → Prop) (Q : AExit → Env → AHeap → Prop) : (wpN (TX0.ctx Try.prog) 1 400 76 3 moB (env0 [.ptr 0 0 0 0, .int .u64 no, .int .i64 7] 0) ⟨3, srcH cs ds⟩ (fun E H => canonK 3 [0, 1, 2] E H It) Q
) = (It [(0, AVal.ptr 0 0 0 0), (1, AVal.int IntKind.u64 no), (2, AVal.int IntKind.i64 (7 : Int))] (AHeap.mk 3 [(0, ABlk.cells 29 [AVal.sl 1 0 6 0 cs.length none, AVal.sl 2 0 1 0 ds.length none]), (1,
 ABlk.row 48 cutRow cs RowMd.plain), (2, ABlk.row 4 boolRow ds RowMd.plain)])) := by kernel_rfl
set_option maxRecDepth 100000 in
theorem w_mo_set (cs : List CutR) (ds : List BoolR) (no : Int) (Q : AExit → Env → AHeap → Prop) : (wpC (TX0.ctx Try.prog) 400 76 3 (seqL (seqL (tailN 1 moB))) (moE no) ⟨3, srcH cs ds⟩ (canQ 3 tsM Q)
) = (Q AExit.normal [(0, AVal.ptr 0 0 0 0), (1, AVal.int IntKind.u64 no), (2, AVal.int IntKind.i64 (7 : Int)), (8, AVal.int IntKind.i64 (0 : Int))] (AHeap.mk 3 [(0, ABlk.cells 29 [AVal.sl 1 0 6 0
 cs.length none, AVal.sl 2 0 1 0 ds.length none]), (1, ABlk.row 48 cutRow cs RowMd.plain), (2, ABlk.row 4 boolRow ds RowMd.plain)])) := by kernel_rfl
set_option maxRecDepth 100000 in
theorem w_mo_round (cs : List CutR) (ds : List BoolR) (no : Int) (i : Nat) (K : Out → AHeap → Prop) (Q : AExit → Env → AHeap → Prop) : (wpC (TX0.ctx Try.prog) 400 76 3 moR (moE8 no i) ⟨3, srcH cs ds⟩ (canQ 3 tsM (qRet2 (endA (TX0.ctx Try.prog).P Try.f76 K) Q))
) = (branch (decide ((↑i : Int) < (↑cs.length : Int))) (obl (decide ((0 : Int) ≤ (↑i : Int) ∧ (↑i : Int) < (↑ds.length : Int))) (obl (decide (0 + (↑i : Int).toNat < ds.length)) (branch (!(ds.getD (0 + (↑i
 : Int).toNat) (BoolR.mk false)).b) (branch (decide (no = (0 : Int))) (K (Out.ret (AVal.tup [AVal.int IntKind.u64 (((↑i : Int) % (18446744073709551616 : Int) + (1 : Int)) % (18446744073709551616 :
 Int)), AVal.bool true])) (AHeap.mk 3 [(0, ABlk.cells 29 [AVal.sl 1 0 6 0 cs.length none, AVal.sl 2 0 1 0 ds.length none]), (1, ABlk.row 48 cutRow cs RowMd.plain), (2, ABlk.row 4 boolRow ds
 RowMd.plain)])) (branch (decide (no = ((↑i : Int) % (18446744073709551616 : Int) + (1 : Int)) % (18446744073709551616 : Int))) (K (Out.ret (AVal.tup [AVal.int IntKind.u64 (((↑i : Int) %
 (18446744073709551616 : Int) + (1 : Int)) % (18446744073709551616 : Int)), AVal.bool true])) (AHeap.mk 3 [(0, ABlk.cells 29 [AVal.sl 1 0 6 0 cs.length none, AVal.sl 2 0 1 0 ds.length none]), (1,
 ABlk.row 48 cutRow cs RowMd.plain), (2, ABlk.row 4 boolRow ds RowMd.plain)])) (obl (inI64 ((↑i : Int) + (1 : Int))) (Q AExit.normal [(0, AVal.ptr 0 0 0 0), (1, AVal.int IntKind.u64 no), (2, AVal.int
 IntKind.i64 (7 : Int)), (8, AVal.int IntKind.i64 ((↑i : Int) + (1 : Int)))] (AHeap.mk 3 [(0, ABlk.cells 29 [AVal.sl 1 0 6 0 cs.length none, AVal.sl 2 0 1 0 ds.length none]), (1, ABlk.row 48 cutRow cs
 RowMd.plain), (2, ABlk.row 4 boolRow ds RowMd.plain)]))))) (obl (inI64 ((↑i : Int) + (1 : Int))) (Q AExit.normal [(0, AVal.ptr 0 0 0 0), (1, AVal.int IntKind.u64 no), (2, AVal.int IntKind.i64 (7 :
 Int)), (8, AVal.int IntKind.i64 ((↑i : Int) + (1 : Int)))] (AHeap.mk 3 [(0, ABlk.cells 29 [AVal.sl 1 0 6 0 cs.length none, AVal.sl 2 0 1 0 ds.length none]), (1, ABlk.row 48 cutRow cs RowMd.plain), (2,
 ABlk.row 4 boolRow ds RowMd.plain)])))))) (Q (AExit.exit 0) [(0, AVal.ptr 0 0 0 0), (1, AVal.int IntKind.u64 no), (2, AVal.int IntKind.i64 (7 : Int)), (8, AVal.int IntKind.i64 (↑i : Int))] (AHeap.mk 3
 [(0, ABlk.cells 29 [AVal.sl 1 0 6 0 cs.length none, AVal.sl 2 0 1 0 ds.length none]), (1, ABlk.row 48 cutRow cs RowMd.plain), (2, ABlk.row 4 boolRow ds RowMd.plain)]))) := by kernel_rfl
set_option maxRecDepth 100000 in
theorem w_mo_end (cs : List CutR) (ds : List BoolR) (no i : Int) (K : Out → AHeap → Prop) : (wpC (TX0.ctx Try.prog) 400 76 3 (seqR (tailN 1 moB)) (moE8 no i) ⟨3, srcH cs ds⟩ (canQ 3 tsM (endA (TX0.ctx Try.prog).P Try.f76 K))
) = (K (Out.ret (AVal.tup [AVal.int IntKind.u64 (0 : Int), AVal.bool false])) (AHeap.mk 3 [(0, ABlk.cells 29 [AVal.sl 1 0 6 0 cs.length none, AVal.sl 2 0 1 0 ds.length none]), (1, ABlk.row 48 cutRow cs
 RowMd.plain), (2, ABlk.row 4 boolRow ds RowMd.plain)])) := by kernel_rfl
end Go.Proofs.Ytjacnjecggedhaa
namespace Go.Proofs.Ytjacnjecggedhaa
set_option linter.unusedVariables false
set_option linter.unusedSimpArgs false
open Go.RowKit Ev
def moreR (ds : List BoolR) (no : Int) : Nat → Nat → Option Nat
  | 0, _ => none
  | m + 1, i => if (ds.getD i ⟨false⟩).b = false ∧ (no = 0 ∨ no = (i : Int) + 1) then some i else moreR ds no m (i + 1)
def moreM (ds : List BoolR) (no : Int) : Option Nat := moreR ds no ds.length 0
structure MoreK (cs : List CutR) (ds : List BoolR) (no : Int) (K : Out → AHeap → Prop) : Prop where
  some : ∀ i : Nat, moreM ds no = some i → K (.ret (.tup [.int .u64 ((i : Int) + 1), .bool true])) ⟨3, srcH cs ds⟩
  none : moreM ds no = none → K (.ret (.tup [.int .u64 0, .bool false])) ⟨3, srcH cs ds⟩
theorem moIn (p : List Bool) : InFn (TX0.ctx Try.prog) 76 (codeAt p moB) :=
  inFn_at TX0ok.ctx (fn := Try.f76) (by kernel_rfl) (by kernel_rfl) p
abbrev MGd (cs : List CutR) (ds : List BoolR) (c : Code) (Q : AExit → Env → AHeap → Prop) (E : Env) (H : AHeap) : Prop := Gd (TX0.ctx Try.prog) 76 ⟨3, srcH cs ds⟩ c Q E H
noncomputable abbrev moQ (cs : List CutR) (ds : List BoolR) (no : Int) (K : Out → AHeap → Prop) : AExit → Env → AHeap → Prop := fun x E H => match x with
  | .exit 0 => moreM ds no = none ∧ ∃ i : Int, E = moE8 no i ∧ H = ⟨3, srcH cs ds⟩
  | .ret => endA (TX0.ctx Try.prog).P Try.f76 K .ret E H
  | _ => False
def moI (cs : List CutR) (ds : List BoolR) (no : Int) (m : Nat) (E : Env) (H : AHeap) : Prop :=
  ∃ i : Nat, m = ds.length - i ∧ i ≤ ds.length ∧ moreR ds no (ds.length - i) i = moreM ds no ∧ E = moE8 no i ∧ H = ⟨3, srcH cs ds⟩
set_option maxRecDepth 100000 in
theorem mo_loop (cs : List CutR) (ds : List BoolR) (no : Int) (K : Out → AHeap → Prop) (hK : MoreK cs ds no K) (hl : cs.length = ds.length) (h30 : ds.length ≤ 30) : ∀ m E H, moI cs ds no m E H → MGd cs ds (.loop moR) (moQ cs ds no K) E H := by
  refine Gd.loop (moI cs ds no) (fun m E H hI => ?_)
  obtain ⟨i, hm, hi, hr, rfl, rfl⟩ := hI
  refine Gd.mono (Gd.walkC TX0ok.ctx (Q := qRet2 (endA (TX0.ctx Try.prog).P Try.f76 K) (fun x E H => match x with
    | .normal => ∃ m', m' < m ∧ moI cs ds no m' E H
    | .exit 0 => moreM ds no = none ∧ ∃ i : Int, E = moE8 no i ∧ H = ⟨3, srcH cs ds⟩
    | _ => False)) 3 tsM (Nat.le_refl _) (moIn [true, false, true, false, false]) (Eq.mpr (w_mo_round cs ds no i K _) ?_)) (fun x E H h => ?_)
  rotate_left
  · cases x with
    | normal => exact h
    | ret => exact h
    | panic v => exact h.elim
    | exit j => cases j with
      | zero => exact h
      | succ n => exact h.elim
  have idx : 0 + (i : Int).toNat = i := by omega
  have e1 : (((i : Int) % 18446744073709551616 + 1) % 18446744073709551616) = (i : Int) + 1 := by omega
  rw [idx, e1]
  refine br_dec (fun h => ?_) (fun h => ?_)
  · refine obl_dec (by omega) (obl_dec (by omega) ?_)
    obtain ⟨r, hr'⟩ : ∃ r, ds.length - i = r + 1 := ⟨ds.length - i - 1, by omega⟩
    have hrest : ds.length - (i + 1) = r := by omega
    have hun : moreR ds no (ds.length - i) i = if (ds.getD i ⟨false⟩).b = false ∧ (no = 0 ∨ no = (i : Int) + 1) then some i else moreR ds no (ds.length - (i + 1)) (i + 1) := by
      rw [hr', hrest]; rfl
    have next : ¬ ((ds.getD i ⟨false⟩).b = false ∧ (no = 0 ∨ no = (i : Int) + 1)) → ∃ m', m' < m ∧ moI cs ds no m' (moE8 no ((i : Int) + 1)) ⟨3, srcH cs ds⟩ := fun hn =>
      ⟨ds.length - (i + 1), by omega, i + 1, rfl, by omega, by rw [← hr, hun, if_neg hn], rfl, rfl⟩
    have found : ((ds.getD i ⟨false⟩).b = false ∧ (no = 0 ∨ no = (i : Int) + 1)) → K (.ret (.tup [.int .u64 ((i : Int) + 1), .bool true])) ⟨3, srcH cs ds⟩ := fun hn =>
      hK.some i (by rw [← hr, hun, if_pos hn])
    refine br_mk (fun hb => ?_) (fun hb => ?_)
    · have hb : (ds.getD i ⟨false⟩).b = false := by simpa using hb
      refine br_dec (fun h0 => found ⟨hb, .inl h0⟩) (fun h0 => ?_)
      refine br_dec (fun h1 => found ⟨hb, .inr h1⟩) (fun h1 => ?_)
      exact obl_int (by omega) (next (by rintro ⟨_, h | h⟩ <;> contradiction))
    · have hb : (ds.getD i ⟨false⟩).b = true := by simpa using hb
      exact obl_int (by omega) (next (by rintro ⟨h, _⟩; rw [hb] at h; cases h))
  · refine ⟨?_, (i : Int), rfl, rfl⟩
    have : ds.length - i = 0 := by omega
    rw [← hr, this]; rfl
theorem moB_eq : tailN 1 moB = .seq (.seq (seqL (seqL (tailN 1 moB))) (.block 0 (.loop moR))) (seqR (tailN 1 moB)) := by kernel_rfl
set_option maxRecDepth 100000 in
theorem mo_good (cs : List CutR) (ds : List BoolR) (no : Int) (K : Out → AHeap → Prop) (hK : MoreK cs ds no K) (hl : cs.length = ds.length) (h30 : ds.length ≤ 30) : MGd cs ds moB (endA (TX0.ctx Try.prog).P Try.f76 K) (env0 [.ptr 0 0 0 0, .int .u64 no, .int .i64 7] 0) ⟨3, srcH cs ds⟩ := by
  refine Gd.walkN TX0ok.ctx (base := 3) (Nat.le_refl _) (It := fun E H => canonK 3 [0, 1, 2] E H (fun E H => E = moE no ∧ H = ⟨3, srcH cs ds⟩)) 1 400 _ _ _ (by kernel_rfl) (moIn []) (Eq.mpr (w_mo_pre cs ds no _ _) ⟨rfl, rfl⟩) (fun E H h => ?_)
  obtain ⟨E', H', σ, ⟨rfl, rfl⟩, g2, g3, g4, g5, g6⟩ := canonK_ok h
  refine Gd.sub (base := 3) (Nat.le_refl _) g6 ?_ g2 g3 g4 g5
  rw [moB_eq]
  refine Gd.seq (Gd.seq (Gd.walkC TX0ok.ctx 3 tsM (Nat.le_refl _) (moIn [true, false, false]) (Eq.mpr (w_mo_set cs ds no _) ?_)))
  refine Gd.block (Gd.mono (mo_loop cs ds no K hK hl h30 ds.length _ _ ⟨0, rfl, Nat.zero_le _, rfl, rfl, rfl⟩) (fun x E H h => ?_))
  unfold moQ at h
  split at h
  · obtain ⟨h1, i, rfl, rfl⟩ := h
    exact Gd.walkC TX0ok.ctx 3 tsM (Nat.le_refl _) (moIn [true, true]) (Eq.mpr (w_mo_end cs ds no i K) (hK.none h1))
  · exact h
  · exact h.elim
structure SrcS where
  l : ABlk
  d : ABlk
  n1 : Nat
  n2 : Nat
  no : Int
def decMore (args : List AVal) (H : AHeap) : Option (List (Nat × Nat) × SrcS) := match args with
  | [.ptr b 0 0 0, .int .u64 no, .int .i64 (.ofNat 7)] => match H.get b with
    | some (.cells e [.sl b1 0 6 0 n1 none, .sl b2 0 1 0 n2 none]) => match H.get b1, H.get b2 with
      | some (.row e1 T1 l1 m1), some (.row e2 T2 l2 m2) => match Nat.beq e 29 && !(Nat.beq b1 b2) with
        | true => some ([(0, b), (1, b1), (2, b2)], ⟨.row e1 T1 l1 m1, .row e2 T2 l2 m2, n1, n2, no⟩)
        | false => none
      | _, _ => none
    | _ => none
  | _ => none
def srcC (s : SrcS) : AHeap := ⟨3, [(0, srcB (.sl 1 0 6 0 s.n1 none) (.sl 2 0 1 0 s.n2 none)), (1, s.l), (2, s.d)]⟩
theorem get_three {x y z u : ABlk} {c : Nat} (h : AHeap.get ⟨3, [(0, x), (1, y), (2, z)]⟩ c = some u) : (c = 0 ∧ x.live = some u) ∨ (c = 1 ∧ y.live = some u) ∨ (c = 2 ∧ z.live = some u) := by
  unfold AHeap.get at h
  rw [getB_cons] at h
  by_cases h0 : 0 = c
  · rw [if_pos h0] at h; exact .inl ⟨h0.symm, h⟩
  rw [if_neg h0, getB_cons] at h
  by_cases h1 : 1 = c
  · rw [if_pos h1] at h; exact .inr (.inl ⟨h1.symm, h⟩)
  rw [if_neg h1, getB_cons] at h
  by_cases h2 : 2 = c
  · rw [if_pos h2] at h; exact .inr (.inr ⟨h2.symm, h⟩)
  rw [if_neg h2] at h
  cases h
theorem three_cases {c : Nat} (h : c < 3) : c = 0 ∨ c = 1 ∨ c = 2 := by omega
theorem decMore_ok : DecOk decMore (fun s => [.ptr 0 0 0 0, .int .u64 s.no, .int .i64 7]) srcC := by
  refine ⟨fun args H σ s h hb hH => ?_⟩
  unfold decMore at h
  split at h
  · rename_i b no
    split at h
    · rename_i e b1 n1 b2 n2 hg
      split at h
      · rename_i e1 T1 l1 m1 e2 T2 l2 m2 hg1 hg2
        split at h
        · rename_i hc
          simp only [Bool.and_eq_true, Bool.not_eq_true'] at hc
          have he := nat_beq_eq.1 hc.1
          have hne := nat_beq_ne.1 hc.2
          subst he
          simp only [Option.some.injEq, Prod.mk.injEq] at h
          obtain ⟨rfl, rfl⟩ := h
          have n01 : b ≠ b1 := by rintro rfl; rw [hg] at hg1; cases hg1
          have n02 : b ≠ b2 := by rintro rfl; rw [hg] at hg2; cases hg2
          refine ⟨rfl, rfl, fun c x hx => ?_, fun c c' hc hc' hne' => ?_, fun c hc => ?_⟩
          · rcases get_three hx with ⟨rfl, hx⟩ | ⟨rfl, hx⟩ | ⟨rfl, hx⟩
            · cases hx; exact ⟨(by decide : 0 < 3), rfl, hg⟩
            · cases hx; exact ⟨(by decide : 1 < 3), rfl, hg1⟩
            · cases hx; exact ⟨(by decide : 2 < 3), rfl, hg2⟩
          · rcases three_cases hc with rfl | rfl | rfl <;> rcases three_cases hc' with rfl | rfl | rfl <;> first | exact absurd rfl hne' | exact n01 | exact n02 | exact hne | exact n01.symm | exact n02.symm | exact fun h => hne h.symm
          · rcases three_cases hc with rfl | rfl | rfl
            · exact (hH b _ hg).1
            · exact (hH b1 _ hg1).1
            · exact (hH b2 _ hg2).1
        · cases h
      · cases h
    · cases h
  · cases h
def fMore (s : SrcS) (K : Out → AHeap → Prop) : Prop := ∃ (cs : List CutR) (ds : List BoolR), ((s.l = cRow cs ∧ s.d = dRow ds) ∧ (s.n1 = cs.length ∧ s.n2 = ds.length) ∧ cs.length = ds.length ∧ ds.length ≤ 30) ∧
  (∀ i : Nat, moreM ds s.no = some i → K (.ret (.tup [.int .u64 ((i : Int) + 1), .bool true])) (srcC s)) ∧ (moreM ds s.no = none → K (.ret (.tup [.int .u64 0, .bool false])) (srcC s))
theorem more_sound : GcSound Try.prog 76 (gcSub decMore srcC fMore) := by
  refine gc_sub Try.call76 decMore_ok (fun s k hk ρ w hR hb => ?_)
  obtain ⟨l, d, n1, n2, no⟩ := s
  obtain ⟨cs, ds, ⟨⟨h1, h2⟩, ⟨h3, h4⟩, h5, h6⟩, k1, k2⟩ := hk
  simp only at h1 h2 h3 h4
  subst h1 h2 h3 h4
  exact fn_good TX0ok.ctx (fn := Try.f76) (by kernel_rfl) (by kernel_rfl) (mo_good cs ds no k ⟨k1, k2⟩ h5 h6) hR hb
noncomputable def TX1 : Tabs := TX0.addGc 76 (gcSub decMore srcC fMore)
theorem TX1ok : TabsOk TX1 Try.prog := TX0ok.addGc more_sound
end Go.Proofs.Ytjacnjecggedhaa
namespace Go.Proofs.Ytjacnjecggedhaa
set_option linter.unusedVariables false
set_option linter.unusedSimpArgs false
open Go.RowKit Ev
def dropFc (T : Tabs) (f : Nat) : Tabs := { T with fcs := T.fcs.filter fun p => !(Nat.beq p.1 f) }
theorem dropFc_ok {T : Tabs} {P : Program} (h : TabsOk T P) (f : Nat) : TabsOk (dropFc T f) P := ⟨h.mixed, h.fns, h.rows, fun p hp => h.fcs p (List.mem_filter.1 hp).1, h.gcs, h.lcs, h.op⟩
def gcNextV : GC := fun args H K => match args with
  | [.agg [.int .i64 typ, .int .i64 k, .str b, .str data, .int .i64 at_, .int .i64 id], .agg [.int .i64 lk, .str lb], .int .i64 space, .bool whole] =>
    ∀ R : NextR, nextR typ k b data at_ id lk lb space whole = R → K (.ret (nextT typ data id R)) H
  | _ => False
theorem gcNextV_sound : GcSound Try.prog 78 gcNextV := by
  intro args H K hg ρ w hR ha
  unfold gcNextV at hg
  split at hg
  · rename_i typ k b data at_ id lk lb space whole
    obtain ⟨h1, h2⟩ := next_sound.2 _ H _ (rfl : fcNext [.agg [.int .i64 typ, .int .i64 k, .str b, .str data, .int .i64 at_, .int .i64 id], .agg [.int .i64 lk, .str lb], .int .i64 space, .bool whole] H = some (true, nextT typ data id (nextR typ k b data at_ id lk lb space whole))) ρ w H.next (fun b y hy => (hR.blk b y hy).2) ha
    refine ⟨next_sound.1, h1.mono ?_⟩
    rintro e w' ⟨rfl, hb⟩
    exact ⟨.ret _, H, ρ, ⟨rfl, h2⟩, hg _ rfl, Step.grow hR hb⟩
  · exact hg.elim
noncomputable def TX2 : Tabs := symT ((dropFc TX1 78).addGc 78 gcNextV) 75
theorem TX2ok : TabsOk TX2 Try.prog := symT_ok ((dropFc_ok TX1ok _).addGc gcNextV_sound) _
structure FSt where
  L : List UInt8
  beg : Bool
  k : Nat
  lk : Int
  lb : List UInt8
def fE (s : AVal) (r : Env) : Env := (4, .ptr 3 0 0 0) :: (5, .ptr 4 0 0 0) :: (6, .ptr 5 0 0 0) :: (10, .ptr 6 0 0 0) :: (11, s) :: (12, .func 16 [] [.ptr 3 0 0 0, .ptr 4 0 0 0, .ptr 5 0 0 0]) :: r
def f13 (i : Nat) : Env := [(13, .int .u64 ((i : Int) + 1))]
def f14 (no : Int) (sm : Bool) : Env := [(13, .int .u64 no), (14, .bool sm)]
def srcN (n : Nat) (cs : List CutR) (ds : List BoolR) : List (Nat × ABlk) := [(0, srcB (.sl 1 0 6 0 n none) (.sl 2 0 1 0 n none)), (1, cRow cs), (2, dRow ds)]
def fH0 (n : Nat) (cs : List CutR) (ds : List BoolR) (fv : Int) : List (Nat × ABlk) := srcN n cs ds ++ [(3, .cells 65 [.iface 24 (.ptr 0 0 0 0)]), (4, .cells 33 [.int .u64 fv]), (5, .cells 3 [.int .i64 7])]
def fHx (n : Nat) (cs : List CutR) (ds : List BoolR) (fv : Int) (r : List (Nat × ABlk)) : List (Nat × ABlk) := fH0 n cs ds fv ++ r
def fldS (v : AVal) (sp : Int) (F : FSt) : ABlk := .cells 70 [v, .int .i64 sp, .bool F.beg, .int .i64 (F.k : Int), .int .i64 F.lk, .str F.lb]
def fA (first sp : Int) : List AVal := [.iface 24 (.ptr 0 0 0 0), .int .u64 first, .int .i64 7, .int .i64 sp]
def feE (sp : Int) : Env := [(3, .int .i64 sp), (4, .ptr 3 0 0 0), (5, .ptr 4 0 0 0), (6, .ptr 5 0 0 0)]
def F0 : FSt := ⟨[], false, 0, 0, []⟩
def g00 (n : Nat) (sp : Int) (cs : List CutR) (ds : List BoolR) (fv : Int) (F : FSt) (r : Env) : Env × AHeap := (fE .nils r, ⟨7, fH0 n cs ds fv ++ [(6, fldS .nils sp F)]⟩)
def g10 (n : Nat) (sp : Int) (cs : List CutR) (ds : List BoolR) (fv : Int) (F : FSt) (r : Env) : Env × AHeap := (fE .nils r, ⟨8, fH0 n cs ds fv ++ [(6, fldS (oSl 7 F.L.length) sp F), (7, bRow F.L)]⟩)
def g11 (n : Nat) (sp : Int) (cs : List CutR) (ds : List BoolR) (fv : Int) (F : FSt) (S : List Int) (r : Env) : Env × AHeap := (fE (oSl 7 S.length) r, ⟨9, fH0 n cs ds fv ++ [(6, fldS (oSl 8 F.L.length) sp F), (7, sRow S), (8, bRow F.L)]⟩)
def noCut : CutR := ⟨0, 0, [], [], 0, 0⟩
def idI (i : Nat) : Nat := 0 + (((i : Int) + 1 - 1) % 18446744073709551616).toNat
def cutI (cs : List CutR) (i : Nat) : CutR := cs.getD (0 + (((i : Int) + 1 - 1) % 18446744073709551616).toNat) ⟨0, 0, [], [], 0, 0⟩
def idJ (i : Nat) : Int := ((i : Int) + 1 - 1) % 18446744073709551616
theorem idJ_eq {i : Nat} (h : i < 1000000) : idJ i = (i : Int) := by unfold idJ; omega
theorem idI_eq {i : Nat} (h : i < 1000000) : idI i = i := by unfold idI; omega
theorem cutI_eq {cs : List CutR} {i : Nat} (h : i < 1000000) : cutI cs i = cs.getD i noCut := by
  show cs.getD (idI i) noCut = _
  rw [idI_eq h]
end Go.Proofs.Ytjacnjecggedhaa
namespace Go.Proofs.Ytjacnjecggedhaa
set_option linter.unusedVariables false
set_option linter.unusedSimpArgs false
open Go.RowKit Ev
def memL (lk : Int) (lb : List UInt8) (k : Int) (b : List UInt8) : Int × List UInt8 := if lb ≠ [] ∧ lk = k ∧ lb = b then (3, []) else (k, b)
def memK (lk : Int) (lb : List UInt8) (k : Int) (b : List UInt8) : Int × List UInt8 := if lb ≠ [] ∧ lk = k ∧ lb = b then (lk, lb) else if 0 < lSize k ∧ lOk k b = true then (k, b) else (lk, lb)
def labOf (F : FSt) (c : CutR) : Int × List UInt8 := if c.pos = 0 then memL F.lk F.lb c.k c.lb else (c.k, c.lb)
def memOf (F : FSt) (c : CutR) : Int × List UInt8 := if c.pos = 0 then memK F.lk F.lb c.k c.lb else (F.lk, F.lb)
def stepR (sp : Int) (F : FSt) (c : CutR) : NextR := nextR c.typ c.k c.lb c.data c.pos c.id (labOf F c).1 (labOf F c).2 (sp - (F.L.length : Int)) F.beg
def encR (R : NextR) : List UInt8 := gEnc R.st R.en R.id R.total R.typ R.k R.lb R.data R.sum
def errR (R : NextR) : Int := gErr R.st R.en R.id R.total R.typ R.k R.lb R.data R.sum
structure OkR (sp : Int) (F : FSt) (R : NextR) : Prop where
  err : R.err = 0
  enc : errR R = 0
  len : ((encR R).length : Int) ≤ sp - (F.L.length : Int)
def stepF (F : FSt) (c : CutR) (R : NextR) : FSt := ⟨F.L ++ encR R, F.beg || (R.st && !R.en), F.k + 1, (memOf F c).1, (memOf F c).2⟩
def stepC (c : CutR) (R : NextR) : CutR := ⟨c.typ, R.k2, R.b2, c.data, R.at2, c.id⟩
structure CSm (c : CutR) : Prop where
  d : c.data.length ≤ 5300
  l : c.lb.length ≤ 20
theorem pSum_le (typ k : Int) (b data : List UInt8) : (pSum typ k b data).length ≤ 4 := by
  unfold pSum
  split
  · simp [four]
  · simp
theorem nextR_len (typ k : Int) (b data : List UInt8) (at_ id lk : Int) (lb : List UInt8) (space : Int) (whole : Bool) (R : NextR) (h : nextR typ k b data at_ id lk lb space whole = R) :
    R.lb.length ≤ lb.length ∧ R.data.length ≤ data.length ∧ R.sum.length ≤ 4 ∧ (R.b2 = b ∨ R.b2 = lb) := by
  have hp := pSum_le typ k b data
  subst h
  unfold nextR
  repeat' split
  all_goals (refine ⟨?_, ?_, ?_, ?_⟩ <;> simp only [List.length_nil, List.length_take, List.length_drop, true_or, or_true] <;> omega)
theorem stepR_small {sp : Int} {F : FSt} {c : CutR} {R : NextR} (h : stepR sp F c = R) (hc : CSm c) : R.lb.length + R.data.length + R.sum.length ≤ 9223372036854775000 ∧ CSm (stepC c R) := by
  obtain ⟨h1, h2, h3, h4⟩ := nextR_len _ _ _ _ _ _ _ _ _ _ R h
  have hl : (labOf F c).2.length ≤ c.lb.length := by
    unfold labOf memL
    repeat' split
    all_goals simp
  have d := hc.d
  have l := hc.l
  refine ⟨by omega, ⟨d, ?_⟩⟩
  show R.b2.length ≤ 20
  rcases h4 with h4 | h4 <;> rw [h4] <;> omega
theorem encR_len {R : NextR} (h : errR R = 0) : 2 ≤ (encR R).length := by
  unfold encR gEnc
  unfold errR at h
  rw [if_pos h]
  simp [two]
end Go.Proofs.Ytjacnjecggedhaa
