/-
  Walks, printed: what calls come to, as they are reckoned.
-/
import Derived.Test.YtcbkenicjmhkdaaGseDec
namespace Go.Proofs.Ytcbkenicjmhkdaa
set_option linter.unusedVariables false
set_option linter.unusedSimpArgs false
open Go.RowKit Ev

set_option maxRecDepth 100000 in
theorem w_rword (n : Int) (K : Out → Prop) : (callC (TD.ctx Try.prog) 100 45 [.int .i64 n] ⟨0, []⟩ (fun o _ => K o)
) = (branch (decide ((0 : Int) ≤ n)) (K (Out.ret (AVal.bool (decide (n ≤ (65535 : Int))))))
  (K (Out.ret (AVal.bool false)))) := by kernel_rfl

set_option maxRecDepth 100000 in
theorem w_rtwo8 (n : Int) (K : Out → Prop) : (callC (TD.ctx Try.prog) 100 31 [.int .i64 n] ⟨0, []⟩ (fun o _ => K o)
) = (obl (decide ((0 : Int) ≤ n ∧ (0 : Int) < (256 : Int)) && inI64 (n / (256 : Int)))
  (obl (decide ((0 : Int) ≤ n ∧ (0 : Int) < (256 : Int)))
    (K
      (Out.ret
        (AVal.str
          [UInt8.ofNat (n / (256 : Int) % (256 : Int)).toNat,
            UInt8.ofNat (n % (256 : Int) % (256 : Int)).toNat]))))) := by kernel_rfl

set_option maxRecDepth 100000 in
theorem w_rmay_tt (id total typ k : Int) (lb data sum : List UInt8) (K : Out → Prop) : (callC (TD.ctx Try.prog) 100 29 [.agg [.bool true, .bool true, .int .i64 id, .int .i64 total, .int .i64 typ, .int .i64 k, .str lb, .str data, .str sum]] ⟨0, []⟩ (fun o _ => K o)
) = (branch (decide ((0 : Int) ≤ id))
  (branch (decide (id = (0 : Int)))
    (branch (decide (total = (0 : Int)))
      (branch (decide ((0 : Int) ≤ typ))
        (branch (decide (typ ≤ (65535 : Int)))
          (branch (lOk k lb) (K (Out.ret (AVal.bool (decide (sum = []))))) (K (Out.ret (AVal.bool false))))
          (K (Out.ret (AVal.bool false))))
        (K (Out.ret (AVal.bool false))))
      (K (Out.ret (AVal.bool false))))
    (K (Out.ret (AVal.bool false))))
  (branch (decide (id = (0 : Int)))
    (branch (decide (total = (0 : Int)))
      (branch (decide ((0 : Int) ≤ typ))
        (branch (decide (typ ≤ (65535 : Int)))
          (branch (lOk k lb) (K (Out.ret (AVal.bool (decide (sum = []))))) (K (Out.ret (AVal.bool false))))
          (K (Out.ret (AVal.bool false))))
        (K (Out.ret (AVal.bool false))))
      (K (Out.ret (AVal.bool false))))
    (K (Out.ret (AVal.bool false))))) := by kernel_rfl

set_option maxRecDepth 100000 in
theorem w_rmay_tf (id total typ k : Int) (lb data sum : List UInt8) (K : Out → Prop) : (callC (TD.ctx Try.prog) 100 29 [.agg [.bool true, .bool false, .int .i64 id, .int .i64 total, .int .i64 typ, .int .i64 k, .str lb, .str data, .str sum]] ⟨0, []⟩ (fun o _ => K o)
) = (branch (decide ((0 : Int) ≤ id))
  (branch (decide (id ≤ (255 : Int)))
    (branch (decide ((0 : Int) ≤ total))
      (branch (decide (total ≤ (65535 : Int)))
        (branch (decide ((0 : Int) ≤ typ))
          (branch (decide (typ ≤ (65535 : Int)))
            (branch (lOk k lb) (K (Out.ret (AVal.bool (decide (sum = []))))) (K (Out.ret (AVal.bool false))))
            (K (Out.ret (AVal.bool false))))
          (K (Out.ret (AVal.bool false))))
        (K (Out.ret (AVal.bool false))))
      (K (Out.ret (AVal.bool false))))
    (K (Out.ret (AVal.bool false))))
  (K (Out.ret (AVal.bool false)))) := by kernel_rfl

set_option maxRecDepth 100000 in
theorem w_rmay_ft (id total typ k : Int) (lb data sum : List UInt8) (K : Out → Prop) : (callC (TD.ctx Try.prog) 100 29 [.agg [.bool false, .bool true, .int .i64 id, .int .i64 total, .int .i64 typ, .int .i64 k, .str lb, .str data, .str sum]] ⟨0, []⟩ (fun o _ => K o)
) = (branch (decide ((0 : Int) ≤ id))
  (branch (decide (id ≤ (255 : Int)))
    (branch (decide (total = (0 : Int)))
      (branch (decide (typ = (0 : Int)))
        (branch (decide (k = (0 : Int)) && (decide (lb = []) && true))
          (K (Out.ret (AVal.bool (decide ((↑sum.length : Int) = (4 : Int)))))) (K (Out.ret (AVal.bool false))))
        (K (Out.ret (AVal.bool false))))
      (K (Out.ret (AVal.bool false))))
    (K (Out.ret (AVal.bool false))))
  (K (Out.ret (AVal.bool false)))) := by kernel_rfl

set_option maxRecDepth 100000 in
theorem w_rmay_ff (id total typ k : Int) (lb data sum : List UInt8) (K : Out → Prop) : (callC (TD.ctx Try.prog) 100 29 [.agg [.bool false, .bool false, .int .i64 id, .int .i64 total, .int .i64 typ, .int .i64 k, .str lb, .str data, .str sum]] ⟨0, []⟩ (fun o _ => K o)
) = (branch (decide ((0 : Int) ≤ id))
  (branch (decide (id ≤ (255 : Int)))
    (branch (decide (total = (0 : Int)))
      (branch (decide (typ = (0 : Int)))
        (branch (decide (k = (0 : Int)) && (decide (lb = []) && true)) (K (Out.ret (AVal.bool (decide (sum = [])))))
          (K (Out.ret (AVal.bool false))))
        (K (Out.ret (AVal.bool false))))
      (K (Out.ret (AVal.bool false))))
    (K (Out.ret (AVal.bool false))))
  (K (Out.ret (AVal.bool false)))) := by kernel_rfl

set_option maxRecDepth 100000 in
theorem w_cut8 (st en : Bool) (id total typ k : Int) (lb data sum : List UInt8) (K : Out → Prop) : (callC (TD.ctx Try.prog) 100 12 [.agg [.bool st, .bool en, .int .i64 id, .int .i64 total, .int .i64 typ, .int .i64 k, .str lb, .str data, .str sum]] ⟨0, []⟩ (fun o _ => K o)
) = (obl
  (decide
    ((0 : Int) ≤ min (↑data.length : Int) (4500 : Int) ∧ min (↑data.length : Int) (4500 : Int) ≤ (↑data.length : Int)))
  (obl (decide ((0 : Int) ≤ min (↑lb.length : Int) (20 : Int) ∧ min (↑lb.length : Int) (20 : Int) ≤ (↑lb.length : Int)))
    (obl
      (decide
        ((0 : Int) ≤ min (↑sum.length : Int) (20 : Int) ∧ min (↑sum.length : Int) (20 : Int) ≤ (↑sum.length : Int)))
      (K
        (Out.ret
          (AVal.agg
            [AVal.bool st, AVal.bool en, AVal.int IntKind.i64 id, AVal.int IntKind.i64 total, AVal.int IntKind.i64 typ,
              AVal.int IntKind.i64 k, AVal.str (List.take (min (↑lb.length : Int) (20 : Int)).toNat lb),
              AVal.str (List.take (min (↑data.length : Int) (4500 : Int)).toNat data),
              AVal.str (List.take (min (↑sum.length : Int) (20 : Int)).toNat sum)])))))) := by kernel_rfl

set_option maxRecDepth 100000 in
theorem w_lays8 (st en : Bool) (id total typ k : Int) (lb data sum want : List UInt8) (K : Out → Prop) : (callC (TD.ctx Try.prog) 100 20 [.agg [.bool st, .bool en, .int .i64 id, .int .i64 total, .int .i64 typ, .int .i64 k, .str lb, .str data, .str sum], .str want] ⟨0, []⟩ (fun o _ => K o)
) = (obl (decide (lb.length + data.length + sum.length ≤ (9223372036854775000 : Nat)))
  (obl (decide (lb.length + data.length + sum.length ≤ (9223372036854775000 : Nat)))
    (branch (decide (gErr st en id total typ k lb data sum = (0 : Int)))
      (branch (decide (gEnc st en id total typ k lb data sum = want))
        (branch (decide (gErr st en id total typ k lb data sum = (0 : Int)))
          (K
            (Out.ret
              (AVal.bool (decide ((↑(gEnc st en id total typ k lb data sum).length : Int) = (↑want.length : Int))))))
          (K (Out.ret (AVal.bool false))))
        (K (Out.ret (AVal.bool false))))
      (K (Out.ret (AVal.bool false)))))) := by kernel_rfl

set_option maxRecDepth 100000 in
theorem w_wrong8 (s : List UInt8) (e : Int) (K : Out → Prop) : (callC (TD.ctx Try.prog) 100 11 [.str s, .int .i64 e] ⟨0, []⟩ (fun o _ => K o)
) = (obl (decide (s.length ≤ (9223372036854775000 : Nat)))
  (branch (decide ((dec s).e = e))
    (branch (decide ((dec s).n = (0 : Int)))
      (K
        (Out.ret
          (AVal.bool
            ((dec s).p.st == false &&
              ((dec s).p.en == false &&
                (decide ((dec s).p.id = (0 : Int)) &&
                  (decide ((dec s).p.total = (0 : Int)) &&
                    (decide ((dec s).p.typ = (0 : Int)) &&
                      (decide ((dec s).p.k = (0 : Int)) && (decide ((dec s).p.lb = []) && true) &&
                        (decide ((dec s).p.data = []) && (decide ((dec s).p.sum = []) && true)))))))))))
      (K (Out.ret (AVal.bool false))))
    (K (Out.ret (AVal.bool false))))) := by kernel_rfl

end Go.Proofs.Ytcbkenicjmhkdaa
