/-
  Walks, printed: what calls come to, as they are reckoned.
-/
import Derived.Test.YtofnedbclnlnmaaPduOk4
namespace Go.Proofs.Ytofnedbclnlnmaa
set_option linter.unusedVariables false
set_option linter.unusedSimpArgs false
open Go.RowKit Ev

set_option maxRecDepth 100000 in
theorem w_types (typ kind l0 l1 l2 l3 l4 l5 typ2 at_ : Int) (data : List UInt8) (K : Out → Prop) : (callC (TP4.ctx Try.prog) 100 4 [.agg [.int .u16 typ, .int .u8 kind, .int .u8 l0, .int .u8 l1, .int .u8 l2, .int .u8 l3, .int .u8 l4, .int .u8 l5, .str data], .int .u16 typ2, .int .u8 at_] ⟨0, []⟩ (fun o _ => K o)
) = (obl
  (decide
    ((0 : Int) ≤ min (↑data.length : Int) (2000 : Int) ∧ min (↑data.length : Int) (2000 : Int) ≤ (↑data.length : Int)))
  (obl (decide ((0 : Int) ≤ kind))
    (obl (inI64 typ)
      (obl
        (decide ((List.take (min (↑data.length : Int) (2000 : Int)).toNat data).length ≤ (9223372036854775000 : Nat)))
        (obl (inI64 typ2)
          (obl
            (decide
              ((List.take (min (↑data.length : Int) (2000 : Int)).toNat data).length ≤ (9223372036854775000 : Nat)))
            (branch
              (!decide
                    (pSum typ (labK kind) (labB kind (List.map (fun n => UInt8.ofNat n.toNat) [l0, l1, l2, l3, l4, l5]))
                        (List.take (min (↑data.length : Int) (2000 : Int)).toNat data) =
                      pSum typ2 (labK kind)
                        (labB kind (List.map (fun n => UInt8.ofNat n.toNat) [l0, l1, l2, l3, l4, l5]))
                        (List.take (min (↑data.length : Int) (2000 : Int)).toNat data)) ==
                  decide (typ2 = typ))
              (K (Out.ret (AVal.bool false)))
              (obl (decide ((0 : Int) ≤ at_ ∧ (0 : Int) < (6 : Int)))
                (obl (decide ((0 : Int) ≤ at_ % (6 : Int) ∧ at_ % (6 : Int) < (6 : Int)))
                  (obl
                    (decide
                      ((at_ % (6 : Int)).toNat <
                        ([AVal.int IntKind.u8 l0, AVal.int IntKind.u8 l1, AVal.int IntKind.u8 l2,
                                AVal.int IntKind.u8 l3, AVal.int IntKind.u8 l4, AVal.int IntKind.u8 l5].length -
                            (0 : Nat)) /
                          (1 : Nat)))
                    (obl (decide ((0 : Int) ≤ at_ % (6 : Int) ∧ at_ % (6 : Int) < (6 : Int)))
                      (obl
                        (decide
                          ((at_ % (6 : Int)).toNat <
                            [AVal.int IntKind.u8 l0, AVal.int IntKind.u8 l1, AVal.int IntKind.u8 l2,
                                AVal.int IntKind.u8 l3, AVal.int IntKind.u8 l4, AVal.int IntKind.u8 l5].length))
                        (obl (decide ((0 : Int) ≤ kind))
                          (obl (inI64 typ)
                            (obl
                              (decide
                                ((List.take (min (↑data.length : Int) (2000 : Int)).toNat data).length ≤
                                  (9223372036854775000 : Nat)))
                              (K
                                (Out.ret
                                  (AVal.bool
                                    (decide
                                        (pSum typ (labK kind)
                                            (labB kind
                                              (List.map (fun n => UInt8.ofNat n.toNat)
                                                [if decide ((at_ % (6 : Int)).toNat = (0 : Nat)) = true then
                                                    ([l0, l1, l2, l3, l4, l5].getD (at_ % (6 : Int)).toNat (0 : Int) +
                                                        (1 : Int)) %
                                                      (256 : Int)
                                                  else l0,
                                                  if decide ((at_ % (6 : Int)).toNat = (1 : Nat)) = true then
                                                    ([l0, l1, l2, l3, l4, l5].getD (at_ % (6 : Int)).toNat (0 : Int) +
                                                        (1 : Int)) %
                                                      (256 : Int)
                                                  else l1,
                                                  if decide ((at_ % (6 : Int)).toNat = (2 : Nat)) = true then
                                                    ([l0, l1, l2, l3, l4, l5].getD (at_ % (6 : Int)).toNat (0 : Int) +
                                                        (1 : Int)) %
                                                      (256 : Int)
                                                  else l2,
                                                  if decide ((at_ % (6 : Int)).toNat = (3 : Nat)) = true then
                                                    ([l0, l1, l2, l3, l4, l5].getD (at_ % (6 : Int)).toNat (0 : Int) +
                                                        (1 : Int)) %
                                                      (256 : Int)
                                                  else l3,
                                                  if decide ((at_ % (6 : Int)).toNat = (4 : Nat)) = true then
                                                    ([l0, l1, l2, l3, l4, l5].getD (at_ % (6 : Int)).toNat (0 : Int) +
                                                        (1 : Int)) %
                                                      (256 : Int)
                                                  else l4,
                                                  if decide ((at_ % (6 : Int)).toNat = (5 : Nat)) = true then
                                                    ([l0, l1, l2, l3, l4, l5].getD (at_ % (6 : Int)).toNat (0 : Int) +
                                                        (1 : Int)) %
                                                      (256 : Int)
                                                  else l5]))
                                            (List.take (min (↑data.length : Int) (2000 : Int)).toNat data) =
                                          pSum typ (labK kind)
                                            (labB kind
                                              (List.map (fun n => UInt8.ofNat n.toNat) [l0, l1, l2, l3, l4, l5]))
                                            (List.take (min (↑data.length : Int) (2000 : Int)).toNat data)) ==
                                      (decide (labK kind = labK kind) &&
                                        (decide
                                            (labB kind
                                                (List.map (fun n => UInt8.ofNat n.toNat)
                                                  [if decide ((at_ % (6 : Int)).toNat = (0 : Nat)) = true then
                                                      ([l0, l1, l2, l3, l4, l5].getD (at_ % (6 : Int)).toNat (0 : Int) +
                                                          (1 : Int)) %
                                                        (256 : Int)
                                                    else l0,
                                                    if decide ((at_ % (6 : Int)).toNat = (1 : Nat)) = true then
                                                      ([l0, l1, l2, l3, l4, l5].getD (at_ % (6 : Int)).toNat (0 : Int) +
                                                          (1 : Int)) %
                                                        (256 : Int)
                                                    else l1,
                                                    if decide ((at_ % (6 : Int)).toNat = (2 : Nat)) = true then
                                                      ([l0, l1, l2, l3, l4, l5].getD (at_ % (6 : Int)).toNat (0 : Int) +
                                                          (1 : Int)) %
                                                        (256 : Int)
                                                    else l2,
                                                    if decide ((at_ % (6 : Int)).toNat = (3 : Nat)) = true then
                                                      ([l0, l1, l2, l3, l4, l5].getD (at_ % (6 : Int)).toNat (0 : Int) +
                                                          (1 : Int)) %
                                                        (256 : Int)
                                                    else l3,
                                                    if decide ((at_ % (6 : Int)).toNat = (4 : Nat)) = true then
                                                      ([l0, l1, l2, l3, l4, l5].getD (at_ % (6 : Int)).toNat (0 : Int) +
                                                          (1 : Int)) %
                                                        (256 : Int)
                                                    else l4,
                                                    if decide ((at_ % (6 : Int)).toNat = (5 : Nat)) = true then
                                                      ([l0, l1, l2, l3, l4, l5].getD (at_ % (6 : Int)).toNat (0 : Int) +
                                                          (1 : Int)) %
                                                        (256 : Int)
                                                    else l5]) =
                                              labB kind
                                                (List.map (fun n => UInt8.ofNat n.toNat) [l0, l1, l2, l3, l4, l5])) &&
                                          true))))))))))))))))))))) := by kernel_rfl

end Go.Proofs.Ytofnedbclnlnmaa
