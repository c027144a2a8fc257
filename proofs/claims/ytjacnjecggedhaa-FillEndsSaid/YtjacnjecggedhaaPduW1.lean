/-
  Walks, printed: what calls come to, as they are reckoned.
-/
import Derived.Test.YtjacnjecggedhaaPduFc
namespace Go.Proofs.Ytjacnjecggedhaa
set_option linter.unusedVariables false
set_option linter.unusedSimpArgs false
open Go.RowKit Ev

set_option maxRecDepth 100000 in
theorem w_two (n : Int) (K : Out → Prop) : (callC (TP0.ctx Try.prog) 100 89 [.int .i64 n] ⟨0, []⟩ (fun o _ => K o)
) = (K
  (Out.ret
    (AVal.str
      [UInt8.ofNat (n / (256 : Int) % (256 : Int)).toNat, UInt8.ofNat (n % (256 : Int)).toNat]))) := by kernel_rfl

set_option maxRecDepth 100000 in
theorem w_rtwo (n : Int) (K : Out → Prop) : (callC (TP0.ctx Try.prog) 100 55 [.int .i64 n] ⟨0, []⟩ (fun o _ => K o)
) = (obl (decide ((0 : Int) ≤ n ∧ (0 : Int) < (256 : Int)) && inI64 (n / (256 : Int)))
  (obl (decide ((0 : Int) ≤ n ∧ (0 : Int) < (256 : Int)))
    (K
      (Out.ret
        (AVal.str
          [UInt8.ofNat (n / (256 : Int) % (256 : Int)).toNat,
            UInt8.ofNat (n % (256 : Int) % (256 : Int)).toNat]))))) := by kernel_rfl

set_option maxRecDepth 100000 in
theorem w_joined (e : Nat) (s1 s2 s3 s4 : List UInt8) (K : Out → Prop) : (callC (TP0.ctx Try.prog) 100 91 [.sl 0 0 1 0 4 (some 4)] ⟨1, [(0, .row e strRow [s1, s2, s3, s4] .ro)]⟩ (fun o _ => K o)
) = (obl
  (decide ((↑((0 : Nat) + List.length ([s1, s2, s3, s4].getD (0 : Nat) [])) : Int) ≤ (9223372036854775807 : Int)))
  (obl
    (decide
      ((↑(([] ++ [s1, s2, s3, s4].getD (0 : Nat) []).length + List.length ([s1, s2, s3, s4].getD (1 : Nat) [])) : Int) ≤
        (9223372036854775807 : Int)))
    (obl
      (decide
        ((↑(([] ++ [s1, s2, s3, s4].getD (0 : Nat) [] ++ [s1, s2, s3, s4].getD (1 : Nat) []).length +
                List.length ([s1, s2, s3, s4].getD (2 : Nat) [])) :
            Int) ≤
          (9223372036854775807 : Int)))
      (obl
        (decide
          ((↑(([] ++ [s1, s2, s3, s4].getD (0 : Nat) [] ++ [s1, s2, s3, s4].getD (1 : Nat) [] ++
                      [s1, s2, s3, s4].getD (2 : Nat) []).length +
                  List.length ([s1, s2, s3, s4].getD (3 : Nat) [])) :
              Int) ≤
            (9223372036854775807 : Int)))
        (K
          (Out.ret
            (AVal.str
              ([] ++ [s1, s2, s3, s4].getD (0 : Nat) [] ++ [s1, s2, s3, s4].getD (1 : Nat) [] ++
                  [s1, s2, s3, s4].getD (2 : Nat) [] ++
                [s1, s2, s3, s4].getD (3 : Nat) [])))))))) := by kernel_rfl

set_option maxRecDepth 100000 in
theorem w_total (k : Int) (b : List UInt8) (n : Int) (K : Out → Prop) : (callC (TP0.ctx Try.prog) 100 84 [.agg [.int .i64 k, .str b], .int .i64 n] ⟨0, []⟩ (fun o _ => K o)
) = (branch (!decide ((if lOk k b = true then (0 : Int) else (2 : Int)) = (0 : Int)))
  (K (Out.ret (AVal.int IntKind.i64 (0 : Int))))
  (branch (decide (n < (0 : Int))) (K (Out.ret (AVal.int IntKind.i64 (0 : Int))))
    (branch (decide ((65535 : Int) < n)) (K (Out.ret (AVal.int IntKind.i64 (0 : Int))))
      (obl (inI64 ((2 : Int) + lSize k))
        (obl (inI64 ((2 : Int) + lSize k + n))
          (K (Out.ret (AVal.int IntKind.i64 ((2 : Int) + lSize k + n))))))))) := by kernel_rfl

set_option maxRecDepth 100000 in
theorem w_rtotal (k : Int) (b : List UInt8) (n : Int) (K : Out → Prop) : (callC (TP0.ctx Try.prog) 100 53 [.agg [.int .i64 k, .str b], .int .i64 n] ⟨0, []⟩ (fun o _ => K o)
) = (branch (!lOk k b) (K (Out.ret (AVal.int IntKind.i64 (0 : Int))))
  (branch (decide (n < (0 : Int))) (K (Out.ret (AVal.int IntKind.i64 (0 : Int))))
    (branch (decide ((65535 : Int) < n)) (K (Out.ret (AVal.int IntKind.i64 (0 : Int))))
      (obl (inI64 ((2 : Int) + lSize k))
        (obl (inI64 ((2 : Int) + lSize k + n))
          (K (Out.ret (AVal.int IntKind.i64 ((2 : Int) + lSize k + n))))))))) := by kernel_rfl

end Go.Proofs.Ytjacnjecggedhaa
