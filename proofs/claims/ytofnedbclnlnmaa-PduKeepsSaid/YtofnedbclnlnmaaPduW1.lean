/-
  Walks, printed: what calls come to, as they are reckoned.
-/
import Derived.Test.YtofnedbclnlnmaaPduFc
namespace Go.Proofs.Ytofnedbclnlnmaa
set_option linter.unusedVariables false
set_option linter.unusedSimpArgs false
open Go.RowKit Ev

set_option maxRecDepth 100000 in
theorem w_two (n : Int) (K : Out → Prop) : (callC (TP0.ctx Try.prog) 100 22 [.int .i64 n] ⟨0, []⟩ (fun o _ => K o)
) = (K
  (Out.ret
    (AVal.str
      [UInt8.ofNat (n / (256 : Int) % (256 : Int)).toNat, UInt8.ofNat (n % (256 : Int)).toNat]))) := by kernel_rfl

set_option maxRecDepth 100000 in
theorem w_rtwo (n : Int) (K : Out → Prop) : (callC (TP0.ctx Try.prog) 100 27 [.int .i64 n] ⟨0, []⟩ (fun o _ => K o)
) = (obl (decide ((0 : Int) ≤ n ∧ (0 : Int) < (256 : Int)) && inI64 (n / (256 : Int)))
  (obl (decide ((0 : Int) ≤ n ∧ (0 : Int) < (256 : Int)))
    (K
      (Out.ret
        (AVal.str
          [UInt8.ofNat (n / (256 : Int) % (256 : Int)).toNat,
            UInt8.ofNat (n % (256 : Int) % (256 : Int)).toNat]))))) := by kernel_rfl

set_option maxRecDepth 100000 in
theorem w_joined (e : Nat) (s1 s2 s3 s4 : List UInt8) (K : Out → Prop) : (callC (TP0.ctx Try.prog) 100 23 [.sl 0 0 1 0 4 (some 4)] ⟨1, [(0, .row e strRow [s1, s2, s3, s4] .ro)]⟩ (fun o _ => K o)
) = (obl
  (decide ((↑((0 : Nat) + List.length ([s1, s2, s3, s4].getD (0 : Nat) [])) : Int) ≤ (9223372036854775807 : Int)))
  (obl
    (decide
      ((↑(([] ++ [s1, s2, s3, s4].getD (0 : Nat) []).length + List.length ([s1, s2, s3, s4].getD (1 : Nat) [])) : Int) ≤
        (9223372036854775807 : Int)))
    (obl
      (decide
        ((↑(([] ++ [s1, s2, s3, s4].getD (0 : Nat) [] ++ [s1, s2, s3, s4].getD (1 : Nat) []).length +
                List.length ([s1, s2, s3, s4].getD (2 : Nat) [])) :
            Int) ≤
          (9223372036854775807 : Int)))
      (obl
        (decide
          ((↑(([] ++ [s1, s2, s3, s4].getD (0 : Nat) [] ++ [s1, s2, s3, s4].getD (1 : Nat) [] ++
                      [s1, s2, s3, s4].getD (2 : Nat) []).length +
                  List.length ([s1, s2, s3, s4].getD (3 : Nat) [])) :
              Int) ≤
            (9223372036854775807 : Int)))
        (K
          (Out.ret
            (AVal.str
              ([] ++ [s1, s2, s3, s4].getD (0 : Nat) [] ++ [s1, s2, s3, s4].getD (1 : Nat) [] ++
                  [s1, s2, s3, s4].getD (2 : Nat) [] ++
                [s1, s2, s3, s4].getD (3 : Nat) [])))))))) := by kernel_rfl

set_option maxRecDepth 100000 in
theorem w_total (k : Int) (b : List UInt8) (n : Int) (K : Out → Prop) : (callC (TP0.ctx Try.prog) 100 12 [.agg [.int .i64 k, .str b], .int .i64 n] ⟨0, []⟩ (fun o _ => K o)
) = (branch (!decide ((if lOk k b = true then (0 : Int) else (2 : Int)) = (0 : Int)))
  (K (Out.ret (AVal.int IntKind.i64 (0 : Int))))
  (branch (decide (n < (0 : Int))) (K (Out.ret (AVal.int IntKind.i64 (0 : Int))))
    (branch (decide ((65535 : Int) < n)) (K (Out.ret (AVal.int IntKind.i64 (0 : Int))))
      (obl (inI64 ((2 : Int) + lSize k))
        (obl (inI64 ((2 : Int) + lSize k + n))
          (K (Out.ret (AVal.int IntKind.i64 ((2 : Int) + lSize k + n))))))))) := by kernel_rfl

set_option maxRecDepth 100000 in
theorem w_rtotal (k : Int) (b : List UInt8) (n : Int) (K : Out → Prop) : (callC (TP0.ctx Try.prog) 100 13 [.agg [.int .i64 k, .str b], .int .i64 n] ⟨0, []⟩ (fun o _ => K o)
) = (branch (!lOk k b) (K (Out.ret (AVal.int IntKind.i64 (0 : Int))))
  (branch (decide (n < (0 : Int))) (K (Out.ret (AVal.int IntKind.i64 (0 : Int))))
    (branch (decide ((65535 : Int) < n)) (K (Out.ret (AVal.int IntKind.i64 (0 : Int))))
      (obl (inI64 ((2 : Int) + lSize k))
        (obl (inI64 ((2 : Int) + lSize k + n))
          (K (Out.ret (AVal.int IntKind.i64 ((2 : Int) + lSize k + n))))))))) := by kernel_rfl

set_option maxRecDepth 100000 in
theorem w_four (n : Int) (K : Out → Prop) : (callC (TP0.ctx Try.prog) 100 18 [.int .u32 n] ⟨0, []⟩ (fun o _ => K o)
) = (K
  (Out.ret
    (AVal.str
      [UInt8.ofNat (n / (16777216 : Int) % (256 : Int)).toNat, UInt8.ofNat (n / (65536 : Int) % (256 : Int)).toNat,
        UInt8.ofNat (n / (256 : Int) % (256 : Int)).toNat, UInt8.ofNat (n % (256 : Int)).toNat]))) := by kernel_rfl

set_option maxRecDepth 100000 in
theorem w_abc (K : Out → Prop) : (callC (TP0.ctx Try.prog) 100 28 [] ⟨0, []⟩ (fun o _ => K o)
) = (K
  (Out.ret
    (AVal.agg [AVal.int IntKind.i64 (1 : Int), AVal.str [(97 : UInt8), (98 : UInt8), (99 : UInt8)]]))) := by kernel_rfl

set_option maxRecDepth 100000 in
theorem w_label (kind : Int) (b0 b1 b2 b3 b4 b5 : Int) (K : Out → Prop) : (callC (TP0.ctx Try.prog) 100 15 [.int .u8 kind, .agg [.int .u8 b0, .int .u8 b1, .int .u8 b2, .int .u8 b3, .int .u8 b4, .int .u8 b5]] ⟨0, []⟩ (fun o _ => K o)
) = (obl (decide ((0 : Int) ≤ kind ∧ (0 : Int) < (3 : Int)))
  (branch (decide (kind % (3 : Int) = (0 : Int)))
    (K
      (Out.ret
        (AVal.agg
          [AVal.int IntKind.i64 (0 : Int),
            AVal.str
              [UInt8.ofNat b0.toNat, UInt8.ofNat b1.toNat, UInt8.ofNat b2.toNat, UInt8.ofNat b3.toNat,
                UInt8.ofNat b4.toNat, UInt8.ofNat b5.toNat]])))
    (branch (decide (kind % (3 : Int) = (1 : Int)))
      (K
        (Out.ret
          (AVal.agg
            [AVal.int IntKind.i64 (1 : Int),
              AVal.str [UInt8.ofNat b0.toNat, UInt8.ofNat b1.toNat, UInt8.ofNat b2.toNat]])))
      (K (Out.ret (AVal.agg [AVal.int IntKind.i64 (2 : Int), AVal.str []])))))) := by kernel_rfl

set_option maxRecDepth 100000 in
theorem w_text (s : List UInt8) (n : Int) (K : Out → Prop) : (callC (TP0.ctx Try.prog) 100 9 [.agg [.str s, .int .u32 n]] ⟨0, []⟩ (fun o _ => K o)
) = (obl
  (decide ((0 : Int) ≤ min (↑s.length : Int) (70000 : Int) ∧ min (↑s.length : Int) (70000 : Int) ≤ (↑s.length : Int)))
  (obl (decide ((0 : Int) ≤ n ∧ (0 : Int) < (70000 : Int)))
    (obl (inI64 (n % (70000 : Int)))
      (obl
        (decide
          ((0 : Int) ≤ n % (70000 : Int) ∧
            n % (70000 : Int) = n % (70000 : Int) ∧
              n % (70000 : Int) ≤ (9223372036854775807 : Int) ∧
                (1 : Int) * (n % (70000 : Int)) ≤ (281474976710656 : Int) ∧
                  (1 : Nat) = (1 : Nat) ∧ (0 : Nat) < (1 : Nat)))
        (obl (decide ((0 : Nat) + (n % (70000 : Int)).toNat ≤ (repN (n % (70000 : Int)).toNat (0 : UInt8)).length))
          (obl
            (decide
              ((↑((List.take (min (↑s.length : Int) (70000 : Int)).toNat s).length +
                      (List.take (n % (70000 : Int)).toNat
                          (List.drop (0 : Nat) (repN (n % (70000 : Int)).toNat (0 : UInt8)))).length) :
                  Int) ≤
                (9223372036854775807 : Int)))
            (K
              (Out.ret
                (AVal.str
                  (List.take (min (↑s.length : Int) (70000 : Int)).toNat s ++
                    List.take (n % (70000 : Int)).toNat
                      (List.drop (0 : Nat) (repN (n % (70000 : Int)).toNat (0 : UInt8))))))))))))) := by kernel_rfl

end Go.Proofs.Ytofnedbclnlnmaa
