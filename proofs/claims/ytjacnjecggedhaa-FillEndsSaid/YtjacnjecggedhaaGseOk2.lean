/-
  A piece's bytes: the contract.
-/
import Derived.Test.YtjacnjecggedhaaGseW2
namespace Go.Proofs.Ytjacnjecggedhaa
set_option linter.unusedVariables false
set_option linter.unusedSimpArgs false
open Go.RowKit Ev

/-- The bytes behind the first two. -/
def gBody (st en : Bool) (id total typ : Int) (lb data sum : List UInt8) : List UInt8 :=
  (if st && en then [] else [UInt8.ofNat (id % 256).toNat]) ++ (if st && !en then two total else []) ++ (if st then two typ ++ lb else []) ++ data ++ sum

def gErr (st en : Bool) (id total typ k : Int) (lb data sum : List UInt8) : Int :=
  if gMay st en id total typ k lb sum = false then 2 else if 4095 < (gBody st en id total typ lb data sum).length then 3 else 0

/-- The first two bytes, as a number. -/
def gHead (st en : Bool) (k : Int) (n : Nat) : Int := (if st then 32768 + k * 4096 else 12288) + (if en then 16384 else 0) + n

def gEnc (st en : Bool) (id total typ k : Int) (lb data sum : List UInt8) : List UInt8 :=
  if gErr st en id total typ k lb data sum = 0 then two (gHead st en k (gBody st en id total typ lb data sum).length) ++ gBody st en id total typ lb data sum else []

def fcEnc : FC := fun args _ => match args with
  | [.agg [.bool st, .bool en, .int .i64 id, .int .i64 total, .int .i64 typ, .int .i64 k, .str lb, .str data, .str sum]] => some (decide (lb.length + data.length + sum.length ≤ 9223372036854775000), .tup [.str (gEnc st en id total typ k lb data sum), .int .i64 (gErr st en id total typ k lb data sum)])
  | _ => none

theorem or16 : ∀ x : Fin 16, ∀ y : Fin 16, bitsA .or .u8 ((x.val : Int) * 16) (y.val : Int) = (x.val : Int) * 16 + (y.val : Int) := by decide
theorem or16' {x y : Int} (h1 : 0 ≤ x) (h2 : x < 16) (h3 : 0 ≤ y) (h4 : y < 16) : bitsA .or .u8 (x * 16) y = x * 16 + y := by
  have := or16 ⟨x.toNat, by omega⟩ ⟨y.toNat, by omega⟩
  simpa [Int.toNat_of_nonneg h1, Int.toNat_of_nonneg h3] using this
theorem or128 : ∀ k : Fin 4, bitsA .or .u8 128 ((k.val : Int) * 16 % 256) = (8 + (k.val : Int)) * 16 := by decide
theorem or128' {k : Int} (h1 : 0 ≤ k) (h2 : k < 4) : bitsA .or .u8 128 (k * 16 % 256) = (8 + k) * 16 := by
  have := or128 ⟨k.toNat, by omega⟩
  simpa [Int.toNat_of_nonneg h1] using this
theorem or64 : ∀ k : Fin 4, bitsA .or .u8 ((8 + (k.val : Int)) * 16) 64 = (12 + (k.val : Int)) * 16 := by decide
theorem or64' {k : Int} (h1 : 0 ≤ k) (h2 : k < 4) : bitsA .or .u8 ((8 + k) * 16) 64 = (12 + k) * 16 := by
  have := or64 ⟨k.toNat, by omega⟩
  simpa [Int.toNat_of_nonneg h1] using this

theorem gMay_k {st en : Bool} {id total typ k : Int} {lb sum : List UInt8} (h : gMay st en id total typ k lb sum = true) : 0 ≤ k ∧ k < 4 := by
  unfold gMay at h
  cases st <;> cases en <;> simp [lOk] at h <;> omega

theorem enc_sound : FcSound Try.prog 21 fcEnc := by
  refine fc_pure TG1ok.ctx (n := 100) Try.call21 (fun args H v h => ?_)
  unfold fcEnc at h
  split at h <;> simp only [Option.some.injEq, Prod.mk.injEq, decide_eq_true_eq, reduceCtorEq] at h
  obtain ⟨hl, rfl⟩ := h
  rename_i st en id total typ k lb data sum
  refine ⟨rfl, rfl, ?_⟩
  cases hm : gMay st en id total typ k lb sum with
  | false =>
    have e1 : gErr st en id total typ k lb data sum = 2 := by unfold gErr; rw [hm]; rfl
    have e2 : gEnc st en id total typ k lb data sum = [] := by unfold gEnc; rw [e1]; rfl
    rw [e1, e2]
    cases st <;> cases en
    · rw [w_enc_ff, hm]; exact rfl
    · rw [w_enc_ft, hm]; exact rfl
    · rw [w_enc_tf, hm]; exact rfl
    · rw [w_enc_tt, hm]; exact rfl
  | true =>
    have hk := gMay_k hm
    have key : ∀ (s : List UInt8) (a : Int), gBody st en id total typ lb data sum = s → (¬ 4095 < s.length → bitsA .or .u8 a ((s.length : Int) / 256 % 256) = a + (s.length : Int) / 256 % 256 ∧ a * 256 = gHead st en k 0) →
        (4095 < s.length → Out.ret (.tup [.str [], .int .i64 3]) = Out.ret (.tup [.str (gEnc st en id total typ k lb data sum), .int .i64 (gErr st en id total typ k lb data sum)])) ∧
        (¬ 4095 < s.length → Out.ret (.tup [.str ([UInt8.ofNat (bitsA .or .u8 a ((s.length : Int) / 256 % 256)).toNat, UInt8.ofNat ((s.length : Int) % 256).toNat] ++ s), .int .i64 0]) = Out.ret (.tup [.str (gEnc st en id total typ k lb data sum), .int .i64 (gErr st en id total typ k lb data sum)])) := by
      intro s a hs ha
      constructor
      · intro h
        have e1 : gErr st en id total typ k lb data sum = 3 := by unfold gErr; rw [hm, hs, if_neg (by simp), if_pos h]
        have e2 : gEnc st en id total typ k lb data sum = [] := by unfold gEnc; rw [e1]; rfl
        rw [e1, e2]
      · intro h
        have e1 : gErr st en id total typ k lb data sum = 0 := by unfold gErr; rw [hm, hs, if_neg (by simp), if_neg h]
        have e2 : gEnc st en id total typ k lb data sum = two (gHead st en k s.length) ++ s := by unfold gEnc; rw [e1, hs]; rfl
        obtain ⟨a1, a2⟩ := ha h
        rw [e1, e2, a1]
        have e3 : gHead st en k s.length = gHead st en k 0 + s.length := by unfold gHead; omega
        have e4 : 0 ≤ a ∧ a ≤ 240 := by
          unfold gHead at a2
          cases st <;> cases en <;> simp at a2 <;> omega
        unfold two
        rw [e3, ← a2]
        have e5 : (a * 256 + (s.length : Int)) / 256 % 256 = a + (s.length : Int) / 256 % 256 := by omega
        have e6 : (a * 256 + (s.length : Int)) % 256 = (s.length : Int) % 256 := by omega
        rw [e5, e6]
    have tw : (two typ).length = 2 ∧ (two total).length = 2 := ⟨rfl, rfl⟩
    cases st <;> cases en
    · rw [w_enc_ff, hm]
      obtain ⟨q1, q2⟩ := key ([] ++ [UInt8.ofNat (id % 256).toNat] ++ (data ++ sum)) 48 (by simp [gBody]) (fun h => ⟨or16' (x := 3) (by decide) (by decide) (by omega) (by omega), by simp [gHead]⟩)
      simp only [Bool.not_true, reduceCtorEq, false_implies, true_implies, true_and, branch_iff, obl_iff, decide_eq_true_eq, decide_eq_false_iff_not, Int.ofNat_lt]
      simp only [List.length_append, List.length_cons, List.length_nil] at q1 q2 ⊢
      refine ⟨by omega, by omega, fun h => q1 (by omega), fun h => ⟨by omega, q2 (by omega)⟩⟩
    · rw [w_enc_ft, hm]
      obtain ⟨q1, q2⟩ := key ([] ++ [UInt8.ofNat (id % 256).toNat] ++ (data ++ sum)) 112 (by simp [gBody]) (fun h => ⟨or16' (x := 7) (by decide) (by decide) (by omega) (by omega), by simp [gHead]⟩)
      simp only [Bool.not_true, reduceCtorEq, false_implies, true_implies, true_and, branch_iff, obl_iff, decide_eq_true_eq, decide_eq_false_iff_not, Int.ofNat_lt]
      simp only [List.length_append, List.length_cons, List.length_nil] at q1 q2 ⊢
      refine ⟨by omega, by omega, fun h => q1 (by omega), fun h => ⟨by omega, q2 (by omega)⟩⟩
    · rw [w_enc_tf, hm, or128' hk.1 hk.2]
      obtain ⟨q1, q2⟩ := key ([] ++ [UInt8.ofNat (id % 256).toNat] ++ two total ++ (two typ ++ lb) ++ (data ++ sum)) ((8 + k) * 16) (by simp [gBody]) (fun h => ⟨or16' (by omega) (by omega) (by omega) (by omega), by simp [gHead]; omega⟩)
      simp only [Bool.not_true, reduceCtorEq, false_implies, true_implies, true_and, branch_iff, obl_iff, Bool.true_and, inI64_iff, decide_eq_true_eq, decide_eq_false_iff_not, Int.ofNat_lt]
      simp only [List.length_append, List.length_cons, List.length_nil, tw.1, tw.2] at q1 q2 ⊢
      refine ⟨by omega, by omega, by omega, by omega, fun h => q1 (by omega), fun h => ⟨by omega, by omega, q2 (by omega)⟩⟩
    · rw [w_enc_tt, hm, or128' hk.1 hk.2, or64' hk.1 hk.2]
      obtain ⟨q1, q2⟩ := key ([] ++ (two typ ++ lb) ++ (data ++ sum)) ((12 + k) * 16) (by simp [gBody]) (fun h => ⟨or16' (by omega) (by omega) (by omega) (by omega), by simp [gHead]; omega⟩)
      simp only [Bool.not_true, reduceCtorEq, false_implies, true_implies, true_and, branch_iff, obl_iff, Bool.true_and, inI64_iff, decide_eq_true_eq, decide_eq_false_iff_not, Int.ofNat_lt]
      simp only [List.length_append, List.length_cons, List.length_nil, tw.1, tw.2] at q1 q2 ⊢
      refine ⟨by omega, by omega, by omega, by omega, fun h => q1 (by omega), fun h => ⟨by omega, by omega, q2 (by omega)⟩⟩

noncomputable def TG2 : Tabs := (TG1.addFc 21 fcEnc)
theorem TG2ok : TabsOk TG2 Try.prog := (TG1ok.addFc enc_sound)

end Go.Proofs.Ytjacnjecggedhaa
