/-
  The laws of packets: they return true.
-/
import Derived.Test.YtofnedbclnlnmaaPduW5
import Derived.Test.YtofnedbclnlnmaaEm4
import Derived.Test.YtofnedbclnlnmaaCrcTurn
namespace Go.Proofs.Ytofnedbclnlnmaa
set_option linter.unusedVariables false
set_option linter.unusedSimpArgs false
open Go.RowKit Ev

theorem tells_true (typ k n : Int) (b s : List UInt8) (hn : 0 ≤ n) : callC (TP4.ctx Try.prog) 100 3 [.int .i64 typ, .agg [.int .i64 k, .str b], .agg [.str s, .int .u32 n]] ⟨0, []⟩ (fun o _ => o = .ret (.bool true)) := by
  rw [w_tells]
  have e : (textOf s n).length ≤ 9223372036854775000 := by
    rw [textOf_eq, List.length_append, List.length_take, List.length_replicate]; omega
  simp only [obl_iff, branch_iff, decide_eq_true_eq, decide_eq_false_iff_not, hn, e, not_true_eq_false, false_implies, and_true, true_and, implies_true]

theorem lright_true (total typ k : Int) (b data sum : List UInt8) : callC (TP4.ctx Try.prog) 100 5 [.agg [.int .i64 total, .int .i64 typ, .int .i64 k, .str b, .str data, .str sum]] ⟨0, []⟩ (fun o _ => o = .ret (.bool true)) := by
  rw [w_lright]
  have e : (List.take (min (↑data.length : Int) (70000 : Int)).toNat data).length ≤ 9223372036854775000 := by rw [List.length_take]; omega
  simp only [obl_iff, branch_iff, decide_eq_true_eq, decide_eq_false_iff_not, e, not_true_eq_false, false_implies, and_true, true_and, implies_true]
  omega

theorem known_true : callC (TP4.ctx Try.prog) 100 8 [] ⟨0, []⟩ (fun o _ => o = .ret (.bool true)) := by
  rw [w_known]
  have e (n : Nat) : (List.take n (List.drop (0 : Nat) (repN n (0 : UInt8)))).length = n := by
    rw [repN_eq, List.drop_zero, List.length_take, List.length_replicate, Nat.min_self]
  have e1 : pErr 0 0 [97, 98, 99, 100, 101, 102] ((List.take 65527 (List.drop 0 (repN 65527 (0 : UInt8)))).length : Int) = 0 := by rw [e]; exact pErr_0 (by decide) (by decide)
  have e2 : pErr 0 0 [97, 98, 99, 100, 101, 102] ((List.take 65528 (List.drop 0 (repN 65528 (0 : UInt8)))).length : Int) = 3 := by rw [e]; exact pErr_3 (by decide) (by decide)
  have e3 := pSum_length e1
  have r (n : Nat) : n ≤ (repN n (0 : UInt8)).length := by rw [repN_eq, List.length_replicate]; exact Nat.le_refl _
  simp only [obl_iff, branch_iff, decide_eq_true_eq, decide_eq_false_iff_not, e1, e2, e3]
  exact ⟨r _, by rw [e]; decide, r _, by rw [e]; decide, fun _ => ⟨fun _ => ⟨fun _ => trivial, fun h => absurd trivial h⟩, fun h => absurd rfl h⟩, fun h => absurd trivial h⟩

/-! ### sums -/

theorem bits_or (x y : Int) (hx : 0 ≤ x) (hx' : x < 4294967296) (hy : 0 ≤ y) (hy' : y < 4294967296) : bitsA .or .u32 x y = ((x.toNat ||| y.toNat : Nat) : Int) := by
  unfold bitsA
  have e1 : (BitVec.ofInt IntKind.u32.bits x ||| BitVec.ofInt IntKind.u32.bits y).toNat = x.toNat ||| y.toNat := by
    rw [BitVec.toNat_or, BitVec.toNat_ofInt, BitVec.toNat_ofInt]
    congr 1 <;> · simp only [IntKind.bits]; congr 1; omega
  have e2 : x.toNat ||| y.toNat < 2 ^ 32 := Nat.or_lt_two_pow (by omega) (by omega)
  show IntKind.u32.wrap _ = _
  rw [e1]
  generalize x.toNat ||| y.toNat = z at *
  show (z : Int) % 4294967296 = z
  omega

theorem bits_xor (x y : Int) (hx : 0 ≤ x) (hx' : x < 4294967296) (hy : 0 ≤ y) (hy' : y < 4294967296) : bitsA .xor .u32 x y = ((x.toNat ^^^ y.toNat : Nat) : Int) ∧ x.toNat ^^^ y.toNat < 4294967296 := by
  unfold bitsA
  have e1 : (BitVec.ofInt IntKind.u32.bits x ^^^ BitVec.ofInt IntKind.u32.bits y).toNat = x.toNat ^^^ y.toNat := by
    rw [BitVec.toNat_xor, BitVec.toNat_ofInt, BitVec.toNat_ofInt]
    congr 1 <;> · simp only [IntKind.bits]; congr 1; omega
  have e2 : x.toNat ^^^ y.toNat < 2 ^ 32 := Nat.xor_lt_two_pow (by omega) (by omega)
  refine ⟨?_, e2⟩
  show IntKind.u32.wrap _ = _
  rw [e1]
  generalize x.toNat ^^^ y.toNat = z at *
  show (z : Int) % 4294967296 = z
  omega

theorem or_add (m q b : Nat) (hb : b < 2 ^ m) : q * 2 ^ m ||| b = q * 2 ^ m + b := by
  rw [Nat.mul_comm, Nat.two_pow_add_eq_or_of_lt hb]

theorem join_four (l : List UInt8) (c : Int) (hl : l = four c) (h0 : 0 ≤ c) (h1 : c < 4294967296) :
    bitsA .or .u32 (bitsA .or .u32 (bitsA .or .u32 ((↑(l.getD 0 0).toNat : Int) % 4294967296 * 16777216 % 4294967296) ((↑(l.getD 1 0).toNat : Int) % 4294967296 * 65536 % 4294967296)) ((↑(l.getD 2 0).toNat : Int) % 4294967296 * 256 % 4294967296)) ((↑(l.getD 3 0).toNat : Int) % 4294967296) = c := by
  subst hl
  unfold four
  simp only [List.getD_cons_zero, List.getD_cons_succ, UInt8.toNat_ofNat']
  have a0 : (((c / 16777216 % 256).toNat % 2 ^ 8 : Nat) : Int) % 4294967296 * 16777216 % 4294967296 = (((c / 16777216).toNat * 2 ^ 24 : Nat) : Int) := by omega
  have a1 : (((c / 65536 % 256).toNat % 2 ^ 8 : Nat) : Int) % 4294967296 * 65536 % 4294967296 = (((c / 65536 % 256).toNat * 2 ^ 16 : Nat) : Int) := by omega
  have a2 : (((c / 256 % 256).toNat % 2 ^ 8 : Nat) : Int) % 4294967296 * 256 % 4294967296 = (((c / 256 % 256).toNat * 2 ^ 8 : Nat) : Int) := by omega
  have a3 : (((c % 256).toNat % 2 ^ 8 : Nat) : Int) % 4294967296 = (((c % 256).toNat : Nat) : Int) := by omega
  rw [a0, a1, a2, a3]
  rw [bits_or ((c / 16777216).toNat * 2 ^ 24 : Nat) ((c / 65536 % 256).toNat * 2 ^ 16 : Nat) (by omega) (by omega) (by omega) (by omega), Int.toNat_natCast, Int.toNat_natCast, or_add 24 _ _ (by omega)]
  rw [show (c / 16777216).toNat * 2 ^ 24 + (c / 65536 % 256).toNat * 2 ^ 16 = (c / 65536).toNat * 2 ^ 16 by omega]
  rw [bits_or ((c / 65536).toNat * 2 ^ 16 : Nat) ((c / 256 % 256).toNat * 2 ^ 8 : Nat) (by omega) (by omega) (by omega) (by omega), Int.toNat_natCast, Int.toNat_natCast, or_add 16 _ _ (by omega)]
  rw [show (c / 65536).toNat * 2 ^ 16 + (c / 256 % 256).toNat * 2 ^ 8 = (c / 256).toNat * 2 ^ 8 by omega]
  rw [bits_or ((c / 256).toNat * 2 ^ 8 : Nat) ((c % 256).toNat : Nat) (by omega) (by omega) (by omega) (by omega), Int.toNat_natCast, Int.toNat_natCast, or_add 8 _ _ (by omega)]
  omega

theorem four_inj {a b : Int} (ha : 0 ≤ a) (ha' : a < 4294967296) (hb : 0 ≤ b) (hb' : b < 4294967296) (h : four a = four b) : a = b := by
  have q := join_four (four a) a rfl ha ha'
  rw [h] at q
  exact q.symm.trans (join_four (four b) b rfl hb hb') |>.symm ▸ rfl

theorem lab_ok (kind : Int) (l : List UInt8) (h : l.length = 6) : lOk (labK kind) (labB kind l) = true := by
  unfold lOk labK labB lSize
  have : kind % 3 = 0 ∨ kind % 3 = 1 ∨ kind % 3 = 2 := by omega
  rcases this with e | e | e <;> rw [e] <;> simp [h]

theorem sums_true (typ kind bits l0 l1 l2 l3 l4 l5 : Int) (data : List UInt8) (ht : 0 ≤ typ) (ht' : typ ≤ 65535) (hk : 0 ≤ kind) (hb : 0 ≤ bits) (hb' : bits < 4294967296) :
    callC (TP4.ctx Try.prog) 100 7 [.agg [.int .u16 typ, .int .u8 kind, .int .u8 l0, .int .u8 l1, .int .u8 l2, .int .u8 l3, .int .u8 l4, .int .u8 l5, .str data], .int .u32 bits] ⟨0, []⟩ (fun o _ => o = .ret (.bool true)) := by
  rw [w_sums]
  have hl := lab_ok kind (List.map (fun n => UInt8.ofNat n.toNat) [l0, l1, l2, l3, l4, l5]) rfl
  generalize (labB kind (List.map (fun n => UInt8.ofNat n.toNat) [l0, l1, l2, l3, l4, l5])) = B at *
  generalize labK kind = k at *
  have e : (List.take (min (↑data.length : Int) (2000 : Int)).toNat data).length ≤ 2000 := by rw [List.length_take]; omega
  have hm : (0 : Int) ≤ min (↑data.length : Int) (2000 : Int) ∧ min (↑data.length : Int) (2000 : Int) ≤ (↑data.length : Int) := by omega
  generalize (List.take (min (↑data.length : Int) (2000 : Int)).toNat data) = D at *
  have hz := lSize_le k
  have h0 : pErr typ k B (D.length : Int) = 0 := pErr_iff.2 ⟨ht, ht', hl, by omega⟩
  have hS : pSum typ k B D = four (crcN (pText typ k B D)) := by unfold pSum; rw [if_pos h0]
  have hc := crcN_bd (pText typ k B D)
  have hL : ((pSum typ k B D).length : Int) = 4 := by rw [hS]; rfl
  have hi : inI64 typ = true := inI64_iff.2 (by omega)
  obtain ⟨hx, hx'⟩ := bits_xor (crcN (pText typ k B D)) bits hc.1 hc.2 hb hb'
  have htot : pRight (pTotal k B (D.length : Int)) typ k B D (four (bitsA .xor .u32 (crcN (pText typ k B D)) bits)) = if bits = 0 then 0 else 10 := by
    unfold pRight
    rw [if_neg (by rw [h0]; decide), if_neg (fun h => h rfl), hS, hx]
    by_cases hz : bits = 0
    · rw [if_pos hz, if_neg]
      intro h; apply h; subst hz
      rw [show (0 : Int).toNat = 0 from rfl, Nat.xor_zero, Int.toNat_of_nonneg hc.1]
    · rw [if_neg hz, if_pos]
      intro h
      have := four_inj (by omega) (by omega) hc.1 hc.2 h
      apply hz
      have h2 : (crcN (pText typ k B D)).toNat ^^^ bits.toNat = (crcN (pText typ k B D)).toNat := by omega
      have h3 : (crcN (pText typ k B D)).toNat ^^^ ((crcN (pText typ k B D)).toNat ^^^ bits.toNat) = 0 := by rw [h2, Nat.xor_self]
      rw [← Nat.xor_assoc, Nat.xor_self, Nat.zero_xor] at h3
      omega
  rw [join_four _ _ hS hc.1 hc.2, htot]
  simp only [obl_iff, branch_iff, decide_eq_true_eq, decide_eq_false_iff_not, Bool.not_eq_true', Bool.not_eq_false', h0, hL, hi, hm]
  refine ⟨⟨trivial, trivial⟩, hk, trivial, by omega, fun h => absurd trivial h, fun _ => ⟨fun h => absurd trivial h, fun _ => ⟨by decide, by decide, by decide, by decide, trivial, by omega, ?_⟩⟩⟩
  by_cases hz : bits = 0 <;> simp [hz]

end Go.Proofs.Ytofnedbclnlnmaa
