/-
  Is a packet right: the contracts.
-/
import Derived.Test.YtofnedbclnlnmaaPduW3
namespace Go.Proofs.Ytofnedbclnlnmaa
set_option linter.unusedVariables false
set_option linter.unusedSimpArgs false
open Go.RowKit Ev

def pRight (total typ k : Int) (b data sum : List UInt8) : Int :=
  if pErr typ k b (data.length : Int) ≠ 0 then pErr typ k b (data.length : Int) else if total ≠ pTotal k b (data.length : Int) then 4 else if sum ≠ pSum typ k b data then 10 else 0

def fcRight : FC := fun args _ => match args with
  | [.int .i64 total, .int .i64 typ, .agg [.int .i64 k, .str b], .str data, .str sum] => some (decide (data.length ≤ 9223372036854775000), .int .i64 (pRight total typ k b data sum))
  | _ => none

theorem pSum_length {typ k : Int} {b data : List UInt8} (h : pErr typ k b (data.length : Int) = 0) : (pSum typ k b data).length = 4 := by
  unfold pSum; rw [if_pos h]; rfl

theorem u8_of_int {a b : UInt8} (h : ((a.toNat : Nat) : Int) = (b.toNat : Int)) : a = b := by
  apply UInt8.toNat_inj.1; omega

theorem quad (l s : List UInt8) (hl : l.length = 4) (hs : s.length = 4) :
    (decide
                ((if decide ((0 : Nat) < l.length) = true then
                    (↑(l.getD (0 : Nat) (0 : UInt8)).toNat : Int)
                  else (0 : Int)) =
                  if decide ((0 : Nat) < s.length) = true then (↑(s.getD (0 : Nat) (0 : UInt8)).toNat : Int)
                  else (0 : Int)) &&
              (decide
                  ((if decide ((1 : Nat) < l.length) = true then
                      (↑(l.getD (1 : Nat) (0 : UInt8)).toNat : Int)
                    else (0 : Int)) =
                    if decide ((1 : Nat) < s.length) = true then (↑(s.getD (1 : Nat) (0 : UInt8)).toNat : Int)
                    else (0 : Int)) &&
                (decide
                    ((if decide ((2 : Nat) < l.length) = true then
                        (↑(l.getD (2 : Nat) (0 : UInt8)).toNat : Int)
                      else (0 : Int)) =
                      if decide ((2 : Nat) < s.length) = true then (↑(s.getD (2 : Nat) (0 : UInt8)).toNat : Int)
                      else (0 : Int)) &&
                  (decide
                      ((if decide ((3 : Nat) < l.length) = true then
                          (↑(l.getD (3 : Nat) (0 : UInt8)).toNat : Int)
                        else (0 : Int)) =
                        if decide ((3 : Nat) < s.length) = true then (↑(s.getD (3 : Nat) (0 : UInt8)).toNat : Int)
                        else (0 : Int)) &&
                    true)))) = decide (s = l) := by
  match l, s, hl, hs with
  | [a, b, c, d], [x, y, z, w], _, _ =>
    simp only [List.length_cons, List.length_nil]
    by_cases h : ([x, y, z, w] : List UInt8) = [a, b, c, d]
    · rw [decide_eq_true h]
      injection h with h1 h; injection h with h2 h; injection h with h3 h; injection h with h4 h
      subst h1 h2 h3 h4
      simp
    · rw [decide_eq_false h]
      cases hb : (_ && _ : Bool) with
      | false => rfl
      | true =>
        exfalso; apply h
        simp only [Bool.and_eq_true, decide_eq_true_eq] at hb
        obtain ⟨h1, h2, h3, h4, _⟩ := hb
        have e1 : a = x := u8_of_int h1
        have e2 : b = y := u8_of_int h2
        have e3 : c = z := u8_of_int h3
        have e4 : d = w := u8_of_int h4
        rw [e1, e2, e3, e4]

theorem right_sound : FcSound Try.prog 16 fcRight := by
  refine fc_pure TP2ok.ctx (n := 100) Try.call16 (fun args H v h => ?_)
  unfold fcRight at h
  split at h <;> simp only [Option.some.injEq, Prod.mk.injEq, decide_eq_true_eq, reduceCtorEq] at h
  obtain ⟨hl, rfl⟩ := h
  rename_i total typ k b data sum
  refine ⟨rfl, rfl, ?_⟩
  rw [w_right]
  simp only [branch_iff, obl_iff, decide_eq_true_eq, decide_eq_false_iff_not, Bool.not_eq_true', Bool.not_eq_false']
  refine ⟨hl, fun h0 => ?_, fun h0 => ⟨fun h1 => ?_, fun h1 => ⟨fun h2 => ?_, fun h2 => ?_⟩⟩⟩
  · unfold pRight; rw [if_pos h0]
  · unfold pRight; rw [if_neg (by rw [h0]; decide), if_pos h1]
  · unfold pRight; rw [if_neg (by rw [h0]; decide), if_neg (by rw [h1]; exact fun h => h rfl), if_pos]
    intro hs; rw [hs, pSum_length h0] at h2; exact h2 rfl
  · have hs : sum.length = 4 := by omega
    have hq := quad _ _ (pSum_length h0) hs
    simp only [decide_eq_true_eq] at hq
    rw [hq]
    simp only [decide_eq_false_iff_not, decide_eq_true_eq]
    unfold pRight; rw [if_neg (by rw [h0]; decide), if_neg (by rw [h1]; exact fun h => h rfl)]
    exact ⟨fun h3 => by rw [if_pos h3], fun h3 => by rw [if_neg (fun h => h h3)]⟩

theorem rright_sound : FcSound Try.prog 17 fcRight := by
  refine fc_pure TP2ok.ctx (n := 100) Try.call17 (fun args H v h => ?_)
  unfold fcRight at h
  split at h <;> simp only [Option.some.injEq, Prod.mk.injEq, decide_eq_true_eq, reduceCtorEq] at h
  obtain ⟨hl, rfl⟩ := h
  rename_i total typ k b data sum
  refine ⟨rfl, rfl, ?_⟩
  rw [w_rright]
  simp only [branch_iff, obl_iff, decide_eq_true_eq, decide_eq_false_iff_not, Bool.not_eq_true', Bool.not_eq_false']
  refine ⟨hl, fun h0 => ?_, fun h0 => ⟨fun h1 => ?_, fun h1 => ⟨fun h2 => ?_, fun h2 => ?_⟩⟩⟩
  · unfold pRight; rw [if_pos h0]
  · unfold pRight; rw [if_neg (by rw [h0]; decide), if_pos h1]
  · unfold pRight; rw [if_neg (by rw [h0]; decide), if_neg (by rw [h1]; exact fun h => h rfl), if_pos h2]
  · unfold pRight; rw [if_neg (by rw [h0]; decide), if_neg (by rw [h1]; exact fun h => h rfl), if_neg (fun h => h h2)]

noncomputable def TP3 : Tabs := (TP2.addFc 16 fcRight).addFc 17 fcRight
theorem TP3ok : TabsOk TP3 Try.prog := (TP2ok.addFc right_sound).addFc rright_sound

end Go.Proofs.Ytofnedbclnlnmaa
