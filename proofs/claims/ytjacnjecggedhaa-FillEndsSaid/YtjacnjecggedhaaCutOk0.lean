/-
  May a packet be cut; so many bytes further: the contracts.
-/
import Derived.Test.YtjacnjecggedhaaCutW0
namespace Go.Proofs.Ytjacnjecggedhaa
set_option linter.unusedVariables false
set_option linter.unusedSimpArgs false
open Go.RowKit Ev

/-- A packet that is cut. -/
abbrev cutV (typ k : Int) (b data : List UInt8) (at_ id : Int) : AVal := .agg [.int .i64 typ, .int .i64 k, .str b, .str data, .int .i64 at_, .int .i64 id]

/-- A piece. -/
abbrev pieceV (st en : Bool) (id total typ k : Int) (b data sum : List UInt8) : AVal := .agg [.bool st, .bool en, .int .i64 id, .int .i64 total, .int .i64 typ, .int .i64 k, .str b, .str data, .str sum]

/-- May it be cut? -/
def cMay (typ k : Int) (b data : List UInt8) (at_ id : Int) : Bool := decide (0 ≤ typ ∧ typ ≤ 65535 ∧ lOk k b = true ∧ 0 ≤ at_ ∧ at_ < (data.length : Int) ∧ (data.length : Int) ≤ 65519 ∧ 0 ≤ id ∧ id < 256)

def fcMayC : FC := fun args _ => match args with
  | [.agg [.int .i64 typ, .int .i64 k, .str b, .str data, .int .i64 at_, .int .i64 id]] => some (true, .bool (cMay typ k b data at_ id))
  | _ => none

def fcGone : FC := fun args _ => match args with
  | [.agg [.int .i64 typ, .int .i64 k, .str b, .str data, .int .i64 at_, .int .i64 id], .int .i64 n] => some (inI64 (at_ + n), .agg [.int .i64 typ, .int .i64 k, .str b, .str data, .int .i64 (at_ + n), .int .i64 id])
  | _ => none

theorem mayC_sound : FcSound Try.prog 80 fcMayC := by
  refine fc_pure TGok.ctx (n := 100) Try.call80 (fun args H v h => ?_)
  unfold fcMayC at h
  split at h <;> cases h
  rename_i typ k b data at_ id
  refine ⟨rfl, rfl, ?_⟩
  rw [w_cmay]
  have hl : (decide ((if lOk k b = true then (0 : Int) else 2) = 0)) = lOk k b := by cases lOk k b <;> rfl
  simp only [branch_iff, obl_iff, hl, decide_eq_true_eq, decide_eq_false_iff_not, Bool.not_eq_true', Bool.not_eq_false']
  have t : ∀ {c : Bool}, cMay typ k b data at_ id = c → Out.ret (AVal.bool c) = Out.ret (AVal.bool (cMay typ k b data at_ id)) := fun h => by rw [h]
  have f : ¬ (0 ≤ typ ∧ typ ≤ 65535 ∧ lOk k b = true ∧ 0 ≤ at_ ∧ at_ < (data.length : Int) ∧ (data.length : Int) ≤ 65519 ∧ 0 ≤ id ∧ id < 256) → Out.ret (AVal.bool false) = Out.ret (AVal.bool (cMay typ k b data at_ id)) := fun h => t (decide_eq_false h)
  refine ⟨fun h1 => ⟨fun h2 => ⟨fun h3 => ⟨fun h4 => ⟨fun h5 => ⟨fun h6 => ⟨fun h7 => ?_, fun h7 => ?_⟩, fun h6 => ?_⟩, fun h5 => ?_⟩, fun h4 => ?_⟩, fun h3 => ?_⟩, fun h2 => ?_⟩, fun h1 => ?_⟩
  · refine t ?_
    unfold cMay
    rw [Bool.eq_iff_iff, decide_eq_true_eq, decide_eq_true_eq]
    exact ⟨fun h => h.2.2.2.2.2.2.2, fun h => ⟨h1, h2, h3, h4, h5, h6, h7, h⟩⟩
  · exact f (fun h => h7 h.2.2.2.2.2.2.1)
  · exact f (fun h => h6 h.2.2.2.2.2.1)
  · exact f (fun h => h5 h.2.2.2.2.1)
  · exact f (fun h => h4 h.2.2.2.1)
  · exact f (fun h => by rw [h3] at h; simp at h)
  · exact f (fun h => h2 h.2.1)
  · exact f (fun h => h1 h.1)

theorem gone_sound : FcSound Try.prog 82 fcGone := by
  refine fc_pure TGok.ctx (n := 100) Try.call82 (fun args H v h => ?_)
  unfold fcGone at h
  split at h <;> simp only [Option.some.injEq, Prod.mk.injEq, decide_eq_true_eq, reduceCtorEq] at h
  obtain ⟨hl, rfl⟩ := h
  rename_i typ k b data at_ id n
  refine ⟨rfl, rfl, ?_⟩
  rw [w_gone]
  exact obl_iff.2 ⟨hl, rfl⟩

noncomputable def TC0 : Tabs := ((TG.addFc 80 fcMayC).addFc 82 fcGone)
theorem TC0ok : TabsOk TC0 Try.prog := ((TGok.addFc mayC_sound).addFc gone_sound)

end Go.Proofs.Ytjacnjecggedhaa
