/-
  A piece's size, and whether it may be: the contracts.
-/
import Derived.Test.YtjacnjecggedhaaGseW3
namespace Go.Proofs.Ytjacnjecggedhaa
set_option linter.unusedVariables false
set_option linter.unusedSimpArgs false
open Go.RowKit Ev

def fcGSize : FC := fun args _ => match args with
  | [.agg [.bool st, .bool en, .int .i64 id, .int .i64 total, .int .i64 typ, .int .i64 k, .str lb, .str data, .str sum]] => some (decide (lb.length + data.length + sum.length ≤ 9223372036854775000), .tup [.int .i64 ((gEnc st en id total typ k lb data sum).length : Int), .int .i64 (gErr st en id total typ k lb data sum)])
  | _ => none

def fcGCheck : FC := fun args _ => match args with
  | [.agg [.bool st, .bool en, .int .i64 id, .int .i64 total, .int .i64 typ, .int .i64 k, .str lb, .str data, .str sum]] => some (decide (lb.length + data.length + sum.length ≤ 9223372036854775000), .int .i64 (gErr st en id total typ k lb data sum))
  | _ => none

theorem gsize_sound : FcSound Try.prog 14 fcGSize := by
  refine fc_pure TG2ok.ctx (n := 100) Try.call14 (fun args H v h => ?_)
  unfold fcGSize at h
  split at h <;> simp only [Option.some.injEq, Prod.mk.injEq, reduceCtorEq] at h
  obtain ⟨hl, rfl⟩ := h
  refine ⟨rfl, rfl, ?_⟩
  rw [w_gsize]
  exact obl_iff.2 ⟨hl, rfl⟩

noncomputable def TG : Tabs := (TG2.addFc 14 fcGSize)
theorem TGok : TabsOk TG Try.prog := (TG2ok.addFc gsize_sound)

end Go.Proofs.Ytjacnjecggedhaa
