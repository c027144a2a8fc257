/-
  The closed law of fields: its four parts, joined.
-/
import Derived.Test.YtjacnjecggedhaaFlK1
import Derived.Test.YtjacnjecggedhaaFlK2
import Derived.Test.YtjacnjecggedhaaFlK3
import Derived.Test.YtjacnjecggedhaaFlK4
import Derived.Test.YtjacnjecggedhaaEm5
namespace Go.Proofs.Ytjacnjecggedhaa
set_option linter.unusedVariables false
set_option linter.unusedSimpArgs false
open Go.RowKit Ev

noncomputable abbrev kQ : AExit → Env → AHeap → Prop := endA (TF.ctx Try.prog).P Try.f6 (fun o _ => o = .ret (.bool true))

theorem kIn (p : List Bool) : InFn (TF.ctx Try.prog) 6 (codeAt p (bodyC Try.f6)) :=
  inFn_at TFok.ctx (fn := Try.f6) (by kernel_rfl) (by kernel_rfl) p

set_option maxRecDepth 100000 in
theorem known_good4 : Gd (TF.ctx Try.prog) 6 ⟨0, []⟩ (tailN 8 (bodyC Try.f6)) kQ k3E k3H := by
  refine Gd.walk TFok.ctx (Nat.le_refl _) (kIn [true, true, true, true, true, true, true, true]) (Eq.mpr (w_known_f4 _) ?_)
  (repeat' apply And.intro) <;> first | rfl | trivial | decide

set_option maxRecDepth 100000 in
theorem known_good3 : Gd (TF.ctx Try.prog) 6 ⟨0, []⟩ (tailN 7 (bodyC Try.f6)) kQ k2E k2H := by
  refine Gd.walkN TFok.ctx (Nat.le_refl _) (It := itK3) 1 400 _ _ _ (by kernel_rfl) (kIn [true, true, true, true, true, true, true]) (Eq.mpr (w_known_f3 _) ?_) (fun E H h => ?_)
  · (repeat' apply And.intro) <;> first | rfl | trivial
  · exact Gd.sub (base := 0) (Nat.le_refl _) (Nat.zero_le _) known_good4 (by kernel_rfl) (by kernel_rfl) h.1 h.2

set_option maxRecDepth 100000 in
theorem known_good2 : Gd (TF.ctx Try.prog) 6 ⟨0, []⟩ (tailN 3 (bodyC Try.f6)) kQ k1E k1H := by
  refine Gd.walkN TFok.ctx (Nat.le_refl _) (It := itK2) 4 400 _ _ _ (by kernel_rfl) (kIn [true, true, true]) (Eq.mpr (w_known_f2 _) ?_) (fun E H h => ?_)
  · (repeat' apply And.intro) <;> first | rfl | trivial
  · exact Gd.sub (base := 0) (Nat.le_refl _) (Nat.zero_le _) known_good3 (by kernel_rfl) (by kernel_rfl) h.1 h.2

set_option maxRecDepth 100000 in
theorem known_good1 : Gd (TF.ctx Try.prog) 6 ⟨0, []⟩ (bodyC Try.f6) kQ (env0 [] 0) ⟨0, []⟩ := by
  refine Gd.walkN TFok.ctx (Nat.le_refl _) (It := itK1) 3 400 _ _ _ (by kernel_rfl) (kIn []) (Eq.mpr (w_known_f1 _) ?_) (fun E H h => ?_)
  · (repeat' apply And.intro) <;> first | rfl | trivial
  · exact Gd.sub (base := 0) (Nat.le_refl _) (Nat.zero_le _) known_good2 (by kernel_rfl) (by kernel_rfl) h.1 h.2

theorem fillKnown_raw (W : World) :
    Calls Try.prog 6 #[] W fun e w' => e = .returned (.bool true) ∧ Below W.heap.size W w' :=
  law_good TFok.ctx (fn := Try.f6) (by kernel_rfl) (by kernel_rfl) (args := []) known_good1 rfl rho0 W

end Go.Proofs.Ytjacnjecggedhaa
