/-
  The functions of the program, as the reckoner takes them.
-/
import Derived.Test.YtcgnoegejmhgmaaEm6
import Derived.Test.YtcgnoegejmhgmaaProg
namespace Go.Proofs.Ytcgnoegejmhgmaa
set_option linter.unusedVariables false
set_option linter.unusedSimpArgs false
open Go.RowKit Ev

noncomputable def fnsT : List (Nat × Func) := [(3, Try.f3), (4, Try.f4), (5, Try.f5), (6, Try.f6), (7, Try.f7), (8, Try.f8), (9, Try.f9), (10, Try.f10), (11, Try.f11), (12, Try.f12), (13, Try.f13), (14, Try.f14), (15, Try.f15), (16, Try.f16), (17, Try.f17), (18, Try.f18), (19, Try.f19), (20, Try.f20), (21, Try.f21), (22, Try.f22), (23, Try.f23), (24, Try.f24), (25, Try.f25), (26, Try.f26), (27, Try.f27), (28, Try.f28), (29, Try.f29), (30, Try.f30), (31, Try.f31), (33, Try.f33), (34, Try.f34), (35, Try.f35), (36, Try.f36), (37, Try.f37), (38, Try.f38), (39, Try.f39), (40, Try.f40), (41, Try.f41), (42, Try.f42), (45, Try.f45), (46, Try.f46), (47, Try.f47), (49, Try.f49), (50, Try.f50), (51, Try.f51), (52, Try.f52)]

def rowsT : List (Nat × RowTy) := [(5, byteRow), (9, strRow), (3, intRow .i64), (79, intRow .u64)]

noncomputable def T0 : Tabs := { fns := fnsT, rows := rowsT, sms := [33], fcs := [], gcs := [], lcs := [], op := opBase }

theorem fnsOk : ∀ p ∈ fnsT, FnOk Try.prog p.1 p.2 := by
  unfold fnsT
  simp only [List.forall_mem_cons, List.not_mem_nil, false_implies, implies_true, and_true]
  exact ⟨⟨Try.func3, Try.call3, _, rfl, by kernel_rfl⟩, ⟨Try.func4, Try.call4, _, rfl, by kernel_rfl⟩, ⟨Try.func5, Try.call5, _, rfl, by kernel_rfl⟩, ⟨Try.func6, Try.call6, _, rfl, by kernel_rfl⟩, ⟨Try.func7, Try.call7, _, rfl, by kernel_rfl⟩, ⟨Try.func8, Try.call8, _, rfl, by kernel_rfl⟩, ⟨Try.func9, Try.call9, _, rfl, by kernel_rfl⟩, ⟨Try.func10, Try.call10, _, rfl, by kernel_rfl⟩, ⟨Try.func11, Try.call11, _, rfl, by kernel_rfl⟩, ⟨Try.func12, Try.call12, _, rfl, by kernel_rfl⟩, ⟨Try.func13, Try.call13, _, rfl, by kernel_rfl⟩, ⟨Try.func14, Try.call14, _, rfl, by kernel_rfl⟩, ⟨Try.func15, Try.call15, _, rfl, by kernel_rfl⟩, ⟨Try.func16, Try.call16, _, rfl, by kernel_rfl⟩, ⟨Try.func17, Try.call17, _, rfl, by kernel_rfl⟩, ⟨Try.func18, Try.call18, _, rfl, by kernel_rfl⟩, ⟨Try.func19, Try.call19, _, rfl, by kernel_rfl⟩, ⟨Try.func20, Try.call20, _, rfl, by kernel_rfl⟩, ⟨Try.func21, Try.call21, _, rfl, by kernel_rfl⟩, ⟨Try.func22, Try.call22, _, rfl, by kernel_rfl⟩, ⟨Try.func23, Try.call23, _, rfl, by kernel_rfl⟩, ⟨Try.func24, Try.call24, _, rfl, by kernel_rfl⟩, ⟨Try.func25, Try.call25, _, rfl, by kernel_rfl⟩, ⟨Try.func26, Try.call26, _, rfl, by kernel_rfl⟩, ⟨Try.func27, Try.call27, _, rfl, by kernel_rfl⟩, ⟨Try.func28, Try.call28, _, rfl, by kernel_rfl⟩, ⟨Try.func29, Try.call29, _, rfl, by kernel_rfl⟩, ⟨Try.func30, Try.call30, _, rfl, by kernel_rfl⟩, ⟨Try.func31, Try.call31, _, rfl, by kernel_rfl⟩, ⟨Try.func33, Try.call33, _, rfl, by kernel_rfl⟩, ⟨Try.func34, Try.call34, _, rfl, by kernel_rfl⟩, ⟨Try.func35, Try.call35, _, rfl, by kernel_rfl⟩, ⟨Try.func36, Try.call36, _, rfl, by kernel_rfl⟩, ⟨Try.func37, Try.call37, _, rfl, by kernel_rfl⟩, ⟨Try.func38, Try.call38, _, rfl, by kernel_rfl⟩, ⟨Try.func39, Try.call39, _, rfl, by kernel_rfl⟩, ⟨Try.func40, Try.call40, _, rfl, by kernel_rfl⟩, ⟨Try.func41, Try.call41, _, rfl, by kernel_rfl⟩, ⟨Try.func42, Try.call42, _, rfl, by kernel_rfl⟩, ⟨Try.func45, Try.call45, _, rfl, by kernel_rfl⟩, ⟨Try.func46, Try.call46, _, rfl, by kernel_rfl⟩, ⟨Try.func47, Try.call47, _, rfl, by kernel_rfl⟩, ⟨Try.func49, Try.call49, _, rfl, by kernel_rfl⟩, ⟨Try.func50, Try.call50, _, rfl, by kernel_rfl⟩, ⟨Try.func51, Try.call51, _, rfl, by kernel_rfl⟩, ⟨Try.func52, Try.call52, _, rfl, by kernel_rfl⟩⟩

theorem rowsOk : ∀ p ∈ rowsT, RowOk Try.prog p.1 p.2 := by
  unfold rowsT
  simp only [List.forall_mem_cons, List.not_mem_nil, false_implies, implies_true, and_true]
  exact ⟨fun i hi => by cases (show Try.prog.info? 5 = some Try.t5 from by kernel_rfl).symm.trans hi; exact ⟨_, rfl, fun ρ => rfl⟩, fun i hi => by cases (show Try.prog.info? 9 = some Try.t9 from by kernel_rfl).symm.trans hi; exact ⟨_, rfl, fun ρ => rfl⟩, fun i hi => by cases (show Try.prog.info? 3 = some Try.t3 from by kernel_rfl).symm.trans hi; exact ⟨_, rfl, fun ρ => rfl⟩, fun i hi => by cases (show Try.prog.info? 79 = some Try.t79 from by kernel_rfl).symm.trans hi; exact ⟨_, rfl, fun ρ => rfl⟩⟩

theorem T0ok : TabsOk T0 Try.prog := ⟨by kernel_rfl, fnsOk, rowsOk, fun p hp => (by cases hp), fun p hp => (by cases hp), fun p hp => (by cases hp), opBase_sound _⟩

end Go.Proofs.Ytcgnoegejmhgmaa
