/-
  Texts for RowFillIs: of the reckoner, walks, contracts and plain laws that its row stands on.
-/
import Derived.Test.YtjacnjecggedhaaIb4
import Derived.Test.YtjacnjecggedhaaProg
namespace Go.Proofs.Ytjacnjecggedhaa
set_option linter.unusedVariables false
set_option linter.unusedSimpArgs false
open Go.RowKit Ev
noncomputable def fnsT : List (Nat × Func) := [(3, Try.f3), (4, Try.f4), (5, Try.f5), (6, Try.f6), (7, Try.f7), (8, Try.f8), (9, Try.f9), (10, Try.f10), (11, Try.f11), (12, Try.f12), (13, Try.f13), (14, Try.f14), (15, Try.f15), (16, Try.f16), (17, Try.f17), (18, Try.f18), (19, Try.f19), (20, Try.f20), (21, Try.f21), (22, Try.f22), (23, Try.f23), (24, Try.f24), (25, Try.f25), (26, Try.f26), (27, Try.f27), (28, Try.f28), (29, Try.f29), (30, Try.f30), (31, Try.f31), (32, Try.f32), (33, Try.f33), (34, Try.f34), (35, Try.f35), (36, Try.f36), (37, Try.f37), (38, Try.f38), (39, Try.f39), (40, Try.f40), (41, Try.f41), (42, Try.f42), (43, Try.f43), (44, Try.f44), (45, Try.f45), (46, Try.f46), (47, Try.f47), (48, Try.f48), (49, Try.f49), (50, Try.f50), (51, Try.f51), (52, Try.f52), (53, Try.f53), (54, Try.f54), (55, Try.f55), (56, Try.f56), (57, Try.f57), (58, Try.f58), (59, Try.f59), (75, Try.f75), (76, Try.f76), (77, Try.f77), (78, Try.f78), (79, Try.f79), (80, Try.f80), (81, Try.f81), (82, Try.f82), (83, Try.f83), (84, Try.f84), (85, Try.f85), (86, Try.f86), (87, Try.f87), (88, Try.f88), (89, Try.f89), (90, Try.f90), (91, Try.f91), (92, Try.f92), (93, Try.f93), (94, Try.f94), (96, Try.f96), (97, Try.f97)]
def rowsT : List (Nat × RowTy) := [(5, byteRow), (9, strRow), (3, intRow .i64), (33, intRow .u64), (46, pieceRow), (48, cutRow), (4, boolRow), (51, packRow)]
noncomputable def T0 : Tabs := { fns := fnsT, rows := rowsT, sms := [57], fcs := [], gcs := [], lcs := [], op := opBase }
theorem fnsOk : ∀ p ∈ fnsT, FnOk Try.prog p.1 p.2 := by
  unfold fnsT
  simp only [List.forall_mem_cons, List.not_mem_nil, false_implies, implies_true, and_true]
  exact ⟨⟨Try.func3, Try.call3, _, rfl, by kernel_rfl⟩, ⟨Try.func4, Try.call4, _, rfl, by kernel_rfl⟩, ⟨Try.func5, Try.call5, _, rfl, by kernel_rfl⟩, ⟨Try.func6, Try.call6, _, rfl, by kernel_rfl⟩, ⟨Try.func7, Try.call7, _, rfl, by kernel_rfl⟩, ⟨Try.func8, Try.call8, _, rfl, by kernel_rfl⟩, ⟨Try.func9, Try.call9, _, rfl, by kernel_rfl⟩, ⟨Try.func10, Try.call10, _, rfl, by kernel_rfl⟩, ⟨Try.func11, Try.call11, _, rfl, by kernel_rfl⟩, ⟨Try.func12, Try.call12, _, rfl, by kernel_rfl⟩, ⟨Try.func13, Try.call13, _, rfl, by kernel_rfl⟩, ⟨Try.func14, Try.call14, _, rfl, by kernel_rfl⟩, ⟨Try.func15, Try.call15, _, rfl, by kernel_rfl⟩, ⟨Try.func16, Try.call16, _, rfl, by kernel_rfl⟩, ⟨Try.func17, Try.call17, _, rfl, by kernel_rfl⟩, ⟨Try.func18, Try.call18, _, rfl, by kernel_rfl⟩, ⟨Try.func19, Try.call19, _, rfl, by kernel_rfl⟩, ⟨Try.func20, Try.call20, _, rfl, by kernel_rfl⟩, ⟨Try.func21, Try.call21, _, rfl, by kernel_rfl⟩, ⟨Try.func22, Try.call22, _, rfl, by kernel_rfl⟩, ⟨Try.func23, Try.call23, _, rfl, by kernel_rfl⟩, ⟨Try.func24, Try.call24, _, rfl, by kernel_rfl⟩, ⟨Try.func25, Try.call25, _, rfl, by kernel_rfl⟩, ⟨Try.func26, Try.call26, _, rfl, by kernel_rfl⟩, ⟨Try.func27, Try.call27, _, rfl, by kernel_rfl⟩, ⟨Try.func28, Try.call28, _, rfl, by kernel_rfl⟩, ⟨Try.func29, Try.call29, _, rfl, by kernel_rfl⟩, ⟨Try.func30, Try.call30, _, rfl, by kernel_rfl⟩, ⟨Try.func31, Try.call31, _, rfl, by kernel_rfl⟩, ⟨Try.func32, Try.call32, _, rfl, by kernel_rfl⟩, ⟨Try.func33, Try.call33, _, rfl, by kernel_rfl⟩, ⟨Try.func34, Try.call34, _, rfl, by kernel_rfl⟩, ⟨Try.func35, Try.call35, _, rfl, by kernel_rfl⟩, ⟨Try.func36, Try.call36, _, rfl, by kernel_rfl⟩, ⟨Try.func37, Try.call37, _, rfl, by kernel_rfl⟩, ⟨Try.func38, Try.call38, _, rfl, by kernel_rfl⟩, ⟨Try.func39, Try.call39, _, rfl, by kernel_rfl⟩, ⟨Try.func40, Try.call40, _, rfl, by kernel_rfl⟩, ⟨Try.func41, Try.call41, _, rfl, by kernel_rfl⟩, ⟨Try.func42, Try.call42, _, rfl, by kernel_rfl⟩, ⟨Try.func43, Try.call43, _, rfl, by kernel_rfl⟩, ⟨Try.func44, Try.call44, _, rfl, by kernel_rfl⟩, ⟨Try.func45, Try.call45, _, rfl, by kernel_rfl⟩, ⟨Try.func46, Try.call46, _, rfl, by kernel_rfl⟩, ⟨Try.func47, Try.call47, _, rfl, by kernel_rfl⟩, ⟨Try.func48, Try.call48, _, rfl, by kernel_rfl⟩, ⟨Try.func49, Try.call49, _, rfl, by kernel_rfl⟩, ⟨Try.func50, Try.call50, _, rfl, by kernel_rfl⟩, ⟨Try.func51, Try.call51, _, rfl, by kernel_rfl⟩, ⟨Try.func52, Try.call52, _, rfl, by kernel_rfl⟩, ⟨Try.func53, Try.call53, _, rfl, by kernel_rfl⟩, ⟨Try.func54, Try.call54, _, rfl, by kernel_rfl⟩, ⟨Try.func55, Try.call55, _, rfl, by kernel_rfl⟩, ⟨Try.func56, Try.call56, _, rfl, by kernel_rfl⟩, ⟨Try.func57, Try.call57, _, rfl, by kernel_rfl⟩, ⟨Try.func58, Try.call58, _, rfl, by kernel_rfl⟩, ⟨Try.func59, Try.call59, _, rfl, by kernel_rfl⟩, ⟨Try.func75, Try.call75, _, rfl, by kernel_rfl⟩, ⟨Try.func76, Try.call76, _, rfl, by kernel_rfl⟩, ⟨Try.func77, Try.call77, _, rfl, by kernel_rfl⟩, ⟨Try.func78, Try.call78, _, rfl, by kernel_rfl⟩, ⟨Try.func79, Try.call79, _, rfl, by kernel_rfl⟩, ⟨Try.func80, Try.call80, _, rfl, by kernel_rfl⟩, ⟨Try.func81, Try.call81, _, rfl, by kernel_rfl⟩, ⟨Try.func82, Try.call82, _, rfl, by kernel_rfl⟩, ⟨Try.func83, Try.call83, _, rfl, by kernel_rfl⟩, ⟨Try.func84, Try.call84, _, rfl, by kernel_rfl⟩, ⟨Try.func85, Try.call85, _, rfl, by kernel_rfl⟩, ⟨Try.func86, Try.call86, _, rfl, by kernel_rfl⟩, ⟨Try.func87, Try.call87, _, rfl, by kernel_rfl⟩, ⟨Try.func88, Try.call88, _, rfl, by kernel_rfl⟩, ⟨Try.func89, Try.call89, _, rfl, by kernel_rfl⟩, ⟨Try.func90, Try.call90, _, rfl, by kernel_rfl⟩, ⟨Try.func91, Try.call91, _, rfl, by kernel_rfl⟩, ⟨Try.func92, Try.call92, _, rfl, by kernel_rfl⟩, ⟨Try.func93, Try.call93, _, rfl, by kernel_rfl⟩, ⟨Try.func94, Try.call94, _, rfl, by kernel_rfl⟩, ⟨Try.func96, Try.call96, _, rfl, by kernel_rfl⟩, ⟨Try.func97, Try.call97, _, rfl, by kernel_rfl⟩⟩
theorem rowsOk : ∀ p ∈ rowsT, RowOk Try.prog p.1 p.2 := by
  unfold rowsT
  simp only [List.forall_mem_cons, List.not_mem_nil, false_implies, implies_true, and_true]
  exact ⟨fun i hi => by cases (show Try.prog.info? 5 = some Try.t5 from by kernel_rfl).symm.trans hi; exact ⟨_, rfl, fun ρ => rfl⟩, fun i hi => by cases (show Try.prog.info? 9 = some Try.t9 from by kernel_rfl).symm.trans hi; exact ⟨_, rfl, fun ρ => rfl⟩, fun i hi => by cases (show Try.prog.info? 3 = some Try.t3 from by kernel_rfl).symm.trans hi; exact ⟨_, rfl, fun ρ => rfl⟩, fun i hi => by cases (show Try.prog.info? 33 = some Try.t33 from by kernel_rfl).symm.trans hi; exact ⟨_, rfl, fun ρ => rfl⟩, fun i hi => by cases (show Try.prog.info? 46 = some Try.t46 from by kernel_rfl).symm.trans hi; exact ⟨_, rfl, fun ρ => rfl⟩, fun i hi => by cases (show Try.prog.info? 48 = some Try.t48 from by kernel_rfl).symm.trans hi; exact ⟨_, rfl, fun ρ => rfl⟩, fun i hi => by cases (show Try.prog.info? 4 = some Try.t4 from by kernel_rfl).symm.trans hi; exact ⟨_, rfl, fun ρ => rfl⟩, fun i hi => by cases (show Try.prog.info? 51 = some Try.t51 from by kernel_rfl).symm.trans hi; exact ⟨_, rfl, fun ρ => rfl⟩⟩
theorem T0ok : TabsOk T0 Try.prog := ⟨by kernel_rfl, fnsOk, rowsOk, fun p hp => (by cases hp), fun p hp => (by cases hp), fun p hp => (by cases hp), opBase_sound _⟩
end Go.Proofs.Ytjacnjecggedhaa
namespace Go.Proofs.Ytjacnjecggedhaa
set_option linter.unusedVariables false
set_option linter.unusedSimpArgs false
open Go.RowKit Ev
def lSize (k : Int) : Int := if k = 0 then 6 else if k = 1 then 3 else 0
def lOk (k : Int) (b : List UInt8) : Bool := decide (0 ≤ k ∧ k < 4 ∧ (b.length : Int) = lSize k)
def fcSizes : FC := fun args _ => match args with
  | [] => some (true, .agg [.int .i64 6, .int .i64 3, .int .i64 0, .int .i64 0])
  | _ => none
def fcSize : FC := fun args _ => match args with
  | [.int .i64 k] => some (true, .int .i64 (lSize k))
  | _ => none
def fcCheck : FC := fun args _ => match args with
  | [.agg [.int .i64 k, .str b]] => some (true, .int .i64 (if lOk k b then 0 else 2))
  | _ => none
def fcMay : FC := fun args _ => match args with
  | [.agg [.int .i64 k, .str b]] => some (true, .bool (lOk k b))
  | _ => none
noncomputable def TL1 : Tabs := (T0.addFc 58 fcSizes)
noncomputable def TL2 : Tabs := ((TL1.addFc 57 fcSize).addFc 52 fcSize)
noncomputable def TL : Tabs := ((TL2.addFc 47 fcCheck).addFc 35 fcMay)
end Go.Proofs.Ytjacnjecggedhaa
namespace Go.Proofs.Ytjacnjecggedhaa
set_option linter.unusedVariables false
set_option linter.unusedSimpArgs false
open Go.RowKit Ev
set_option maxRecDepth 100000 in
theorem w_sizes (K : Out → Prop) : (callC (T0.ctx Try.prog) 100 58 [] ⟨0, []⟩ (fun o _ => K o)
) =  (K (Out.ret (AVal.agg [AVal.int IntKind.i64 (6 : Int), AVal.int IntKind.i64 (3 : Int), AVal.int IntKind.i64 (0 : Int), AVal.int IntKind.i64 (0 : Int)]))) := by kernel_rfl
set_option maxRecDepth 100000 in
theorem w_size (k : Int) (K : Out → Prop) : (callC (TL1.ctx Try.prog) 100 57 [.int .i64 k] ⟨0, []⟩ (fun o _ => K o)
) =  (branch (decide ((0 : Int) ≤ k)) (branch (decide (k < (4 : Int))) (obl (decide ((0 : Int) ≤ k ∧ k < (4 : Int))) (obl (decide (k.toNat < 4)) (K (Out.ret (AVal.int IntKind.i64 ([(6 : Int), (3 : Int), (0
 : Int), (0 : Int)].getD k.toNat (0 : Int))))))) (K (Out.ret (AVal.int IntKind.i64 (0 : Int))))) (K (Out.ret (AVal.int IntKind.i64 (0 : Int))))) := by kernel_rfl
set_option maxRecDepth 100000 in
theorem w_rsize (k : Int) (K : Out → Prop) : (callC (TL1.ctx Try.prog) 100 52 [.int .i64 k] ⟨0, []⟩ (fun o _ => K o)
) =  (branch (decide (k = (0 : Int))) (K (Out.ret (AVal.int IntKind.i64 (6 : Int)))) (branch (decide (k = (1 : Int))) (K (Out.ret (AVal.int IntKind.i64 (3 : Int)))) (K (Out.ret (AVal.int IntKind.i64 (0 :
 Int)))))) := by kernel_rfl
set_option maxRecDepth 100000 in
theorem w_check (k : Int) (b : List UInt8) (K : Out → Prop) : (callC (TL2.ctx Try.prog) 100 47 [.agg [.int .i64 k, .str b]] ⟨0, []⟩ (fun o _ => K o)
) =  (branch (decide (k < (0 : Int))) (K (Out.ret (AVal.int IntKind.i64 (2 : Int)))) (branch (decide ((4 : Int) ≤ k)) (K (Out.ret (AVal.int IntKind.i64 (2 : Int)))) (branch (!decide ((↑b.length : Int) =
 lSize k)) (K (Out.ret (AVal.int IntKind.i64 (2 : Int)))) (K (Out.ret (AVal.int IntKind.i64 (0 : Int))))))) := by kernel_rfl
set_option maxRecDepth 100000 in
theorem w_may (k : Int) (b : List UInt8) (K : Out → Prop) : (callC (TL2.ctx Try.prog) 100 35 [.agg [.int .i64 k, .str b]] ⟨0, []⟩ (fun o _ => K o)
) =  (branch (decide ((0 : Int) ≤ k)) (branch (decide (k ≤ (3 : Int))) (K (Out.ret (AVal.bool (decide ((↑b.length : Int) = lSize k))))) (K (Out.ret (AVal.bool false)))) (K (Out.ret (AVal.bool false)))) :=
 by kernel_rfl
end Go.Proofs.Ytjacnjecggedhaa
namespace Go.Proofs.Ytjacnjecggedhaa
set_option linter.unusedVariables false
set_option linter.unusedSimpArgs false
open Go.RowKit Ev
theorem sizes_sound : FcSound Try.prog 58 fcSizes := by
  refine fc_pure T0ok.ctx (n := 100) Try.call58 (fun args H v h => ?_)
  unfold fcSizes at h
  split at h <;> cases h
  exact ⟨rfl, rfl, by rw [w_sizes]⟩
theorem TL1ok : TabsOk TL1 Try.prog := (T0ok.addFc sizes_sound)
theorem size_sound : FcSound Try.prog 57 fcSize := by
  refine fc_pure TL1ok.ctx (n := 100) Try.call57 (fun args H v h => ?_)
  unfold fcSize at h
  split at h <;> cases h
  rename_i k
  refine ⟨rfl, rfl, ?_⟩
  rw [w_size]
  simp only [branch_iff, obl_iff, decide_eq_true_eq, decide_eq_false_iff_not]
  refine ⟨fun h0 => ⟨fun h4 => ⟨⟨h0, h4⟩, by omega, ?_⟩, fun h4 => ?_⟩, fun h0 => ?_⟩
  · have : k = 0 ∨ k = 1 ∨ k = 2 ∨ k = 3 := by omega
    rcases this with rfl | rfl | rfl | rfl <;> rfl
  · unfold lSize; rw [if_neg (by omega), if_neg (by omega)]
  · unfold lSize; rw [if_neg (by omega), if_neg (by omega)]
theorem rsize_sound : FcSound Try.prog 52 fcSize := by
  refine fc_pure TL1ok.ctx (n := 100) Try.call52 (fun args H v h => ?_)
  unfold fcSize at h
  split at h <;> cases h
  rename_i k
  refine ⟨rfl, rfl, ?_⟩
  rw [w_rsize]
  simp only [branch_iff, decide_eq_true_eq, decide_eq_false_iff_not]
  refine ⟨fun h0 => by subst h0; rfl, fun h0 => ⟨fun h1 => by subst h1; rfl, fun h1 => ?_⟩⟩
  unfold lSize; rw [if_neg h0, if_neg h1]
theorem TL2ok : TabsOk TL2 Try.prog := ((TL1ok.addFc size_sound).addFc rsize_sound)
theorem check_sound : FcSound Try.prog 47 fcCheck := by
  refine fc_pure TL2ok.ctx (n := 100) Try.call47 (fun args H v h => ?_)
  unfold fcCheck at h
  split at h <;> cases h
  rename_i k b
  refine ⟨rfl, rfl, ?_⟩
  rw [w_check]
  simp only [branch_iff, decide_eq_true_eq, decide_eq_false_iff_not, Bool.not_eq_true', Bool.not_eq_false']
  refine ⟨fun h0 => ?_, fun h0 => ⟨fun h4 => ?_, fun h4 => ⟨fun hl => ?_, fun hl => ?_⟩⟩⟩
  · rw [if_neg (by unfold lOk; simp; omega)]
  · rw [if_neg (by unfold lOk; simp; omega)]
  · rw [if_neg (by unfold lOk; simp; omega)]
  · rw [if_pos (by unfold lOk; simp; omega)]
theorem may_sound : FcSound Try.prog 35 fcMay := by
  refine fc_pure TL2ok.ctx (n := 100) Try.call35 (fun args H v h => ?_)
  unfold fcMay at h
  split at h <;> cases h
  rename_i k b
  refine ⟨rfl, rfl, ?_⟩
  rw [w_may]
  simp only [branch_iff, decide_eq_true_eq, decide_eq_false_iff_not]
  refine ⟨fun h0 => ⟨fun h3 => ?_, fun h3 => ?_⟩, fun h0 => ?_⟩
  all_goals
    congr 2
    unfold lOk
    rw [Bool.eq_iff_iff]
    simp
    try omega
theorem TLok : TabsOk TL Try.prog := ((TL2ok.addFc check_sound).addFc may_sound)
end Go.Proofs.Ytjacnjecggedhaa
