/-
  Members: what is known of them: of each terminal its mode, of each mode its list.
-/
import Derived.Test.YtcgnoegejmhgmaaMbW1
namespace Go.Proofs.Ytcgnoegejmhgmaa
set_option linter.unusedVariables false
set_option linter.unusedSimpArgs false
open Go.RowKit Ev

def isM (n : Int) : Bool := decide (1 ≤ n ∧ n ≤ 28)

def fcIs : FC := fun args H => match args with
  | [.int .i64 n] => some (true, .bool (decide (1 ≤ n ∧ n ≤ 28)))
  | _ => none

theorem is_sound : FcSound Try.prog 19 fcIs := by
  refine fc_pure TM1ok.ctx (n := 90) Try.call19 (fun args H v h => ?_)
  unfold fcIs at h
  split at h <;> cases h
  rename_i n
  refine ⟨rfl, rfl, ?_⟩
  rw [w_is]
  simp only [branch_iff, obl_iff, decide_eq_true_eq, decide_eq_false_iff_not]
  refine ⟨fun h => ?_, fun h => ⟨fun h2 => ?_, fun h2 => ⟨by omega, ?_⟩⟩⟩
  · rw [show decide (1 ≤ n ∧ n ≤ 28) = false by rw [decide_eq_false_iff_not]; omega]
  · rw [show decide (1 ≤ n ∧ n ≤ 28) = false by rw [decide_eq_false_iff_not]; omega]
  · rw [show decide (1 ≤ n ∧ n ≤ 28) = true by rw [decide_eq_true_eq]; omega]
    have : n = 1 ∨ n = 2 ∨ n = 3 ∨ n = 4 ∨ n = 5 ∨ n = 6 ∨ n = 7 ∨ n = 8 ∨ n = 9 ∨ n = 10 ∨ n = 11 ∨ n = 12 ∨ n = 13 ∨ n = 14 ∨ n = 15 ∨ n = 16 ∨ n = 17 ∨ n = 18 ∨ n = 19 ∨ n = 20 ∨ n = 21 ∨ n = 22 ∨ n = 23 ∨ n = 24 ∨ n = 25 ∨ n = 26 ∨ n = 27 ∨ n = 28 := by omega
    rcases this with rfl | rfl | rfl | rfl | rfl | rfl | rfl | rfl | rfl | rfl | rfl | rfl | rfl | rfl | rfl | rfl | rfl | rfl | rfl | rfl | rfl | rfl | rfl | rfl | rfl | rfl | rfl | rfl <;> rfl

noncomputable def TM2 : Tabs := (TM1.addFc 19 fcIs)
theorem TM2ok : TabsOk TM2 Try.prog := (TM1ok.addFc is_sound)

/-- Lists of numbers, as a map's elements. -/
def listV : ValTy where
  σ := List Int
  val := fun l => .sl 0 0 1 0 l.length none
  blk := fun l => .row 3 (intRow .i64) l .plain
  own := fun _ => rfl
  small := fun _ => rfl
  vU := fun _ => rfl
  bU := fun _ => rfl

/-- The map's types. -/
def mapTys : TypeId → Option ValTy := fun t => match Nat.beq t 43 with
  | true => some listV
  | false => none

structure MemS where
  modes : List Int
  lists : List (Int × List Int)

def modeM (S : MemS) (t : Int) : Int := if 0 ≤ t ∧ t < S.modes.length then S.modes.getD t.toNat 0 else 0
def ofM (S : MemS) (k : Int) : List Int := (getK k S.lists).getD []
/-- The lists behind a removal of a terminal from its list. -/
def outL (f t : Int) (L : List (Int × List Int)) : List (Int × List Int) :=
  match ((getK f L).getD []).filter (fun x => !(decide (x = t))) with
  | [] => delK f L
  | a :: r => delK f L ++ [(f, a :: r)]
def inL (m t : Int) (L : List (Int × List Int)) : List (Int × List Int) := delK m L ++ [(m, (getK m L).getD [] ++ [t])]
def moveS (S : MemS) (t m : Int) : MemS := ⟨S.modes.set t.toNat m, inL m t (outL (modeM S t) t S.lists)⟩
/-- What a move answers. -/
def moveE (S : MemS) (t m : Int) : Int := if modeM S t = 0 then 9 else if isM m then 0 else 15
/-- What it leaves. -/
def moveR (S : MemS) (t m : Int) : MemS := if modeM S t = 0 then S else if isM m then (if modeM S t = m then S else moveS S t m) else S

/-- What holds of members. -/
structure WfM (S : MemS) : Prop where
  n1 : 1 ≤ S.modes.length
  n8 : S.modes.length ≤ 8
  is : ∀ i, i < S.modes.length → isM (S.modes.getD i 0) = true
  nodup : (S.lists.map (·.1)).Nodup
  list : ∀ p ∈ S.lists, p.2 ≠ [] ∧ p.2.Nodup ∧ ∀ t ∈ p.2, 0 ≤ t ∧ t < S.modes.length ∧ S.modes.getD t.toNat 0 = p.1
  all : ∀ t : Nat, t < S.modes.length → ∃ l, getK (S.modes.getD t 0) S.lists = some l ∧ (t : Int) ∈ l

def membersB (a b : AVal) : ABlk := .cells 45 [a, b]
/-- Members in memory. -/
def memH (S : MemS) : List (Nat × ABlk) := [(0, membersB (.sl 1 0 1 0 S.modes.length none) (.map 2)), (1, .row 3 (intRow .i64) S.modes .plain), (2, .obj (MapT listV) ⟨S.lists, none⟩ [])]

end Go.Proofs.Ytcgnoegejmhgmaa
