/-
  The document's members: what is known of them; the contracts' form.
-/
import Derived.Test.YtcgnoegejmhgmaaMbL3
namespace Go.Proofs.Ytcgnoegejmhgmaa
set_option linter.unusedVariables false
set_option linter.unusedSimpArgs false
open Go.RowKit Ev

structure RefS where
  modes : List Int
  came : List Int
  last : Int

/-- What holds of them. -/
structure WfR (R : RefS) : Prop where
  n8 : R.modes.length ≤ 8
  len : R.came.length = R.modes.length
  lo : 0 ≤ R.last
  hi : R.last ≤ 1000

/-- The modes alone. -/
abbrev modesOf (R : RefS) : MemS := ⟨R.modes, []⟩
def rMove (R : RefS) (t m : Int) : RefS := if modeM (modesOf R) t = 0 then R else if isM m then (if modeM (modesOf R) t = m then R else ⟨R.modes.set t.toNat m, R.came.set t.toNat (R.last + 1), R.last + 1⟩) else R
def rNew (n m : Int) : RefS := ⟨List.replicate n.toNat m, (List.range n.toNat).map fun (i : Nat) => (i : Int) + 1, n⟩
def rIn (R : RefS) (k c : Int) (i : Nat) : Bool := decide (R.modes.getD i 0 = k) && decide (R.came.getD i 0 = c)
/-- Of the first i terminals, those of mode k that came as the c-th. -/
def rRow (R : RefS) (k c : Int) (i : Nat) : List Int := ((List.range i).filter (rIn R k c)).map fun (j : Nat) => (j : Int)
/-- Those of mode k that came as one of the first c. -/
def rTo (R : RefS) (k : Int) : Nat → List Int
  | 0 => []
  | c + 1 => rTo R k c ++ rRow R k ((c : Int) + 1) R.modes.length
def rOf (R : RefS) (k : Int) : List Int := rTo R k R.last.toNat
/-- The first m modes' that have somebody. -/
def rAllTo (R : RefS) (m : Nat) : List Int := ((List.range m).map fun (j : Nat) => (j : Int) + 1).filter fun k => !(decide (rOf R k = []))
def rAll (R : RefS) : List Int := rAllTo R 28

def refB (a b : AVal) (n : Int) : ABlk := .cells 48 [a, b, .int .i64 n]
def refH (R : RefS) : List (Nat × ABlk) := [(0, refB (.sl 1 0 1 0 R.modes.length none) (.sl 2 0 1 0 R.came.length none) R.last), (1, rowI R.modes), (2, rowI R.came)]

structure RefA where
  T : RowTy
  l : List T.α
  n : Nat
  T' : RowTy
  l' : List T'.α
  n' : Nat
  last : Int
  rest : List AVal

def decRef (args : List AVal) (H : AHeap) : Option (List (Nat × Nat) × RefA) := match args with
  | .ptr b 0 0 0 :: rest => match H.get b with
    | some (.cells e [.sl b1 0 1 0 n none, .sl b2 0 1 0 n' none, .int .i64 last]) => match H.get b1, H.get b2 with
      | some (.row e1 T l .plain), some (.row e2 T' l' .plain) => match Nat.beq e 48 && (Nat.beq e1 3 && (Nat.beq e2 3 && (!(Nat.beq b1 b2) && belowL 0 rest))) with
        | true => some ([(0, b), (1, b1), (2, b2)], ⟨T, l, n, T', l', n', last, rest⟩)
        | false => none
      | _, _ => none
    | _ => none
  | _ => none
def refC (s : RefA) : AHeap := ⟨3, [(0, refB (.sl 1 0 1 0 s.n none) (.sl 2 0 1 0 s.n' none) s.last), (1, .row 3 s.T s.l .plain), (2, .row 3 s.T' s.l' .plain)]⟩
def refArgs (s : RefA) : List AVal := .ptr 0 0 0 0 :: s.rest

theorem decRef_ok : DecOk decRef refArgs refC := by
  refine ⟨fun args H σ s h hb hH => ?_⟩
  unfold decRef at h
  split at h <;> try cases h
  rename_i b rest
  split at h <;> try cases h
  rename_i e b1 n b2 n' last hg
  split at h <;> try cases h
  rename_i e1 T l e2 T' l' hg1 hg2
  split at h <;> try cases h
  rename_i hc
  simp only [Bool.and_eq_true, Bool.not_eq_true'] at hc
  have he := nat_beq_eq.1 hc.1
  have he1 := nat_beq_eq.1 hc.2.1
  have he2 := nat_beq_eq.1 hc.2.2.1
  have hne := nat_beq_ne.1 hc.2.2.2.1
  subst he he1 he2
  have n01 : b ≠ b1 := by rintro rfl; rw [hg] at hg1; cases hg1
  have n02 : b ≠ b2 := by rintro rfl; rw [hg] at hg2; cases hg2
  refine ⟨?_, ?_, fun c x hx => ?_, fun c c' hc hc' hne' => ?_, fun c hc => ?_⟩
  · show _ = renV _ _ :: renL _ _
    rw [renL_data _ hc.2.2.2.2]; rfl
  · show belowL 3 _ = true
    simp only [refArgs, belowL, AVal.under, Bool.and_eq_true]
    exact ⟨rfl, belowL_mono (Nat.zero_le _) _ hc.2.2.2.2⟩
  · rcases get_three hx with ⟨rfl, hx⟩ | ⟨rfl, hx⟩ | ⟨rfl, hx⟩
    · cases hx; exact ⟨(by decide : 0 < 3), rfl, hg⟩
    · cases hx; exact ⟨(by decide : 1 < 3), rfl, hg1⟩
    · cases hx; exact ⟨(by decide : 2 < 3), rfl, hg2⟩
  · rcases three_cases hc with rfl | rfl | rfl <;> rcases three_cases hc' with rfl | rfl | rfl <;> first | exact absurd rfl hne' | exact n01 | exact n02 | exact hne | exact n01.symm | exact n02.symm | exact fun h => hne h.symm
  · rcases three_cases hc with rfl | rfl | rfl
    · exact (hH b _ hg).1
    · exact (hH b1 _ hg1).1
    · exact (hH b2 _ hg2).1

def fRef (C : RefS → List AVal → (Out → AHeap → Prop) → Prop) (s : RefA) (K : Out → AHeap → Prop) : Prop :=
  ∃ (hT : s.T = intRow .i64) (hT' : s.T' = intRow .i64), (s.n = (castI hT s.l).length ∧ s.n' = (castI hT' s.l').length) ∧ WfR ⟨castI hT s.l, castI hT' s.l', s.last⟩ ∧ C ⟨castI hT s.l, castI hT' s.l', s.last⟩ s.rest K

/-- A contract by what is computed. -/
theorem ref_gc {P : Program} {f : FuncId} {C : RefS → List AVal → (Out → AHeap → Prop) → Prop} (he : ∀ vs w, (callFunc f vs).run P w = .ok (.enter f vs) w)
    (h : ∀ R rest K, WfR R → C R rest K → ∀ ρ w, Rel ρ ⟨3, refH R⟩ w → belowL 3 (.ptr 0 0 0 0 :: rest) = true → Calls P f (trL ρ (.ptr 0 0 0 0 :: rest)).toArray w fun e w' => ∃ out H' ρ', Out.rel ρ' H'.next out e ∧ K out H' ∧ Step ρ ⟨3, refH R⟩ w ρ' H' w') : GcSound P f (gcSub decRef refC (fRef C)) := by
  refine gc_sub he decRef_ok (fun s k hk ρ w hR hb => ?_)
  obtain ⟨T, l, n, T', l', n', last, rest⟩ := s
  obtain ⟨hT, hT', ⟨h1, h2⟩, hW, hk⟩ := hk
  simp only at hT hT'
  subst hT hT'
  change n = List.length l at h1
  change n' = List.length l' at h2
  subst h1 h2
  exact h ⟨l, l', last⟩ rest k hW hk ρ w hR hb

/-! ### what is answered -/

def qMode (R : RefS) (rest : List AVal) (K : Out → AHeap → Prop) : Prop := match rest with
  | [.int .i64 t] => forceH ⟨3, refH R⟩ (K (.ret (.int .i64 (modeM (modesOf R) t))))
  | _ => Stuck 60 []
def qMove (R : RefS) (rest : List AVal) (K : Out → AHeap → Prop) : Prop := match rest with
  | [.int .i64 t, .int .i64 m] => forceH ⟨3, refH (rMove R t m)⟩ (K (.ret (.int .i64 (moveE (modesOf R) t m))))
  | _ => Stuck 61 []
def qOf (R : RefS) (rest : List AVal) (K : Out → AHeap → Prop) : Prop := match rest with
  | [.int .i64 k] => branch (decide (rOf R k = [])) (forceH ⟨3, refH R⟩ (K (.ret .nils))) (forceH ⟨4, refH R ++ [(3, rowI (rOf R k))]⟩ (K (.ret (slI 3 (rOf R k)))))
  | _ => Stuck 62 []
def qAll (R : RefS) (rest : List AVal) (K : Out → AHeap → Prop) : Prop := match rest with
  | [] => branch (decide (rAll R = [])) (forceH ⟨3, refH R⟩ (K (.ret .nils))) (forceH ⟨4, refH R ++ [(3, rowI (rAll R))]⟩ (K (.ret (slI 3 (rAll R)))))
  | _ => Stuck 63 []
def qNew (s : Int × Int) (K : Out → AHeap → Prop) : Prop :=
  branch (newBad s.1 s.2) (forceH ⟨3, []⟩ (K (.ret .nilp))) (forceH ⟨3, refH (rNew s.1 s.2)⟩ (K (.ret (.ptr 0 0 0 0))))

noncomputable abbrev rmB : Code := bodyC Try.f15
noncomputable abbrev rnB : Code := bodyC Try.f13
noncomputable abbrev rvB : Code := bodyC Try.f14
noncomputable abbrev roB : Code := bodyC Try.f18
noncomputable abbrev raB : Code := bodyC Try.f17
def tsRo : AExit → List Nat := fun _ => [4]
def tsRa : AExit → List Nat := fun _ => [2]
def rnE (n m : Int) : Env := [(0, .int .i64 n), (1, .int .i64 m), (5, .ptr 0 0 0 0)]

end Go.Proofs.Ytcgnoegejmhgmaa
