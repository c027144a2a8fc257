/-
  The pieces of bytes: the contract of a range over an iterator.
-/
import Derived.Test.YtjacnjecggedhaaGseA3
namespace Go.Proofs.Ytjacnjecggedhaa
set_option linter.unusedVariables false
set_option linter.unusedSimpArgs false
open Go.RowKit Ev

/-- The pieces of bytes, and what is wrong at the end. -/
def allL : Nat → List UInt8 → List PieceR × Int
  | 0, _ => ([], 0)
  | n + 1, s => if (dec s).e = 5 then ([], 0) else if (dec s).e = 0 then ((dec s).p :: (allL n (s.drop (dec s).n.toNat)).1, (allL n (s.drop (dec s).n.toNat)).2) else ([], (dec s).e)
def allP (s : List UInt8) : List PieceR := (allL (s.length + 1) s).1
def allE (s : List UInt8) : Int := (allL (s.length + 1) s).2

theorem allL_more : ∀ (n m : Nat) (s : List UInt8), s.length < n → s.length < m → allL n s = allL m s
  | 0, _, s, h, _ => by omega
  | _ + 1, 0, s, _, h => by omega
  | n + 1, m + 1, s, h1, h2 => by
    unfold allL
    split
    · rfl
    · split
      · rename_i h0
        obtain ⟨_, g2, g3, _⟩ := dec_again h0
        have hl : (s.drop (dec s).n.toNat).length < n ∧ (s.drop (dec s).n.toNat).length < m := by
          rw [List.length_drop]; omega
        rw [allL_more n m _ hl.1 hl.2]
      · rfl

theorem all_5 {s : List UInt8} (h : (dec s).e = 5) : allP s = [] ∧ allE s = 0 := by
  unfold allP allE allL
  rw [if_pos h]
  exact ⟨rfl, rfl⟩
theorem all_4 {s : List UInt8} (h : (dec s).e ≠ 5) (h0 : (dec s).e ≠ 0) : allP s = [] ∧ allE s = (dec s).e := by
  unfold allP allE allL
  rw [if_neg h, if_neg h0]
  exact ⟨rfl, rfl⟩
theorem all_0 {s : List UInt8} (h0 : (dec s).e = 0) : allP s = (dec s).p :: allP (s.drop (dec s).n.toNat) ∧ allE s = allE (s.drop (dec s).n.toNat) := by
  obtain ⟨_, g2, g3, _⟩ := dec_again h0
  have hl : (s.drop (dec s).n.toNat).length < s.length := by rw [List.length_drop]; omega
  have e := allL_more s.length ((s.drop (dec s).n.toNat).length + 1) _ hl (Nat.lt_succ_self _)
  have e1 : allP s = (dec s).p :: (allL s.length (s.drop (dec s).n.toNat)).1 := by
    show (allL (s.length + 1) s).1 = _
    rw [allL, if_neg (by omega), if_pos h0]
  have e2 : allE s = (allL s.length (s.drop (dec s).n.toNat)).2 := by
    show (allL (s.length + 1) s).2 = _
    rw [allL, if_neg (by omega), if_pos h0]
  rw [e1, e2, e]
  exact ⟨rfl, rfl⟩

noncomputable def gcAll : GC := fun args H K => match args with
  | [.str s] => obl (decide (s.length ≤ 1000000000)) <| branch (allP s).isEmpty (K (.ret (.tup [.nils, .int .i64 (allE s)])) H) (forceK H.next fun id => forceH (H.new (.row 46 pieceRow (allP s) .plain)) (K (.ret (.tup [.sl id 0 9 0 (allP s).length none, .int .i64 (allE s)]))))
  | _ => Stuck 60 []

/-- What is asked at the end. -/
def kAll (s : List UInt8) : Out → AHeap → Prop := fun out H => match allP s with
  | [] => out = .ret (.tup [.nils, .int .i64 (allE s)])
  | _ => ∃ r, out = .ret (.tup [.sl r 0 9 0 (allP s).length none, .int .i64 (allE s)]) ∧ H.get r = some (.row 46 pieceRow (allP s) .plain)

theorem kAll_nil {s : List UInt8} {H : AHeap} {e : Int} (h : allP s = []) (he : allE s = e) : kAll s (.ret (.tup [.nils, .int .i64 e])) H := by
  unfold kAll; rw [h, he]
theorem kAll_cons {s : List UInt8} {H : AHeap} {r : Nat} {p : PieceR} {l : List PieceR} {e : Int} (h : allP s = p :: l) (he : allE s = e) (hr : H.get r = some (.row 46 pieceRow (p :: l) .plain)) : kAll s (.ret (.tup [.sl r 0 9 0 (p :: l).length none, .int .i64 e])) H := by
  unfold kAll; rw [h, he]; exact ⟨r, rfl, hr⟩

/-- The iterator's state: what is left; what has come. -/
def stAll (x : List UInt8 × List PieceR) : Env × AHeap := ([(0, .yld 4), (1, .ptr 3 0 0 0)], match x.2 with
  | [] => ⟨6, [(3, .cells 9 [.str x.1]), (2, .cells 39 [.nils]), (1, .cells 40 [.int .i64 0]), (0, .cells 39 [.nils])]⟩
  | p :: l => ⟨6, [(5, .row 46 pieceRow (p :: l) .plain), (3, .cells 9 [.str x.1]), (2, .cells 39 [.sl 5 0 9 0 (p :: l).length none]), (1, .cells 40 [.int .i64 0]), (0, .cells 39 [.nils])]⟩)

def tAll (s0 : List UInt8) (x : List UInt8 × List PieceR) : Prop := s0.length ≤ 1000000000 ∧ x.2 ++ allP x.1 = allP s0 ∧ allE x.1 = allE s0 ∧ x.1.length + 2 * x.2.length ≤ s0.length

def envAll (s0 : List UInt8) : Env := (8, .func 27 [] [.ptr 3 0 0 0]) :: (7, .str s0) :: (4, .ptr 2 0 0 0) :: (3, .ptr 1 0 0 0) :: (2, .ptr 0 0 0 0) :: (0, .str s0) :: []

noncomputable abbrev rfAll : Code := blkC (seqR (seqL (seqR (seqR (bodyC Try.f13)))))
noncomputable abbrev postAll : Code := seqR (seqR (seqR (bodyC Try.f13)))

def qAll (s0 : List UInt8) : AExit → Env → AHeap → Option Code → Prop := fun x _ H' pd => (x = .normal ∨ x = .ret) ∧ behindRF (TE.ctx Try.prog) 60 13 Try.f13 postAll (envAll s0) (kAll s0) H' pd

theorem q_none {s0 : List UInt8} {E : Env} {H : AHeap} (h : wpC (TE.ctx Try.prog) 60 13 H.next postAll (envAll s0) H (endN (TE.ctx Try.prog) Try.f13 (kAll s0))) : qAll s0 .ret E H none := ⟨.inr rfl, h⟩
theorem q_err {s0 : List UInt8} {E : Env} {H : AHeap} (h : endA (TE.ctx Try.prog).P Try.f13 (kAll s0) .ret (envAll s0) H) : qAll s0 .ret E H (some .ret) := ⟨.inr rfl, h⟩

theorem all_done {s0 s : List UInt8} {acc : List PieceR} (h : tAll s0 (s, acc)) (hp : allP s = []) : allP s0 = acc := by
  have := h.2.1
  rw [hp, List.append_nil] at this
  exact this.symm

set_option maxRecDepth 100000 in
theorem all_round (s0 : List UInt8) : ∀ x, tAll s0 x → wpY (TE.ctx Try.prog) 4 (roundA (TE.ctx Try.prog) 60 13 (envAll s0) [9, 10] (rfAssign rfAll) (rfBody rfAll)) 60 27 (lpC (blkC (bodyC Try.f27))) (stAll x).1 (stAll x).2 none (RoundY 5 stAll (fun x => x.1.length) (tAll s0) x (qAll s0)) := by
  rintro ⟨s, acc⟩ hT
  have hT' := hT
  obtain ⟨t0, t1, t2, t3⟩ := hT'
  simp only at t1 t2 t3
  have next : (dec s).e = 0 → tAll s0 (s.drop (dec s).n.toNat, acc ++ [(dec s).p]) ∧ (s.drop (dec s).n.toNat).length < s.length := by
    intro h0
    obtain ⟨_, g2, g3, _⟩ := dec_again h0
    obtain ⟨a1, a2⟩ := all_0 h0
    refine ⟨⟨t0, ?_, ?_, ?_⟩, ?_⟩
    · simp only; rw [← t1, a1]; simp
    · simp only; rw [← t2, a2]
    · simp only [List.length_drop, List.length_append, List.length_cons, List.length_nil]; omega
    · rw [List.length_drop]; omega
  cases acc with
  | nil =>
    refine Eq.mpr (w_allround_nil s0 s _) ?_
    simp only [obl_iff, branch_iff, decide_eq_true_eq, decide_eq_false_iff_not, Bool.not_eq_true', Bool.not_eq_false', Bool.and_eq_true, true_and]
    simp only [List.length_nil] at t3
    refine ⟨by omega, fun h5 => ?_, fun h5 => ⟨fun h4 => ?_, fun h4 => ?_⟩⟩
    · obtain ⟨a1, a2⟩ := all_5 h5
      show qAll s0 .ret [] _ none
      apply q_none
      refine (Eq.mpr (w_allpost_nil s0 _ _ _ (kAll s0)) ?_)
      exact kAll_nil (all_done hT a1) (t2.symm.trans a2)
    · obtain ⟨a1, a2⟩ := all_4 h5 h4
      show qAll s0 .ret [] _ (some .ret)
      apply q_err
      refine (Eq.mpr (w_allerr_nil s0 _ _ _ _ _ _ _ _ _ (kAll s0)) ?_)
      exact kAll_nil (all_done hT a1) (t2.symm.trans a2)
    · obtain ⟨n1, n2⟩ := next h4
      obtain ⟨_, g2, g3, _⟩ := dec_again h4
      refine ⟨fun h => absurd h4 h, fun _ => ⟨⟨by omega, by omega⟩, rfl, (_, [(dec s).p]), [(5, 9)], n2, n1, by decide, by kernel_rfl, ?_, ?_⟩⟩
      · exact subER_cons rfl rfl rfl (subER_cons rfl rfl rfl subER_nil)
      · exact subHR_cons rfl rfl rfl rfl (subHR_cons rfl rfl rfl rfl (subHR_cons rfl rfl rfl rfl (subHR_cons rfl rfl rfl rfl (subHR_cons rfl rfl rfl rfl subHR_nil))))
  | cons p l =>
    refine Eq.mpr (w_allround_cons s0 s (p :: l) _) ?_
    simp only [obl_iff, branch_iff, decide_eq_true_eq, decide_eq_false_iff_not, Bool.not_eq_true', Bool.not_eq_false', Bool.and_eq_true, true_and]
    simp only [List.length_cons] at t3
    refine ⟨by omega, fun h5 => ?_, fun h5 => ⟨fun h4 => ?_, fun h4 => ?_⟩⟩
    · obtain ⟨a1, a2⟩ := all_5 h5
      show qAll s0 .ret [] _ none
      apply q_none
      refine (Eq.mpr (w_allpost_cons s0 (p :: l) _ _ _ (kAll s0)) ?_)
      exact kAll_cons (r := 5) (all_done hT a1) (t2.symm.trans a2) rfl
    · obtain ⟨a1, a2⟩ := all_4 h5 h4
      show qAll s0 .ret [] _ (some .ret)
      apply q_err
      refine (Eq.mpr (w_allerr_cons s0 _ (p :: l) _ _ _ _ _ _ _ _ (kAll s0)) ?_)
      exact kAll_cons (r := 5) (all_done hT a1) (t2.symm.trans a2) rfl
    · obtain ⟨n1, n2⟩ := next h4
      obtain ⟨_, g2, g3, _⟩ := dec_again h4
      refine ⟨?_, fun h => absurd h4 h, fun _ => ⟨⟨by omega, by omega⟩, rfl, (_, p :: (l ++ [(dec s).p])), [(5, 9)], n2, n1, by decide, by kernel_rfl, ?_, ?_⟩⟩
      · simp only [List.length_cons, List.length_append, List.length_nil]
        (repeat' apply And.intro) <;> first | omega | rfl | decide
      · exact subER_cons rfl rfl rfl (subER_cons rfl rfl rfl subER_nil)
      · exact subHR_cons rfl rfl rfl rfl (subHR_cons rfl rfl rfl rfl (subHR_cons rfl rfl rfl rfl (subHR_cons rfl rfl rfl rfl (subHR_cons rfl rfl rfl rfl subHR_nil))))

end Go.Proofs.Ytjacnjecggedhaa
