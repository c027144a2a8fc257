/-
  ExtBack: it is true.
-/
import Derived.Test.YtddjaneacmdkmaaExtBL
import Derived.Test.YtddjaneacmdkmaaExtS
import Derived.Test.YtddjaneacmdkmaaExtO
namespace Go.Proofs.Ytddjaneacmdkmaa
set_option linter.unusedVariables false
set_option linter.unusedSimpArgs false
open Go.RowKit Ev

theorem mkH_good (x : List UInt8) : badHead (baOf (mkH x)) = false := by
  have h := mk9_length x
  unfold badHead
  rw [baOf_size, decide_eq_false_iff_not]
  unfold mkH
  split
  · rw [List.length_drop]; omega
  · omega

theorem mkH_len (x : List UInt8) : (mkH x).length ≤ 9 := by
  have h := mk9_length x
  unfold mkH
  split
  · rw [List.length_drop]; omega
  · omega

theorem finB_good (hs : List (List UInt8)) : ∀ h ∈ (finB hs).map baOf, badHead h = false := by
  intro h hh
  obtain ⟨x, hx, rfl⟩ := List.mem_map.1 hh
  obtain ⟨y, _, rfl⟩ := List.mem_map.1 hx
  exact mkH_good y

theorem finB_len (hs : List (List UInt8)) : (finB hs).length ≤ 10 := by
  unfold finB
  rw [List.length_map, List.length_take]; omega

theorem finB_all (hs : List (List UInt8)) : (finB hs).all (strT strRow) = true := by
  rw [List.all_eq_true]
  intro x hx
  obtain ⟨y, _, rfl⟩ := List.mem_map.1 hx
  show decide ((mkH y).length ≤ maxLen) = true
  have := mkH_len y
  rw [decide_eq_true_eq]
  unfold maxLen; omega

theorem finB_row (l : List (List UInt8)) : l.map (rowS strRow) = l := by
  have : rowS strRow = id := by funext x; rfl
  rw [this, List.map_id]

theorem heads_fin (hs : List (List UInt8)) : heads ((finB hs).map baOf) ≤ 100 := by
  have key : ∀ l : List (List UInt8), (∀ x ∈ l, x.length ≤ 9) → heads (l.map baOf) ≤ 10 * l.length := by
    intro l
    induction l with
    | nil => intro _; simp [heads]
    | cons x r ih =>
      intro h
      have h1 := ih (fun y hy => h y (List.mem_cons_of_mem _ hy))
      have h2 := h x (List.mem_cons_self ..)
      simp only [heads, List.map_cons, List.sum_cons, List.length_cons] at h1 ⊢
      rw [baOf_size]
      omega
  have := key (finB hs) (fun x hx => by obtain ⟨y, _, rfl⟩ := List.mem_map.1 hx; exact mkH_len y)
  have := finB_len hs
  omega

/-- What is put ahead and skipped. -/
theorem back_fact {t : Int} (h0 : 1536 ≤ t) (h1 : t ≤ 65535) (d : List UInt8) (hd : d.length ≤ 100) (l : List ByteArray) (hl : ∀ h ∈ l, badHead h = false) (hh : heads l ≤ 100) :
    ∃ a b, extPut t (baOf d) l = (a, b, 0) ∧ a = (putAll (t, baOf d) l).1 ∧ b.data.toList.length ≤ 10000 ∧ extSkipAll a (baOf b.data.toList) = (t, baOf d, 0) ∧ (l = [] → t = a ∧ b = baOf d) ∧ (l ≠ [] → a < 1536) := by
  have hany : l.any badHead = false := by
    rw [Bool.eq_false_iff]
    intro h
    obtain ⟨x, hx, hxb⟩ := List.any_eq_true.1 h
    rw [hl x hx] at hxb; cases hxb
  have hb := putAll_bounds (t, baOf d) l hl (by show 0 ≤ t; omega) h1
  refine ⟨_, _, by unfold extPut; rw [if_neg (by rw [hany]; simp; omega)], rfl, ?_, ?_, ?_, ?_⟩
  · have := putAll_size t (baOf d) l hl
    rw [baOf_size] at this
    have e : ∀ x : ByteArray, x.data.toList.length = x.size := fun x => by rw [Array.length_toList]; rfl
    rw [e, this]; omega
  · rw [baOf_back]
    unfold extSkipAll
    rw [if_neg (by omega), skip_putAll (t, baOf d) l hl (by show 0 ≤ t; omega) h1, extSkip_high _ _ h0]
  · intro h; subst h; exact ⟨rfl, rfl⟩
  · intro h
    cases l with
    | nil => exact absurd rfl h
    | cons x r => exact putAll_low t (baOf d) x r (hl x (List.mem_cons_self ..))

theorem toL (d : List UInt8) : (baOf d).data.toList = d := by simp [baOf]

theorem ebackn_true (typ : Int) (data : List UInt8) (hd : data.length ≤ maxLen) (h0 : 0 ≤ typ) (h1 : typ ≤ 65535) : LawT (TE.ctx Try.prog) 5 [.int .u16 typ, .str data, .nils] := by
  refine ⟨?_⟩
  rw [w_ebackn typ data (fun o => o = .ret (.bool true))]
  have hmax : maxLen = 9223372036854775807 := rfl
  have hl : (List.take (min (data.length : Int) 100).toNat data).length ≤ 100 := by rw [List.length_take]; omega
  have hm1 := Int.emod_nonneg typ (b := 64000) (by decide)
  have hm2 := Int.emod_lt_of_pos typ (b := 64000) (by decide)
  generalize List.take (min (data.length : Int) 100).toNat data = d at hl ⊢
  generalize ht : (1536 : Int) + typ % 64000 = t
  obtain ⟨a, b, e1, e2, e3, e4, e5, e6⟩ := back_fact (t := t) (by omega) (by omega) d hl [] (by simp) (by simp [heads])
  obtain ⟨rfl, rfl⟩ := e5 rfl
  rw [toL] at e3 e4
  rw [e1]
  simp only [e4, toL, branch_iff, obl_iff, inI64_iffE, decide_eq_true_eq, decide_eq_false_iff_not, decide_true, decide_false, Bool.not_true, Bool.not_false, reduceCtorEq, false_implies, true_implies, true_and, and_true, not_true_eq_false]
  have hlt : ¬ t < 1536 := by omega
  simp only [hlt, decide_false, beq_iff_eq, Bool.true_eq_false, false_implies, true_and, reduceCtorEq, Bool.beq_eq_decide_eq, decide_eq_false_iff_not, decide_eq_true_eq, not_false_eq_true, true_implies]
  exact ⟨by omega, by omega, by omega, by omega, by omega, by simp, fun _ => by omega⟩

theorem eback_true (typ : Int) (data : List UInt8) (hs : List (List UInt8)) (hd : data.length ≤ maxLen) (h0 : 0 ≤ typ) (h1 : typ ≤ 65535) (hsm : ∀ s ∈ hs, s.length ≤ 140737488355327) :
    LawH ((TE.addLc 5 0 (lcB hs)).ctx Try.prog) 5 [.int .u16 typ, .str data, .sl 0 0 1 0 hs.length none] ⟨1, [(0, .row 9 strRow hs .ro)]⟩ := by
  refine ⟨?_⟩
  rw [w_eback typ data hs hs.length (fun o => o = .ret (.bool true))]
  have hmax : maxLen = 9223372036854775807 := rfl
  have hl : (List.take (min (data.length : Int) 100).toNat data).length ≤ 100 := by rw [List.length_take]; omega
  have hm1 := Int.emod_nonneg typ (b := 64000) (by decide)
  have hm2 := Int.emod_lt_of_pos typ (b := 64000) (by decide)
  generalize List.take (min (data.length : Int) 100).toNat data = d at hl ⊢
  generalize ht : (1536 : Int) + typ % 64000 = t
  have hp : preB hs ⟨d, hs.length, t, 0, none⟩ = true := by
    unfold preB
    simp only [Bool.and_eq_true, decide_eq_true_eq, List.all_eq_true]
    exact ⟨trivial, trivial, trivial, hsm⟩
  have hf1 := finB_len hs
  have hf2 := finB_all hs
  obtain ⟨a0, b0, c1, c2, c3, c4, c5, c6⟩ := back_fact (t := t) (by omega) (by omega) d hl [] (by simp) (by simp [heads])
  obtain ⟨rfl, rfl⟩ := c5 rfl
  rw [toL] at c3 c4
  obtain ⟨a, b, e1, e2, e3, e4, e5, e6⟩ := back_fact (t := t) (by omega) (by omega) d hl ((finB hs).map baOf) (finB_good hs) (heads_fin hs)
  rw [finB_row, c1, e1, hp]
  have hlt : ¬ t < 1536 := by omega
  simp only [c4, e4, toL, branch_iff, obl_iff, inI64_iffE, decide_eq_true_eq, decide_eq_false_iff_not, decide_true, decide_false, Bool.not_true, Bool.not_false, reduceCtorEq, false_implies, true_implies, true_and, and_true, not_true_eq_false, hlt, hf2]
  refine ⟨by omega, by omega, by omega, by omega, rfl, rfl, fun hn => ?_, fun hn => ?_⟩
  · first | (refine ⟨by omega, ?_⟩; simp; omega) | (simp; omega)
  · have hne : (finB hs).map baOf ≠ [] := fun h => hn (List.map_eq_nil_iff.1 h)
    have hlo := e6 hne
    have hpos : 0 < (finB hs).length := List.length_pos_iff.2 hn
    have q1 : (0 : Int) < ((finB hs).length : Int) := by omega
    have q2 : ¬ ((finB hs).length : Int) = 0 := by omega
    simp only [hlo, q1, q2, decide_true, decide_false, Bool.not_true, false_implies, true_and, and_true, true_implies]
    exact ⟨by rw [Bool.and_true, decide_eq_true_eq]; omega, by simp, fun _ _ => e3⟩

end Go.Proofs.Ytddjaneacmdkmaa
