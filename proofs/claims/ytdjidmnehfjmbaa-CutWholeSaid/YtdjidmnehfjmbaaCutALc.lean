/-
  The loop of CutAgain: its law.
-/
import Derived.Test.YtdjidmnehfjmbaaCutAR
namespace Go.Proofs.Ytdjidmnehfjmbaa
set_option linter.unusedVariables false
set_option linter.unusedSimpArgs false
open Go.RowKit Ev

structure GoodA (s : Sagain) : Prop where
  may : cMay s.typ s.k s.b s.data s.at_ s.id = true
  lk : s.lk = 1
  k : s.k = 1
  lb : s.lb = s.b
  x : s.x = s.at_
  le : s.at_ ≤ s.at3
  len : s.at3 + 4 ≤ (s.data.length : Int)
  most : s.at3 ≤ 301

def preA (s : Sagain) : Bool := cMay s.typ s.k s.b s.data s.at_ s.id && (decide (s.lk = 1) && (decide (s.k = 1) && (decide (s.lb = s.b) && (decide (s.x = s.at_) && (decide (s.at_ ≤ s.at3) && (decide (s.at3 + 4 ≤ (s.data.length : Int)) && decide (s.at3 ≤ 301)))))))

theorem preA_ok (s : Sagain) (h : preA s = true) : GoodA s := by
  unfold preA at h
  simp only [Bool.and_eq_true, decide_eq_true_eq] at h
  exact ⟨h.1, h.2.1, h.2.2.1, h.2.2.2.1, h.2.2.2.2.1, h.2.2.2.2.2.1, h.2.2.2.2.2.2.1, h.2.2.2.2.2.2.2⟩

def TtA : Sagain → (AExit → Env → AHeap → Prop) → Prop
  | ⟨sp, x, typ, k, b, data, at_, id, typ3, k3, b3, data3, at3, id3, lk, lb⟩, Q => contSt (stagain ⟨sp, at3, typ, k, b, data, at3, id, typ3, k3, b3, data3, at3, id3, lk, lb⟩) Q

noncomputable def lcA : LC := lcOf 5 findagain preA TtA

theorem lOk_three {b : List UInt8} (h : lOk 1 b = true) : b.length = 3 := by
  have := lOk_length h
  have e : lSize 1 = 3 := rfl
  omega

theorem lcA_sound : LcSound Try.prog TC.fns 3 0 lcA := by
  refine lcOf_sound TCok (fn := Try.f3) (n := 100) rfl (by kernel_rfl) stagain (fun s => by cases s; rfl) findagain_ok GoodA preA_ok (fun s => (s.at3 - s.at_).toNat) [2, 8, 11, 13, 14] [4, 3, 0] 5 ?_
  rintro base ⟨sp, at_, typ, k, b, data, x, id, typ3, k3, b3, data3, at3, id3, lk, lb⟩ Q hg hb hT
  obtain ⟨hm, h1, h2, h3, h4, h5, h6, h7⟩ := hg
  simp only at hm h1 h2 h3 h4 h5 h6 h7
  subst h1 h2 h3 h4
  obtain ⟨m1, m2, m3, m4, m5, m6, m7, m8⟩ := cMay_iff.1 hm
  have e3 : lSize 1 = 3 := rfl
  show wpC _ _ _ _ _ _ _ _
  simp only [stagain]
  rw [w_again_round sp at_ typ 1 lb data at_ id typ3 k3 b3 data3 at3 id3 1 lb base (Round base 0 stagain GoodA (fun s => (s.at3 - s.at_).toNat) (fun s' => TtA s' Q) ⟨sp, at_, typ, 1, lb, data, at_, id, typ3, k3, b3, data3, at3, id3, 1, lb⟩ Q)]
  have next : ∀ a' : Int, a' = at_ + 1 → at_ < at3 → Round base 0 stagain GoodA (fun s => (s.at3 - s.at_).toNat) (fun s' => TtA s' Q) ⟨sp, at_, typ, 1, lb, data, at_, id, typ3, k3, b3, data3, at3, id3, 1, lb⟩ Q .normal
      (stagain ⟨sp, a', typ, 1, lb, data, a', id, typ3, k3, b3, data3, at3, id3, 1, lb⟩).1 (stagain ⟨sp, a', typ, 1, lb, data, a', id, typ3, k3, b3, data3, at3, id3, 1, lb⟩).2 := by
    intro a' ha hlt
    refine ⟨⟨sp, a', typ, 1, lb, data, a', id, typ3, k3, b3, data3, at3, id3, 1, lb⟩, ⟨cMay_iff.2 ⟨m1, m2, m3, (by show 0 ≤ a'; omega), (by show a' < (data.length : Int); omega), m6, m7, m8⟩, rfl, rfl, rfl, rfl, by show a' ≤ at3; omega, h6, h7⟩, by show (at3 - a').toNat < (at3 - at_).toNat; omega, hT, .inl ⟨?_, ?_⟩⟩
    · repeat' (first | exact subE_nil | refine subE_cons rfl rfl rfl ?_)
    · repeat' (first | exact subH_nil | refine subH_cons rfl rfl rfl rfl ?_)
  have out : at_ = at3 → Round base 0 stagain GoodA (fun s => (s.at3 - s.at_).toNat) (fun s' => TtA s' Q) ⟨sp, at_, typ, 1, lb, data, at_, id, typ3, k3, b3, data3, at3, id3, 1, lb⟩ Q (.exit 0)
      (stagain ⟨sp, at_, typ, 1, lb, data, at_, id, typ3, k3, b3, data3, at3, id3, 1, lb⟩).1 (stagain ⟨sp, at_, typ, 1, lb, data, at_, id, typ3, k3, b3, data3, at3, id3, 1, lb⟩).2 := by
    intro e
    subst e
    refine ⟨_, (stagain ⟨sp, at_, typ, 1, lb, data, at_, id, typ3, k3, b3, data3, at_, id3, 1, lb⟩).2, hb, ?_, ?_, trivial, contSt_iff.1 (show contSt (stagain ⟨sp, at_, typ, 1, lb, data, at_, id, typ3, k3, b3, data3, at_, id3, 1, lb⟩) Q from hT)⟩
    · repeat' (first | exact subE_nil | refine subE_cons rfl rfl rfl ?_)
    · repeat' (first | exact subH_nil | refine subH_cons rfl rfl rfl rfl ?_)
  have ok0 : ∀ sp whole, at_ = 0 → nextR typ 1 lb data at_ id 1 lb sp whole = nextR typ 1 lb data 0 id 1 lb sp whole := fun sp whole h => by rw [h]
  have s0 : at_ = 0 → at_ < at3 → nextR typ 1 lb data at_ id 1 lb 11 false = ⟨true, false, id, pTotal 1 lb (data.length : Int), typ, 1, lb, data.take 1, [], 1, lb, 1, 0⟩ := by
    intro h hlt
    subst h
    have hn : nOk typ 1 lb data 0 id 1 lb = true := by unfold nOk; rw [hm, m3]; simp
    have e4 : min (max 0 (min (11 : Int) 4097) - 7 - lSize 1) ((data.length : Int) - 1) = 1 := by omega
    unfold nextR
    rw [if_neg (by rw [hn]; simp), if_pos rfl, if_neg (by omega), if_neg (by rw [e4]; simp), e4]
    rfl
  have s1 : at_ ≠ 0 → at_ < at3 → nextR typ 1 lb data at_ id 1 lb 4 false = ⟨false, false, id, 0, 0, 0, [], (data.take (at_ + 1).toNat).drop at_.toNat, [], 1, lb, at_ + 1, 0⟩ := by
    intro h hlt
    have hn : nOk typ 1 lb data at_ id 1 lb = true := by unfold nOk; rw [hm, m3]; simp
    have e4 : min (max 0 (min (4 : Int) 4097) - 3) ((data.length : Int) - at_ - 1) = 1 := by omega
    unfold nextR
    rw [if_neg (by rw [hn]; simp), if_neg h, if_neg (by omega), if_neg (by omega), e4]
  simp only [branch_iff, obl_iff, decide_eq_true_eq, decide_eq_false_iff_not, inI64_iff]
  refine ⟨fun g1 => ⟨fun g2 => ⟨fun g3 => ?_, fun g3 => ?_⟩, fun g2 => by omega⟩, fun g1 => out (by omega)⟩
  · rw [s0 g3 g1]
    refine ⟨fun h => by simp at h, fun _ => ⟨by omega, ?_⟩⟩
    have := next (at_ + 1) rfl g1
    subst g3
    exact this
  · rw [s1 g3 g1]
    exact ⟨fun h => by simp at h, fun _ => ⟨by omega, next (at_ + 1) rfl g1⟩⟩

end Go.Proofs.Ytdjidmnehfjmbaa
