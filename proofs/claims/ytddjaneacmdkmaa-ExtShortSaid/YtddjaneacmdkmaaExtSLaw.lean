/-
  ExtShort: it is true.
-/
import Derived.Test.YtddjaneacmdkmaaExtSL
import Derived.Test.YtddjaneacmdkmaaExtBRaw
namespace Go.Proofs.Ytddjaneacmdkmaa
set_option linter.unusedVariables false
set_option linter.unusedSimpArgs false
open Go.RowKit Ev

theorem heads_hd2 : ∀ l : List (List UInt8), heads (l.map baOf) = hd2 l
  | [] => rfl
  | x :: l => by
    have h := heads_hd2 l
    simp only [heads, hd2, List.map_cons, List.sum_cons] at h ⊢
    rw [baOf_size, h]

theorem short_fact (l : List ByteArray) (hl : ∀ h ∈ l, badHead h = false) (hh : heads l ≤ 100) :
    ∃ a b, extPut 2048 (baOf []) l = (a, b, 0) ∧ b.data.toList.length = heads l ∧ ∀ k : Nat, k < heads l → extSkipAll a (baOf (b.data.toList.take k)) = (0, ByteArray.empty, 4) := by
  have hany : l.any badHead = false := by
    rw [Bool.eq_false_iff]
    intro h
    obtain ⟨x, hx, hxb⟩ := List.any_eq_true.1 h
    rw [hl x hx] at hxb; cases hxb
  have he : baOf [] = ByteArray.empty := rfl
  rw [he]
  have hb := putAll_bounds (2048, ByteArray.empty) l hl (by decide) (by decide)
  refine ⟨_, _, by unfold extPut; rw [if_neg (by rw [hany]; simp)], ?_, fun k hk => ?_⟩
  · have := putAll_size 2048 ByteArray.empty l hl
    have e : ∀ x : ByteArray, x.data.toList.length = x.size := fun x => by rw [Array.length_toList]; rfl
    rw [e, this]; rfl
  · have e : baOf ((putAll (2048, ByteArray.empty) l).2.data.toList.take k) = (putAll (2048, ByteArray.empty) l).2.extract 0 k := by
      apply ba_ext
      rw [toL, ByteArray.data_extract, Array.toList_extract, List.extract_eq_take_drop, List.drop_zero, Nat.sub_zero]
    rw [e]
    unfold extSkipAll
    rw [if_neg (by omega)]
    exact short_putAll 2048 (by decide) (by decide) l k hl hk

theorem eshortn_true (a : Int) : LawT (TE.ctx Try.prog) 6 [.nils, .int .u8 a] := by
  refine ⟨?_⟩
  rw [w_eshortn a (fun o => o = .ret (.bool true))]

theorem eshort_true (a : Int) (hs : List (List UInt8)) (h0 : 0 ≤ a) (h1 : a ≤ 255) (hsm : ∀ s ∈ hs, s.length ≤ 140737488355327) :
    LawH ((TE.addLc 6 0 (lcS hs)).ctx Try.prog) 6 [.sl 0 0 1 0 hs.length none, .int .u8 a] ⟨1, [(0, .row 9 strRow hs .ro)]⟩ := by
  refine ⟨?_⟩
  rw [w_eshort a hs hs.length (fun o => o = .ret (.bool true))]
  have hp : preS hs ⟨hs.length, a, 0, 0, none⟩ = true := by
    unfold preS
    simp only [Bool.and_eq_true, decide_eq_true_eq, List.all_eq_true]
    exact ⟨trivial, trivial, trivial, trivial, hsm⟩
  have hf1 := finB_len hs
  have hf2 := finB_all hs
  have hh := heads_hd2 (finB hs)
  have hh1 := heads_fin hs
  obtain ⟨x, b, e1, e2, e3⟩ := short_fact ((finB hs).map baOf) (finB_good hs) hh1
  rw [hh] at e2 e3 hh1
  rw [finB_row, e1, hp]
  refine ⟨rfl, rfl, obl_iff.2 ⟨rfl, fun hn => rfl, fun hn => ?_⟩⟩
  have hpos : 0 < (finB hs).length := List.length_pos_iff.2 hn
  have hpos2 : 0 < hd2 (finB hs) := by
    revert hpos
    generalize finB hs = l
    intro hpos
    cases l with
    | nil => simp at hpos
    | cons y r => simp only [hd2, List.map_cons, List.sum_cons]; omega
  have hm1 := Int.emod_nonneg a (b := (hd2 (finB hs) : Int)) (by omega)
  have hm2 := Int.emod_lt_of_pos a (b := (hd2 (finB hs) : Int)) (by omega)
  have e4 := e3 (a % (hd2 (finB hs) : Int)).toNat (by omega)
  simp only [e4]
  have q2 : ¬ ((finB hs).length : Int) = 0 := by omega
  have q3 : (b.data.toList.length : Int) = (hd2 (finB hs) : Int) := by omega
  have q4 : ByteArray.empty.data.toList = [] := rfl
  simp only [q2, q3, q4, hf2, branch_iff, obl_iff, inI64_iffE, decide_eq_true_eq, decide_eq_false_iff_not, decide_true, decide_false, Bool.not_true, Bool.not_false, reduceCtorEq, false_implies, true_implies, true_and, and_true, not_true_eq_false, Bool.and_true, List.length_take, not_false_eq_true]
  omega

theorem eshort_raw {H : Type} {enc : TypeId × Value → H} {base : Nat} {d' : DataW H} {p : List MemPlace} (v : Value) (t : Int) (W : World) (hv : Value.okWide Try.prog W .any base 27 v) (h : DataW.Trod enc Try.prog W 0 (fun _ => true) true 27 v d' p) (hz : ∀ n ∈ d'.weights Try.prog 27, n ≤ reachBytes) (ht : (Lit.int .u8 t).wf = true) :
    Calls Try.prog 6 #[v, .int .u8 t] W fun e w' => e = .returned (.bool true) ∧ Below W.heap.size W w' := by
  have w_t : 0 ≤ t ∧ t ≤ 255 := by simpa [Lit.wf, IntKind.min, IntKind.max, IntKind.signed, IntKind.bits] using ht
  rcases open_strsW hv h hz with h0 | ⟨ρ, l, rfl, hl, hR⟩
  · rw [h0 rho0]
    exact law_true TEok.ctx (args := [.nils, .int .u8 t]) (eshortn_true t) rfl rho0 W
  · exact law_row (TEok.addLc (lcS_sound l)).ctx (args := [.sl 0 0 1 0 l.length none, .int .u8 t]) (eshort_true t l w_t.1 w_t.2 hl) ro_own rfl ρ W hR

end Go.Proofs.Ytddjaneacmdkmaa
