/-
  Ev: arguments of plain data that come in, opened: whole numbers, truth values, texts, and structs and arrays of them.
-/
import Derived.Test.YtofnedbclnlnmaaEvX
import Derived.Lib.SmallJoins
import Derived.ProofKit
import Derived.OpenShut
namespace Go.Proofs.Ytofnedbclnlnmaa.Ev
set_option linter.unusedVariables false
set_option linter.unusedSimpArgs false
open Go.RowKit Go.Joins Go.ChangeShapes Go.WideShapes
open Go.ChangeMaps (open_string)

/-- What a cell is. -/
inductive CT where
  | int (k : IntKind)
  | bool
  | str

def Of1 : CT → AVal → Prop
  | .int k, v => ∃ n, v = .int k n ∧ (Lit.int k n).wf = true
  | .bool, v => ∃ b, v = .bool b
  | .str, v => ∃ s, v = .str s ∧ s.length ≤ maxLen
def OfL : List CT → List AVal → Prop
  | [], vs => vs = []
  | c :: cs, vs => ∃ v r, vs = v :: r ∧ Of1 c v ∧ OfL cs r

theorem OfL_append : ∀ {l1 l2 : List CT} {v1 v2 : List AVal}, OfL l1 v1 → OfL l2 v2 → OfL (l1 ++ l2) (v1 ++ v2)
  | [], l2, v1, v2, h, k => by cases h; exact k
  | c :: l1, l2, v1, v2, h, k => by
    obtain ⟨v, r, rfl, h1, h2⟩ := h
    exact ⟨v, r ++ v2, rfl, h1, OfL_append h2 k⟩

def flatFs (P : Program) (g : TypeId → Option (List CT)) : Nat → Nat → List Field → Option (List CT)
  | o, c, [] => if o = c then some [] else none
  | o, c, f :: fs => match g f.type, flatFs P g (o + P.cellsOf f.type) c fs with
    | some l, some r => if f.offset = o ∧ l.length = P.cellsOf f.type then some (l ++ r) else none
    | _, _ => none

/-- The cells of a type. -/
def flat (P : Program) : Nat → TypeId → Option (List CT)
  | 0, _ => none
  | n + 1, t => match P.underlying t with
    | some .bool => some [.bool]
    | some (.int k) => some [.int k]
    | some .string => some [.str]
    | some (.struct fs) => flatFs P (flat P n) 0 (P.cellsOf t) fs.toList
    | some (.array m e) => match flat P n e with
      | some l => if l.length = P.cellsOf e ∧ P.cellsOf t = m * P.cellsOf e then some ((List.replicate m l).flatten) else none
      | none => none
    | _ => none

/-- The cells, as ours. -/
def Opens (l : List CT) (cs : List Value) : Prop := ∃ avs, (∀ ρ, trL ρ avs = cs) ∧ OfL l avs

theorem Opens.append {l1 l2 : List CT} {c1 c2 : List Value} : Opens l1 c1 → Opens l2 c2 → Opens (l1 ++ l2) (c1 ++ c2) := by
  rintro ⟨a1, h1, k1⟩ ⟨a2, h2, k2⟩
  exact ⟨a1 ++ a2, fun ρ => by rw [trL_append, h1, h2], OfL_append k1 k2⟩

theorem str_tr (s : ByteArray) (ρ : Rho) : tr ρ (.str s.data.toList) = .string s := by
  simp [tr]

theorem opens_fs {P : Program} {R : TypeId → List Value → Prop} {g : TypeId → Option (List CT)} (ih : ∀ t cs l, g t = some l → R t cs → Opens l cs) : ∀ (fs : List Field) (o c : Nat) (l : List CT) (cs : List Value), flatFs P g o c fs = some l → cs.length = c → (∀ f ∈ fs, R f.type ((cs.drop f.offset).take (P.cellsOf f.type))) → Opens l (cs.drop o)
  | [], o, c, l, cs, h, hc, _ => by
    unfold flatFs at h
    split at h
    · rename_i he
      simp only [Option.some.injEq] at h
      subst h
      exact ⟨[], fun ρ => by rw [List.drop_eq_nil_of_le (by omega)]; rfl, rfl⟩
    · cases h
  | f :: fs, o, c, l, cs, h, hc, hr => by
    unfold flatFs at h
    split at h
    · rename_i l1 r h1 h2
      split at h
      · rename_i hh
        simp only [Option.some.injEq] at h
        subst h
        have q1 := ih _ _ _ h1 (hr f (List.mem_cons_self ..))
        have q2 := opens_fs ih fs _ c r cs h2 hc (fun f' hf' => hr f' (List.mem_cons_of_mem _ hf'))
        rw [hh.1] at q1
        have := q1.append q2
        rw [← List.drop_drop, List.take_append_drop] at this
        exact this
      · cases h
    · cases h

theorem opens_arr {l : List CT} {k : Nat} : ∀ (m : Nat) (cs : List Value), cs.length = m * k → (∀ i, i < m → Opens l ((cs.drop (i * k)).take k)) → Opens ((List.replicate m l).flatten) cs
  | 0, cs, hc, _ => by
    obtain rfl : cs = [] := List.eq_nil_of_length_eq_zero (by omega)
    exact ⟨[], fun _ => rfl, rfl⟩
  | m + 1, cs, hc, h => by
    have h0 := h 0 (by omega)
    simp only [Nat.zero_mul, List.drop_zero] at h0
    have h1 : Opens ((List.replicate m l).flatten) (cs.drop k) := by
      refine opens_arr (k := k) m (cs.drop k) (by rw [List.length_drop, hc, Nat.succ_mul]; omega) (fun i hi => ?_)
      have := h (i + 1) (by omega)
      rw [List.drop_drop]
      rw [Nat.succ_mul, Nat.add_comm] at this
      exact this
    have := h0.append h1
    rw [List.take_append_drop] at this
    rw [List.replicate_succ, List.flatten_cons]
    exact this

theorem opens {H : Type} {enc : TypeId × Value → H} {P : Program} {w : World} {base : Nat} {spare : Nat → Bool} {held : Bool} : ∀ (n : Nat) (t : TypeId) (cs : List Value) (l : List CT), flat P n t = some l → (∃ fuel x, DataW.trod enc P w base spare held fuel t cs = some x) → Opens l cs
  | 0, t, cs, l, h, _ => by simp [flat] at h
  | n + 1, t, cs, l, h, ⟨fuel, x, hx⟩ => by
    unfold flat at h
    split at h
    · rename_i ht
      simp only [Option.some.injEq] at h
      subst h
      cases fuel with
      | zero => simp [DataW.trod] at hx
      | succ f =>
        unfold DataW.trod at hx
        rw [ht] at hx
        split at hx <;> first | cases hx; done | (simp_all; done) | skip
        rename_i b _
        exact ⟨[.bool b], fun _ => rfl, _, _, rfl, ⟨b, rfl⟩, rfl⟩
    · rename_i k ht
      simp only [Option.some.injEq] at h
      subst h
      obtain ⟨m, rfl, _, hw⟩ := DataW.trod_int ht hx
      exact ⟨[.int k m], fun _ => rfl, _, _, rfl, ⟨m, rfl, hw⟩, rfl⟩
    · rename_i ht
      simp only [Option.some.injEq] at h
      subst h
      obtain ⟨s, rfl, _, hw⟩ := DataW.trod_string ht hx
      exact ⟨[.str s.data.toList], fun ρ => by simp [trL, str_tr], _, _, rfl, ⟨s.data.toList, rfl, (by rw [Array.length_toList]; exact hw)⟩, rfl⟩
    · rename_i fs ht
      obtain ⟨xs, m, rfl, _, hl, hlen, hf⟩ := DataW.trod_struct ht hx
      have := opens_fs (P := P) (R := fun t cs => ∃ fuel x, DataW.trod enc P w base spare held fuel t cs = some x) (opens n) fs.toList 0 _ l cs h hl (fun f hfm => by
        obtain ⟨i, hi, he⟩ := List.getElem_of_mem hfm
        have hfi : fs[i]? = some f := by rw [← he]; simp
        have hi' : i < xs.length := by rw [hlen]; simpa using hi
        exact ⟨m, xs[i], by rw [hf i f hfi]; simp [hi']⟩)
      simpa using this
    · rename_i m e ht
      split at h
      · rename_i l1 h1
        split at h
        · rename_i hh
          simp only [Option.some.injEq] at h
          subst h
          obtain ⟨xs, k, rfl, _, hl, hlen, hf⟩ := DataW.trod_array ht hx
          refine opens_arr m cs (hl.trans hh.2) (fun i hi => opens n e _ l1 h1 ⟨k, xs[i]'(by omega), by rw [hf i hi]; simp [hlen, hi]⟩)
        · cases h
      · cases h
    · cases h

/-- What an argument is. -/
inductive CK where
  | one (c : CT)
  | agg (l : List CT)
def kindOf (P : Program) (t : TypeId) : Option CK := match P.underlying t with
  | some .bool => some (.one .bool)
  | some (.int k) => some (.one (.int k))
  | some .string => some (.one .str)
  | some (.struct _) | some (.array _ _) => (flat P 8 t).map CK.agg
  | _ => none
def OfK : CK → AVal → Prop
  | .one c, v => Of1 c v
  | .agg l, v => ∃ vs, v = .agg vs ∧ OfL l vs

theorem open_any {H : Type} {enc : TypeId × Value → H} {P : Program} {w : World} {base : Nat} {spare : Nat → Bool} {held : Bool} {r : Reach} {b0 : Nat} {t : TypeId} {v : Value} {d : DataW H} {p : List MemPlace} {K : CK} (hK : kindOf P t = some K)
    (hv : Value.okWide P w r b0 t v) (h : DataW.Trod enc P w base spare held t v d p) : ∃ a, (∀ ρ, v = tr ρ a) ∧ OfK K a := by
  unfold kindOf at hK
  split at hK
  · rename_i ht
    simp only [Option.some.injEq] at hK
    subst hK
    obtain ⟨b, rfl, _⟩ := open_bool ht hv h
    exact ⟨.bool b, fun _ => rfl, b, rfl⟩
  · rename_i k ht
    simp only [Option.some.injEq] at hK
    subst hK
    obtain ⟨n, rfl, _, _, hw⟩ := open_int ht hv h
    exact ⟨.int k n, fun _ => rfl, n, rfl, hw⟩
  · rename_i ht
    simp only [Option.some.injEq] at hK
    subst hK
    obtain ⟨s, rfl, _, _, hw⟩ := open_string ht hv h
    exact ⟨.str s.data.toList, fun ρ => (str_tr s ρ).symm, _, rfl, (by rw [Array.length_toList]; exact hw)⟩
  · rename_i fs ht
    obtain ⟨cs, rfl, hsz⟩ := okWide_struct ht hv
    simp only [Option.map_eq_some_iff] at hK
    obtain ⟨l, hl, rfl⟩ := hK
    obtain ⟨fuel, hf⟩ := h
    obtain ⟨avs, h1, h2⟩ := opens 8 t cs.toList l hl ⟨fuel, _, hf⟩
    exact ⟨.agg avs, fun ρ => by simp [tr, h1], avs, rfl, h2⟩
  · rename_i m e ht
    have : ∃ cs, v = .agg cs ∧ cs.size = P.cellsOf t := by
      simp only [Value.okWide, ht] at hv
      obtain ⟨cs, h1, h2, _⟩ := hv
      exact ⟨cs, h1, h2⟩
    obtain ⟨cs, rfl, hsz⟩ := this
    simp only [Option.map_eq_some_iff] at hK
    obtain ⟨l, hl, rfl⟩ := hK
    obtain ⟨fuel, hf⟩ := h
    obtain ⟨avs, h1, h2⟩ := opens 8 t cs.toList l hl ⟨fuel, _, hf⟩
    exact ⟨.agg avs, fun ρ => by simp [tr, h1], avs, rfl, h2⟩
  · cases hK

def rho0 : Rho := ⟨fun _ => 0, fun _ => 0, fun _ => 0⟩

end Go.Proofs.Ytofnedbclnlnmaa.Ev
