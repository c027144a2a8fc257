/-
  Members: the contracts' form.
-/
import Derived.Test.YtcgnoegejmhgmaaMbDel
namespace Go.Proofs.Ytcgnoegejmhgmaa
set_option linter.unusedVariables false
set_option linter.unusedSimpArgs false
open Go.RowKit Ev

def rowI (l : List Int) : ABlk := .row 3 (intRow .i64) l .plain

structure MemA where
  T : RowTy
  l : List T.α
  n : Nat
  U : ObjTy
  st : U.σ
  rest : List AVal

def decMem (args : List AVal) (H : AHeap) : Option (List (Nat × Nat) × MemA) := match args with
  | .ptr b 0 0 0 :: rest => match H.get b with
    | some (.cells e [.sl b1 0 1 0 n none, .map b2]) => match H.get b1, H.get b2 with
      | some (.row e1 T l .plain), some (.obj U st []) => match Nat.beq e 45 && (Nat.beq e1 3 && (!(Nat.beq b1 b2) && belowL 0 rest)) with
        | true => some ([(0, b), (1, b1), (2, b2)], ⟨T, l, n, U, st, rest⟩)
        | false => none
      | _, _ => none
    | _ => none
  | _ => none
def memC (s : MemA) : AHeap := ⟨3, [(0, membersB (.sl 1 0 1 0 s.n none) (.map 2)), (1, .row 3 s.T s.l .plain), (2, .obj s.U s.st [])]⟩
def memArgs (s : MemA) : List AVal := .ptr 0 0 0 0 :: s.rest

theorem get_three {x y z u : ABlk} {c : Nat} (h : AHeap.get ⟨3, [(0, x), (1, y), (2, z)]⟩ c = some u) : (c = 0 ∧ x.live = some u) ∨ (c = 1 ∧ y.live = some u) ∨ (c = 2 ∧ z.live = some u) := by
  unfold AHeap.get at h
  rw [getB_cons] at h
  by_cases h0 : 0 = c
  · rw [if_pos h0] at h; exact .inl ⟨h0.symm, h⟩
  rw [if_neg h0, getB_cons] at h
  by_cases h1 : 1 = c
  · rw [if_pos h1] at h; exact .inr (.inl ⟨h1.symm, h⟩)
  rw [if_neg h1, getB_cons] at h
  by_cases h2 : 2 = c
  · rw [if_pos h2] at h; exact .inr (.inr ⟨h2.symm, h⟩)
  rw [if_neg h2] at h
  cases h

theorem three_cases {c : Nat} (h : c < 3) : c = 0 ∨ c = 1 ∨ c = 2 := by omega

mutual
theorem renV_data {σ : List (Nat × Nat)} : ∀ v : AVal, v.under 0 = true → renV σ v = v
  | .int _ _, _ | .bool _, _ | .str _, _ | .nilp, _ | .nils, _ | .nilm, _ | .nilf, _ | .niface, _ => rfl
  | .ptr b i z j, h | .sl b i z j _ _, h | .map b, h | .yld b, h => by simp [AVal.under] at h
  | .func f a c, h => by
    simp only [AVal.under, Bool.and_eq_true] at h
    simp only [renV, renL_data a h.1, renL_data c h.2]
  | .agg l, h => by simp only [AVal.under] at h; simp only [renV, renL_data l h]
  | .tup l, h => by simp only [AVal.under] at h; simp only [renV, renL_data l h]
  | .iface t v, h => by simp only [AVal.under] at h; simp only [renV, renV_data v h]
  | .meth m v, h => by simp only [AVal.under] at h; simp only [renV, renV_data v h]
theorem renL_data {σ : List (Nat × Nat)} : ∀ l : List AVal, belowL 0 l = true → renL σ l = l
  | [], _ => rfl
  | v :: l, h => by
    simp only [belowL, Bool.and_eq_true] at h
    simp only [renL, renV_data v h.1, renL_data l h.2]
end

theorem decMem_ok : DecOk decMem memArgs memC := by
  refine ⟨fun args H σ s h hb hH => ?_⟩
  unfold decMem at h
  split at h <;> try cases h
  rename_i b rest
  split at h <;> try cases h
  rename_i e b1 n b2 hg
  split at h <;> try cases h
  rename_i e1 T l U st hg1 hg2
  split at h <;> try cases h
  rename_i hc
  simp only [Bool.and_eq_true, Bool.not_eq_true'] at hc
  have he := nat_beq_eq.1 hc.1
  have he1 := nat_beq_eq.1 hc.2.1
  have hne := nat_beq_ne.1 hc.2.2.1
  subst he he1
  have n01 : b ≠ b1 := by rintro rfl; rw [hg] at hg1; cases hg1
  have n02 : b ≠ b2 := by rintro rfl; rw [hg] at hg2; cases hg2
  refine ⟨?_, ?_, fun c x hx => ?_, fun c c' hc hc' hne' => ?_, fun c hc => ?_⟩
  · show _ = renV _ _ :: renL _ _
    rw [renL_data _ hc.2.2.2]; rfl
  · show belowL 3 _ = true
    simp only [memArgs, belowL, AVal.under, Bool.and_eq_true]
    exact ⟨rfl, belowL_mono (Nat.zero_le _) _ hc.2.2.2⟩
  · rcases get_three hx with ⟨rfl, hx⟩ | ⟨rfl, hx⟩ | ⟨rfl, hx⟩
    · cases hx; exact ⟨(by decide : 0 < 3), rfl, hg⟩
    · cases hx; exact ⟨(by decide : 1 < 3), rfl, hg1⟩
    · cases hx; exact ⟨(by decide : 2 < 3), rfl, hg2⟩
  · rcases three_cases hc with rfl | rfl | rfl <;> rcases three_cases hc' with rfl | rfl | rfl <;> first | exact absurd rfl hne' | exact n01 | exact n02 | exact hne | exact n01.symm | exact n02.symm | exact fun h => hne h.symm
  · rcases three_cases hc with rfl | rfl | rfl
    · exact (hH b _ hg).1
    · exact (hH b1 _ hg1).1
    · exact (hH b2 _ hg2).1

def castM : {U : ObjTy} → U = MapT listV → U.σ → MapSt listV
  | _, rfl, s => s

theorem Ghost.ext {H H' : AHeap} (hn : H'.next = H.next) (hg : ∀ b, H'.get b = H.get b) : Ghost H H' := fun ρ w hR => ⟨ρ, (Step.refl hR).ext hn hg⟩

def isUnf (x : MapSt listV) : Bool := match x.foc with
  | none => true
  | some _ => false
def unf (x : MapSt listV) : Prop := isUnf x = true

def fMem (C : MemS → List AVal → Option (AVal × AHeap)) (s : MemA) (K : Out → AHeap → Prop) : Prop :=
  ∃ (hT : s.T = intRow .i64) (hU : s.U = MapT listV), (s.n = (castI hT s.l).length ∧ unf (castM hU s.st)) ∧ WfM ⟨castI hT s.l, (castM hU s.st).base⟩ ∧
    (match C ⟨castI hT s.l, (castM hU s.st).base⟩ s.rest with
      | some (v, H) => forceH H (K (.ret v))
      | none => Stuck 42 [])

/-- A contract by what is computed. -/
theorem mem_gc {P : Program} {f : FuncId} {C : MemS → List AVal → Option (AVal × AHeap)} (he : ∀ vs w, (callFunc f vs).run P w = .ok (.enter f vs) w)
    (h : ∀ S rest v H1, WfM S → C S rest = some (v, H1) → ∀ ρ w, Rel ρ ⟨3, memH S⟩ w → belowL 3 (.ptr 0 0 0 0 :: rest) = true → Calls P f (trL ρ (.ptr 0 0 0 0 :: rest)).toArray w fun e w' => ∃ out H' ρ', Out.rel ρ' H'.next out e ∧ (out = .ret v ∧ H' = H1) ∧ Step ρ ⟨3, memH S⟩ w ρ' H' w') : GcSound P f (gcSub decMem memC (fMem C)) := by
  refine gc_sub he decMem_ok (fun s k hk ρ w hR hb => ?_)
  obtain ⟨T, l, n, U, st, rest⟩ := s
  obtain ⟨hT, hU, ⟨h1, h2⟩, hW, hk⟩ := hk
  simp only at hT hU
  subst hT hU
  change n = List.length l at h1
  subst h1
  obtain ⟨base, foc⟩ := st
  have h2 : foc = none := by
    cases foc with
    | none => rfl
    | some k => cases h2
  subst h2
  change WfM ⟨l, base⟩ at hW
  change (match C ⟨l, base⟩ rest with
      | some (v, H) => forceH H (k (.ret v))
      | none => Stuck 42 []) at hk
  cases hC : C ⟨l, base⟩ rest with
  | none => rw [hC] at hk; exact (not_stuck hk).elim
  | some p =>
    obtain ⟨v, H1⟩ := p
    rw [hC] at hk
    simp only [forceH_eq] at hk
    refine (h ⟨l, base⟩ rest v H1 hW hC ρ w hR hb).mono ?_
    rintro e w' ⟨out, H', ρ', h1, ⟨rfl, rfl⟩, h3⟩
    exact ⟨_, _, ρ', h1, hk, h3⟩

theorem Ghost.more (n : Nat) (bs : List (Nat × ABlk)) : Ghost ⟨n, bs⟩ ⟨n + 1, bs⟩ := fun ρ w hR => ⟨_, (Step.refl hR).more⟩

/-- The memory with a key of the map in sight. -/
def memF (S : MemS) (B : List (Int × List Int)) (k : Int) (v : List AVal) : List (Nat × ABlk) := [(0, membersB (.sl 1 0 1 0 S.modes.length none) (.map 2)), (1, rowI S.modes), (2, .obj (MapT listV) ⟨B, some k⟩ v)]
def slI (b : Nat) (l : List Int) : AVal := .sl b 0 1 0 l.length none

theorem memF_some (S : MemS) (k : Int) (l : List Int) (N : Nat) (bs : List (Nat × ABlk)) (hN : 3 ≤ N) (h : getK k S.lists = some l) : Ghost ⟨N, memH S ++ bs⟩ ⟨N + 1, (N, rowI l) :: memF S (delK k S.lists) k [slI N l] ++ bs⟩ := by
  refine (focus_some (V := listV) (H := ⟨N, memH S ++ bs⟩) (b := 2) (L := S.lists) (n := k) (s := l) rfl h).trans (Ghost.ext rfl fun b => ?_)
  unfold AHeap.get focH memF memH AHeap.put AHeap.new
  simp only [List.cons_append, List.nil_append, getB_cons]
  by_cases h3 : N = b
  · subst h3; rw [if_pos rfl, if_pos rfl]; rfl
  by_cases h0 : 0 = b
  · subst h0; simp only [h3, if_false]; rfl
  by_cases h1 : 1 = b
  · subst h1; simp only [h3, if_false]; rfl
  by_cases h2 : 2 = b
  · subst h2; simp only [h3, if_false]; rfl
  simp only [h0, h1, h2, h3, if_false]
theorem memF_none (S : MemS) (k : Int) (N : Nat) (bs : List (Nat × ABlk)) (h : getK k S.lists = none) : Ghost ⟨N, memH S ++ bs⟩ ⟨N, memF S (delK k S.lists) k [] ++ bs⟩ := by
  refine (focus_none (V := listV) (H := ⟨N, memH S ++ bs⟩) (b := 2) (L := S.lists) (n := k) rfl h).trans (Ghost.ext rfl fun b => ?_)
  rw [delK_self (getK_none.1 h)]
  unfold AHeap.get memF memH AHeap.put
  simp only [List.cons_append, List.nil_append, getB_cons]
  by_cases h0 : 0 = b
  · subst h0; rfl
  by_cases h1 : 1 = b
  · subst h1; rfl
  by_cases h2 : 2 = b
  · subst h2; rfl
  simp only [h0, h1, h2, if_false]

/-- Out of sight. -/
theorem memF_back (S : MemS) (B : List (Int × List Int)) (k : Int) (l : List Int) (N nb : Nat) (h3 : 3 ≤ nb) (bs : List (Nat × ABlk)) (hnb : getB bs nb = some (rowI l)) :
    Ghost ⟨N, memF S B k [slI nb l] ++ bs⟩ ⟨N, memH ⟨S.modes, B ++ [(k, l)]⟩ ++ (nb, .dead) :: bs⟩ := by
  have h0 : ¬ 0 = nb := by omega
  have h1 : ¬ 1 = nb := by omega
  have h2 : ¬ 2 = nb := by omega
  have hg : AHeap.get ⟨N, memF S B k [slI nb l] ++ bs⟩ nb = some (rowI l) := by
    unfold AHeap.get memF
    simp only [List.cons_append, List.nil_append, getB_cons, h0, h1, h2, if_false]
    exact hnb
  refine (unfocus_some (V := listV) (H := ⟨N, memF S B k [slI nb l] ++ bs⟩) (b := 2) (nb := nb) (B := B) (n := k) (s := l) (v := slI nb l) rfl hg (by omega) (by
    show AVal.sl nb 0 1 0 l.length none = toN nb (.sl 0 0 1 0 l.length none)
    rfl)).trans (Ghost.ext rfl fun b => ?_)
  unfold AHeap.get memF memH AHeap.put
  simp only [List.cons_append, List.nil_append, getB_cons]
  by_cases e0 : 0 = b
  · subst e0; simp only [Ne.symm h0, if_true, if_false]; rfl
  by_cases e1 : 1 = b
  · subst e1; simp only [Ne.symm h1, if_true, if_false]; rfl
  by_cases e2 : 2 = b
  · subst e2; rfl
  simp only [e0, e1, e2, if_false]
theorem memF_back0 (S : MemS) (B : List (Int × List Int)) (k : Int) (N : Nat) (bs : List (Nat × ABlk)) :
    Ghost ⟨N, memF S B k [] ++ bs⟩ ⟨N, memH ⟨S.modes, B⟩ ++ bs⟩ := by
  refine (unfocus_none (V := listV) (H := ⟨N, memF S B k [] ++ bs⟩) (b := 2) (B := B) (n := k) rfl).trans (Ghost.ext rfl fun b => ?_)
  unfold AHeap.get memF memH AHeap.put
  simp only [List.cons_append, List.nil_append, getB_cons]
  by_cases e0 : 0 = b
  · subst e0; rfl
  by_cases e1 : 1 = b
  · subst e1; rfl
  by_cases e2 : 2 = b
  · subst e2; rfl
  simp only [e0, e1, e2, if_false]

/-- A method, at the nil pointer too. -/
def gcNil (f0 : List AVal → Option AVal) (g : GC) : GC := fun args H K => match args with
  | .nilp :: rest => match f0 rest with
    | some v => K (.ret v) H
    | none => Stuck 46 []
  | args => g args H K

theorem gc_nil {X : Ctx} (hX : CtxOk X) {f n : Nat} {f0 : List AVal → Option AVal} {g : GC} (he : ∀ vs w, (callFunc f vs).run X.P w = .ok (.enter f vs) w) (hg : GcSound X.P f g)
    (h : ∀ rest v, f0 rest = some v → belowL 0 rest = true ∧ (∀ N, v.under N = true) ∧ (∀ ρ ρ', tr ρ v = tr ρ' v) ∧ callC X n f (.nilp :: rest) ⟨0, []⟩ (fun o _ => o = .ret v)) : GcSound X.P f (gcNil f0 g) := by
  intro args H K hK ρ w hR hargs
  unfold gcNil at hK
  split at hK
  · rename_i rest
    split at hK
    rotate_left
    · exact (not_stuck hK).elim
    rename_i v hv
    obtain ⟨h1, h2, h3, h4⟩ := h rest v hv
    refine ⟨he, (call_pure hX h4 (by simp only [belowL, AVal.under, h1, Bool.and_self]) ρ w).mono ?_⟩
    rintro e w' ⟨out, ρ', N', ho, rfl, hb⟩
    cases e <;> simp only [Out.rel] at ho
    refine ⟨.ret v, H, ρ, ?_, hK, Step.grow hR hb⟩
    exact ⟨by rw [ho.1]; exact h3 _ _, h2 _⟩
  · exact hg _ _ _ hK ρ w hR hargs

/-- The order of what a map holds does not matter. -/
theorem memH_perm (S : MemS) (L : List (Int × List Int)) (N : Nat) (bs : List (Nat × ABlk)) (h : S.lists.Perm L) : Ghost ⟨N, memH S ++ bs⟩ ⟨N, memH ⟨S.modes, L⟩ ++ bs⟩ := by
  refine (map_perm (V := listV) (H := ⟨N, memH S ++ bs⟩) (b := 2) (L := S.lists) (L' := L) rfl h).trans (Ghost.ext rfl fun b => ?_)
  unfold AHeap.get memH AHeap.put
  simp only [List.cons_append, List.nil_append, getB_cons]
  by_cases h0 : 0 = b
  · subst h0; rfl
  by_cases h1 : 1 = b
  · subst h1; rfl
  by_cases h2 : 2 = b
  · subst h2; rfl
  simp only [h0, h1, h2, if_false]

end Go.Proofs.Ytcgnoegejmhgmaa
