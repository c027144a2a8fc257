/-
  The keys of a map, sorted, in a new row: the contract.
-/
import Derived.Test.YtcgnoegejmhgmaaMbSort
namespace Go.Proofs.Ytcgnoegejmhgmaa
set_option linter.unusedVariables false
set_option linter.unusedSimpArgs false
open Go.RowKit Ev
open Go.WideElems (Fit rd rg pl rd_val rg_of)

/-- Values that are not looked at. -/
def anyR : Value → Option (DataW Unit × List MemPlace) := fun _ => some (.nil, [])

theorem insert_perm {H : Type} (x : Lit × DataW H) : ∀ l, (DataW.insert x l).Perm (x :: l)
  | [] => .refl _
  | y :: r => by
    unfold DataW.insert
    split
    · exact .refl _
    · exact ((insert_perm x r).cons y).trans (.swap x y r)
theorem sorted_perm {H : Type} : ∀ l : List (Lit × DataW H), (l.foldr DataW.insert []).Perm l
  | [] => .refl _
  | x :: r => (insert_perm x _).trans ((sorted_perm r).cons x)

def okKeys (L : List (Int × List Int)) : Prop := L ≠ [] ∧ L.length ≤ 1000 ∧ ∀ p ∈ L, 1 ≤ p.1 ∧ p.1 ≤ 28

/-- The numbers of a map's entries. -/
def keyN (e : MapEntry) : Int := match e.key with
  | .int .i64 n => n
  | _ => 0

theorem mapOwns {w : World} {r : Nat} {F : Nat → Prop} {L : List (Int × List Int)} (h : MapInv listV ⟨L, none⟩ [] w r F) (hL : okKeys L) :
    ∃ (D : DataW Unit) (n : Nat), w.ownsMap Try.prog 3 anyR r n D ∧ (intKeys D).Perm (L.map (·.1)) ∧ Maps.size D ≤ 1000 := by
  obtain ⟨es, clock, G, hm⟩ := h
  have hkey : ∀ e ∈ es.toList, e.key = .int .i64 (keyN e) := fun e he => by
    obtain ⟨m, hm'⟩ := hm.ok.keys e he
    unfold keyN; rw [hm']
  have hin : ∀ e ∈ es.toList, keyN e ∈ L.map (·.1) := fun e he => by
    have := valI_mem hm.ok.keys hm.ok.keyN e he (hkey e he)
    exact (hm.all _ _ this).resolve_right (fun h => by cases h)
  have hperm : (es.toList.map keyN).Perm (L.map (·.1)) := by
    have hnd : (es.toList.map keyN).Nodup := by
      have h1 := hm.ok.keyN
      have h2 : es.toList.map (·.key) = (es.toList.map keyN).map (Value.int .i64) := by
        rw [List.map_map]
        apply List.map_congr_left
        intro e he
        exact hkey e he
      rw [h2] at h1
      exact List.Pairwise.of_map _ (fun a b hne e => hne (by rw [e])) h1
    refine (List.perm_ext_iff_of_nodup hnd hm.nodup).2 fun x => ⟨fun hx => ?_, fun hx => ?_⟩
    · obtain ⟨e, he, rfl⟩ := List.mem_map.1 hx
      exact hin e he
    · obtain ⟨p, hp, rfl⟩ := List.mem_map.1 hx
      obtain ⟨u, hu, _⟩ := hm.elem p hp
      obtain ⟨e, he, hk, _⟩ := valI_some hm.ok.keys hu
      exact List.mem_map.2 ⟨e, he, by unfold keyN; rw [hk]⟩
  have hlen : es.toList.length = L.length := by simpa using hperm.length_eq
  have hsz : es.size ≤ 1000 := by have := hL.2.1; rw [← hlen] at this; simpa using this
  have hwf : ∀ e ∈ es.toList, (Lit.int .i64 (keyN e)).wf = true := fun e he => by
    obtain ⟨p, hp, hpe⟩ := List.mem_map.1 (hin e he)
    have := hL.2.2 p hp
    rw [hpe] at this
    have h1 : IntKind.min .i64 = -9223372036854775808 := by decide
    have h2 : IntKind.max .i64 = 9223372036854775807 := by decide
    simp only [Lit.wf, h1, h2, Bool.and_eq_true, decide_eq_true_eq]
    omega
  have hrd : ∀ e ∈ es.toList, rd Try.prog 3 anyR e = some (.int .i64 (keyN e), .nil) := fun e he => by
    have hk : keyOf Try.prog 3 e.key = some (.int .i64 (keyN e)) := by
      rw [hkey e he]
      have hu := Try.underlying3
      simp only [keyOf, hu, mapKey, hwf e he, and_self, if_true]
    unfold rd
    rw [hk]; rfl
  refine ⟨.map ((es.toList.map (rg Try.prog 3 anyR)).foldr DataW.insert []), es.size, ⟨es, clock, hm.at_, ⟨by unfold maxLen; omega, ⟨hm.ok.born, hm.ok.bornN, hm.ok.keyN⟩, fun x hx => ⟨_, hrd x hx⟩⟩, Nat.le_refl _, rfl⟩, ?_, ?_⟩
  · have h1 : (intKeys (.map ((es.toList.map (rg Try.prog 3 anyR)).foldr DataW.insert []))).Perm (intKeys (.map (es.toList.map (rg Try.prog 3 anyR)))) := (sorted_perm _).map _
    have h2 : intKeys (.map (es.toList.map (rg Try.prog 3 anyR))) = es.toList.map keyN := by
      simp only [intKeys, List.map_map]
      apply List.map_congr_left
      intro e he
      simp only [Function.comp, rg_of (hrd e he)]
      rfl
    rw [h2] at h1
    exact h1.trans hperm
  · show (List.foldr DataW.insert [] _).length ≤ 1000
    rw [(sorted_perm _).length_eq, List.length_map]
    simpa using hsz

theorem sortsIn (m : Nat) : AnyZI.SortsIn Try.prog sortedL_ren Fence.wide m :=
  ⟨fun blk off cap ss W hH hblk hsz => callsIn_wide.2 (AnyM.slices_Sort_int sortL blk off cap ss W hH hblk hsz),
   fun p cap W => callsIn_wide.2 (AnyM.slices_Sort_int_none sortL p cap W)⟩

set_option maxHeartbeats 1000000 in
theorem sorted_keys (b n c : Nat) (D : DataW Unit) (w : World) (hown : w.ownsMap Try.prog 3 anyR b n D) (hsz : Maps.size D ≤ 1000) (hc : w.cell? ⟨c, 0, none⟩ = some (.map (some b))) (hcb : c < w.heap.size) :
    Calls Try.prog 22 #[.func (.func 28) #[] #[.pointer (some ⟨c, 0, none⟩)]] w fun e w' => ∃ (v : Value) (ss : List Int), e = .returned v ∧ ss.Perm (intKeys D) ∧
      w'.ownsRow w.heap.size 3 1 v ss.length ((ss.mergeSort (fun x y => @decide (x ≤ y) (Int.decLe x y))).map encZ) ∧ (v = .slice none 0 0 ↔ ss = []) ∧ Below w.heap.size w w' := by
  refine (callsIn_wide (n := 5)).1 ?_
  have hseq : SeqGives Fence.wide 2 Try.prog 28 #[.pointer (some ⟨c, 0, none⟩)] encZ (fun ss => ss.Perm (intKeys D)) (Maps.size D) w :=
    AnyZI.keys_gives (ρ := keysL_ren) { keysL with } Fence.wide _ trivial rfl (by omega) c b n D w hcb hc hown
  exact AnyZI.sorted_in sortedL Fence.wide 5 trivial trivial trivial trivial rfl (by omega) (sortsIn _) Try.call27 28 #[.pointer (some ⟨c, 0, none⟩)] trivial Try.call28 _ _ (by unfold maxLen; omega) (by omega) w hseq

def keysOf (x : MapSt listV) : List (Int × List Int) := x.base

def gcSorted : GC := fun args H K => match args with
  | [.func g [] [.ptr c 0 0 0]] => match Nat.beq g 28, H.get c with
    | true, some (.cells _ [.map b]) => match H.get b with
      | some (.obj U st []) => ∃ hU : U = MapT listV, (unf (castM hU st) ∧ okKeys (castM hU st).base) ∧
        forceK H.next fun id => forceH (H.new (rowI (sortI ((castM hU st).base.map (·.1))))) (K (.ret (.sl id 0 1 0 (sortI ((castM hU st).base.map (·.1))).length none)))
      | _ => Stuck 43 []
    | _, _ => Stuck 44 []
  | _ => Stuck 45 []

theorem sorted_sound : GcSound Try.prog 22 gcSorted := by
  intro args H K hK ρ w hR hargs
  refine ⟨Try.call22, ?_⟩
  unfold gcSorted at hK
  split at hK
  rotate_left
  · exact (not_stuck hK).elim
  rename_i g c
  split at hK
  rotate_left
  · exact (not_stuck hK).elim
  rename_i e b hg hc
  have hg := nat_beq_eq.1 hg
  subst hg
  split at hK
  rotate_left
  · exact (not_stuck hK).elim
  rename_i U st hb
  obtain ⟨hU, ⟨h1, h2⟩, hK⟩ := hK
  subst hU
  obtain ⟨L, foc⟩ := st
  have h1 : foc = none := by
    cases foc with
    | none => rfl
    | some k => cases h1
  subst h1
  rw [forceK_eq, forceH_eq] at hK
  change okKeys L at h2
  change K (.ret (.sl H.next 0 1 0 (sortI (L.map (·.1))).length none)) (H.new (rowI (sortI (L.map (·.1))))) at hK
  obtain ⟨c1, c2, c3, c4⟩ := hR.blk c _ hc
  obtain ⟨b1, b2, b3, b4⟩ := hR.blk b _ hb
  obtain ⟨d0, _, fz, d1, _⟩ := c4
  obtain ⟨D, n, hown, hperm, hsz⟩ := mapOwns b4.2 h2
  have hcell : w.cell? ⟨ρ.blk c, 0, none⟩ = some (.map (some (ρ.blk b))) := by rw [cell_of_heap d1]; rfl
  have e1 : (trL ρ [.func 28 [] [.ptr c 0 0 0]]).toArray = #[.func (.func 28) #[] #[.pointer (some ⟨ρ.blk c, 0, none⟩)]] := by
    simp [trL, tr, d0]
  rw [e1]
  refine (sorted_keys (ρ.blk b) n (ρ.blk c) D w hown hsz hcell c3).mono ?_
  rintro en w' ⟨v, ss, rfl, hS, hrow, hnil, hbelow⟩
  have hSL : ss.Perm (L.map (·.1)) := hS.trans hperm
  rw [sortI_eq hSL] at hrow
  have hlen : ss.length = (sortI (L.map (·.1))).length := (hSL.trans (sortI_perm _).symm).length_eq
  rw [hlen] at hrow
  have hne : ss ≠ [] := by
    rintro rfl
    have := hSL.length_eq
    have h0 := h2.1
    cases L with
    | nil => exact h0 rfl
    | cons a r => simp at this
  generalize sortI (L.map (·.1)) = l at hK hrow hlen
  obtain ⟨_, hrow⟩ := hrow
  rcases hrow with ⟨hv, _⟩ | ⟨gb, cap, cur, rfl, hge, hat, hle, hmax, hcs, htk⟩
  · exact absurd (hnil.1 hv) hne
  have hnew : NewTo ρ H.next w (.sl H.next 0 1 0 l.length none) (rowI l) (.slice (some ⟨gb, 0, none⟩) l.length cap) w' := by
    obtain ⟨s1, s2, s3⟩ := set_self ρ H.next gb cap
    refine ⟨⟨gb, cap, by simp [tr, Rho.set], hge, (Array.getElem?_eq_some_iff.1 hat).1, ⟨s2, by rw [s3]; exact hle, by rw [s3]; exact hmax, cur, (0, 0), by rw [s1]; exact hat, .inl rfl, by rw [s3]; exact hcs, ?_⟩⟩, hbelow, rfl, rfl, by simp [AVal.under], rfl⟩
    rw [flat_int, trL_ints]
    exact htk
  obtain ⟨ρ', hst, hv, hvu⟩ := Step.new hR hnew
  refine ⟨_, _, ρ', ?_, hK, hst⟩
  exact ⟨hv, hvu⟩

end Go.Proofs.Ytcgnoegejmhgmaa
