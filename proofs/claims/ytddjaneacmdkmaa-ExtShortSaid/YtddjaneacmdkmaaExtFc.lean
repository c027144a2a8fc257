/-
  Skip, Put and works, as the reckoner takes them.
-/
import Derived.Test.YtddjaneacmdkmaaCtx
import Derived.Test.YtddjaneacmdkmaaExtW
import Derived.Test.YtddjaneacmdkmaaExtP
namespace Go.Proofs.Ytddjaneacmdkmaa
set_option linter.unusedVariables false
set_option linter.unusedSimpArgs false
open Go.RowKit Ev

def baOf (s : List UInt8) : ByteArray := ⟨s.toArray⟩
theorem baOf_back (x : ByteArray) : baOf x.data.toList = x := by cases x; rfl
theorem baOf_size (s : List UInt8) : (baOf s).size = s.length := str_size s

def skV (t : Int) (d : List UInt8) : Int × List UInt8 × Int := ((extSkipAll t (baOf d)).1, (extSkipAll t (baOf d)).2.1.data.toList, (extSkipAll t (baOf d)).2.2)
def puV (t : Int) (d : List UInt8) (l : List (List UInt8)) : Int × List UInt8 × Int := ((extPut t (baOf d) (l.map baOf)).1, (extPut t (baOf d) (l.map baOf)).2.1.data.toList, (extPut t (baOf d) (l.map baOf)).2.2)

def fcSkip : FC := fun args _ => match args with
  | [.int .i64 t, .str d] => some (decide (d.length ≤ 10000), .tup [.int .i64 (skV t d).1, .str (skV t d).2.1, .int .i64 (skV t d).2.2])
  | _ => none

def strT (T : RowTy) (a : T.α) : Bool := match T.enc a with
  | [.str s] => decide (s.length ≤ maxLen)
  | _ => false
def rowS (T : RowTy) (a : T.α) : List UInt8 := match T.enc a with
  | [.str s] => s
  | _ => []

def putV (t : Int) (d : List UInt8) (l : List (List UInt8)) : AVal := .tup [.int .i64 (puV t d l).1, .str (puV t d l).2.1, .int .i64 (puV t d l).2.2]

def fcPut : FC := fun args H => match args with
  | [.int .i64 t, .str d, .nils] => some (decide (d.length ≤ 10000), putV t d [])
  | [.int .i64 t, .str d, .sl b i sz j n c] => match Nat.beq i 0 && (Nat.beq sz 1 && Nat.beq j 0), H.get b with
    | true, some (.cells e l) => match strsOf l with
      | some ss => some (decide (d.length ≤ 10000 ∧ n = ss.length ∧ ss.length ≤ 1000) && ss.all (fun s => decide (s.length ≤ maxLen)), putV t d ss)
      | none => none
    | true, some (.row e T l _) => some (decide (d.length ≤ 10000 ∧ n = l.length ∧ l.length ≤ 1000) && l.all (strT T), putV t d (l.map (rowS T)))
    | _, _ => none
  | _ => none

def fcEWorks : FC := fun args _ => match args with
  | [] => some (true, .bool true)
  | _ => none

theorem skip_sound : FcSound Try.prog 8 fcSkip := by
  refine fc_of_calls Try.call8 (fun args H v h => ?_)
  unfold fcSkip at h
  split at h <;> simp only [Option.some.injEq, Prod.mk.injEq, decide_eq_true_eq, reduceCtorEq] at h
  obtain ⟨hl, rfl⟩ := h
  rename_i t d
  refine ⟨rfl, rfl, fun ρ w => ?_⟩
  have := skip_any t (baOf d) w (by rw [baOf_size]; exact hl)
  refine this.mono ?_
  rintro e w' ⟨rfl, hb⟩
  refine ⟨?_, hb⟩
  show Ending.returned (.tuple #[.int .i64 _, .string _, .int .i64 _]) = Ending.returned (.tuple #[.int .i64 _, .string (baOf (skV t d).2.1), .int .i64 _])
  unfold skV
  rw [baOf_back]

theorem put_calls (t : Int) (d : List UInt8) (l : List (List UInt8)) (ρ : Rho) (a : Option Addr) (cap : Nat) (w : World) (hd : d.length ≤ 10000) (hl : l.length ≤ 1000) (hs : ∀ s ∈ l, s.length ≤ maxLen) (hc : ∀ (i : Nat) (s : List UInt8), l[i]? = some s → ∃ b off, a = some ⟨b, off, none⟩ ∧ b < w.heap.size ∧ w.cell? ⟨b, off + i, none⟩ = some (.string (baOf s))) :
    Calls Try.prog 12 #[.int .i64 t, .string (baOf d), .slice a l.length cap] w fun e w' => e = .returned (tr ρ (putV t d l)) ∧ Below w.heap.size w w' := by
  have := put_any t (baOf d) a cap (l.map baOf) w (by rw [baOf_size]; exact hd) (by rw [List.length_map]; exact hl) (by
    intro h hh
    obtain ⟨s, h1, rfl⟩ := List.mem_map.1 hh
    rw [baOf_size]; exact hs s h1) (by
    intro i hi
    rw [List.length_map] at hi
    obtain ⟨b, off, h1, h2, h3⟩ := hc i l[i] (List.getElem?_eq_getElem hi)
    exact ⟨b, off, h1, h2, by rw [List.getElem_map]; exact h3⟩)
  rw [List.length_map] at this
  refine this.mono ?_
  rintro e w' ⟨rfl, hb⟩
  refine ⟨?_, hb⟩
  show Ending.returned (.tuple #[.int .i64 _, .string _, .int .i64 _]) = Ending.returned (.tuple #[.int .i64 _, .string (baOf (puV t d l).2.1), .int .i64 _])
  unfold puV
  rw [baOf_back]

theorem strs_cell {ρ : Rho} {w : World} {b : Nat} {e : TypeId} {l : List AVal} {ss : List (List UInt8)} (hss : strsOf l = some ss) (h : (ABlk.cells e l).ok ρ w b) (k : Nat) (s : List UInt8) (hk : ss[k]? = some s) :
    w.cell? ⟨ρ.blk b, ρ.off b + (0 * 1 + 0) + k, none⟩ = some (.string (baOf s)) := by
  obtain ⟨r1, _, fz, r3, _⟩ := h
  rw [cell_of_heap r3, r1]
  have e1 : (trL ρ l)[k]? = some (.string (baOf s)) := by
    rw [strsOf_spec hss, trL_eq, List.map_map, List.getElem?_map, hk]
    rfl
  rw [List.getElem?_toArray, Nat.zero_mul, Nat.zero_add]
  exact e1

theorem rows_cell {ρ : Rho} {w : World} {b : Nat} {e : TypeId} {T : RowTy} {l : List T.α} {md : RowMd} (h : (ABlk.row e T l md).ok ρ w b) (hone : ∀ x ∈ l, T.enc x = [.str (rowS T x)]) (k : Nat) (s : List UInt8) (hk : (l.map (rowS T))[k]? = some s) :
    w.cell? ⟨ρ.blk b, ρ.off b + (0 * 1 + 0) + k, none⟩ = some (.string (baOf s)) := by
  rw [List.getElem?_map] at hk
  obtain ⟨x, hx, rfl⟩ := Option.map_eq_some_iff.1 hk
  have e1 := hone x (List.mem_of_getElem? hx)
  have hsz : T.sz = 1 := by have := T.len x; rw [e1] at this; exact this.symm
  have hf := flat_get T l k x 0 hx (by omega)
  rw [hsz, e1, Nat.mul_one, Nat.add_zero] at hf
  have := row_cell h hf
  rw [Nat.zero_mul, Nat.zero_add, Nat.add_zero]
  exact this

theorem slice_tr (ρ : Rho) (b n : Nat) (c : Option Nat) : ∃ cap, tr ρ (.sl b 0 1 0 n c) = .slice (some ⟨ρ.blk b, ρ.off b + (0 * 1 + 0), none⟩) n cap := ⟨_, rfl⟩

theorem put_args (t : Int) (d : List UInt8) (ρ : Rho) (v : AVal) : (trL ρ [.int .i64 t, .str d, v]).toArray = #[.int .i64 t, .string (baOf d), tr ρ v] := rfl

theorem put_sound : FcSound Try.prog 12 fcPut := by
  refine ⟨Try.call12, fun args H v h ρ w N hH ha => ?_⟩
  unfold fcPut at h
  split at h
  · rename_i t d
    simp only [Option.some.injEq, Prod.mk.injEq, decide_eq_true_eq] at h
    obtain ⟨hl, rfl⟩ := h
    exact ⟨put_calls t d [] ρ none 0 w hl (by simp) (by simp) (by simp), rfl⟩
  · rename_i t d b i sz j n c
    split at h
    · rename_i e l hk hg
      simp only [Bool.and_eq_true, nat_beq_eq] at hk
      obtain ⟨rfl, rfl, rfl⟩ := hk
      split at h
      · rename_i ss hss
        simp only [Option.some.injEq, Prod.mk.injEq, Bool.and_eq_true, decide_eq_true_eq, List.all_eq_true] at h
        obtain ⟨⟨⟨h1, h2, h3⟩, h4⟩, h5⟩ := h
        obtain ⟨q1, q2, q3⟩ := hH b _ hg
        obtain ⟨cap, hcap⟩ := slice_tr ρ b n c
        rw [put_args, hcap, h2, ← h5]
        exact ⟨put_calls t d ss ρ _ cap w h1 h3 h4 (fun k s hk => ⟨_, _, rfl, q2, strs_cell hss q3 k s hk⟩), rfl⟩
      · cases h
    · rename_i e T l md hk hg
      simp only [Bool.and_eq_true, nat_beq_eq] at hk
      obtain ⟨rfl, rfl, rfl⟩ := hk
      simp only [Option.some.injEq, Prod.mk.injEq, Bool.and_eq_true, decide_eq_true_eq, List.all_eq_true] at h
      obtain ⟨⟨⟨h1, h2, h3⟩, h4⟩, h5⟩ := h
      obtain ⟨q1, q2, q3⟩ := hH b _ hg
      have hone : ∀ x ∈ l, T.enc x = [.str (rowS T x)] ∧ (rowS T x).length ≤ maxLen := by
        intro x hx
        have := h4 x hx
        unfold strT at this
        unfold rowS
        split at this
        · rename_i s hs
          rw [hs]
          exact ⟨rfl, of_decide_eq_true this⟩
        · cases this
      obtain ⟨cap, hcap⟩ := slice_tr ρ b n c
      have hlm : (l.map (rowS T)).length = l.length := List.length_map ..
      rw [put_args, hcap, h2, ← h5, ← hlm]
      exact ⟨put_calls t d (l.map (rowS T)) ρ _ cap w h1 (by rw [List.length_map]; exact h3) (fun s hs => by
          obtain ⟨x, hx, rfl⟩ := List.mem_map.1 hs
          exact (hone x hx).2) (fun k s hk => ⟨_, _, rfl, q2, rows_cell q3 (fun x hx => (hone x hx).1) k s hk⟩), rfl⟩
    · cases h
  · cases h

theorem eworks_sound : FcSound Try.prog 10 fcEWorks := by
  refine fc_of_calls Try.call10 (fun args H v h => ?_)
  unfold fcEWorks at h
  split at h <;> cases h
  exact ⟨rfl, rfl, fun ρ w => works_any w⟩

noncomputable def TE : Tabs := ((T0.addFc 8 fcSkip).addFc 12 fcPut).addFc 10 fcEWorks
theorem TEok : TabsOk TE Try.prog := ((T0ok.addFc skip_sound).addFc put_sound).addFc eworks_sound

end Go.Proofs.Ytddjaneacmdkmaa
