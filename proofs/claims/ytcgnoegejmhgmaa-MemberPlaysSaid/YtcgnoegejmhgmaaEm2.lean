/-
  Ev, part 2.
-/
import Derived.Test.YtcgnoegejmhgmaaEm1
import Derived.Laws.MakeOwn
import Derived.Deep.AppendSrc
/-
  Ev: the operations that make a block.
-/
namespace Go.Proofs.Ytcgnoegejmhgmaa.Ev
set_option linter.unusedVariables false
set_option linter.unusedSimpArgs false
open Go.RowKit

def Rho.set (ρ : Rho) (b g c : Nat) : Rho := ⟨fun x => if x = b then g else ρ.blk x, fun x => if x = b then 0 else ρ.off x, fun x => if x = b then c else ρ.cap x, ρ.fp⟩

theorem Rho.set_agree (ρ : Rho) (b g c : Nat) : Rho.agree b ρ (ρ.set b g c) := fun x hx => by
  have : ¬ x = b := by omega
  simp [Rho.set, this]

/-- z, n times. -/
def repA (z : List AVal) : Nat → List AVal
  | 0 => []
  | n + 1 => z ++ repA z n

/-- x, n times, where reckoning does not look into it. -/
noncomputable def repO {α : Type} (n : Nat) (x : α) : List α := (Classical.choice (⟨⟨List.replicate n x, rfl⟩⟩ : Nonempty { l : List α // l = List.replicate n x })).1

/-- x, n times; of many, reckoning does not look into it. -/
noncomputable def repN {α : Type} (n : Nat) (x : α) : List α :=
  match Nat.ble 1000 n with
  | true => repO n x
  | false => List.replicate n x

theorem repN_eq {α : Type} (n : Nat) (x : α) : repN n x = List.replicate n x := by
  unfold repN
  split
  · exact (Classical.choice (⟨⟨List.replicate n x, rfl⟩⟩ : Nonempty { l : List α // l = List.replicate n x })).2
  · rfl

/-- The type that rows have whose elements are of type e. -/
noncomputable def newA (X : Ctx) (o : Oper) (E : Env) (id : Nat) : Option (Bool × AVal × ABlk) :=
  match o.op with
  | .alloc t => match zeroA X.P t with
    | some z => some (true, .ptr id 0 0 0, .cells t z)
    | none => none
  | .box t x => match evalO E x with
    | some v => match (cellsOfA v).all AVal.scalar with
      | true => some (true, .ptr id 0 0 0, .cells t (cellsOfA v))
      | false => none
    | none => none
  | .buildSlice t len parts => match X.P.underlying t with
    | some (.slice e) => match sizeA X.P e, zeroA X.P e, evalP E parts.toList with
      | some (m + 1), some z, some ps => match Nat.beq z.length (m + 1), Nat.ble (len * (m + 1)) 16777216 with
        | true, true => match fillA (arrPlaces (m + 1) len 0) (repA z len) ps with
          | some r => match r.all AVal.scalar with
            | true => some (true, .sl id 0 (m + 1) 0 len (some len), .cells e r)
            | false => none
          | none => none
        | _, _ => none
      | _, _, _ => none
    | _ => none
  | .makeSlice t l c => match X.P.underlying t, evalO E l, evalO E c with
    | some (.slice e), some (.int _ n), some (.int _ n') => match X.P.info? e, X.rowTy e with
      | some i, some T => some (decide (0 ≤ n ∧ n = n' ∧ n ≤ 9223372036854775807 ∧ i.bytes * n ≤ 281474976710656 ∧ i.size = T.sz ∧ 0 < T.sz), .sl id 0 T.sz 0 n.toNat none, .row e T (repN n.toNat T.dflt) .plain)
      | _, _ => none
    | _, _, _ => none
  | .convert s d x => match X.P.underlying s, X.P.underlying d, evalO E x with
    | some .string, some (.slice e), some (.str l) => match X.P.underlying e, X.rowTy e with
      | some (.int .u8), some T => match T.bytes with
        | some (_, g) => some (decide (l.length ≤ 140737488355328), .sl id 0 T.sz 0 l.length none, .row e T (g l) .strish)
        | none => none
      | _, _ => none
    | _, _, _ => none
  | _ => none

/-- What is claimed of the rows' types: that their zero is the program's. -/
structure CtxRows (X : Ctx) : Prop where
  zero : ∀ e T, X.rowTy e = some T → ∀ i, X.P.info? e = some i → ∃ z, i.zero = some z ∧ ∀ ρ, z.cells.toList = trL ρ (T.enc T.dflt)

theorem repA_get {z : List AVal} (hz : 0 < z.length) : ∀ (n i : Nat), i < n * z.length → (repA z n)[i]? = z[i % z.length]?
  | 0, i, h => by simp at h
  | n + 1, i, h => by
    simp only [repA]
    by_cases hi : i < z.length
    · rw [List.getElem?_append_left hi, Nat.mod_eq_of_lt hi]
    · rw [List.getElem?_append_right (by omega), repA_get hz n (i - z.length) (by rw [Nat.add_mul] at h; omega), ← Nat.mod_eq_sub_mod (by omega)]

theorem repA_length (z : List AVal) : ∀ n, (repA z n).length = n * z.length
  | 0 => by simp [repA]
  | n + 1 => by simp only [repA, List.length_append, repA_length z n, Nat.add_mul]; omega

theorem repA_cells {z : Value} {l : List AVal} {ρ : Rho} (hz : trL ρ l = z.cells.toList) (hl : 0 < l.length) (n : Nat) : (Array.range (n * l.length)).map (fun i => z.cells[i % z.cells.size]!) = (trL ρ (repA l n)).toArray := by
  have hsz : z.cells.size = l.length := by rw [← Array.length_toList, ← hz, trL_length]
  apply Array.ext_getElem?
  intro i
  by_cases hi : i < n * l.length
  · have h1 := repA_get hl n i hi
    have hm : i % l.length < l.length := Nat.mod_lt _ hl
    have e : z.cells[i % l.length]! = tr ρ l[i % l.length] := by
      have : (trL ρ l)[i % l.length]? = some (tr ρ l[i % l.length]) := by rw [trL_get]; simp [hm]
      rw [hz] at this
      have h2 : z.cells[i % l.length]? = some (tr ρ l[i % l.length]) := by simpa using this
      rw [Array.getElem!_eq_getD, Array.getD_eq_getD_getElem?, h2]; rfl
    simp only [hsz, List.getElem?_toArray, trL_get, h1, Array.getElem?_map, Array.getElem?_range, hi, List.getElem?_eq_getElem hm, Option.map_some, e]
    simp [e]
  · rw [Array.getElem?_eq_none (by simp; omega), Array.getElem?_eq_none (by simp [trL_length, repA_length]; omega)]

theorem repA_under {N : Nat} {z : List AVal} (h : belowL N z = true) : ∀ n, belowL N (repA z n) = true
  | 0 => rfl
  | n + 1 => by
    have := repA_under h n
    rw [belowL_eq] at this h ⊢
    simp only [repA, List.all_append, h, this, Bool.and_self]

theorem flat_replicate (T : RowTy) (n : Nat) : T.flat (List.replicate n T.dflt) = repA (T.enc T.dflt) n := by
  induction n with
  | zero => rfl
  | succ n ih => simp only [List.replicate_succ, RowTy.flat, List.flatMap_cons, repA] at ih ⊢; rw [ih]

/-- What a new block comes to. -/
structure NewTo (ρ : Rho) (id : Nat) (w : World) (v : AVal) (x : ABlk) (u : Value) (w' : World) : Prop where
  ex : ∃ g c, u = tr (ρ.set id g c) v ∧ w.heap.size ≤ g ∧ g < w'.heap.size ∧ x.ok (ρ.set id g c) w' id
  grow : Below w.heap.size w w'
  own : x.own = true
  big : x.big = false
  under : v.under (id + 1) = true ∧ x.under (id + 1) = true

theorem set_self (ρ : Rho) (id g c : Nat) : (ρ.set id g c).blk id = g ∧ (ρ.set id g c).off id = 0 ∧ (ρ.set id g c).cap id = c := by simp [Rho.set]

theorem NewTo.cells {ρ : Rho} {id : Nat} {w : World} {t : TypeId} {l : List AVal} {v : AVal} {vs : Array Value} (hl : belowL id l = true) (hs : l.all AVal.scalar = true) (hvs : vs = (trL ρ l).toArray) (hv : v.under (id + 1) = true) {u : Value} (hu : ∀ c, u = tr (ρ.set id w.heap.size c) v) :
    NewTo ρ id w v (.cells t l) u { w with heap := w.heap.push (.cells vs t) } := by
  refine ⟨⟨w.heap.size, 0, hu 0, Nat.le_refl _, by simp, ?_⟩, ?_, rfl, rfl, hv, ?_⟩
  · obtain ⟨s1, s2, s3⟩ := set_self ρ id w.heap.size 0
    refine ⟨s2, hs, (0, 0), ?_, .inl rfl⟩
    rw [s1, trL_agree (Rho.set_agree ρ id w.heap.size 0) l hl, ← hvs]
    simp
  · exact ⟨rfl, rfl, rfl, by simp, fun k hk => by simp [Array.getElem?_push, Nat.ne_of_lt hk]⟩
  · exact belowL_mono (Nat.le_succ _) l hl

theorem NewTo.row {ρ : Rho} {id : Nat} {w w' : World} {e : TypeId} {T : RowTy} {l : List T.α} {cur : Array Value} {c : Nat} {fz : Nat × Nat} (hh : w'.heap = w.heap.push (.cells cur e fz)) (ho : w'.os = w.os ∧ w'.tape = w.tape ∧ w'.output = w.output) {md : RowMd} (hmd : md ≠ .ro) (hfz : fz = (0, 0) ∨ (md = .strish ∧ cur.size ≤ fz.1))
    (hc : l.length ≤ c) (hm : c ≤ maxLen) (hs : cur.size = c * T.sz) (ht : cur.toList.take (l.length * T.sz) = trL ρ (T.flat l)) {n : Nat} :
    NewTo ρ id w (.sl id 0 T.sz 0 n none) (.row e T l md) (.slice (some ⟨w.heap.size, 0, none⟩) n c) w' := by
  refine ⟨⟨w.heap.size, c, by simp [tr, Rho.set], Nat.le_refl _, by rw [hh]; simp, (ABlk.ok_own hmd).2 ?_⟩, ?_, by cases md <;> simp_all [ABlk.own], rfl, by simp [AVal.under], rfl⟩
  · obtain ⟨s1, s2, s3⟩ := set_self ρ id w.heap.size c
    refine ⟨s2, by rw [s3]; exact hc, by rw [s3]; exact hm, cur, fz, by rw [s1, hh]; simp, hfz, by rw [s3]; exact hs, ?_⟩
    rw [ht]
    have hd := flat_data T l
    rw [trL_eq, trL_eq]
    apply List.map_congr_left
    intro x hx
    rw [List.all_eq_true] at hd
    exact AVal.data_tr (hd x hx) _ _
  · exact ⟨ho.1, ho.2.1, ho.2.2, by rw [hh]; simp, fun k hk => by rw [hh]; simp [Array.getElem?_push, Nat.ne_of_lt hk]⟩

theorem cellsOfA_under {N : Nat} {v : AVal} (h : v.under N = true) : belowL N (cellsOfA v) = true := by
  cases v <;> simp_all [cellsOfA, belowL, AVal.under]

theorem ptr_self (ρ : Rho) (id g c : Nat) : Value.pointer (some ⟨g, 0, none⟩) = tr (ρ.set id g c) (.ptr id 0 0 0) := by simp [tr, Rho.set]

theorem newA_sound {X : Ctx} (hX : CtxRows X) {o : Oper} {E : Env} {id : Nat} {v : AVal} {x : ABlk} (h : newA X o E id = some (true, v, x)) {ρ : Rho} {w : World} {a : Act} (hE : RelE ρ id E a) :
    ∃ u w', (execOp a.eval o).run X.P w = .ok (.value u) w' ∧ NewTo ρ id w v x u w' := by
  unfold newA at h
  have hself : (AVal.ptr id 0 0 0).under (id + 1) = true := by simp [AVal.under]
  split at h
  · rename_i t ho
    split at h <;> try cases h
    rename_i z hz
    obtain ⟨zv, hrun, ⟨it, hit, hiz⟩, hzc, hzb, hzs⟩ := zeroA_run hz w
    refine ⟨_, _, ?_, NewTo.cells (t := t) (l := z) (hzb id) hzs (vs := zv.cells) (by rw [hzc]) hself (u := .pointer (some ⟨w.heap.size, 0, none⟩)) (fun c => ptr_self ρ id _ c)⟩
    simp [execOp, ho, Instr.alloc, hrun, newVar, newRow]
  · rename_i t y ho
    split at h <;> try cases h
    rename_i v' hv
    split at h <;> try cases h
    rename_i hs
    obtain ⟨h1, h2⟩ := evalO_tr hE hv
    refine ⟨_, _, ?_, NewTo.cells (t := t) (l := cellsOfA v') (cellsOfA_under h2) hs (vs := (tr ρ v').cells) (cells_tr ρ v') hself (u := .pointer (some ⟨w.heap.size, 0, none⟩)) (fun c => ptr_self ρ id _ c)⟩
    simp [execOp, ho, Instr.box, h1, newVar, newRow]
  · rename_i t len parts ho
    split at h <;> try cases h
    rename_i e hu
    split at h <;> try cases h
    rename_i m z ps hm hz hps
    split at h <;> try cases h
    rename_i hzl hle
    split at h <;> try cases h
    rename_i r hr
    split at h <;> try cases h
    rename_i hs
    have hzl := nat_beq_eq.1 hzl
    have hle := Nat.le_of_ble_eq_true hle
    obtain ⟨zv, hrun, ⟨it, hit, hiz⟩, hzc, hzb, hzs⟩ := zeroA_run hz w
    obtain ⟨h1, h2⟩ := evalP_tr hE hps
    have hmr := sizeA_run hm w
    have hcells := repA_cells (hzc ρ) (by omega) len
    have hfill := fillA_sound (ρ := ρ) (place := fun i => some (i * (m + 1), (m + 1))) (fun i x hx => by have := arrPlaces_spec (m + 1) len 0 i x hx; rw [this, Nat.zero_add]) hr
    have hparts : (parts.map fun (i, x) => (i, a.eval x)).toList = ps.map fun p => (p.1, tr ρ p.2) := by rw [← h1]; simp
    refine ⟨_, _, ?_, NewTo.cells (t := e) (l := r) (fillA_under hr (repA_under (hzb id) len) h2) hs (vs := (trL ρ r).toArray) rfl (by simp [AVal.under]) (u := .slice (some ⟨w.heap.size, 0, none⟩) len len) (fun c => by simp [tr, Rho.set])⟩
    have hn : ¬ len * (m + 1) > 2 ^ 24 := by omega
    simp only [execOp, ho, Instr.buildSlice, Sem.run_bind, run_underlying hu, Result.andThen_ok, hmr, Sem.run_ite, if_neg hn, Sem.run_pure]
    by_cases h0 : len * (m + 1) = 0
    · have hl0 : len = 0 := by
        rcases Nat.mul_eq_zero.1 h0 with h | h
        · exact h
        · omega
      subst hl0
      simp only [Nat.zero_mul, if_true, Sem.run_pure, Result.andThen_ok]
      have e1 : (Array.range 0).map (fun i => (#[] : Array Value)[i % (#[] : Array Value).size]!) = (trL ρ (repA z 0)).toArray := by simp [repA, trL]
      simp only [e1, hparts, hfill, newRow, Sem.run_bind, run_newObj, Result.andThen_ok, Sem.run_pure]
    · simp only [if_neg h0, Sem.run_bind, hrun, Result.andThen_ok, Sem.run_pure]
      rw [hzl] at hcells
      simp only [hcells, hparts, hfill, newRow, Sem.run_bind, run_newObj, Result.andThen_ok, Sem.run_pure]
  · rename_i t l c ho
    split at h <;> try cases h
    rename_i e k n k' n' hu hl hc
    split at h <;> try cases h
    rename_i i T hi hT
    simp only [Option.some.injEq, Prod.mk.injEq, decide_eq_true_eq] at h
    obtain ⟨⟨h0, rfl, h63, hb, hsz, hpos⟩, rfl, rfl⟩ := h
    rw [repN_eq]
    obtain ⟨l1, _⟩ := evalO_tr hE hl
    obtain ⟨c1, _⟩ := evalO_tr hE hc
    obtain ⟨z, hz, hzc⟩ := hX.zero e T hT i hi
    have hw : IntKind.i64.wrap n = n := IntWalk.i64_in n (by omega)
    have hzl : (T.enc T.dflt).length = T.sz := T.len _
    have hrow := repA_cells (hzc ρ).symm (by omega) n.toNat
    rw [hzl] at hrow
    have hlen : (repA (T.enc T.dflt) n.toNat).length = n.toNat * T.sz := by rw [repA_length, hzl]
    refine ⟨.slice (some ⟨w.heap.size, 0, none⟩) n.toNat n.toNat, { w with heap := w.heap.push (.cells (trL ρ (repA (T.enc T.dflt) n.toNat)).toArray e) }, ?_, NewTo.row (w := w) (w' := { w with heap := w.heap.push (.cells (trL ρ (repA (T.enc T.dflt) n.toNat)).toArray e) }) (n := n.toNat) (l := List.replicate n.toNat T.dflt) (cur := (trL ρ (repA (T.enc T.dflt) n.toNat)).toArray) (c := n.toNat) (fz := (0, 0)) rfl ⟨rfl, rfl, rfl⟩ (md := .plain) (by simp) (.inl rfl) (by simp) (by unfold maxLen; omega) (by simp [trL_length, hlen]) ?_⟩
    · simp only [execOp, ho, Instr.makeSlice, Sem.run_bind, run_underlying hu, Result.andThen_ok, l1, c1, tr_int, asInt, asIntOf, Sem.run_pure, typeInfo, run_program, hi, hw]
      have hA : ((decide (n < 0) || decide ((i.bytes : Int) * n > 2 ^ 48)) || decide (n < 0) || decide (n > n)) = false := by
        simp; omega
      simp only [hA, Bool.false_eq_true, if_false, run_askRoom, Result.andThen_ok, Sem.run_bind, sizeOf, typeInfo, run_program, hi, Sem.run_pure]
      rw [hsz]
      by_cases hn0 : n.toNat * T.sz = 0
      · have hn1 : n.toNat = 0 := by
          rcases Nat.mul_eq_zero.1 hn0 with h | h
          · exact h
          · omega
        rw [hn1]
        have e0 : Array.range 0 = #[] := rfl
        simp [newRow, repA, trL, e0]
      · have hzr : (zeroValue e).run X.P w = .ok z w := by simp [zeroValue, typeInfo, hi, hz]
        simp only [if_neg hn0, Sem.run_bind, hzr, Result.andThen_ok, Sem.run_pure, hrow, newRow, run_newObj]
    · rw [flat_replicate, List.length_replicate]
      apply List.take_of_length_le
      simp [trL_length, hlen]
  · rename_i s d x ho
    split at h <;> try cases h
    rename_i e l hs hd hx
    split at h <;> try cases h
    rename_i T he hT
    split at h <;> try cases h
    rename_i f g hfg
    simp only [Option.some.injEq, Prod.mk.injEq, decide_eq_true_eq] at h
    obtain ⟨hl, rfl, rfl⟩ := h
    obtain ⟨x1, _⟩ := evalO_tr hE hx
    obtain ⟨t1, t2, t3⟩ := T.toB f g hfg
    have hfl : T.flat (g l) = l.map fun c => AVal.int .u8 (c.toNat : Int) := t3 l
    have hgl : (g l).length = l.length := by
      have h1 := flat_length T (g l)
      rw [hfl, t1, Nat.mul_one] at h1
      simpa using h1.symm
    have hrun := run_bytes_of_string (P := X.P) w s d e ⟨l.toArray⟩ hs hd he
    rw [str_size] at hrun
    have hge := grownCap_ge w l.length 0 e
    have hle := grownCap_le_maxLen w l.length 0 e (by unfold maxLen; omega)
    refine ⟨_, _, ?_, NewTo.row (w := w) (n := l.length) (w' := w.drew.alloc (.cells (bytesRow ⟨l.toArray⟩ (grownCap w l.length 0 e)) e ((bytesRow ⟨l.toArray⟩ (grownCap w l.length 0 e)).size, (bytesRow ⟨l.toArray⟩ (grownCap w l.length 0 e)).size + 1))) (cur := bytesRow ⟨l.toArray⟩ (grownCap w l.length 0 e)) (T := T) (l := g l) (c := grownCap w l.length 0 e) (fz := ((bytesRow ⟨l.toArray⟩ (grownCap w l.length 0 e)).size, (bytesRow ⟨l.toArray⟩ (grownCap w l.length 0 e)).size + 1)) rfl ⟨rfl, rfl, rfl⟩ (md := .strish) (by simp) (.inr ⟨rfl, Nat.le_refl _⟩) (by omega) hle ?_ ?_⟩
    · simp only [execOp, ho, x1, tr, Sem.run_bind, hrun, Result.andThen_ok, Sem.run_pure]
    · rw [t1, Nat.mul_one]
      simp [bytesRow, ByteArray.size]
      omega
    · rw [t1, Nat.mul_one, hgl, hfl]
      simp only [bytesRow, Array.toList_append, Array.toList_map]
      rw [List.take_append_of_le_length (by simp), List.take_of_length_le (by simp)]
      rw [trL_eq, List.map_map]
      rfl
  · cases h

end Go.Proofs.Ytcgnoegejmhgmaa.Ev

/-
  Ev: the operations that write: a store, copy, append.
-/
namespace Go.Proofs.Ytcgnoegejmhgmaa.Ev
set_option linter.unusedVariables false
set_option linter.unusedSimpArgs false
open Go.RowKit

/-- One block is another one. -/
def setB (w : World) (g : Nat) (o : Obj) : World := { w with heap := w.heap.setIfInBounds g o }

theorem setB_get (w : World) (g : Nat) (o : Obj) (h : g < w.heap.size) : (setB w g o).heap[g]? = some o := by simp [setB, h]
theorem setB_other (w : World) (g k : Nat) (o : Obj) (h : k ≠ g) : (setB w g o).heap[k]? = w.heap[k]? := by simp [setB, Array.getElem?_setIfInBounds, Ne.symm h]
theorem setB_setB (w : World) (g : Nat) (o o' : Obj) : setB (setB w g o) g o' = setB w g o' := by
  simp only [setB, Array.setIfInBounds_setIfInBounds]
theorem setB_self (w : World) (g : Nat) (o : Obj) (h : w.heap[g]? = some o) : setB w g o = w := by
  have : w.heap.setIfInBounds g o = w.heap := by
    apply Array.ext_getElem?
    intro i
    rw [Array.getElem?_setIfInBounds]
    by_cases hi : g = i
    · subst hi
      obtain ⟨h1, h2⟩ := Array.getElem?_eq_some_iff.1 h
      simp [h1, h2]
    · simp [hi]
  simp [setB, this]

theorem setCell_setB (w : World) (g o : Nat) (v : Value) (cur : Array Value) (e : TypeId) (fz : Nat × Nat) (h : w.heap[g]? = some (.cells cur e fz)) : w.setCell ⟨g, o, none⟩ v = setB w g (.cells (cur.setIfInBounds o v) e fz) := by
  have hs : g < w.heap.size := (Array.getElem?_eq_some_iff.1 h).1
  unfold World.setCell setB
  congr 1
  apply Array.ext_getElem?
  intro i
  rw [Array.getElem?_modify, Array.getElem?_setIfInBounds]
  by_cases hi : g = i
  · subst hi
    obtain ⟨_, hv⟩ := Array.getElem?_eq_some_iff.1 h
    simp [hs, hv]
  · simp [hi]

theorem frozen_off {w : World} {g o : Nat} {cur : Array Value} {e : TypeId} {fz : Nat × Nat} (h : w.heap[g]? = some (.cells cur e fz)) (hf : fz = (0, 0) ∨ cur.size ≤ fz.1) (ho : o < cur.size) : w.frozen? ⟨g, o, none⟩ = false := by
  obtain ⟨lo, hi⟩ := fz
  simp only [World.frozen?, h]
  rcases hf with hf | hf
  · cases hf; simp
  · simp only at hf
    simp; omega

section
variable {P : Program}

theorem storeCells_run (g o : Nat) (e : TypeId) (fz : Nat × Nat) : ∀ (vs : List Value) (i : Nat) (cur : Array Value) (w : World), w.heap[g]? = some (.cells cur e fz) → (fz = (0, 0) ∨ cur.size ≤ fz.1) → (∀ u ∈ vs, u.oneCell' = true) → o + i + vs.length ≤ cur.size →
    (storeCells ⟨g, o, none⟩ vs i).run P w = .ok () (setB w g (.cells ((vs.zipIdx i).foldl (fun (cs : Array Value) (x : Value × Nat) => cs.setIfInBounds (o + x.2) x.1) cur) e fz))
  | [], i, cur, w, h, hf, h1, hl => by simp [storeCells, setB_self w g _ h]
  | v :: vs, i, cur, w, h, hf, h1, hl => by
    simp only [List.length_cons] at hl
    have hc : w.cell? ⟨g, o + i, none⟩ = some cur[o + i] := by rw [cell_of_heap h]; simp
    have hfr : w.frozen? ⟨g, o + i, none⟩ = false := frozen_off h hf (by omega)
    have hs : g < w.heap.size := (Array.getElem?_eq_some_iff.1 h).1
    have hst : (store ((⟨g, o, none⟩ : Addr).add i) v).run P w = .ok () (setB w g (.cells (cur.setIfInBounds (o + i) v) e fz)) := by
      rw [addr_add, run_store P w _ v _ (h1 v (by simp)), hc]
      simp only [hfr, Bool.false_eq_true, if_false, setCell_setB w g (o + i) v cur e fz h]
    simp only [storeCells, Sem.run_bind, hst, Result.andThen_ok]
    rw [storeCells_run g o e fz vs (i + 1) (cur.setIfInBounds (o + i) v) _ (setB_get _ _ _ hs) (by simpa using hf) (fun u hu => h1 u (by simp [hu])) (by simp; omega)]
    simp only [setB_setB, List.zipIdx_cons, List.foldl_cons]

theorem storeCells_run0 (g o : Nat) (e : TypeId) (fz : Nat × Nat) (vs : List Value) (cur : Array Value) (w : World) (h : w.heap[g]? = some (.cells cur e fz)) (hf : fz = (0, 0) ∨ cur.size ≤ fz.1) (h1 : ∀ u ∈ vs, u.oneCell' = true) (hl : o + vs.length ≤ cur.size) :
    (storeCells ⟨g, o, none⟩ vs).run P w = .ok () (setB w g (.cells (cur.toList.take o ++ vs ++ cur.toList.drop (o + vs.length)).toArray e fz)) := by
  rw [storeCells_run g o e fz vs 0 cur w h hf h1 (by omega), set_many vs o 0 cur (by omega), Nat.add_zero]

end

theorem trL_one {ρ : Rho} {l : List AVal} (h : l.all AVal.scalar = true) : ∀ u ∈ trL ρ l, u.oneCell' = true := by
  intro u hu
  rw [trL_eq, List.mem_map] at hu
  obtain ⟨x, hx, rfl⟩ := hu
  rw [List.all_eq_true] at h
  exact AVal.scalar_one (h x hx) ρ

/-- A part of a flat row is set. -/
theorem flat_set (T : RowTy) : ∀ (l : List T.α) (i : Nat) (a : T.α), i < l.length → T.flat (l.set i a) = (T.flat l).take (i * T.sz) ++ T.enc a ++ (T.flat l).drop (i * T.sz + T.sz)
  | [], i, a, h => by simp at h
  | b :: l, 0, a, h => by
    simp only [List.set_cons_zero, RowTy.flat, List.flatMap_cons, Nat.zero_mul, List.take_zero, List.nil_append, Nat.zero_add]
    rw [List.drop_append, T.len, List.drop_of_length_le (by rw [T.len]; exact Nat.le_refl _)]
    simp
  | b :: l, i + 1, a, h => by
    have ih := flat_set T l i a (by simpa using h)
    simp only [List.set_cons_succ, RowTy.flat, List.flatMap_cons] at ih ⊢
    have e1 : (T.enc b).length = T.sz := T.len b
    rw [ih, List.take_append, List.drop_append, e1, List.take_of_length_le (l := T.enc b) (by rw [e1, Nat.add_mul]; omega), List.drop_of_length_le (l := T.enc b) (by rw [e1, Nat.add_mul]; omega)]
    rw [show (i + 1) * T.sz - T.sz = i * T.sz by rw [Nat.add_mul]; omega, show (i + 1) * T.sz + T.sz - T.sz = i * T.sz + T.sz by rw [Nat.add_mul]; omega]
    simp

theorem flat_part (T : RowTy) : ∀ (l : List T.α) (i : Nat), i < l.length → ((T.flat l).drop (i * T.sz)).take T.sz = T.enc (l.getD i T.dflt)
  | [], i, h => by simp at h
  | b :: l, 0, h => by
    simp only [RowTy.flat, List.flatMap_cons, Nat.zero_mul, List.drop_zero, List.getD_cons_zero]
    rw [List.take_append_of_le_length (by rw [T.len]; exact Nat.le_refl _), List.take_of_length_le (by rw [T.len]; exact Nat.le_refl _)]
  | b :: l, i + 1, h => by
    have ih := flat_part T l i (by simpa using h)
    simp only [RowTy.flat, List.flatMap_cons, List.getD_cons_succ] at ih ⊢
    rw [List.drop_append, T.len, List.drop_of_length_le (l := T.enc b) (by rw [T.len, Nat.add_mul]; omega), show (i + 1) * T.sz - T.sz = i * T.sz by rw [Nat.add_mul]; omega, List.nil_append]
    exact ih

theorem splice_part (A vs : List AVal) (p s j : Nat) (hj : j + vs.length ≤ s) :
    A.take p ++ (((A.drop p).take s).take j ++ vs ++ ((A.drop p).take s).drop (j + vs.length)) ++ A.drop (p + s) = A.take (p + j) ++ vs ++ A.drop (p + j + vs.length) := by
  have e1 : ((A.drop p).take s).take j = (A.drop p).take j := by rw [List.take_take, Nat.min_eq_left (by omega)]
  have e2 : ((A.drop p).take s).drop (j + vs.length) = ((A.drop p).drop (j + vs.length)).take (s - (j + vs.length)) := by rw [List.drop_take]
  have e3 : A.drop (p + s) = ((A.drop p).drop (j + vs.length)).drop (s - (j + vs.length)) := by rw [List.drop_drop, List.drop_drop]; congr 1; omega
  rw [e1, e2, e3, List.take_add]
  simp only [List.append_assoc]
  rw [List.take_append_drop, List.drop_drop]
  congr 4
  omega

/-- Cells are written as it is reckoned: what the program's storing does. -/
theorem writeCells_sound {P : Program} {sm : Bool} {x y : ABlk} {i sz j b : Nat} {vs : List AVal} {ρ : Rho} {w : World} (h : writeCells sm x i sz j vs = some (true, y)) (hok : x.ok ρ w b) {N : Nat} (hN : x.under N = true) (hvs : belowL N vs = true) :
    ∃ o', (storeCells ⟨ρ.blk b, ρ.off b + (i * sz + j), none⟩ (trL ρ vs)).run P w = .ok () (setB w (ρ.blk b) o') ∧ ρ.blk b < w.heap.size ∧ y.ok ρ (setB w (ρ.blk b) o') b ∧ y.under N = true ∧ y.own = true ∧ x.own = true := by
  unfold writeCells at h
  split at h <;> try cases h
  rename_i hsc
  have hone := trL_one (ρ := ρ) hsc
  have hlen := trL_length ρ vs
  split at h
  · rename_i e l
    obtain ⟨h0, hs0, fz, hh, hf⟩ := hok
    have hg : ρ.blk b < w.heap.size := (Array.getElem?_eq_some_iff.1 hh).1
    have hf' : fz = (0, 0) ∨ (trL ρ l).toArray.size ≤ fz.1 := by simpa [trL_length] using hf
    have plain : ∀ o r, replaceAt l o vs = some r → ∃ o', (storeCells ⟨ρ.blk b, ρ.off b + o, none⟩ (trL ρ vs)).run P w = .ok () (setB w (ρ.blk b) o') ∧ ρ.blk b < w.heap.size ∧ (ABlk.cells e r).ok ρ (setB w (ρ.blk b) o') b ∧ (ABlk.cells e r).under N = true ∧ (ABlk.cells e r).own = true ∧ (ABlk.cells e l).own = true := by
      intro o r hr
      have hrl := replaceAt_length hr
      have hra := replaceAt_all hr _ hs0 hsc
      have hrb : belowL N r = true := by
        rw [belowL_eq]
        exact replaceAt_all hr _ (by rw [← belowL_eq]; exact hN) (by rw [← belowL_eq]; exact hvs)
      rcases replaceAt_spec hr with ⟨rfl, rfl⟩ | ⟨h1, h2⟩
      · refine ⟨.cells (trL ρ r).toArray e fz, ?_, hg, ?_, hrb, rfl, rfl⟩
        · rw [setB_self w _ _ hh]; simp [trL, storeCells]
        · rw [setB_self w _ _ hh]; exact ⟨h0, hs0, fz, hh, hf⟩
      · have hst := storeCells_run0 (P := P) (ρ.blk b) o e fz (trL ρ vs) _ w hh hf' hone (by simp [trL_length]; omega)
        have e2 : ((trL ρ l).toArray.toList.take o ++ trL ρ vs ++ (trL ρ l).toArray.toList.drop (o + (trL ρ vs).length)).toArray = (trL ρ r).toArray := by
          rw [h2, trL_append, trL_append, trL_take, trL_drop, trL_length]
        rw [e2] at hst
        refine ⟨.cells (trL ρ r).toArray e fz, by rw [h0, Nat.zero_add]; exact hst, hg, ⟨h0, hra, fz, setB_get _ _ _ hg, by rw [hrl]; exact hf⟩, hrb, rfl, rfl⟩
    split at h
    · split at h <;> try cases h
      rename_i r hr
      simpa using plain j r hr
    · rename_i s
      split at h
      · split at h
        · rename_i v
          split at h <;> try cases h
          rename_i r hr
          simp only [Option.some.injEq, Prod.mk.injEq, decide_eq_true_eq] at h
          obtain ⟨hi, rfl⟩ := h
          obtain ⟨s1, s2, s3⟩ := setSel_spec hr
          have hrep : replaceAt l i [v] = some r := by
            have : ∀ (l : List AVal) (i : Nat) (r : List AVal), i < l.length → r.length = l.length → (∀ y, y < l.length → r[y]? = if i = y then some v else l[y]?) → replaceAt l i [v] = some r := by
              intro l
              induction l with
              | nil => intro i r hi; simp at hi
              | cons u l ih =>
                intro i r hi hl hy
                cases r with
                | nil => simp at hl
                | cons u' r =>
                  cases i with
                  | zero =>
                    have e0 := hy 0 (by simp)
                    simp only [List.getElem?_cons_zero, if_true, Option.some.injEq] at e0
                    subst e0
                    have : r = l := by
                      apply List.ext_getElem?
                      intro y
                      by_cases hyl : y < l.length
                      · have := hy (y + 1) (by simp; omega)
                        simpa using this
                      · rw [List.getElem?_eq_none (by simp at hl; omega), List.getElem?_eq_none (by omega)]
                    subst this
                    cases r <;> rfl
                  | succ i =>
                    have e0 := hy 0 (by simp)
                    simp only [List.getElem?_cons_zero, Nat.add_one_ne_zero, if_false, Option.some.injEq] at e0
                    subst e0
                    have := ih i r (by simpa using hi) (by simpa using hl) (fun y hyl => by have := hy (y + 1) (by simp; omega); simpa using this)
                    simp only [replaceAt, this]
            exact this l i r hi s1 (fun y hy => by have := s3 y hy; simpa using this)
          have := plain i r hrep
          simpa using this
        · cases h
      · split at h <;> try cases h
        rename_i r hr
        exact plain _ r hr
  · rename_i e T l md
    split at h <;> try cases h
    rename_i hmd
    split at h <;> try cases h
    rename_i hsz
    have hsz := nat_beq_eq.1 hsz
    subst hsz
    split at h <;> try cases h
    rename_i cs hcs
    split at h <;> try cases h
    rename_i c a hdec
    simp only [Option.some.injEq, Prod.mk.injEq, Bool.and_eq_true, decide_eq_true_eq] at h
    obtain ⟨⟨hi, rfl⟩, rfl⟩ := h
    have henc := T.dec_enc cs a hdec
    have hmd : md ≠ .ro := fun e => hmd e
    have hown : ∀ l : List T.α, (ABlk.row e T l md).own = true := fun l => by cases md <;> simp_all [ABlk.own]
    obtain ⟨h0, h1, h2, cur, fz, hh, hf, hcs2, htk⟩ := (ABlk.ok_own hmd).1 hok
    have hf0 : fz = (0, 0) ∨ cur.size ≤ fz.1 := hf.imp (fun h => h) (fun h => h.2)
    have hg : ρ.blk b < w.heap.size := (Array.getElem?_eq_some_iff.1 hh).1
    have hcl : cs.length = T.sz := by rw [← henc, T.len]
    have hcap : (i + 1) * T.sz ≤ ρ.cap b * T.sz := Nat.mul_le_mul_right _ (by omega)
    rw [Nat.add_mul, Nat.one_mul] at hcap
    have hll : (i + 1) * T.sz ≤ l.length * T.sz := Nat.mul_le_mul_right _ (by omega)
    rw [Nat.add_mul, Nat.one_mul] at hll
    have hlc : l.length * T.sz ≤ ρ.cap b * T.sz := Nat.mul_le_mul_right _ h1
    have hld := T.len (l.getD i T.dflt)
    have hF : (T.flat (l.set i a)) = if vs = [] then T.flat l else (T.flat l).take (i * T.sz + j) ++ vs ++ (T.flat l).drop (i * T.sz + j + vs.length) := by
      rw [flat_set T l i a hi, henc]
      have hpart := flat_part T l i hi
      rcases replaceAt_spec hcs with ⟨hv, h⟩ | ⟨h, h'⟩
      · subst hv
        rw [if_pos rfl, h, ← hpart]
        have := splice_part (T.flat l) [] (i * T.sz) T.sz 0 (by simp)
        simpa using this
      · by_cases hv : vs = []
        · subst hv
          rw [if_pos rfl, h', ← hpart]
          have := splice_part (T.flat l) [] (i * T.sz) T.sz j (by rw [hld] at h; simpa using h)
          simp only [List.append_nil, List.length_nil, Nat.add_zero] at this ⊢
          rw [this, List.take_append_drop]
        · rw [if_neg hv, h', ← hpart]
          exact splice_part (T.flat l) vs (i * T.sz) T.sz j (by omega)
    have hset : (l.set i a).length = l.length := by simp
    by_cases hv : vs = []
    · subst hv
      rw [if_pos rfl] at hF
      refine ⟨.cells cur e fz, ?_, hg, ?_, rfl, hown _, hown _⟩
      · rw [setB_self w _ _ hh]; simp [trL, storeCells]
      · rw [setB_self w _ _ hh]
        exact (ABlk.ok_own hmd).2 ⟨h0, by rw [hset]; exact h1, h2, cur, fz, hh, hf, hcs2, by rw [hset, hF]; exact htk⟩
    · rw [if_neg hv] at hF
      have hjv : j + vs.length ≤ T.sz := by
        rcases replaceAt_spec hcs with ⟨h, _⟩ | ⟨h, _⟩
        · exact absurd h hv
        · omega
      have hst := storeCells_run0 (P := P) (ρ.blk b) (i * T.sz + j) e fz (trL ρ vs) cur w hh hf0 hone (by rw [hlen, hcs2]; omega)
      refine ⟨_, by rw [h0, Nat.zero_add]; exact hst, hg, (ABlk.ok_own hmd).2 ⟨h0, by rw [hset]; exact h1, h2, _, fz, setB_get _ _ _ hg, ?_, ?_, ?_⟩, rfl, hown _, hown _⟩
      · rcases hf with h | h
        · exact .inl h
        · refine .inr ⟨h.1, ?_⟩
          have h := h.2
          simp only [List.size_toArray, List.length_append, List.length_take, List.length_drop, Array.length_toList, hlen]
          omega
      · simp only [List.size_toArray, List.length_append, List.length_take, List.length_drop, Array.length_toList, hlen]
        omega
      · rw [hset, hF, trL_append, trL_append, trL_take, trL_drop, ← htk, hlen]
        have e1 : (cur.toList.take (i * T.sz + j)).length = i * T.sz + j := by rw [List.length_take, Array.length_toList]; omega
        rw [List.append_assoc, List.take_append, e1, List.take_append, hlen, List.take_of_length_le (by rw [e1]; omega), List.take_of_length_le (l := trL ρ vs) (by rw [hlen]; omega), List.take_take, Nat.min_eq_left (by omega), List.drop_take, List.append_assoc, Nat.sub_sub]
  · cases h
  · cases h

end Go.Proofs.Ytcgnoegejmhgmaa.Ev

/-
  Ev: append and copy; steps of memory.
-/
namespace Go.Proofs.Ytcgnoegejmhgmaa.Ev
set_option linter.unusedVariables false
set_option linter.unusedSimpArgs false
open Go.RowKit

/-! ### what lies elsewhere stays -/

theorem ABlk.ok_keep {ρ ρ' : Rho} {w w' : World} {b N : Nat} {x : ABlk} (h : x.ok ρ w b) (hN : x.under N = true) (hg : Rho.agree N ρ ρ') (hb : b < N) (hs : w.heap.size ≤ w'.heap.size) (hf : ρ'.fp b = ρ.fp b) (hh' : ∀ g, x.fp ρ b g → w'.heap[g]? = w.heap[g]?) : x.ok ρ' w' b := by
  obtain ⟨g1, g2, g3⟩ := hg b hb
  have hh := hh' _ (x.fp_root ρ b)
  have own : ∀ {e : TypeId} {T : RowTy} {l : List T.α} {st : Prop}, OwnRow ρ w b e T l st → OwnRow ρ' w' b e T l st := by
    rintro e T l st ⟨h0, h1, h2, cur, fz, h3, h4, h5, h6⟩
    refine ⟨by rw [g2]; exact h0, by rw [g3]; exact h1, by rw [g3]; exact h2, cur, fz, by rw [g1, hh]; exact h3, h4, by rw [g3]; exact h5, ?_⟩
    rw [h6, trL_eq, trL_eq]
    apply List.map_congr_left
    intro x hx
    have hd := flat_data T l
    rw [List.all_eq_true] at hd
    exact AVal.data_tr (hd x hx) _ _
  cases x with
  | dead => trivial
  | obj U s l =>
    obtain ⟨h0, h1⟩ := h
    refine ⟨by rw [g2]; exact h0, ?_⟩
    rw [g1, hf, trL_agree hg l hN]
    exact U.keep _ _ _ _ _ _ h1 fun g hg => hh' g (hg.imp id fun h => ⟨rfl, h⟩)
  | cells e l =>
    obtain ⟨h0, h1, fz, h2, h3⟩ := h
    exact ⟨by rw [g2]; exact h0, h1, fz, by rw [g1, hh, trL_agree hg l hN]; exact h2, h3⟩
  | row e T l md =>
    cases md
    · exact own h
    · exact own h
    · obtain ⟨h1, h2, h3, h4⟩ := h
      refine ⟨by rw [g3]; exact h1, by rw [g3]; exact h2, by rw [g1]; omega, fun i v hv => ?_⟩
      have hd := flat_data T l
      rw [List.all_eq_true] at hd
      rw [g1, g2, World.cell?_of_block (w := w) (w' := w') (a := ⟨ρ.blk b, ρ.off b + i, none⟩) hh, h4 i v hv, AVal.data_tr (hd v (List.mem_of_getElem? hv)) ρ ρ']

theorem getB_mem {l : List (Nat × ABlk)} {b : Nat} {x : ABlk} (h : getB l b = some x) : (b, x) ∈ l := by
  induction l with
  | nil => simp [getB] at h
  | cons p l ih =>
    obtain ⟨c, y⟩ := p
    rw [getB_cons] at h
    by_cases hc : c = b
    · subst hc
      rw [if_pos rfl] at h
      cases y <;> simp only [ABlk.live, reduceCtorEq, Option.some.injEq] at h <;> subst h <;> simp
    · rw [if_neg hc] at h
      exact List.mem_cons_of_mem _ (ih h)

theorem AHeap.get_put (H : AHeap) (b c : Nat) (x : ABlk) : (H.put b x).get c = if b = c then x.live else H.get c := getB_cons b x H.bs c

theorem AHeap.get_new (H : AHeap) (c : Nat) (x : ABlk) : (H.new x).get c = if H.next = c then x.live else H.get c := getB_cons H.next x H.bs c

theorem own_some {x : ABlk} (h : x.own = true) : x.live = some x := by
  cases x <;> first | rfl | cases h

theorem Rel.next_none {ρ : Rho} {H : AHeap} {w : World} (h : Rel ρ H w) : H.get H.next = none := by
  cases hx : H.get H.next with
  | none => rfl
  | some x => have := (h.blk _ x hx).1; omega

/-- The world goes on; nothing that is reckoned with has turned. -/
theorem Step.grow {ρ : Rho} {H : AHeap} {w w' : World} (h : Rel ρ H w) (hb : Below w.heap.size w w') : Step ρ H w ρ H w' := by
  refine ⟨.refl _ _, Nat.le_refl _, ⟨fun b x hx => ?_, h.inj⟩, hb.os, hb.tape, hb.output, hb.size, fun g hg _ => hb.block g hg, fun g hg => .inr hg⟩
  obtain ⟨h1, h2, h3, h4⟩ := h.blk b x hx
  exact ⟨h1, h2, Nat.lt_of_lt_of_le h3 hb.size, ABlk.ok_keep h4 h2 (.refl _ _) h1 hb.size rfl fun g hg => hb.block _ (h.low hx hg)⟩

/-- A new block. -/
theorem Step.new {ρ : Rho} {H : AHeap} {w w' : World} (h : Rel ρ H w) {v : AVal} {x : ABlk} {u : Value} (hn : NewTo ρ H.next w v x u w') : ∃ ρ', Step ρ H w ρ' (H.new x) w' ∧ u = tr ρ' v ∧ v.under (H.new x).next = true := by
  obtain ⟨⟨g, c, hu, hg1, hg2, hok⟩, hgrow, hown, hbig, hv, hx⟩ := hn
  have hag := Rho.set_agree ρ H.next g c
  obtain ⟨s1, s2, s3⟩ := set_self ρ H.next g c
  have hget : ∀ b y, (H.new x).get b = some y → (b = H.next ∧ y = x) ∨ (b < H.next ∧ H.get b = some y) := by
    intro b y hy
    rw [AHeap.get_new] at hy
    by_cases hb : H.next = b
    · rw [if_pos hb, own_some hown] at hy
      exact .inl ⟨hb.symm, by injection hy with hy; exact hy.symm⟩
    · rw [if_neg hb] at hy
      exact .inr ⟨(h.blk b y hy).1, hy⟩
  refine ⟨ρ.set H.next g c, ⟨hag, Nat.le_succ _, ⟨fun b y hy => ?_, fun b b' y y' hy hy' ho hne g0 hf hf' => ?_⟩, hgrow.os, hgrow.tape, hgrow.output, hgrow.size, fun k hk _ => hgrow.block k hk, ?_⟩, hu, hv⟩
  · rcases hget b y hy with ⟨rfl, rfl⟩ | ⟨hlt, hy⟩
    · exact ⟨Nat.lt_succ_self _, hx, by rw [s1]; exact hg2, hok⟩
    · obtain ⟨k1, k2, k3, k4⟩ := h.blk b y hy
      have hb : (ρ.set H.next g c).blk b = ρ.blk b := (hag b hlt).1
      refine ⟨Nat.lt_succ_of_lt k1, ?_, by rw [hb]; exact Nat.lt_of_lt_of_le k3 hgrow.size, ABlk.ok_keep k4 k2 hag hlt hgrow.size rfl fun g hg => hgrow.block _ (h.low hy hg)⟩
      cases y with
      | cells e l => exact belowL_mono (Nat.le_succ _) l k2
      | obj U s l => exact belowL_mono (Nat.le_succ _) l k2
      | row => rfl
      | dead => rfl
  · rcases hget b y hy with ⟨e1, e1'⟩ | ⟨hlt, hz⟩ <;> rcases hget b' y' hy' with ⟨e2, e2'⟩ | ⟨hlt', hz'⟩
    · exact absurd (e1.trans e2.symm) hne
    · subst e1' e1
      rw [ABlk.fp_small hbig, s1] at hf
      rw [ABlk.fp_eq (ρ := ρ) (hag b' hlt').1 rfl] at hf'
      have := h.low hz' hf'
      omega
    · subst e2' e2
      rw [ABlk.fp_small hbig, s1] at hf'
      rw [ABlk.fp_eq (ρ := ρ) (hag b hlt).1 rfl] at hf
      have := h.low hz hf
      omega
    · rw [ABlk.fp_eq (ρ := ρ) (hag b hlt).1 rfl] at hf
      rw [ABlk.fp_eq (ρ := ρ) (hag b' hlt').1 rfl] at hf'
      exact h.inj b b' y y' hz hz' ho hne g0 hf hf'
  · rintro k ⟨b, y, hy, ho, hf⟩
    rcases hget b y hy with ⟨e1, e2⟩ | ⟨hlt, hy⟩
    · subst e2 e1
      rw [ABlk.fp_small hbig, s1] at hf
      subst hf
      exact .inl hg1
    · rw [ABlk.fp_eq (ρ := ρ) (hag b hlt).1 rfl] at hf
      exact .inr ⟨b, y, hy, ho, hf⟩

/-- A block of ours is written. -/
theorem Step.putF {ρ : Rho} {H : AHeap} {w : World} (h : Rel ρ H w) {b : Nat} {x y : ABlk} (hx : H.get b = some x) (ho : x.own = true) {o' : Obj} (hy : y.ok ρ (setB w (ρ.blk b) o') b) (hyo : y.own = true) (hyf : ∀ g, y.fp ρ b g → x.fp ρ b g) (hyN : y.under H.next = true) : Step ρ H w ρ (H.put b y) (setB w (ρ.blk b) o') := by
  have hget : ∀ c z, (H.put b y).get c = some z → (c = b ∧ z = y) ∨ (c ≠ b ∧ H.get c = some z) := by
    intro c z hz
    rw [AHeap.get_put] at hz
    by_cases hb : b = c
    · rw [if_pos hb, own_some hyo] at hz
      exact .inl ⟨hb.symm, by injection hz with hz; exact hz.symm⟩
    · rw [if_neg hb] at hz
      exact .inr ⟨Ne.symm hb, hz⟩
  have hsz : (setB w (ρ.blk b) o').heap.size = w.heap.size := by simp [setB]
  obtain ⟨b1, b2, b3, b4⟩ := h.blk b x hx
  refine ⟨.refl _ _, Nat.le_refl _, ⟨fun c z hz => ?_, fun c c' z z' hz hz' hzo hne g0 hf hf' => ?_⟩, rfl, rfl, rfl, by rw [hsz]; exact Nat.le_refl _, fun g hg hn => ?_, ?_⟩
  · rcases hget c z hz with ⟨rfl, rfl⟩ | ⟨hne, hz⟩
    · exact ⟨b1, hyN, by rw [hsz]; exact b3, hy⟩
    · obtain ⟨k1, k2, k3, k4⟩ := h.blk c z hz
      exact ⟨k1, k2, by rw [hsz]; exact k3, ABlk.ok_keep k4 k2 (.refl _ _) k1 (by rw [hsz]; exact Nat.le_refl _) rfl fun g hg => setB_other _ _ _ _ fun e => h.inj b c x z hx hz ho (Ne.symm hne) g (by rw [e]; exact x.fp_root ρ b) hg⟩
  · rcases hget c z hz with ⟨e1, e1'⟩ | ⟨h1, hq⟩ <;> rcases hget c' z' hz' with ⟨e2, e2'⟩ | ⟨h2, hq'⟩
    · exact absurd (e1.trans e2.symm) hne
    · subst e1' e1
      exact h.inj _ c' x z' hx hq' ho hne g0 (hyf g0 hf) hf'
    · subst e2' e2
      exact h.inj _ c x z hx hq ho (Ne.symm hne) g0 (hyf g0 hf') hf
    · exact h.inj c c' z z' hq hq' hzo hne g0 hf hf'
  · exact setB_other _ _ _ _ (fun e => hn ⟨b, x, hx, ho, by rw [e]; exact x.fp_root ρ b⟩)
  · rintro g ⟨c, z, hz, hzo, hf⟩
    rcases hget c z hz with ⟨e1, e2⟩ | ⟨_, hz⟩
    · subst e2 e1
      exact .inr ⟨_, x, hx, ho, hyf g hf⟩
    · exact .inr ⟨c, z, hz, hzo, hf⟩

theorem Step.put {ρ : Rho} {H : AHeap} {w : World} (h : Rel ρ H w) {b : Nat} {x y : ABlk} (hx : H.get b = some x) (ho : x.own = true) {o' : Obj} (hy : y.ok ρ (setB w (ρ.blk b) o') b) (hyo : y.own = true) (hyb : y.big = false) (hyN : y.under H.next = true) : Step ρ H w ρ (H.put b y) (setB w (ρ.blk b) o') :=
  Step.putF h hx ho hy hyo (fun g hg => .inl ((ABlk.fp_small hyb).1 hg)) hyN

/-- Blocks are forgotten. -/
theorem Rel.sub {ρ : Rho} {H K : AHeap} {w : World} (h : Rel ρ H w) (hs : ∀ b x, K.get b = some x → H.get b = some x ∧ b < K.next ∧ x.under K.next = true) : Rel ρ K w :=
  ⟨fun b x hx => by
    obtain ⟨h1, h2, h3⟩ := hs b x hx
    obtain ⟨_, _, k3, k4⟩ := h.blk b x h1
    exact ⟨h2, h3, k3, k4⟩, fun b b' x x' hx hx' => h.inj b b' x x' (hs b x hx).1 (hs b' x' hx').1⟩

theorem Owns.sub {ρ : Rho} {H K : AHeap} (hs : ∀ b x, K.get b = some x → H.get b = some x) {g : Nat} (h : Owns ρ K g) : Owns ρ H g := by
  obtain ⟨b, x, hx, ho, hf⟩ := h
  exact ⟨b, x, hs b x hx, ho, hf⟩

end Go.Proofs.Ytcgnoegejmhgmaa.Ev

/-
  Ev: the operations that write: what they come to.
-/
namespace Go.Proofs.Ytcgnoegejmhgmaa.Ev
set_option linter.unusedVariables false
set_option linter.unusedSimpArgs false
open Go.RowKit

/-- n things out of cells. -/
def decN (T : RowTy) : Nat → List AVal → Option (Bool × List T.α)
  | 0, _ => some (true, [])
  | n + 1, cs => match takeN T.sz cs with
    | some c => match T.dec c, decN T n (cs.drop T.sz) with
      | some (b, a), some (b', r) => some (b && b', a :: r)
      | _, _ => none
    | none => none

/-- A thing of one row's type, as one of another row's. -/
def reDec (T T' : RowTy) (a : T'.α) : T.α :=
  match T.dec (T'.enc a) with
  | some (_, x) => x
  | none => T.dflt

def reOk (T T' : RowTy) (a : T'.α) : Bool :=
  match T.dec (T'.enc a) with
  | some (c, _) => c
  | none => false

/-- What is appended or copied: things. -/
def srcA (P : Program) (T : RowTy) (H : AHeap) (t : TypeId) (x : AVal) : Option (Bool × List T.α) :=
  match P.underlying t, x with
  | some (.slice _), .nils => some (true, [])
  | some (.slice _), .sl b i sz j m _ => match Nat.beq sz T.sz, H.get b with
    | true, some (.cells _ l) => match takeN (m * sz) (l.drop (i * sz + j)) with
      | some cs => decN T m cs
      | none => none
    | true, some (.row _ T' l _) => match Nat.beq T'.sz sz, j with
      | true, 0 => some (decide (i + m ≤ l.length) && ((l.drop i).take m).all (reOk T T'), ((l.drop i).take m).map (reDec T T'))
      | _, _ => none
    | _, _ => none
  | some .string, .str l => match T.bytes with
    | some (_, g) => some (true, g l)
    | none => none
  | _, _ => none

/-- A string's bytes over cells of bytes. -/
def overA (l : List UInt8) : List AVal → Nat → Option (List AVal)
  | [], _ => some []
  | u :: r, x => match setOne (decide (x < l.length)) u (.int .u8 ((l.getD x 0).toNat : Int)), overA l r (x + 1) with
    | some v, some r' => some (v :: r')
    | _, _ => none

def copyA (P : Program) (H : AHeap) (t u : TypeId) (d s : AVal) : Option (Bool × AVal × AHeap) :=
  match P.underlying t, d with
  | some (.slice e), .sl b i sz j n c => match sizeA P e, H.get b with
    | some m, some (.cells e' l) => match Nat.beq m 1, Nat.beq sz 1, P.underlying u, s with
      | true, true, some .string, .str s => match takeN n (l.drop (i * 1 + j)) with
        | some old => match overA s old 0 with
          | some r => match replaceAt l (i * 1 + j) r with
            | some l' => some (decide (i * 1 + j ≤ l.length), .int .i64 (min (s.length : Int) (n : Int)), H.put b (.cells e' l'))
            | none => none
          | none => none
        | none => none
      | _, _, _, _ => none
    | some m, some (.row e' T l md) => match md with
      | .ro => none
      | md => match Nat.beq m sz, Nat.beq sz T.sz, i, j, srcA P T H u s with
        | true, true, 0, 0, some (q, news) => some (q && decide (n = news.length ∧ n ≤ l.length ∧ 0 < T.sz), .int .i64 (n : Int), H.put b (.row e' T (news ++ l.drop news.length) md))
        | _, _, _, _, _ => none
    | _, _ => none
  | _, _ => none

def appendA (X : Ctx) (H : AHeap) (t u : TypeId) (s x : AVal) : Option (Bool × AVal × AHeap) :=
  match X.P.underlying t with
  | some (.slice e) => match X.P.info? e, zeroA X.P e with
    | some i, some zl => match s with
      | .nils => match X.rowTy e with
        | some T => match srcA X.P T H u x with
          | some (q, news) => some (q && decide (0 < news.length ∧ i.size = T.sz ∧ zl.length = T.sz ∧ 0 < T.sz ∧ news.length ≤ 9223372036854775807 ∧ news.length * i.bytes ≤ 140737488355328),
              .sl H.next 0 T.sz 0 news.length none, H.new (.row e T news .plain))
          | none => none
        | none => none
      | .sl b k sz j n c => match k, j, c, H.get b with
        | 0, 0, none, some (.row e' T l md) => match md with
          | .ro => none
          | md => match Nat.beq e e', Nat.beq sz T.sz, srcA X.P T H u x with
            | true, true, some (q, news) => some (q && decide (n = l.length ∧ i.size = T.sz ∧ zl.length = T.sz ∧ 0 < T.sz ∧ (l ++ news).length ≤ 9223372036854775807 ∧ (l ++ news).length * i.bytes ≤ 140737488355328),
                .sl H.next 0 T.sz 0 (l ++ news).length none, (H.put b .dead).new (.row e T (l ++ news) md))
            | _, _, _ => none
        | _, _, _, _ => none
      | _ => none
    | _, _ => none
  | _ => none

def storeA (P : Program) (sm : Bool) (H : AHeap) (t : TypeId) (x v : AVal) : Option (Bool × AVal × AHeap) :=
  match x with
  | .ptr b i sz j => match H.get b, sizeA P t with
    | some blk, some m => match Nat.beq m (cellsOfA v).length with
      | true => match writeCells sm blk i sz j (cellsOfA v) with
        | some (c, y) => some (c, .tup [], H.put b y)
        | none => none
      | false => none
    | _, _ => none
  | _ => none

/-- A map is written; something is removed from it. -/
def updA (P : Program) (H : AHeap) (t : TypeId) (x k : AVal) (v : Option AVal) : Option (Bool × AVal × AHeap) :=
  match P.underlying t with
  | some (.map kt _) => match P.underlying kt with
    | some (.int .i64) => match k with
      | .int .i64 n => match x with
        | .map b => match H.get b with
          | some (.obj U s l) => match U.upd s l n v with
            | some (c, s', l') => some (c, .tup [], H.put b (.obj U s' l'))
            | none => none
          | _ => none
        | _ => none
      | _ => none
    | _ => none
  | _ => none

def writeA (X : Ctx) (sm : Bool) (o : Oper) (E : Env) (H : AHeap) : Option (Bool × AVal × AHeap) :=
  match o.op with
  | .store t x v => match evalO E x, evalO E v with
    | some a, some b => storeA X.P sm H t a b
    | _, _ => none
  | .call { callee := .builtin .copy, args := ⟨[d, s]⟩, argTypes := ⟨[t, u]⟩ } => match evalO E d, evalO E s with
    | some a, some b => copyA X.P H t u a b
    | _, _ => none
  | .call { callee := .builtin .append, args := ⟨[d, s]⟩, argTypes := ⟨[t, u]⟩ } => match evalO E d, evalO E s with
    | some a, some b => appendA X H t u a b
    | _, _ => none
  | .mapUpdate t m k v => match evalO E m, evalO E k, evalO E v with
    | some a, some b, some c => updA X.P H t a b (some c)
    | _, _, _ => none
  | .call { callee := .builtin .delete, args := ⟨[m, k]⟩, argTypes := ⟨[t, _]⟩ } => match evalO E m, evalO E k with
    | some a, some b => updA X.P H t a b none
    | _, _ => none
  | _ => none

/-! ### it does so -/

section
variable {P : Program}

theorem writeCells_big {sm : Bool} {x y : ABlk} {i sz j : Nat} {vs : List AVal} {c : Bool} (h : writeCells sm x i sz j vs = some (c, y)) : y.big = false := by
  unfold writeCells at h
  repeat' (first | (split at h) | (cases h; done) | (simp only [Option.some.injEq, Prod.mk.injEq] at h; obtain ⟨_, rfl⟩ := h; rfl))

theorem storeA_sound {sm : Bool} {H H' : AHeap} {t : TypeId} {x v u : AVal} (h : storeA P sm H t x v = some (true, u, H')) {ρ : Rho} {w : World} (hR : Rel ρ H w) (hv : v.under H.next = true) :
    ∃ w', (Instr.storeAt t (tr ρ x) (tr ρ v)).run P w = .ok () w' ∧ u = .tup [] ∧ Step ρ H w ρ H' w' := by
  unfold storeA at h
  split at h <;> try cases h
  rename_i b i sz j
  split at h <;> try cases h
  rename_i blk m hb hm
  split at h <;> try cases h
  rename_i hsz
  have hsz := nat_beq_eq.1 hsz
  split at h <;> try cases h
  rename_i y hwr
  obtain ⟨k1, k2, k3, k4⟩ := hR.blk b blk hb
  obtain ⟨o', h1, h2, h3, h4, h5, h6⟩ := writeCells_sound (P := P) hwr k4 k2 (cellsOfA_under hv)
  refine ⟨setB w (ρ.blk b) o', ?_, rfl, Step.put hR hb h6 h3 h5 (writeCells_big hwr) h4⟩
  have hmr := sizeA_run hm w
  have hc : (trL ρ (cellsOfA v)).toArray.size = m := by rw [hsz]; simp [trL_length]
  simp only [tr, Instr.storeAt, Instr.sureAddr, Sem.run_bind, Sem.run_pure, Result.andThen_ok, storeVar, hmr, cells_tr, hc, ne_eq, not_true_eq_false, if_false, h1]

theorem decN_spec {T : RowTy} : ∀ {n : Nat} {cs : List AVal} {as : List T.α}, decN T n cs = some (true, as) → as.length = n ∧ T.flat as = cs.take (n * T.sz)
  | 0, cs, as, h => by simp only [decN, Option.some.injEq, Prod.mk.injEq, true_and] at h; subst h; simp [RowTy.flat]
  | n + 1, cs, as, h => by
    simp only [decN] at h
    split at h <;> try cases h
    rename_i c hc
    split at h <;> try cases h
    rename_i b a b' r hd hr
    simp only [Option.some.injEq, Prod.mk.injEq, Bool.and_eq_true] at h
    obtain ⟨⟨rfl, rfl⟩, rfl⟩ := h
    obtain ⟨h1, h2⟩ := decN_spec hr
    obtain ⟨rfl, hl⟩ := takeN_spec hc
    refine ⟨by simp [h1], ?_⟩
    simp only [RowTy.flat, List.flatMap_cons] at h2 ⊢
    rw [T.dec_enc _ _ hd, h2, Nat.add_mul, Nat.one_mul, Nat.add_comm, List.take_add]

theorem reDec_spec {T T' : RowTy} : ∀ {l : List T'.α}, l.all (reOk T T') = true → T.flat (l.map (reDec T T')) = T'.flat l
  | [], _ => rfl
  | a :: l, h => by
    simp only [List.all_cons, Bool.and_eq_true] at h
    have ih := reDec_spec h.2
    have h1 := h.1
    unfold reOk at h1
    simp only [List.map_cons, RowTy.flat, List.flatMap_cons] at ih ⊢
    rw [ih]
    congr 1
    unfold reDec
    split at h1
    · rename_i c x hd
      subst h1
      exact T.dec_enc _ _ hd
    · cases h1

/-- What the source holds: for the laws of append and copy. -/
theorem srcA_sound {T : RowTy} {H : AHeap} {t : TypeId} {x : AVal} {news : List T.α} (h : srcA P T H t x = some (true, news)) {ρ : Rho} {w : World} {N : Nat} (hH : ∀ b y, H.get b = some y → y.under N = true ∧ y.ok ρ w b) :
    Src P T.sz t (tr ρ x) news.length (trL ρ (T.flat news)) w := by
  have hlen : (trL ρ (T.flat news)).length = news.length * T.sz := by rw [trL_length, flat_length]
  have hone : ∀ u ∈ trL ρ (T.flat news), u.oneCell' = true := by
    refine trL_one ?_
    have := flat_data T news
    rw [List.all_eq_true] at this ⊢
    exact fun x hx => AVal.data_scalar (this x hx)
  unfold srcA at h
  split at h
  · rename_i e hu
    simp only [Option.some.injEq, Prod.mk.injEq, true_and] at h
    subst h
    simpa [tr, RowTy.flat, trL] using Src.ofNil w hu 0
  · rename_i e b i sz j m c hu
    have ofs : ∀ cs : List AVal, T.flat news = cs → news.length = m → (∀ y v, cs[y]? = some v → w.cell? ⟨ρ.blk b, ρ.off b + (i * sz + j) + y, none⟩ = some (tr ρ v)) → Src P T.sz t (tr ρ (.sl b i sz j m c)) news.length (trL ρ (T.flat news)) w := by
      intro cs hcs hm hcell
      simp only [tr]
      rw [hm]
      refine Src.ofSlice w hu _ m _ _ (by rw [hlen, hm]) (fun y v hv => ?_) hone
      rw [addr_add]
      rw [hcs, trL_get] at hv
      cases hy : cs[y]? with
      | none => simp [hy] at hv
      | some z => simp [hy] at hv; subst hv; exact hcell y z hy
    split at h <;> try cases h
    · rename_i e' l hsz hb
      have hsz := nat_beq_eq.1 hsz
      subst hsz
      split at h <;> try cases h
      rename_i cs hcs
      obtain ⟨k1, k2⟩ := hH b _ hb
      have hrd : readCells false (.cells e' l) i T.sz j (m * T.sz) = some (true, cs) ∨ T.sz = 0 := by
        cases hz : T.sz with
        | zero => exact .inr rfl
        | succ s => rw [hz] at hcs; left; simp only [readCells, hcs]
      obtain ⟨d1, d2⟩ := decN_spec h
      obtain ⟨hc1, hc2⟩ := takeN_spec hcs
      have hcl : cs.length = m * T.sz := by rw [hc1, List.length_take]; omega
      have hcs' : T.flat news = cs := by rw [d2, List.take_of_length_le (by omega)]
      rcases hrd with hrd | hz
      · obtain ⟨r1, r2, r3, r4⟩ := readCells_cells hrd k2 k1
        exact ofs cs hcs' d1 r4
      · refine ofs cs hcs' d1 (fun y v hv => ?_)
        rw [hz] at hcl
        simp only [Nat.mul_zero] at hcl
        have := List.eq_nil_of_length_eq_zero hcl
        rw [this] at hv
        simp at hv
    · rename_i e' T' l md hsz hb
      split at h <;> try cases h
      rename_i hsz'
      have hsz := nat_beq_eq.1 hsz
      have hsz' := nat_beq_eq.1 hsz'
      subst hsz
      simp only [Option.some.injEq, Prod.mk.injEq, Bool.and_eq_true, decide_eq_true_eq] at h
      obtain ⟨⟨h1, h2⟩, rfl⟩ := h
      obtain ⟨k1, k2⟩ := hH b _ hb
      refine ofs (T'.flat ((l.drop i).take m)) (reDec_spec h2) (by simp; omega) (fun y v hv => ?_)
      have hym : y < m * T'.sz := by
        have := (List.getElem?_eq_some_iff.1 hv).1
        rw [flat_length, List.length_take, List.length_drop] at this
        have h3 : min m (l.length - i) * T'.sz ≤ m * T'.sz := Nat.mul_le_mul_right _ (Nat.min_le_left _ _)
        omega
      have hsplit : T'.flat l = T'.flat (l.take i) ++ (T'.flat ((l.drop i).take m) ++ T'.flat ((l.drop i).drop m)) := by
        have e1 : l = l.take i ++ ((l.drop i).take m ++ (l.drop i).drop m) := by rw [List.take_append_drop, List.take_append_drop]
        have fa : ∀ a b : List T'.α, T'.flat (a ++ b) = T'.flat a ++ T'.flat b := fun a b => by simp [RowTy.flat]
        rw [← fa, ← fa, ← e1]
      have hl1 : (T'.flat (l.take i)).length = i * T'.sz := by rw [flat_length, List.length_take, Nat.min_eq_left (by omega)]
      have hget : (T'.flat l)[i * T'.sz + y]? = some v := by
        rw [hsplit, List.getElem?_append_right (by omega), hl1, Nat.add_sub_cancel_left, List.getElem?_append_left (by have := (List.getElem?_eq_some_iff.1 hv).1; exact this)]
        exact hv
      have := row_cell k2 hget
      rw [← this]
      congr 2
      rw [hsz']
      omega
  · rename_i l hu
    split at h <;> try cases h
    rename_i f g hfg
    obtain ⟨t1, t2, t3⟩ := T.toB f g hfg
    have hfl : T.flat (g l) = l.map fun c => AVal.int .u8 (c.toNat : Int) := t3 l
    have hgl : (g l).length = l.length := by
      have h1 := flat_length T (g l)
      rw [hfl, t1, Nat.mul_one] at h1
      simpa using h1.symm
    have := Src.ofString (P := P) w hu ⟨l.toArray⟩
    rw [str_size] at this
    rw [t1, hgl, hfl]
    simp only [tr]
    have e : trL ρ (l.map fun c => AVal.int .u8 (c.toNat : Int)) = byteCells ⟨l.toArray⟩ := by
      rw [trL_eq, List.map_map]; rfl
    rw [e]
    exact this
  · cases h

end

end Go.Proofs.Ytcgnoegejmhgmaa.Ev

/-
  Ev: append, copy, and all the operations that write: they do as it is reckoned.
-/
namespace Go.Proofs.Ytcgnoegejmhgmaa.Ev
set_option linter.unusedVariables false
set_option linter.unusedSimpArgs false
open Go.RowKit

section
variable {P : Program}

theorem overA_spec {s : List UInt8} : ∀ {l : List AVal} {x : Nat} {r : List AVal}, overA s l x = some r → r.length = l.length ∧ r.all AVal.data = true ∧ ∀ y, y < l.length → r[y]? = if x + y < s.length then some (.int .u8 ((s.getD (x + y) 0).toNat : Int)) else l[y]?
  | [], x, r, h => by simp only [overA, Option.some.injEq] at h; subst h; simp
  | u :: l, x, r, h => by
    simp only [overA] at h
    split at h <;> try cases h
    rename_i v r' hv hr
    obtain ⟨h1, h2, h3⟩ := overA_spec hr
    obtain ⟨w1, w2⟩ := setOne_spec hv
    refine ⟨by simp [h1], by simp [w2]; simpa using h2, fun y hy => ?_⟩
    cases y with
    | zero => simp only [List.getElem?_cons_zero, w1, Nat.add_zero]; by_cases hx : x < s.length <;> simp [hx]
    | succ y =>
      have := h3 y (by simp at hy; omega)
      simp only [List.getElem?_cons_succ, this, show x + 1 + y = x + (y + 1) by omega]

theorem len_src {size : Nat} {tx : TypeId} {x : Value} {n : Nat} {news : List Value} {w : World} (h : Src P size tx x n news w) : (Builtin.lenOf x).run P w = .ok n w := h.len w

theorem copy_run {t u e ty : TypeId} {a : Addr} {n c k m : Nat} {x : Value} {w w' : World} {cells : Array Value} (hu : P.underlying t = some (.slice e)) (hl : (Builtin.lenOf x).run P w = .ok k w) (hm : (sizeOf e).run P w = .ok m w)
    (hc : (Builtin.firstCells m (Nat.min k n) x).run P w = .ok cells w) (hs : (storeCells a cells.toList).run P w = .ok () w') : (Builtin.copy_ #[t, u] ty #[.slice (some a) n c, x]).run P w = .ok (.int .i64 ((Nat.min k n : Nat) : Int)) w' := by
  simp [Builtin.copy_, run_underlying hu, hl, hm, hc, hs, goInt]

theorem flat_drop (T : RowTy) (l : List T.α) (k : Nat) (hk : k ≤ l.length) : T.flat (l.drop k) = (T.flat l).drop (k * T.sz) := by
  have hfa : ∀ a b : List T.α, T.flat (a ++ b) = T.flat a ++ T.flat b := fun a b => by simp [RowTy.flat]
  have e1 : T.flat l = T.flat (l.take k) ++ T.flat (l.drop k) := by rw [← hfa, List.take_append_drop]
  have e2 : (T.flat (l.take k)).length = k * T.sz := by rw [flat_length, List.length_take, Nat.min_eq_left hk]
  rw [e1, List.drop_append, e2, Nat.sub_self, List.drop_zero, List.drop_of_length_le (l := T.flat (l.take k)) (by rw [e2]; exact Nat.le_refl _), List.nil_append]

theorem copyA_sound {H H' : AHeap} {t u : TypeId} {d s v : AVal} (h : copyA P H t u d s = some (true, v, H')) {ρ : Rho} {w : World} (hR : Rel ρ H w) (ty : TypeId) :
    ∃ w', (Builtin.copy_ #[t, u] ty #[tr ρ d, tr ρ s]).run P w = .ok (tr ρ v) w' ∧ v.data = true ∧ Step ρ H w ρ H' w' := by
  unfold copyA at h
  split at h
  · rename_i e b i sz j n c hu
    split at h <;> try cases h
    · rename_i m e' l hm hb
      split at h <;> try cases h
      rename_i s hm1 hsz hus
      have hm1 := nat_beq_eq.1 hm1
      have hsz := nat_beq_eq.1 hsz
      subst hm1 hsz
      split at h <;> try cases h
      rename_i old hold
      split at h <;> try cases h
      rename_i r hr
      split at h <;> try cases h
      rename_i l' hl'
      simp only [Option.some.injEq, Prod.mk.injEq, decide_eq_true_eq] at h
      obtain ⟨hij, rfl, rfl⟩ := h
      obtain ⟨k1, k2, k3, k4⟩ := hR.blk b _ hb
      obtain ⟨c0, c1, fz, c2, c3⟩ := k4
      obtain ⟨ho1, ho2⟩ := takeN_spec hold
      simp only [List.length_drop] at ho2
      obtain ⟨r1, r2, r3⟩ := overA_spec hr
      have hol : old.length = n := by rw [ho1, List.length_take, List.length_drop]; omega
      have hmr := sizeA_run hm w
      -- what is stored
      have hfc : (Builtin.firstCells 1 (Nat.min s.length n) (.string ⟨s.toArray⟩)).run P w = .ok ((s.take (Nat.min s.length n)).map fun c => Value.int .u8 (c.toNat : Int)).toArray w := by
        simp only [Builtin.firstCells, Sem.run_pure]
        congr 1
        apply Array.ext'
        simp [ByteArray.data_extract]
      have hlen : ((s.take (Nat.min s.length n)).map fun c => Value.int .u8 (c.toNat : Int)).length = Nat.min s.length n := by
        rw [List.length_map, List.length_take]; exact Nat.min_eq_left (Nat.min_le_left _ _)
      have hmn : Nat.min s.length n ≤ n := Nat.min_le_right _ _
      have hst := storeCells_run0 (P := P) (ρ.blk b) (i * 1 + j) e' fz ((s.take (Nat.min s.length n)).map fun c => Value.int .u8 (c.toNat : Int)) _ w c2 (by simpa [trL_length] using c3) (by intro u hu; obtain ⟨_, _, rfl⟩ := List.mem_map.1 hu; rfl) (by simp only [List.size_toArray, trL_length, hlen]; omega)
      have hcells : ((trL ρ l).toArray.toList.take (i * 1 + j) ++ ((s.take (Nat.min s.length n)).map fun c => Value.int .u8 (c.toNat : Int)) ++ (trL ρ l).toArray.toList.drop (i * 1 + j + ((s.take (Nat.min s.length n)).map fun c => Value.int .u8 (c.toNat : Int)).length)) = trL ρ l' := by
        have hl2 : l' = l.take (i * 1 + j) ++ r ++ l.drop (i * 1 + j + n) := by
          rcases replaceAt_spec hl' with ⟨h1, h2⟩ | ⟨h1, h2⟩
          · have hn0 : n = 0 := by rw [← hol, ← r1, h1]; rfl
            rw [h2, h1, hn0]; simp
          · rw [h2, r1, hol]
        rw [hlen, hl2, trL_append, trL_append, trL_take, trL_drop, List.append_assoc, List.append_assoc]
        congr 1
        have hsplit : (trL ρ l).drop (i * 1 + j + Nat.min s.length n) = ((trL ρ old).drop (Nat.min s.length n)) ++ (trL ρ l).drop (i * 1 + j + n) := by
          rw [ho1, trL_take, trL_drop, List.drop_take]
          have e1 : (trL ρ l).drop (i * 1 + j + n) = (((trL ρ l).drop (i * 1 + j)).drop (Nat.min s.length n)).drop (n - Nat.min s.length n) := by
            rw [List.drop_drop, List.drop_drop]; congr 1; omega
          rw [e1, List.take_append_drop, List.drop_drop]
        show _ ++ (trL ρ l).drop _ = _
        rw [hsplit, ← List.append_assoc]
        congr 1
        apply List.ext_getElem?
        intro y
        by_cases hy : y < n
        · have e1 := r3 y (by omega)
          rw [Nat.zero_add] at e1
          rw [trL_get, e1]
          by_cases hys : y < s.length
          · have hym : y < Nat.min s.length n := by have : Nat.min s.length n = min s.length n := rfl; omega
            rw [List.getElem?_append_left (by rw [hlen]; exact hym), List.getElem?_map, List.getElem?_take, if_pos hym, if_pos hys, List.getElem?_eq_getElem hys]
            simp [List.getD, List.getElem?_eq_getElem hys, tr]
          · have hmin : Nat.min s.length n = s.length := by have : Nat.min s.length n = min s.length n := rfl; omega
            rw [if_neg hys, List.getElem?_append_right (by rw [hlen, hmin]; omega), hlen, List.getElem?_drop, trL_get]
            congr 2; omega
        · rw [List.getElem?_eq_none (by simp only [List.length_append, hlen, List.length_drop, trL_length, hol]; omega), List.getElem?_eq_none (by rw [trL_length]; omega)]
      rw [hcells] at hst
      refine ⟨_, ?_, rfl, Step.put (o' := .cells (trL ρ l').toArray e' fz) hR hb rfl ⟨c0, ?_, fz, setB_get _ _ _ k3, ?_⟩ rfl rfl ?_⟩
      · have e : min (s.length : Int) (n : Int) = ((Nat.min s.length n : Nat) : Int) := by
          have : Nat.min s.length n = min s.length n := rfl
          omega
        simp only [tr, e]
        refine copy_run hu (by simp [Builtin.lenOf, str_size]) hmr hfc ?_
        rw [c0, Nat.zero_add]
        exact hst
      · exact replaceAt_all hl' _ c1 (by rw [List.all_eq_true] at r2 ⊢; exact fun x hx => AVal.data_scalar (r2 x hx))
      · rw [replaceAt_length hl']; exact c3
      · show belowL _ _ = true
        rw [belowL_eq]
        refine replaceAt_all hl' _ (by rw [← belowL_eq]; exact k2) ?_
        rw [List.all_eq_true] at r2 ⊢
        exact fun x hx => AVal.data_below (r2 x hx) _
    · rename_i m e' T l md hm hb
      split at h <;> try cases h
      rename_i hmd
      split at h <;> try cases h
      rename_i q news hmsz hszT hsrc
      have hmsz := nat_beq_eq.1 hmsz
      have hszT := nat_beq_eq.1 hszT
      subst hmsz hszT
      simp only [Option.some.injEq, Prod.mk.injEq, Bool.and_eq_true, decide_eq_true_eq] at h
      obtain ⟨⟨rfl, rfl, hn, hpos⟩, rfl, rfl⟩ := h
      have hmd : md ≠ .ro := fun e => hmd e
      obtain ⟨k1, k2, k3, k4⟩ := hR.blk b _ hb
      have hsr := srcA_sound hsrc (ρ := ρ) (w := w) (N := H.next) (fun b y hy => ⟨(hR.blk b y hy).2.1, (hR.blk b y hy).2.2.2⟩)
      obtain ⟨h0, h1, h2, cur, fz, h3, h4, h5, h6⟩ := (ABlk.ok_own hmd).1 k4
      have hmr := sizeA_run hm w
      have hfa : ∀ a b : List T.α, T.flat (a ++ b) = T.flat a ++ T.flat b := fun a b => by simp [RowTy.flat]
      have hnl : (T.flat news).length = news.length * T.sz := flat_length T news
      have hlen := trL_length ρ (T.flat news)
      have hmul : news.length * T.sz ≤ l.length * T.sz := Nat.mul_le_mul_right _ (by omega)
      have hmul2 : l.length * T.sz ≤ ρ.cap b * T.sz := Nat.mul_le_mul_right _ h1
      have hst := storeCells_run0 (P := P) (ρ.blk b) 0 e' fz (trL ρ (T.flat news)) cur w h3 (h4.imp (fun h => h) (fun h => h.2)) hsr.one (by rw [hlen, hnl, h5]; omega)
      refine ⟨_, ?_, rfl, Step.put (o' := .cells (cur.toList.take 0 ++ trL ρ (T.flat news) ++ cur.toList.drop (0 + (trL ρ (T.flat news)).length)).toArray e' fz) hR hb (by cases md <;> simp_all [ABlk.own]) ((ABlk.ok_own hmd).2 ⟨h0, ?_, h2, _, fz, setB_get _ _ _ k3, ?_, ?_, ?_⟩) (by cases md <;> simp_all [ABlk.own]) rfl rfl⟩
      · have hmin : Nat.min news.length news.length = news.length := Nat.min_self _
        have := fun C => copy_run (u := u) (ty := ty) (a := ⟨ρ.blk b, ρ.off b + (0 * T.sz + 0), none⟩) (n := news.length) (c := C) (x := tr ρ s) hu (hsr.len w) hmr (by rw [hmin]; exact hsr.cells) (by rw [h0]; simp only [Nat.zero_mul, Nat.zero_add, Nat.add_zero] at hst ⊢; exact hst)
        simp only [hmin, Nat.zero_add] at this ⊢
        simp only [tr]
        exact this _
      · simp only [List.length_append, List.length_drop]; omega
      · rcases h4 with h | h
        · exact .inl h
        · refine .inr ⟨h.1, ?_⟩
          have h := h.2
          simp only [List.size_toArray, List.length_append, List.length_take, List.length_drop, Array.length_toList, hlen, hnl]
          omega
      · simp only [List.size_toArray, List.length_append, List.length_take, List.length_drop, Array.length_toList, hlen, hnl]
        omega
      · have hll : (news ++ l.drop news.length).length = l.length := by simp only [List.length_append, List.length_drop]; omega
        rw [hll, hfa, trL_append]
        simp only [List.take_zero, List.nil_append, hlen, hnl, Nat.zero_add]
        rw [List.take_append, hlen, hnl, List.take_of_length_le (by rw [hlen, hnl]; omega)]
        congr 1
        rw [flat_drop T l _ hn, trL_drop, ← h6, List.drop_take]
  · cases h

end

end Go.Proofs.Ytcgnoegejmhgmaa.Ev

/-
  Ev: append.
-/
namespace Go.Proofs.Ytcgnoegejmhgmaa.Ev
set_option linter.unusedVariables false
set_option linter.unusedSimpArgs false
open Go.RowKit

theorem append_room_run {P : Program} {w : World} {t tx ty e : TypeId} {i : TypeInfo} (ht : P.underlying t = some (.slice e)) (hi : P.info? e = some i) {g sLen sCap n : Nat} {x : Value} {news : List Value} (hs : Src P i.size tx x n news w)
    (hroom : sLen + n ≤ sCap) {w' : World} (hst : (storeCells ⟨g, sLen * i.size, none⟩ news).run P w = .ok () w') :
    (Builtin.append_ #[t, tx] ty #[.slice (some ⟨g, 0, none⟩) sLen sCap, x]).run P w = .ok (.slice (some ⟨g, 0, none⟩) (sLen + n) sCap) w' := by
  rcases hs.kind with ⟨e', hk⟩ | hk <;> simp [Builtin.append_, run_underlying ht, run_underlying hk, sizeOf, typeInfo, hi, hs.len, hroom, hs.cells, addr_add, hst]

/-- A block of ours is dropped. -/
theorem Step.drop {ρ : Rho} {H : AHeap} {w : World} (h : Rel ρ H w) (b : Nat) : Step ρ H w ρ (H.put b .dead) w := by
  have hs : ∀ c z, (H.put b .dead).get c = some z → H.get c = some z := by
    intro c z hz
    rw [AHeap.get_put] at hz
    by_cases hb : b = c
    · rw [if_pos hb] at hz; cases hz
    · rwa [if_neg hb] at hz
  refine ⟨.refl _ _, Nat.le_refl _, h.sub fun c z hz => ?_, rfl, rfl, rfl, Nat.le_refl _, fun _ _ _ => rfl, fun g hg => .inr (hg.sub hs)⟩
  have := h.blk c z (hs c z hz)
  exact ⟨hs c z hz, this.1, this.2.1⟩

/-- A block of ours goes on under a new number. -/
theorem Step.move {ρ : Rho} {H : AHeap} {w : World} (h : Rel ρ H w) {b : Nat} {x y : ABlk} (hx : H.get b = some x) (ho : x.own = true) {o' : Obj} {C : Nat} (hy : y.ok (ρ.set H.next (ρ.blk b) C) (setB w (ρ.blk b) o') H.next) (hyo : y.own = true) (hyb : y.big = false) (hyN : y.under (H.next + 1) = true) :
    Step ρ H w (ρ.set H.next (ρ.blk b) C) ((H.put b .dead).new y) (setB w (ρ.blk b) o') := by
  have hag := Rho.set_agree ρ H.next (ρ.blk b) C
  obtain ⟨s1, s2, s3⟩ := set_self ρ H.next (ρ.blk b) C
  have hsz : (setB w (ρ.blk b) o').heap.size = w.heap.size := by simp [setB]
  obtain ⟨b1, b2, b3, b4⟩ := h.blk b x hx
  have hget : ∀ c z, ((H.put b .dead).new y).get c = some z → (c = H.next ∧ z = y) ∨ (c ≠ b ∧ c < H.next ∧ H.get c = some z) := by
    intro c z hz
    rw [AHeap.get_new] at hz
    by_cases hc : (H.put b .dead).next = c
    · rw [if_pos hc, own_some hyo] at hz
      exact .inl ⟨hc.symm, by injection hz with hz; exact hz.symm⟩
    · rw [if_neg hc, AHeap.get_put] at hz
      by_cases hb : b = c
      · rw [if_pos hb] at hz; cases hz
      · rw [if_neg hb] at hz
        exact .inr ⟨Ne.symm hb, (h.blk c z hz).1, hz⟩
  refine ⟨hag, Nat.le_succ _, ⟨fun c z hz => ?_, fun c c' z z' hz hz' hzo hne g0 hf hf' => ?_⟩, rfl, rfl, rfl, by rw [hsz]; exact Nat.le_refl _, fun g hg hn => setB_other _ _ _ _ (fun e => hn ⟨b, x, hx, ho, by rw [e]; exact x.fp_root ρ b⟩), ?_⟩
  · rcases hget c z hz with ⟨e1, e2⟩ | ⟨hne, hlt, hq⟩
    · rw [e1, e2]
      exact ⟨Nat.lt_succ_self _, hyN, by rw [s1, hsz]; exact b3, hy⟩
    · obtain ⟨k1, k2, k3, k4⟩ := h.blk c z hq
      have hb : (ρ.set H.next (ρ.blk b) C).blk c = ρ.blk c := (hag c hlt).1
      refine ⟨Nat.lt_succ_of_lt k1, ?_, by rw [hb, hsz]; exact k3, ABlk.ok_keep k4 k2 hag hlt (by rw [hsz]; exact Nat.le_refl _) rfl fun g hg => setB_other _ _ _ _ fun e => h.inj b c x z hx hq ho (Ne.symm hne) g (by rw [e]; exact x.fp_root ρ b) hg⟩
      cases z with
      | cells e l => exact belowL_mono (Nat.le_succ _) l k2
      | obj U s l => exact belowL_mono (Nat.le_succ _) l k2
      | row => rfl
      | dead => rfl
  · rcases hget c z hz with ⟨e1, e1'⟩ | ⟨h1, hl1, hq⟩ <;> rcases hget c' z' hz' with ⟨e2, e2'⟩ | ⟨h2, hl2, hq'⟩
    · exact absurd (e1.trans e2.symm) hne
    · subst e1' e1
      rw [ABlk.fp_small hyb, s1] at hf
      rw [ABlk.fp_eq (ρ := ρ) (hag c' hl2).1 rfl] at hf'
      exact h.inj b c' x z' hx hq' ho (Ne.symm h2) g0 (.inl hf) hf'
    · subst e2' e2
      rw [ABlk.fp_small hyb, s1] at hf'
      rw [ABlk.fp_eq (ρ := ρ) (hag c hl1).1 rfl] at hf
      exact h.inj b c x z hx hq ho (Ne.symm h1) g0 (.inl hf') hf
    · rw [ABlk.fp_eq (ρ := ρ) (hag c hl1).1 rfl] at hf
      rw [ABlk.fp_eq (ρ := ρ) (hag c' hl2).1 rfl] at hf'
      exact h.inj c c' z z' hq hq' hzo hne g0 hf hf'
  · rintro g ⟨c, z, hz, hzo, hf⟩
    rcases hget c z hz with ⟨e1, e2⟩ | ⟨h1, hl1, hq⟩
    · subst e2 e1
      rw [ABlk.fp_small hyb, s1] at hf
      exact .inr ⟨b, x, hx, ho, .inl hf⟩
    · rw [ABlk.fp_eq (ρ := ρ) (hag c hl1).1 rfl] at hf
      exact .inr ⟨c, z, hq, hzo, hf⟩

theorem size_zeros {z : Value} {k n : Nat} (h : z.cells.size = k) : (Builtin.zeroCells z.cells n).size = n * k := by rw [size_zeroCells, h]

theorem appendA_sound {X : Ctx} {H H' : AHeap} {t u : TypeId} {s x v : AVal} (h : appendA X H t u s x = some (true, v, H')) {ρ : Rho} {w : World} (hR : Rel ρ H w) (ty : TypeId) :
    ∃ ρ' w', (Builtin.append_ #[t, u] ty #[tr ρ s, tr ρ x]).run X.P w = .ok (tr ρ' v) w' ∧ v.under H'.next = true ∧ Step ρ H w ρ' H' w' := by
  have hH : ∀ b y, H.get b = some y → y.under H.next = true ∧ y.ok ρ w b := fun b y hy => ⟨(hR.blk b y hy).2.1, (hR.blk b y hy).2.2.2⟩
  unfold appendA at h
  split at h <;> try cases h
  rename_i e hu
  split at h <;> try cases h
  rename_i i zl hi hzl
  obtain ⟨z, _, ⟨it, hit, hiz⟩, hzc, _, _⟩ := zeroA_run hzl w
  rw [hi] at hit
  cases hit
  have hzs : z.cells.size = zl.length := by rw [← Array.length_toList, ← hzc ρ, trL_length]
  split at h
  · split at h <;> try cases h
    rename_i T hT
    split at h <;> try cases h
    rename_i q news hsrc
    simp only [Option.some.injEq, Prod.mk.injEq, Bool.and_eq_true, decide_eq_true_eq] at h
    obtain ⟨⟨rfl, h0, hsz, hzl2, hpos, h63, hbytes⟩, rfl, rfl⟩ := h
    have hsr := srcA_sound hsrc (ρ := ρ) (w := w) hH
    rw [← hsz] at hsr
    have hrun := run_append_grow_src (P := X.P) w t u ty e i z hu hi hiz none 0 0 [] (by simp [Builtin.firstCells]) (tr ρ x) news.length _ hsr (by omega) (by omega) (growslice_fits (by omega) (by simpa using hbytes))
    simp only [Nat.zero_add, List.nil_append] at hrun
    have hge := grownCap_ge w news.length 0 e
    have hle := grownCap_le_maxLen w news.length 0 e (by unfold maxLen; omega)
    have hlen : (trL ρ (T.flat news)).length = news.length * T.sz := by rw [trL_length, flat_length]
    have hnew : NewTo ρ H.next w (.sl H.next 0 T.sz 0 news.length none) (.row e T news .plain) (.slice (some ⟨w.heap.size, 0, none⟩) news.length (grownCap w news.length 0 e))
        (w.drew.alloc (.cells ((trL ρ (T.flat news)).toArray ++ Builtin.zeroCells z.cells (grownCap w news.length 0 e - news.length)) e)) := by
      refine NewTo.row (w := w) (w' := w.drew.alloc (.cells ((trL ρ (T.flat news)).toArray ++ Builtin.zeroCells z.cells (grownCap w news.length 0 e - news.length)) e)) (md := .plain) (fz := (0, 0)) (cur := (trL ρ (T.flat news)).toArray ++ Builtin.zeroCells z.cells (grownCap w news.length 0 e - news.length)) rfl ⟨rfl, rfl, rfl⟩ (by simp) (.inl rfl) hge hle ?_ ?_
      · rw [Array.size_append, size_zeros (hzs.trans hzl2), List.size_toArray, hlen, ← Nat.add_mul]
        congr 1; omega
      · rw [Array.toList_append]
        simp only
        rw [List.take_append_of_le_length (by rw [hlen]; exact Nat.le_refl _), List.take_of_length_le (by rw [hlen]; exact Nat.le_refl _)]
    obtain ⟨ρ', hst, hv, hvu⟩ := Step.new hR hnew
    exact ⟨ρ', _, by rw [← hv]; exact hrun, hvu, hst⟩
  · rename_i b k sz j n c
    split at h <;> try cases h
    rename_i e' T l md hb
    split at h <;> try cases h
    rename_i hmd
    split at h <;> try cases h
    rename_i q news he hszT hsrc
    have he := nat_beq_eq.1 he
    have hszT := nat_beq_eq.1 hszT
    subst he hszT
    simp only [Option.some.injEq, Prod.mk.injEq, Bool.and_eq_true, decide_eq_true_eq] at h
    obtain ⟨⟨rfl, rfl, hsz, hzl2, hpos, h63, hbytes⟩, rfl, rfl⟩ := h
    have hmd : md ≠ .ro := fun e => hmd e
    obtain ⟨k1, k2, k3, k4⟩ := hR.blk b _ hb
    obtain ⟨c0, c1, c2, cur, fz, c3, c4, c5, c6⟩ := (ABlk.ok_own hmd).1 k4
    have hown : ∀ l : List T.α, (ABlk.row e T l md).own = true := fun l => by cases md <;> simp_all [ABlk.own]
    have hsr := srcA_sound hsrc (ρ := ρ) (w := w) hH
    rw [← hsz] at hsr
    have hlen : (trL ρ (T.flat news)).length = news.length * T.sz := by rw [trL_length, flat_length]
    have hlenl : (trL ρ (T.flat l)).length = l.length * T.sz := by rw [trL_length, flat_length]
    have hfa : ∀ a b : List T.α, T.flat (a ++ b) = T.flat a ++ T.flat b := fun a b => by simp [RowTy.flat]
    have hll : (l ++ news).length = l.length + news.length := List.length_append
    have hsv : tr ρ (.sl b 0 T.sz 0 l.length none) = .slice (some ⟨ρ.blk b, 0, none⟩) l.length (ρ.cap b) := by simp [tr, c0]
    rw [hsv]
    by_cases hroom : l.length + news.length ≤ ρ.cap b
    · have hmul : (l.length + news.length) * T.sz ≤ ρ.cap b * T.sz := Nat.mul_le_mul_right _ hroom
      rw [Nat.add_mul] at hmul
      have hst := storeCells_run0 (P := X.P) (ρ.blk b) (l.length * T.sz) e fz (trL ρ (T.flat news)) cur w c3 (c4.imp (fun h => h) (fun h => h.2)) hsr.one (by rw [hlen, c5]; omega)
      have hrun := append_room_run (P := X.P) (ty := ty) hu hi hsr hroom (by rw [hsz]; exact hst)
      obtain ⟨s1, s2, s3⟩ := set_self ρ H.next (ρ.blk b) (ρ.cap b)
      refine ⟨ρ.set H.next (ρ.blk b) (ρ.cap b), _, ?_, by simp [AVal.under, AHeap.new, AHeap.put], Step.move (o' := .cells (cur.toList.take (l.length * T.sz) ++ trL ρ (T.flat news) ++ cur.toList.drop (l.length * T.sz + (trL ρ (T.flat news)).length)).toArray e fz) hR hb (hown l) ((ABlk.ok_own hmd).2 ⟨s2, by rw [s3, hll]; exact hroom, by rw [s3]; exact c2, _, fz, by rw [s1]; exact setB_get _ _ _ k3, ?_, ?_, ?_⟩) (hown _) rfl rfl⟩
      · rw [hrun]
        simp [tr, Rho.set, hll]
      · rcases c4 with h | h
        · exact .inl h
        · refine .inr ⟨h.1, ?_⟩
          have h := h.2
          simp only [List.size_toArray, List.length_append, List.length_take, List.length_drop, Array.length_toList, hlen]
          omega
      · rw [s3]
        simp only [List.size_toArray, List.length_append, List.length_take, List.length_drop, Array.length_toList, hlen]
        omega
      · have hd : trL (ρ.set H.next (ρ.blk b) (ρ.cap b)) (T.flat (l ++ news)) = trL ρ (T.flat (l ++ news)) := by
          rw [trL_eq, trL_eq]
          apply List.map_congr_left
          intro x hx
          have hd := flat_data T (l ++ news)
          rw [List.all_eq_true] at hd
          exact AVal.data_tr (hd x hx) _ _
        rw [hd, hll, hfa, trL_append, Nat.add_mul]
        simp only
        rw [c6, List.take_append_of_le_length (by rw [List.length_append, hlen, hlenl]; exact Nat.le_refl _), List.take_of_length_le (by rw [List.length_append, hlen, hlenl]; exact Nat.le_refl _)]
    · have hold : (Builtin.firstCells i.size l.length (.slice (some ⟨ρ.blk b, 0, none⟩) l.length (ρ.cap b))).run X.P w.drew = .ok (trL ρ (T.flat l)).toArray w.drew := by
        refine run_firstCells_some w.drew i.size l.length _ _ _ _ (by rw [hlenl, hsz]) (fun y v hv => ?_)
        rw [addr_add, Nat.zero_add]
        rw [trL_get] at hv
        cases hy : (T.flat l)[y]? with
        | none => simp [hy] at hv
        | some q =>
          simp only [hy, Option.map_some, Option.some.injEq] at hv
          subst hv
          have := row_cell k4 hy
          rw [c0, Nat.zero_add] at this
          exact this
      have hrun := run_append_grow_src (P := X.P) w t u ty e i z hu hi hiz (some ⟨ρ.blk b, 0, none⟩) l.length (ρ.cap b) (trL ρ (T.flat l)) hold (tr ρ x) news.length _ hsr (by omega) (by rw [hll] at h63; omega) (growslice_fits (by omega) (by rw [hll] at hbytes; exact hbytes))
      rw [← hll, ← trL_append, ← hfa] at hrun
      have hge := grownCap_ge w (l ++ news).length (ρ.cap b) e
      have hle := grownCap_le_maxLen w (l ++ news).length (ρ.cap b) e (by unfold maxLen; omega)
      have hlen2 : (trL ρ (T.flat (l ++ news))).length = (l ++ news).length * T.sz := by rw [trL_length, flat_length]
      have hnew : NewTo ρ H.next w (.sl H.next 0 T.sz 0 (l ++ news).length none) (.row e T (l ++ news) md) (.slice (some ⟨w.heap.size, 0, none⟩) (l ++ news).length (grownCap w (l ++ news).length (ρ.cap b) e))
          (w.drew.alloc (.cells ((trL ρ (T.flat (l ++ news))).toArray ++ Builtin.zeroCells z.cells (grownCap w (l ++ news).length (ρ.cap b) e - (l ++ news).length)) e)) := by
        refine NewTo.row (w := w) (w' := w.drew.alloc (.cells ((trL ρ (T.flat (l ++ news))).toArray ++ Builtin.zeroCells z.cells (grownCap w (l ++ news).length (ρ.cap b) e - (l ++ news).length)) e)) (fz := (0, 0)) (cur := (trL ρ (T.flat (l ++ news))).toArray ++ Builtin.zeroCells z.cells (grownCap w (l ++ news).length (ρ.cap b) e - (l ++ news).length)) rfl ⟨rfl, rfl, rfl⟩ hmd (.inl rfl) hge hle ?_ ?_
        · rw [Array.size_append, size_zeros (hzs.trans hzl2), List.size_toArray, hlen2, ← Nat.add_mul]
          congr 1; omega
        · rw [Array.toList_append]
          simp only
          rw [List.take_append_of_le_length (by rw [hlen2]; exact Nat.le_refl _), List.take_of_length_le (by rw [hlen2]; exact Nat.le_refl _)]
      have hd := Step.drop hR b
      obtain ⟨ρ', hst, hv, hvu⟩ := Step.new (H := H.put b .dead) hd.rel hnew
      exact ⟨ρ', _, by rw [← hv]; exact hrun, hvu, hd.trans hst⟩
  · cases h

theorem updA_sound {P : Program} {H H' : AHeap} {t : TypeId} {x k u : AVal} {v : Option AVal} (h : updA P H t x k v = some (true, u, H')) {ρ : Rho} {w : World} (hR : Rel ρ H w) (hv : ∀ y, v = some y → y.under H.next = true) :
    u = .tup [] ∧ ∃ kt et n g es clock, P.underlying t = some (.map kt et) ∧ P.underlying kt = some (.int .i64) ∧ tr ρ x = .map (some g) ∧ tr ρ k = .int .i64 n ∧ w.heap[g]? = some (.map es clock) ∧ KeyI es.toList ∧
      Step ρ H w ρ H' (setB w g (.map (updO es clock n (v.map (tr ρ))).1 (updO es clock n (v.map (tr ρ))).2)) := by
  unfold updA at h
  split at h <;> try cases h
  rename_i kt et hu
  split at h <;> try cases h
  rename_i hk
  split at h <;> try cases h
  rename_i n
  split at h <;> try cases h
  rename_i b
  split at h <;> try cases h
  rename_i U s l hb
  split at h <;> try cases h
  rename_i s' l' hup
  obtain ⟨q1, q2, q3, q4⟩ := hR.blk b _ hb
  obtain ⟨k1, k2⟩ := U.updOk _ _ _ _ _ _ hup
  obtain ⟨es, clock, h1, h2, h3⟩ := k2 _ _ _ _ q4.2
  refine ⟨rfl, kt, et, n, ρ.blk b, es, clock, hu, hk, rfl, rfl, h1, h2, Step.putF hR hb rfl ⟨q4.1, ?_⟩ rfl (fun g hg => hg) (k1 _ q2 hv)⟩
  by_cases hF : ∃ g, ρ.fp b g ∧ g = ρ.blk b
  · exact (U.rootOut _ _ _ _ _ q4.2 hF).elim
  · exact h3 _ (setB_get _ _ _ q3) fun g hg => setB_other _ _ _ _ fun e => hF ⟨g, hg, e⟩

theorem writeA_sound {X : Ctx} {sm : Bool} {o : Oper} {E : Env} {H H' : AHeap} {v : AVal} (h : writeA X sm o E H = some (true, v, H')) {ρ : Rho} {w : World} (hR : Rel ρ H w) {a : Act} (hE : RelE ρ H.next E a) :
    ∃ ρ' w', ((execOp a.eval o).run X.P w = .ok (.value (tr ρ' v)) w' ∨ ((execOp a.eval o).run X.P w = .ok .skip w' ∧ v = .tup [])) ∧ v.under H'.next = true ∧ Step ρ H w ρ' H' w' := by
  unfold writeA at h
  split at h
  · rename_i t x y ho
    split at h <;> try cases h
    rename_i p q hp hq
    obtain ⟨h1, h2⟩ := evalO_tr hE hp
    obtain ⟨k1, k2⟩ := evalO_tr hE hq
    obtain ⟨w', hw, rfl, hst⟩ := storeA_sound h hR k2
    refine ⟨ρ, w', .inr ⟨?_, rfl⟩, rfl, hst⟩
    simp [execOp, ho, h1, k1, hw]
  · rename_i d s t u ho
    split at h <;> try cases h
    rename_i p q hp hq
    obtain ⟨h1, h2⟩ := evalO_tr hE hp
    obtain ⟨k1, k2⟩ := evalO_tr hE hq
    obtain ⟨w', hw, hv, hst⟩ := copyA_sound h hR o.type
    refine ⟨ρ, w', .inl ?_, AVal.data_below hv _, hst⟩
    simp only [execOp, ho, resolve, invoke, builtin, Sem.run_bind, Sem.run_pure, Result.andThen_ok, List.map_toArray, List.map_cons, List.map_nil, h1, k1, hw]
  · rename_i d s t u ho
    split at h <;> try cases h
    rename_i p q hp hq
    obtain ⟨h1, h2⟩ := evalO_tr hE hp
    obtain ⟨k1, k2⟩ := evalO_tr hE hq
    obtain ⟨ρ', w', hw, hv, hst⟩ := appendA_sound h hR o.type
    refine ⟨ρ', w', .inl ?_, hv, hst⟩
    simp only [execOp, ho, resolve, invoke, builtin, Sem.run_bind, Sem.run_pure, Result.andThen_ok, List.map_toArray, List.map_cons, List.map_nil, h1, k1, hw]
  · rename_i t m k y ho
    split at h <;> try cases h
    rename_i p q r hp hq hr
    obtain ⟨h1, h2⟩ := evalO_tr hE hp
    obtain ⟨k1, k2⟩ := evalO_tr hE hq
    obtain ⟨j1, j2⟩ := evalO_tr hE hr
    obtain ⟨rfl, kt, et, n, g, es, clock, hu, hk, e1, e2, hg, hes, hst⟩ := updA_sound h hR (fun y hy => by cases hy; exact j2)
    refine ⟨ρ, _, .inr ⟨?_, rfl⟩, rfl, hst⟩
    have := mapUpdate_run hu hk hg hes n (tr ρ r)
    simp only [execOp, ho, h1, k1, j1, e1, e2, Sem.run_bind, this, Result.andThen_ok, Sem.run_pure]
    rfl
  · rename_i m k t t2 ho
    split at h <;> try cases h
    rename_i p q hp hq
    obtain ⟨h1, h2⟩ := evalO_tr hE hp
    obtain ⟨k1, k2⟩ := evalO_tr hE hq
    obtain ⟨rfl, kt, et, n, g, es, clock, hu, hk, e1, e2, hg, hes, hst⟩ := updA_sound h hR (fun y hy => by cases hy)
    refine ⟨ρ, _, .inl ?_, rfl, hst⟩
    have hd : (Builtin.delete_ ⟨[t, t2]⟩ o.type #[.map (some g), .int .i64 n]).run X.P w = _ := delete_run (kt' := t2) (ty := o.type) hu hk hg hes n
    simp only [execOp, ho, resolve, invoke, builtin, Sem.run_bind, Sem.run_pure, Result.andThen_ok, List.map_toArray, List.map_cons, List.map_nil, h1, k1, e1, e2, hd]
    rfl
  · cases h

end Go.Proofs.Ytcgnoegejmhgmaa.Ev

