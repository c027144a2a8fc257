/-
  Ev: the operations that make a block.
-/
import Derived.Test.YtofnedbclnlnmaaEvH
import Derived.Laws.MakeOwn
namespace Go.Proofs.Ytofnedbclnlnmaa.Ev
set_option linter.unusedVariables false
set_option linter.unusedSimpArgs false
open Go.RowKit

def Rho.set (ρ : Rho) (b g c : Nat) : Rho := ⟨fun x => if x = b then g else ρ.blk x, fun x => if x = b then 0 else ρ.off x, fun x => if x = b then c else ρ.cap x⟩

theorem Rho.set_agree (ρ : Rho) (b g c : Nat) : Rho.agree b ρ (ρ.set b g c) := fun x hx => by
  have : ¬ x = b := by omega
  simp [Rho.set, this]

/-- z, n times. -/
def repA (z : List AVal) : Nat → List AVal
  | 0 => []
  | n + 1 => z ++ repA z n

/-- x, n times, where reckoning does not look into it. -/
noncomputable def repO {α : Type} (n : Nat) (x : α) : List α := (Classical.choice (⟨⟨List.replicate n x, rfl⟩⟩ : Nonempty { l : List α // l = List.replicate n x })).1

/-- x, n times; of many, reckoning does not look into it. -/
noncomputable def repN {α : Type} (n : Nat) (x : α) : List α :=
  match Nat.ble 1000 n with
  | true => repO n x
  | false => List.replicate n x

theorem repN_eq {α : Type} (n : Nat) (x : α) : repN n x = List.replicate n x := by
  unfold repN
  split
  · exact (Classical.choice (⟨⟨List.replicate n x, rfl⟩⟩ : Nonempty { l : List α // l = List.replicate n x })).2
  · rfl

/-- The type that rows have whose elements are of type e. -/
noncomputable def newA (X : Ctx) (o : Oper) (E : Env) (id : Nat) : Option (Bool × AVal × ABlk) :=
  match o.op with
  | .alloc t => match zeroA X.P t with
    | some z => some (true, .ptr id 0 0 0, .cells t z)
    | none => none
  | .box t x => match evalO E x with
    | some v => match (cellsOfA v).all AVal.scalar with
      | true => some (true, .ptr id 0 0 0, .cells t (cellsOfA v))
      | false => none
    | none => none
  | .buildSlice t len parts => match X.P.underlying t with
    | some (.slice e) => match sizeA X.P e, zeroA X.P e, evalP E parts.toList with
      | some (m + 1), some z, some ps => match Nat.beq z.length (m + 1), Nat.ble (len * (m + 1)) 16777216 with
        | true, true => match fillA (arrPlaces (m + 1) len 0) (repA z len) ps with
          | some r => match r.all AVal.scalar with
            | true => some (true, .sl id 0 (m + 1) 0 len (some len), .cells e r)
            | false => none
          | none => none
        | _, _ => none
      | _, _, _ => none
    | _ => none
  | .makeSlice t l c => match X.P.underlying t, evalO E l, evalO E c with
    | some (.slice e), some (.int _ n), some (.int _ n') => match X.P.info? e, X.rowTy e with
      | some i, some T => some (decide (0 ≤ n ∧ n = n' ∧ n ≤ 9223372036854775807 ∧ i.bytes * n ≤ 281474976710656 ∧ i.size = T.sz ∧ 0 < T.sz), .sl id 0 T.sz 0 n.toNat none, .row e T (repN n.toNat T.dflt) .plain)
      | _, _ => none
    | _, _, _ => none
  | .convert s d x => match X.P.underlying s, X.P.underlying d, evalO E x with
    | some .string, some (.slice e), some (.str l) => match X.P.underlying e, X.rowTy e with
      | some (.int .u8), some T => match T.bytes with
        | some (_, g) => some (decide (l.length ≤ 140737488355328), .sl id 0 T.sz 0 l.length none, .row e T (g l) .strish)
        | none => none
      | _, _ => none
    | _, _, _ => none
  | _ => none

/-- What is claimed of the rows' types: that their zero is the program's. -/
structure CtxRows (X : Ctx) : Prop where
  zero : ∀ e T, X.rowTy e = some T → ∀ i, X.P.info? e = some i → ∃ z, i.zero = some z ∧ ∀ ρ, z.cells.toList = trL ρ (T.enc T.dflt)

theorem repA_get {z : List AVal} (hz : 0 < z.length) : ∀ (n i : Nat), i < n * z.length → (repA z n)[i]? = z[i % z.length]?
  | 0, i, h => by simp at h
  | n + 1, i, h => by
    simp only [repA]
    by_cases hi : i < z.length
    · rw [List.getElem?_append_left hi, Nat.mod_eq_of_lt hi]
    · rw [List.getElem?_append_right (by omega), repA_get hz n (i - z.length) (by rw [Nat.add_mul] at h; omega), ← Nat.mod_eq_sub_mod (by omega)]

theorem repA_length (z : List AVal) : ∀ n, (repA z n).length = n * z.length
  | 0 => by simp [repA]
  | n + 1 => by simp only [repA, List.length_append, repA_length z n, Nat.add_mul]; omega

theorem repA_cells {z : Value} {l : List AVal} {ρ : Rho} (hz : trL ρ l = z.cells.toList) (hl : 0 < l.length) (n : Nat) : (Array.range (n * l.length)).map (fun i => z.cells[i % z.cells.size]!) = (trL ρ (repA l n)).toArray := by
  have hsz : z.cells.size = l.length := by rw [← Array.length_toList, ← hz, trL_length]
  apply Array.ext_getElem?
  intro i
  by_cases hi : i < n * l.length
  · have h1 := repA_get hl n i hi
    have hm : i % l.length < l.length := Nat.mod_lt _ hl
    have e : z.cells[i % l.length]! = tr ρ l[i % l.length] := by
      have : (trL ρ l)[i % l.length]? = some (tr ρ l[i % l.length]) := by rw [trL_get]; simp [hm]
      rw [hz] at this
      have h2 : z.cells[i % l.length]? = some (tr ρ l[i % l.length]) := by simpa using this
      rw [Array.getElem!_eq_getD, Array.getD_eq_getD_getElem?, h2]; rfl
    simp only [hsz, List.getElem?_toArray, trL_get, h1, Array.getElem?_map, Array.getElem?_range, hi, List.getElem?_eq_getElem hm, Option.map_some, e]
    simp [e]
  · rw [Array.getElem?_eq_none (by simp; omega), Array.getElem?_eq_none (by simp [trL_length, repA_length]; omega)]

theorem repA_under {N : Nat} {z : List AVal} (h : belowL N z = true) : ∀ n, belowL N (repA z n) = true
  | 0 => rfl
  | n + 1 => by
    have := repA_under h n
    rw [belowL_eq] at this h ⊢
    simp only [repA, List.all_append, h, this, Bool.and_self]

theorem flat_replicate (T : RowTy) (n : Nat) : T.flat (List.replicate n T.dflt) = repA (T.enc T.dflt) n := by
  induction n with
  | zero => rfl
  | succ n ih => simp only [List.replicate_succ, RowTy.flat, List.flatMap_cons, repA] at ih ⊢; rw [ih]

/-- What a new block comes to. -/
structure NewTo (ρ : Rho) (id : Nat) (w : World) (v : AVal) (x : ABlk) (u : Value) (w' : World) : Prop where
  ex : ∃ g c, u = tr (ρ.set id g c) v ∧ w.heap.size ≤ g ∧ g < w'.heap.size ∧ x.ok (ρ.set id g c) w' id
  grow : Below w.heap.size w w'
  own : x.own = true
  under : v.under (id + 1) = true ∧ x.under (id + 1) = true

theorem set_self (ρ : Rho) (id g c : Nat) : (ρ.set id g c).blk id = g ∧ (ρ.set id g c).off id = 0 ∧ (ρ.set id g c).cap id = c := by simp [Rho.set]

theorem NewTo.cells {ρ : Rho} {id : Nat} {w : World} {t : TypeId} {l : List AVal} {v : AVal} {vs : Array Value} (hl : belowL id l = true) (hs : l.all AVal.scalar = true) (hvs : vs = (trL ρ l).toArray) (hv : v.under (id + 1) = true) {u : Value} (hu : ∀ c, u = tr (ρ.set id w.heap.size c) v) :
    NewTo ρ id w v (.cells t l) u { w with heap := w.heap.push (.cells vs t) } := by
  refine ⟨⟨w.heap.size, 0, hu 0, Nat.le_refl _, by simp, ?_⟩, ?_, rfl, hv, ?_⟩
  · obtain ⟨s1, s2, s3⟩ := set_self ρ id w.heap.size 0
    refine ⟨s2, hs, (0, 0), ?_, .inl rfl⟩
    rw [s1, trL_agree (Rho.set_agree ρ id w.heap.size 0) l hl, ← hvs]
    simp
  · exact ⟨rfl, rfl, rfl, by simp, fun k hk => by simp [Array.getElem?_push, Nat.ne_of_lt hk]⟩
  · exact belowL_mono (Nat.le_succ _) l hl

theorem NewTo.row {ρ : Rho} {id : Nat} {w w' : World} {e : TypeId} {T : RowTy} {l : List T.α} {cur : Array Value} {c : Nat} {fz : Nat × Nat} (hh : w'.heap = w.heap.push (.cells cur e fz)) (ho : w'.os = w.os ∧ w'.tape = w.tape ∧ w'.output = w.output) {md : RowMd} (hmd : md ≠ .ro) (hfz : fz = (0, 0) ∨ (md = .strish ∧ cur.size ≤ fz.1))
    (hc : l.length ≤ c) (hm : c ≤ maxLen) (hs : cur.size = c * T.sz) (ht : cur.toList.take (l.length * T.sz) = trL ρ (T.flat l)) {n : Nat} :
    NewTo ρ id w (.sl id 0 T.sz 0 n none) (.row e T l md) (.slice (some ⟨w.heap.size, 0, none⟩) n c) w' := by
  refine ⟨⟨w.heap.size, c, by simp [tr, Rho.set], Nat.le_refl _, by rw [hh]; simp, (ABlk.ok_own hmd).2 ?_⟩, ?_, by cases md <;> simp_all [ABlk.own], by simp [AVal.under], rfl⟩
  · obtain ⟨s1, s2, s3⟩ := set_self ρ id w.heap.size c
    refine ⟨s2, by rw [s3]; exact hc, by rw [s3]; exact hm, cur, fz, by rw [s1, hh]; simp, hfz, by rw [s3]; exact hs, ?_⟩
    rw [ht]
    have hd := flat_data T l
    rw [trL_eq, trL_eq]
    apply List.map_congr_left
    intro x hx
    rw [List.all_eq_true] at hd
    exact AVal.data_tr (hd x hx) _ _
  · exact ⟨ho.1, ho.2.1, ho.2.2, by rw [hh]; simp, fun k hk => by rw [hh]; simp [Array.getElem?_push, Nat.ne_of_lt hk]⟩

theorem cellsOfA_under {N : Nat} {v : AVal} (h : v.under N = true) : belowL N (cellsOfA v) = true := by
  cases v <;> simp_all [cellsOfA, belowL, AVal.under]

theorem ptr_self (ρ : Rho) (id g c : Nat) : Value.pointer (some ⟨g, 0, none⟩) = tr (ρ.set id g c) (.ptr id 0 0 0) := by simp [tr, Rho.set]

theorem newA_sound {X : Ctx} (hX : CtxRows X) {o : Oper} {E : Env} {id : Nat} {v : AVal} {x : ABlk} (h : newA X o E id = some (true, v, x)) {ρ : Rho} {w : World} {a : Act} (hE : RelE ρ id E a) :
    ∃ u w', (execOp a.eval o).run X.P w = .ok (.value u) w' ∧ NewTo ρ id w v x u w' := by
  unfold newA at h
  have hself : (AVal.ptr id 0 0 0).under (id + 1) = true := by simp [AVal.under]
  split at h
  · rename_i t ho
    split at h <;> try cases h
    rename_i z hz
    obtain ⟨zv, hrun, ⟨it, hit, hiz⟩, hzc, hzb, hzs⟩ := zeroA_run hz w
    refine ⟨_, _, ?_, NewTo.cells (t := t) (l := z) (hzb id) hzs (vs := zv.cells) (by rw [hzc]) hself (u := .pointer (some ⟨w.heap.size, 0, none⟩)) (fun c => ptr_self ρ id _ c)⟩
    simp [execOp, ho, Instr.alloc, hrun, newVar, newRow]
  · rename_i t y ho
    split at h <;> try cases h
    rename_i v' hv
    split at h <;> try cases h
    rename_i hs
    obtain ⟨h1, h2⟩ := evalO_tr hE hv
    refine ⟨_, _, ?_, NewTo.cells (t := t) (l := cellsOfA v') (cellsOfA_under h2) hs (vs := (tr ρ v').cells) (cells_tr ρ v') hself (u := .pointer (some ⟨w.heap.size, 0, none⟩)) (fun c => ptr_self ρ id _ c)⟩
    simp [execOp, ho, Instr.box, h1, newVar, newRow]
  · rename_i t len parts ho
    split at h <;> try cases h
    rename_i e hu
    split at h <;> try cases h
    rename_i m z ps hm hz hps
    split at h <;> try cases h
    rename_i hzl hle
    split at h <;> try cases h
    rename_i r hr
    split at h <;> try cases h
    rename_i hs
    have hzl := nat_beq_eq.1 hzl
    have hle := Nat.le_of_ble_eq_true hle
    obtain ⟨zv, hrun, ⟨it, hit, hiz⟩, hzc, hzb, hzs⟩ := zeroA_run hz w
    obtain ⟨h1, h2⟩ := evalP_tr hE hps
    have hmr := sizeA_run hm w
    have hcells := repA_cells (hzc ρ) (by omega) len
    have hfill := fillA_sound (ρ := ρ) (place := fun i => some (i * (m + 1), (m + 1))) (fun i x hx => by have := arrPlaces_spec (m + 1) len 0 i x hx; rw [this, Nat.zero_add]) hr
    have hparts : (parts.map fun (i, x) => (i, a.eval x)).toList = ps.map fun p => (p.1, tr ρ p.2) := by rw [← h1]; simp
    refine ⟨_, _, ?_, NewTo.cells (t := e) (l := r) (fillA_under hr (repA_under (hzb id) len) h2) hs (vs := (trL ρ r).toArray) rfl (by simp [AVal.under]) (u := .slice (some ⟨w.heap.size, 0, none⟩) len len) (fun c => by simp [tr, Rho.set])⟩
    have hn : ¬ len * (m + 1) > 2 ^ 24 := by omega
    simp only [execOp, ho, Instr.buildSlice, Sem.run_bind, run_underlying hu, Result.andThen_ok, hmr, Sem.run_ite, if_neg hn, Sem.run_pure]
    by_cases h0 : len * (m + 1) = 0
    · have hl0 : len = 0 := by
        rcases Nat.mul_eq_zero.1 h0 with h | h
        · exact h
        · omega
      subst hl0
      simp only [Nat.zero_mul, if_true, Sem.run_pure, Result.andThen_ok]
      have e1 : (Array.range 0).map (fun i => (#[] : Array Value)[i % (#[] : Array Value).size]!) = (trL ρ (repA z 0)).toArray := by simp [repA, trL]
      simp only [e1, hparts, hfill, newRow, Sem.run_bind, run_newObj, Result.andThen_ok, Sem.run_pure]
    · simp only [if_neg h0, Sem.run_bind, hrun, Result.andThen_ok, Sem.run_pure]
      rw [hzl] at hcells
      simp only [hcells, hparts, hfill, newRow, Sem.run_bind, run_newObj, Result.andThen_ok, Sem.run_pure]
  · rename_i t l c ho
    split at h <;> try cases h
    rename_i e k n k' n' hu hl hc
    split at h <;> try cases h
    rename_i i T hi hT
    simp only [Option.some.injEq, Prod.mk.injEq, decide_eq_true_eq] at h
    obtain ⟨⟨h0, rfl, h63, hb, hsz, hpos⟩, rfl, rfl⟩ := h
    rw [repN_eq]
    obtain ⟨l1, _⟩ := evalO_tr hE hl
    obtain ⟨c1, _⟩ := evalO_tr hE hc
    obtain ⟨z, hz, hzc⟩ := hX.zero e T hT i hi
    have hw : IntKind.i64.wrap n = n := IntWalk.i64_in n (by omega)
    have hzl : (T.enc T.dflt).length = T.sz := T.len _
    have hrow := repA_cells (hzc ρ).symm (by omega) n.toNat
    rw [hzl] at hrow
    have hlen : (repA (T.enc T.dflt) n.toNat).length = n.toNat * T.sz := by rw [repA_length, hzl]
    refine ⟨.slice (some ⟨w.heap.size, 0, none⟩) n.toNat n.toNat, { w with heap := w.heap.push (.cells (trL ρ (repA (T.enc T.dflt) n.toNat)).toArray e) }, ?_, NewTo.row (w := w) (w' := { w with heap := w.heap.push (.cells (trL ρ (repA (T.enc T.dflt) n.toNat)).toArray e) }) (n := n.toNat) (l := List.replicate n.toNat T.dflt) (cur := (trL ρ (repA (T.enc T.dflt) n.toNat)).toArray) (c := n.toNat) (fz := (0, 0)) rfl ⟨rfl, rfl, rfl⟩ (md := .plain) (by simp) (.inl rfl) (by simp) (by unfold maxLen; omega) (by simp [trL_length, hlen]) ?_⟩
    · simp only [execOp, ho, Instr.makeSlice, Sem.run_bind, run_underlying hu, Result.andThen_ok, l1, c1, tr_int, asInt, asIntOf, Sem.run_pure, typeInfo, run_program, hi, hw]
      have hA : ((decide (n < 0) || decide ((i.bytes : Int) * n > 2 ^ 48)) || decide (n < 0) || decide (n > n)) = false := by
        simp; omega
      simp only [hA, Bool.false_eq_true, if_false, run_askRoom, Result.andThen_ok, Sem.run_bind, sizeOf, typeInfo, run_program, hi, Sem.run_pure]
      rw [hsz]
      by_cases hn0 : n.toNat * T.sz = 0
      · have hn1 : n.toNat = 0 := by
          rcases Nat.mul_eq_zero.1 hn0 with h | h
          · exact h
          · omega
        rw [hn1]
        have e0 : Array.range 0 = #[] := rfl
        simp [newRow, repA, trL, e0]
      · have hzr : (zeroValue e).run X.P w = .ok z w := by simp [zeroValue, typeInfo, hi, hz]
        simp only [if_neg hn0, Sem.run_bind, hzr, Result.andThen_ok, Sem.run_pure, hrow, newRow, run_newObj]
    · rw [flat_replicate, List.length_replicate]
      apply List.take_of_length_le
      simp [trL_length, hlen]
  · rename_i s d x ho
    split at h <;> try cases h
    rename_i e l hs hd hx
    split at h <;> try cases h
    rename_i T he hT
    split at h <;> try cases h
    rename_i f g hfg
    simp only [Option.some.injEq, Prod.mk.injEq, decide_eq_true_eq] at h
    obtain ⟨hl, rfl, rfl⟩ := h
    obtain ⟨x1, _⟩ := evalO_tr hE hx
    obtain ⟨t1, t2, t3⟩ := T.toB f g hfg
    have hfl : T.flat (g l) = l.map fun c => AVal.int .u8 (c.toNat : Int) := t3 l
    have hgl : (g l).length = l.length := by
      have h1 := flat_length T (g l)
      rw [hfl, t1, Nat.mul_one] at h1
      simpa using h1.symm
    have hrun := run_bytes_of_string (P := X.P) w s d e ⟨l.toArray⟩ hs hd he
    rw [str_size] at hrun
    have hge := grownCap_ge w l.length 0 e
    have hle := grownCap_le_maxLen w l.length 0 e (by unfold maxLen; omega)
    refine ⟨_, _, ?_, NewTo.row (w := w) (n := l.length) (w' := w.drew.alloc (.cells (bytesRow ⟨l.toArray⟩ (grownCap w l.length 0 e)) e ((bytesRow ⟨l.toArray⟩ (grownCap w l.length 0 e)).size, (bytesRow ⟨l.toArray⟩ (grownCap w l.length 0 e)).size + 1))) (cur := bytesRow ⟨l.toArray⟩ (grownCap w l.length 0 e)) (T := T) (l := g l) (c := grownCap w l.length 0 e) (fz := ((bytesRow ⟨l.toArray⟩ (grownCap w l.length 0 e)).size, (bytesRow ⟨l.toArray⟩ (grownCap w l.length 0 e)).size + 1)) rfl ⟨rfl, rfl, rfl⟩ (md := .strish) (by simp) (.inr ⟨rfl, Nat.le_refl _⟩) (by omega) hle ?_ ?_⟩
    · simp only [execOp, ho, x1, tr, Sem.run_bind, hrun, Result.andThen_ok, Sem.run_pure]
    · rw [t1, Nat.mul_one]
      simp [bytesRow, ByteArray.size]
      omega
    · rw [t1, Nat.mul_one, hgl, hfl]
      simp only [bytesRow, Array.toList_append, Array.toList_map]
      rw [List.take_append_of_le_length (by simp), List.take_of_length_le (by simp)]
      rw [trL_eq, List.map_map]
      rfl
  · cases h

end Go.Proofs.Ytofnedbclnlnmaa.Ev
