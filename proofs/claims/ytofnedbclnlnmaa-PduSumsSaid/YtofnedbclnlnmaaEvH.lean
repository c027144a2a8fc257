/-
  Ev: aggregates that are built; and all the operations that leave memory as it is.
-/
import Derived.Test.YtofnedbclnlnmaaEvG
import Derived.Laws.Tables
namespace Go.Proofs.Ytofnedbclnlnmaa.Ev
set_option linter.unusedVariables false
set_option linter.unusedSimpArgs false
open Go.RowKit

section
variable {P : Program}

theorem cells_tr (ρ : Rho) (v : AVal) : (tr ρ v).cells = (trL ρ (cellsOfA v)).toArray := by
  cases v <;> simp [tr, Value.cells, cellsOfA, trL]

theorem set_many : ∀ (vs : List Value) (off s : Nat) (cs : Array Value), off + s + vs.length ≤ cs.size →
    ((vs.zipIdx s).foldl (fun (cs : Array Value) (x : Value × Nat) => cs.setIfInBounds (off + x.2) x.1) cs) = (cs.toList.take (off + s) ++ vs ++ cs.toList.drop (off + s + vs.length)).toArray
  | [], off, s, cs, h => by simp
  | v :: vs, off, s, cs, h => by
    simp only [List.zipIdx_cons, List.foldl_cons, List.length_cons] at h ⊢
    rw [set_many vs off (s + 1) _ (by simp; omega)]
    congr 1
    have h1 : off + s < cs.toList.length := by simp; omega
    simp only [Array.toList_setIfInBounds]
    rw [List.set_eq_take_append_cons_drop, if_pos h1]
    rw [show off + (s + 1) = off + s + 1 by omega, show off + s + 1 + vs.length = off + s + (vs.length + 1) by omega]
    have e1 : (List.take (off + s) cs.toList).length = off + s := by simp; omega
    generalize hA : off + s = A at e1 h1 ⊢
    rw [List.take_append, List.drop_append, e1, show A + 1 - A = 1 by omega, show A + (vs.length + 1) - A = vs.length + 1 by omega]
    rw [List.take_of_length_le (by omega), List.drop_of_length_le (by omega : (List.take A cs.toList).length ≤ A + (vs.length + 1))]
    simp only [List.take_succ_cons, List.take_zero, List.drop_succ_cons, List.drop_drop, List.nil_append, List.append_assoc, List.cons_append]
    congr 4
    omega

theorem fillA_sound {ρ : Rho} {place : Nat → Option (Nat × Nat)} {places : List (Nat × Nat)} (hp : ∀ i x, places[i]? = some x → place i = some x) : ∀ {parts : List (Nat × AVal)} {cells r : List AVal}, fillA places cells parts = some r →
    Instr.fill place (trL ρ cells).toArray (parts.map fun p => (p.1, tr ρ p.2)) = some (trL ρ r).toArray
  | [], cells, r, h => by simp only [fillA, Option.some.injEq] at h; subst h; simp [Instr.fill]
  | (i, v) :: rest, cells, r, h => by
    simp only [fillA] at h
    split at h <;> try cases h
    rename_i off size hpl
    split at h <;> try cases h
    rename_i hsz
    have hsz := nat_beq_eq.1 hsz
    split at h <;> try cases h
    rename_i c2 hc2
    have ih := fillA_sound (ρ := ρ) hp h
    simp only [List.map_cons, Instr.fill, hp i _ hpl, cells_tr]
    have hl : (trL ρ (cellsOfA v)).toArray.size = size + 1 := by simp [trL_length, hsz]
    have hsp := (replaceAt_spec hc2).resolve_left (fun h => by rw [h.1] at hsz; simp at hsz)
    obtain ⟨h1, h2⟩ := hsp
    have hstep : ((trL ρ (cellsOfA v)).toArray.zipIdx.foldl (fun (cs : Array Value) (x : Value × Nat) => cs.setIfInBounds (off + x.2) x.1) (trL ρ cells).toArray) = (trL ρ c2).toArray := by
      have := set_many (trL ρ (cellsOfA v)) off 0 (trL ρ cells).toArray (by simp [trL_length]; omega)
      simp only [Nat.add_zero] at this
      rw [← Array.foldl_toList]
      simp only [Array.toList_zipIdx]
      rw [this, h2, trL_append, trL_append, trL_take, trL_drop, trL_length]
    have hc : (decide ((trL ρ (cellsOfA v)).toArray.size ≠ size + 1) || decide (off + (trL ρ (cellsOfA v)).toArray.size > (trL ρ cells).toArray.size)) = false := by
      simp [trL_length, hsz]; omega
    simp only [hstep]
    rw [if_neg (by simpa using hc)]
    exact ih

theorem arrPlaces_spec (m : Nat) : ∀ (n o i : Nat) (x : Nat × Nat), (arrPlaces m n o)[i]? = some x → x = (o + i * m, m)
  | 0, o, i, x, h => by simp [arrPlaces] at h
  | n + 1, o, 0, x, h => by simp [arrPlaces] at h; simp [← h]
  | n + 1, o, i + 1, x, h => by
    simp only [arrPlaces, List.getElem?_cons_succ] at h
    rw [arrPlaces_spec m n (o + m) i x h, Nat.add_mul]
    congr 1; omega

theorem placesA_spec : ∀ {fs : List Field} {ps : List (Nat × Nat)}, placesA P fs = some ps → fs.mapM (fun f => (P.info? f.type).map fun i => (f.offset, i.size)) = some ps
  | [], ps, h => by simp only [placesA, Option.some.injEq] at h; subst h; rfl
  | f :: fs, ps, h => by
    simp only [placesA] at h
    split at h <;> try cases h
    rename_i m r hm hr
    have ih := placesA_spec hr
    unfold sizeA at hm
    split at hm <;> try cases hm
    rename_i i hi
    simp [List.mapM_cons, hi, ih]

theorem fillA_under {N : Nat} : ∀ {places : List (Nat × Nat)} {parts : List (Nat × AVal)} {cells r : List AVal}, fillA places cells parts = some r → belowL N cells = true → (∀ p ∈ parts, p.2.under N = true) → belowL N r = true
  | places, [], cells, r, h, hc, _ => by simp only [fillA, Option.some.injEq] at h; subst h; exact hc
  | places, (i, v) :: rest, cells, r, h, hc, hp => by
    simp only [fillA] at h
    split at h <;> try cases h
    split at h <;> try cases h
    split at h <;> try cases h
    rename_i c2 hc2
    refine fillA_under h ?_ (fun p hpm => hp p (by simp [hpm]))
    rw [belowL_eq] at hc ⊢
    refine replaceAt_all hc2 _ hc ?_
    rw [← belowL_eq]
    have := hp (i, v) (by simp)
    cases v <;> simp_all [cellsOfA, belowL, AVal.under]

theorem evalP_tr {ρ : Rho} {N : Nat} {E : Env} {a : Act} (h : RelE ρ N E a) : ∀ {ps : List (Nat × Operand)} {vs : List (Nat × AVal)}, evalP E ps = some vs → ps.map (fun p => (p.1, a.eval p.2)) = vs.map (fun p => (p.1, tr ρ p.2)) ∧ ∀ p ∈ vs, p.2.under N = true
  | [], vs, hx => by simp only [evalP, Option.some.injEq] at hx; subst hx; simp
  | (i, x) :: ps, vs, hx => by
    simp only [evalP] at hx
    split at hx <;> try cases hx
    rename_i v us hv hus
    obtain ⟨h1, h2⟩ := evalO_tr h hv
    obtain ⟨k1, k2⟩ := evalP_tr h hus
    refine ⟨by simp [h1, k1], fun p hp => ?_⟩
    rcases List.mem_cons.1 hp with rfl | hp
    · exact h2
    · exact k2 p hp

theorem buildA_sound {t : TypeId} {parts : List (Nat × AVal)} {v : AVal} (h : buildA P t parts = some (true, v)) {N : Nat} (hp : ∀ p ∈ parts, p.2.under N = true) (ρ : Rho) (w : World) :
    (Instr.build t (parts.map fun p => (p.1, tr ρ p.2)).toArray).run P w = .ok (tr ρ v) w ∧ v.under N = true := by
  unfold buildA at h
  split at h <;> try cases h
  rename_i z hz
  obtain ⟨zv, _, ⟨it, hit, hiz⟩, hzc, hzb, _⟩ := zeroA_run hz w
  split at h
  · rename_i fs hu
    split at h <;> try cases h
    rename_i ps hps
    split at h <;> try cases h
    rename_i r hr
    have hpl := placesA_spec hps
    refine ⟨?_, fillA_under hr (hzb N) hp⟩
    refine run_build w t _ (trL ρ r).toArray ?_
    unfold Program.built
    simp only [hit, hu, hiz, hpl]
    have := fillA_sound (ρ := ρ) (place := fun x => ps.toArray[x]?) (fun i x hx => by simpa using hx) hr
    rw [hzc ρ] at this
    simpa using this
  · rename_i n e hu
    split at h <;> try cases h
    rename_i m hm
    split at h <;> try cases h
    rename_i r hr
    refine ⟨?_, fillA_under hr (hzb N) hp⟩
    refine run_build w t _ (trL ρ r).toArray ?_
    unfold Program.built
    unfold sizeA at hm
    split at hm <;> try cases hm
    rename_i ie hie
    simp only [hit, hu, hiz, hie]
    have := fillA_sound (ρ := ρ) (place := fun i => some (i * ie.size, ie.size)) (fun i x hx => by have := arrPlaces_spec ie.size n 0 i x hx; rw [this, Nat.zero_add]) hr
    rw [hzc ρ] at this
    simpa using this
  · cases h

/-! ### all of them -/

theorem pureA_sound {sm : Bool} {o : Oper} {E : Env} {H : AHeap} {v : AVal} (h : pureA P sm o E H = some (true, v)) {ρ : Rho} {w : World} {N : Nat} {a : Act} (hE : RelE ρ N E a) (hH : ∀ b y, H.get b = some y → y.under N = true ∧ y.ok ρ w b) :
    (execOp a.eval o).run P w = .ok (.value (tr ρ v)) w ∧ v.under N = true := by
  unfold pureA at h
  have fin : ∀ {s : Sem Value} {u : AVal}, (s.run P w = .ok (tr ρ u) w ∧ u.under N = true) → u = v → (do pure (Next.value (← s)) : Sem Next).run P w = .ok (.value (tr ρ v)) w ∧ v.under N = true := by
    rintro s u ⟨h1, h2⟩ rfl
    simp [h1, h2]
  have dat : ∀ {u : AVal}, u.data = true → u.under N = true := fun h => AVal.data_below h N
  split at h
  · rename_i x ho
    split at h <;> try cases h
    rename_i hx
    obtain ⟨h1, h2⟩ := evalO_tr hE hx
    simp [execOp, ho, h1, h2]
  · rename_i x ho
    split at h <;> try cases h
    rename_i hx
    obtain ⟨h1, h2⟩ := evalO_tr hE hx
    simp [execOp, ho, h1, h2]
  · rename_i c x y ho
    split at h
    · rename_i hc
      split at h <;> try cases h
      rename_i hx
      obtain ⟨h1, h2⟩ := evalO_tr hE hx
      obtain ⟨k1, _⟩ := evalO_tr hE hc
      simp [execOp, ho, h1, h2, k1, tr, asBool]
    · rename_i hc
      split at h <;> try cases h
      rename_i hx
      obtain ⟨h1, h2⟩ := evalO_tr hE hx
      obtain ⟨k1, _⟩ := evalO_tr hE hc
      simp [execOp, ho, h1, h2, k1, tr, asBool]
    · cases h
  · rename_i t x ho
    split at h <;> try cases h
    rename_i u hx
    obtain ⟨h1, h2⟩ := evalO_tr hE hx
    simp only [execOp, ho, h1]
    exact fin (loadA_sound h hH) rfl
  · rename_i x ho
    split at h
    · rename_i hx
      cases h
      obtain ⟨h1, h2⟩ := evalO_tr hE hx
      simp only [execOp, ho, h1, tr]
      exact ⟨rfl, h2⟩
    · rename_i hx
      cases h
      obtain ⟨h1, h2⟩ := evalO_tr hE hx
      simp only [execOp, ho, h1, tr]
      exact ⟨rfl, h2⟩
    · cases h
  · rename_i op t x y _ ho
    split at h <;> try cases h
    rename_i p q hx hy
    obtain ⟨h1, h2⟩ := evalO_tr hE hx
    obtain ⟨k1, k2⟩ := evalO_tr hE hy
    simp only [execOp, ho, h1, k1]
    have := binA_sound w h x y ρ
    exact fin ⟨this.1, dat this.2⟩ rfl
  · rename_i op t x ho
    split at h <;> try cases h
    rename_i u hx
    obtain ⟨h1, h2⟩ := evalO_tr hE hx
    simp only [execOp, ho, h1]
    have := unA_sound (P := P) w h ρ
    exact fin ⟨this.1, dat this.2⟩ rfl
  · rename_i s d x ho
    split at h <;> try cases h
    rename_i u hx
    obtain ⟨h1, h2⟩ := evalO_tr hE hx
    simp only [execOp, ho, h1]
    have := convA_sound w h hH
    exact fin ⟨this.1, dat this.2⟩ rfl
  · rename_i t x lo hi ho
    split at h <;> try cases h
    rename_i u l r hx hlo hhi
    obtain ⟨h1, h2⟩ := evalO_tr hE hx
    have opt : ∀ {y : Option Operand} {z : Option AVal}, optO E y = some z → y.map a.eval = z.map (tr ρ) := by
      intro y z hz
      cases y with
      | none => simp only [optO, Option.some.injEq] at hz; subst hz; rfl
      | some y =>
        simp only [optO] at hz
        split at hz <;> try cases hz
        rename_i u hu
        simp [(evalO_tr hE hu).1]
    simp only [execOp, ho, h1, opt hlo, opt hhi, Option.map_none]
    exact fin (sliceA_sound w h hH h2) rfl
  · rename_i t x f ho
    split at h <;> try cases h
    rename_i u hx
    obtain ⟨h1, h2⟩ := evalO_tr hE hx
    simp only [execOp, ho, h1]
    exact fin (fieldAddrA_sound w h h2) rfl
  · rename_i t x f ho
    split at h <;> try cases h
    rename_i u hx
    obtain ⟨h1, h2⟩ := evalO_tr hE hx
    simp only [execOp, ho, h1]
    exact fin (fieldA_sound w h h2) rfl
  · rename_i t x y ho
    split at h <;> try cases h
    rename_i p q hx hy
    obtain ⟨h1, h2⟩ := evalO_tr hE hx
    obtain ⟨k1, k2⟩ := evalO_tr hE hy
    simp only [execOp, ho, h1, k1]
    exact fin (indexAddrA_sound w h h2) rfl
  · rename_i t x y ho
    split at h <;> try cases h
    rename_i p q hx hy
    obtain ⟨h1, h2⟩ := evalO_tr hE hx
    obtain ⟨k1, k2⟩ := evalO_tr hE hy
    simp only [execOp, ho, h1, k1]
    exact fin (indexA_sound w h h2) rfl
  · rename_i x ix ho
    split at h <;> try cases h
    rename_i vs hx
    split at h <;> try cases h
    rename_i hv
    obtain ⟨h1, h2⟩ := evalO_tr hE hx
    rw [nth_eq] at hv
    simp only [execOp, ho, h1, tr]
    refine fin (u := v) ⟨?_, ?_⟩ rfl
    · simp [Instr.extract, trL_get, hv]
    · have h2' : belowL N vs = true := h2
      rw [belowL_eq, List.all_eq_true] at h2'
      exact h2' v (List.mem_of_getElem? hv)
  · rename_i t parts ho
    split at h <;> try cases h
    rename_i ps hps
    obtain ⟨h1, h2⟩ := evalP_tr hE hps
    simp only [execOp, ho]
    have e : (parts.map fun (i, x) => (i, a.eval x)) = (ps.map fun p => (p.1, tr ρ p.2)).toArray := by
      rw [← h1]; apply Array.ext'; simp
    rw [e]
    exact fin (buildA_sound h h2 ρ w) rfl
  · rename_i f first cap ho
    split at h <;> try cases h
    rename_i p q hp hq
    obtain ⟨h1, h2⟩ := evalL_tr hE hp
    obtain ⟨k1, k2⟩ := evalL_tr hE hq
    simp only [execOp, ho]
    have e1 : first.map a.eval = (trL ρ p).toArray := by rw [← h1]; apply Array.ext'; simp
    have e2 : cap.map a.eval = (trL ρ q).toArray := by rw [← k1]; apply Array.ext'; simp
    rw [e1, e2]
    exact fin (u := .func f p q) ⟨rfl, by simp [AVal.under, h2, k2]⟩ rfl
  · rename_i x t ho
    split at h <;> try cases h
    rename_i u hx
    obtain ⟨h1, h2⟩ := evalO_tr hE hx
    have := lenA_sound (P := P) w h #[t] rfl o.type ρ
    simp only [execOp, ho, resolve, invoke, builtin, Sem.run_bind, Sem.run_pure, Result.andThen_ok, List.map_toArray, List.map_cons, List.map_nil, h1, this.1]
    exact ⟨trivial, dat this.2⟩
  · rename_i args ts ho
    split at h <;> try cases h
    rename_i vs hvs
    obtain ⟨h1, h2⟩ := evalL_tr hE hvs
    unfold minMaxA at h
    split at h <;> try cases h
    rename_i x y
    have e1 : args.map a.eval = (trL ρ [.int .i64 x, .int .i64 y]).toArray := by rw [← h1]; apply Array.ext'; simp
    simp only [trL, tr] at e1
    have hm := run_min_int2 (P := P) w ts o.type .i64 .i64 x y
    simp only [execOp, ho, resolve, invoke, builtin, Sem.run_bind, Sem.run_pure, Result.andThen_ok, e1, hm]
    refine ⟨?_, rfl⟩
    rw [show (if y < x then y else x) = min x y by omega]
    rfl
  · rename_i args ts ho
    split at h <;> try cases h
    rename_i vs hvs
    obtain ⟨h1, h2⟩ := evalL_tr hE hvs
    unfold minMaxA at h
    split at h <;> try cases h
    rename_i x y
    have e1 : args.map a.eval = (trL ρ [.int .i64 x, .int .i64 y]).toArray := by rw [← h1]; apply Array.ext'; simp
    simp only [trL, tr] at e1
    have hm := run_max_int2 (P := P) w ts o.type .i64 .i64 x y
    simp only [execOp, ho, resolve, invoke, builtin, Sem.run_bind, Sem.run_pure, Result.andThen_ok, e1, hm]
    refine ⟨?_, rfl⟩
    rw [show (if y > x then y else x) = max x y by omega]
    rfl
  · cases h

end

end Go.Proofs.Ytofnedbclnlnmaa.Ev
