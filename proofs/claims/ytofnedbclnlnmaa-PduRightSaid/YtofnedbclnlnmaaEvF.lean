/-
  Ev: the operations that leave memory as it is, each.
-/
import Derived.Test.YtofnedbclnlnmaaEvE
import Derived.Laws.Slices
import Derived.Laws.Strings2
import Derived.Laws.Strings3
namespace Go.Proofs.Ytofnedbclnlnmaa.Ev
set_option linter.unusedVariables false
set_option linter.unusedSimpArgs false
open Go.RowKit

section
variable {P : Program} (w : World)

theorem binA_sound {op : BinOp} {t : TypeId} {x y v : AVal} (h : binA P op t x y = some (true, v)) (ox oy : Operand) (ρ : Rho) :
    (do eqGuard op t ox oy (tr ρ x) (tr ρ y); binOp op t (tr ρ x) (tr ρ y) : Sem Value).run P w = .ok (tr ρ v) w ∧ v.data = true := by
  unfold binA at h
  split at h
  · rename_i k a k' b
    have hg : (eqGuard op t ox oy (tr ρ (.int k a)) (tr ρ (.int k' b))).run P w = .ok () w := by
      cases op <;> simp [eqGuard, tr]
    simp only [Sem.run_bind, hg, Result.andThen_ok]
    split at h
    · exact shiftA_sound w h t k' ρ
    · exact shiftA_sound w h t k' ρ
    · split at h <;> try cases h
      rename_i hk
      subst hk
      exact intA_sound w h t ρ
  · rename_i a b
    have hg : (eqGuard op t ox oy (tr ρ (.str a)) (tr ρ (.str b))).run P w = .ok () w := by
      cases op <;> simp [eqGuard, tr]
    simp only [Sem.run_bind, hg, Result.andThen_ok]
    split at h
    · simp only [Option.some.injEq, Prod.mk.injEq, decide_eq_true_eq] at h
      obtain ⟨hl, rfl⟩ := h
      have hn : ¬ (9223372036854775807 : Int) < (a.length : Int) + (b.length : Int) := by push_cast at hl; omega
      have hm : IntKind.i64.max = 9223372036854775807 := rfl
      simp [binOp, Op.stringOp, tr, str_size, hm, hn, str_append, AVal.data]
    · simp only [Option.some.injEq, Prod.mk.injEq, true_and] at h
      subst h
      simp only [binOp, Op.stringOp, tr, str_toList, Sem.run_pure, AVal.data, and_true]
      by_cases hab : a = b <;> simp [hab]
    · simp only [Option.some.injEq, Prod.mk.injEq, true_and] at h
      subst h
      simp only [binOp, Op.stringOp, tr, str_toList, Sem.run_pure, AVal.data, and_true]
      by_cases hab : a = b <;> simp [hab]
    · cases h
  · rename_i h1 h2
    split at h <;> try cases h
    rename_i hgt
    have hg : ∀ op, (op = .eql ∨ op = .neq) → ∀ r, eqT P 12 t x y = some r → (eqGuard op t ox oy (tr ρ x) (tr ρ y)).run P w = .ok () w := by
      intro op hop r hr
      cases x <;> cases y <;> first
        | (rcases hop with rfl | rfl <;> simp [eqGuard, tr, hgt]; done)
        | (exfalso; unfold eqT at hr; split at hr <;> simp_all; done)
    have hb : ∀ r, eqT P 12 t x y = some r → (binOp .eql t (tr ρ x) (tr ρ y)).run P w = .ok (.bool r) w ∧ (binOp .neq t (tr ρ x) (tr ρ y)).run P w = .ok (.bool (!r)) w := by
      intro r hr
      have he := eqT_sound (P := P) w 12 Op.maxDepth t x y r (by decide) hr ρ
      have he' : (Op.equal t (tr ρ x) (tr ρ y)).run P w = .ok r w := he
      cases x <;> cases y <;> first
        | (simp only [tr] at he' ⊢; simp only [binOp, Sem.run_bind, he', Result.andThen_ok, Sem.run_pure]; exact ⟨trivial, trivial⟩)
        | (exfalso; exact h1 _ _ _ _ rfl rfl)
        | (exfalso; exact h2 _ _ rfl rfl)
        | (exfalso; unfold eqT at hr; split at hr <;> simp_all; done)
    split at h
    · split at h <;> try cases h
      rename_i r hr
      simp only [Sem.run_bind, hg _ (.inl rfl) r hr, Result.andThen_ok, (hb r hr).1, tr, AVal.data, and_true]
    · split at h <;> try cases h
      rename_i r hr
      simp only [Sem.run_bind, hg _ (.inr rfl) r hr, Result.andThen_ok, (hb r hr).2, tr, AVal.data, and_true]
    · cases h

theorem unA_sound {op : UnOp} {x v : AVal} (h : unA op x = some (true, v)) (ρ : Rho) : (Op.unary op (tr ρ x)).run P w = .ok (tr ρ v) w ∧ v.data = true := by
  unfold unA at h
  split at h
  · simp only [Option.some.injEq, Prod.mk.injEq, true_and] at h; subst h; simp [Op.unary, tr, AVal.data]
  · split at h <;> try cases h
    rename_i n hn
    have := aWrap_sound hn
    rw [Int.zero_sub] at this
    simp [Op.unary, Op.intArith, tr, this, AVal.data]
  · cases h

theorem bytesOfA_spec : ∀ {l : List AVal} {bs : List UInt8}, bytesOfA l = some bs → ∃ ns : List Int, l = ns.map (AVal.int .u8) ∧ bs = ns.map fun n => UInt8.ofNat n.toNat
  | [], bs, h => by simp only [bytesOfA, Option.some.injEq] at h; subst h; exact ⟨[], rfl, rfl⟩
  | v :: l, bs, h => by
    unfold bytesOfA at h
    split at h
    · rename_i he; cases he
    · rename_i n l' he
      cases he
      split at h <;> try cases h
      rename_i r hr
      obtain ⟨ns, h1, h2⟩ := bytesOfA_spec hr
      exact ⟨n :: ns, by rw [h1]; rfl, by rw [h2]; rfl⟩
    · cases h

theorem strOfNums_eq (ns : List Int) : strOfNums ns = ⟨(ns.map fun n => UInt8.ofNat n.toNat).toArray⟩ := by
  unfold strOfNums
  have : ∀ (l : List Int) (b : ByteArray), (l.foldl (fun s n => s.push (UInt8.ofNat n.toNat)) b) = ⟨b.data ++ (l.map fun n => UInt8.ofNat n.toNat).toArray⟩ := by
    intro l
    induction l with
    | nil => intro b; simp
    | cons n l ih => intro b; simp only [List.foldl_cons, ih]; apply ByteArray.ext; simp
  first
    | (rw [this]; rfl)
    | (rw [this]; apply ByteArray.ext; simp)
    | rfl

theorem conv_bytes {src dst e : TypeId} (hs : P.underlying src = some (.slice e)) (he : P.underlying e = some (.int .u8)) (hd : P.underlying dst = some .string) {g o c : Nat} (ns : List Int)
    (h : ∀ y v, (ns.map (AVal.int .u8))[y]? = some v → w.cell? ⟨g, o + y, none⟩ = some (tr ⟨id, id, id⟩ v)) :
    (convert src dst (.slice (some ⟨g, o, none⟩) ns.length c)).run P w = .ok (.string ⟨(ns.map fun n => UInt8.ofNat n.toNat).toArray⟩) w := by
  rw [← strOfNums_eq]
  refine run_convert_bytes_arg _ src e hs he g o ns.length c ns rfl (fun i hi => ?_) dst hd
  have := h i (.int .u8 (ns.getD i 0)) (by simp [List.getElem?_map, List.getD, List.getElem?_eq_getElem hi])
  rw [this]
  simp [tr, List.getD]

theorem convA_sound {H : AHeap} {src dst : TypeId} {x v : AVal} (h : convA P H src dst x = some (true, v)) {ρ : Rho} {N : Nat} (hH : ∀ b y, H.get b = some y → y.under N = true ∧ y.ok ρ w b) :
    (convert src dst (tr ρ x)).run P w = .ok (tr ρ v) w ∧ v.data = true := by
  unfold convA at h
  split at h
  · rename_i hs hd
    split at h <;> try cases h
    rename_i n hn
    have := aWrap_sound hn
    simp [convert, run_underlying hs, run_underlying hd, tr, Conv.intToInt, this, AVal.data]
  · rename_i hs hd
    simp only [Option.some.injEq, Prod.mk.injEq, true_and] at h; subst h
    simp [convert, run_underlying hs, run_underlying hd, tr, AVal.data]
  · rename_i e hs hd
    split at h <;> try cases h
    rename_i he
    simp only [convert, Sem.run_bind, run_underlying hs, run_underlying hd, Result.andThen_ok, tr, run_underlying he, Conv.bytesToString, Sem.run_pure, AVal.data, and_true]
    rfl
  · rename_i e b i sz j n c hs hd
    split at h <;> try cases h
    rename_i he
    split at h <;> try cases h
    · rename_i e2 l hb
      split at h <;> try cases h
      split at h <;> try cases h
      rename_i r hr
      split at h <;> try cases h
      rename_i bs hbs
      obtain ⟨k1, k2⟩ := hH b _ hb
      have hrd : readCells false (.cells e2 l) i 1 j n = some (true, r) := by simp only [readCells, hr]
      obtain ⟨r1, r2, r3, r4⟩ := readCells_cells hrd k2 k1
      obtain ⟨ns, rfl, rfl⟩ := bytesOfA_spec hbs
      simp only [List.length_map] at r1
      subst r1
      refine ⟨?_, rfl⟩
      simp only [tr]
      exact conv_bytes w hs he hd ns (fun y v hy => by
        rw [r4 y v hy]
        simp only [List.getElem?_map, Option.map_eq_some_iff] at hy
        obtain ⟨_, _, rfl⟩ := hy
        rfl)
    · rename_i e' T l md hb
      split at h <;> try cases h
      rename_i f g hsz hf
      simp only [Option.some.injEq, Prod.mk.injEq, decide_eq_true_eq] at h
      obtain ⟨hn, rfl⟩ := h
      obtain ⟨k1, k2⟩ := hH b _ hb
      have hsz := nat_beq_eq.1 hsz
      subst hsz
      obtain ⟨t1, t2, t3⟩ := T.toB f g hf
      have hfl : ∀ o (u : UInt8), (f l)[o]? = some u → w.cell? ⟨ρ.blk b, ρ.off b + o, none⟩ = some (.int .u8 (u.toNat : Int)) := fun o u hu => by
        have := row_cell k2 (o := o) (v := .int .u8 (u.toNat : Int)) (by rw [RowTy.flat, t2]; simp [hu])
        simpa [tr] using this
      have hlen : ∀ l : List T.α, (f l).length = l.length := fun l => by
        have h1 := flat_length T l
        rw [t1, Nat.mul_one, RowTy.flat, t2] at h1
        simpa using h1
      have hfe : ∀ l : List T.α, ∀ m : List T.α, f (l ++ m) = f l ++ f m := fun l m => by
        have h1 := t2 (l ++ m)
        rw [List.flatMap_append, t2, t2, ← List.map_append] at h1
        have inj : ∀ a b : List UInt8, a.map (fun c => AVal.int .u8 (c.toNat : Int)) = b.map (fun c => AVal.int .u8 (c.toNat : Int)) → a = b := by
          intro a
          induction a with
          | nil => intro b hb; cases b <;> simp_all
          | cons x a ih =>
            intro b hb
            cases b with
            | nil => simp at hb
            | cons y b =>
              simp only [List.map_cons, List.cons.injEq, AVal.int.injEq, true_and] at hb
              rw [ih b hb.2, UInt8.toNat_inj.1 (by omega : x.toNat = y.toNat)]
        exact (inj _ _ h1).symm
      have hget : ∀ y, y < n → (f ((l.drop i).take n))[y]? = (f l)[i + y]? := fun y hy => by
        have e1 : l = l.take i ++ ((l.drop i).take n ++ (l.drop i).drop n) := by rw [List.take_append_drop, List.take_append_drop]
        have e2 : f l = f (l.take i) ++ (f ((l.drop i).take n) ++ f ((l.drop i).drop n)) := by rw [← hfe, ← hfe, ← e1]
        rw [e2]
        have l1 : (f (l.take i)).length = i := by rw [hlen, List.length_take]; omega
        have l2 : (f ((l.drop i).take n)).length = n := by rw [hlen, List.length_take, List.length_drop]; omega
        rw [List.getElem?_append_right (by omega), l1, List.getElem?_append_left (by omega)]
        congr 1; omega
      refine ⟨?_, rfl⟩
      simp only [tr]
      have hl2 : (f ((l.drop i).take n)).length = n := by rw [hlen, List.length_take, List.length_drop]; omega
      have key := fun C => conv_bytes (P := P) w hs he hd (g := ρ.blk b) (o := ρ.off b + (i * 1 + 0)) (c := C) ((f ((l.drop i).take n)).map fun u => (u.toNat : Int)) (fun y v hy => by
        simp only [List.getElem?_map, Option.map_eq_some_iff] at hy
        obtain ⟨z, ⟨u, hu, rfl⟩, rfl⟩ := hy
        have hyn : y < n := by rw [← hl2]; exact (List.getElem?_eq_some_iff.1 hu).1
        rw [hget y hyn] at hu
        have := hfl (i + y) u hu
        simp only [tr]
        rw [← this]
        congr 2; omega)
      simp only [List.length_map, hl2, List.map_map] at key
      refine (key _).trans ?_
      congr 4
      have : (fun n : Int => UInt8.ofNat n.toNat) ∘ (fun u : UInt8 => (u.toNat : Int)) = id := by funext u; simp
      rw [this, List.map_id]
  · cases h

end

end Go.Proofs.Ytofnedbclnlnmaa.Ev
