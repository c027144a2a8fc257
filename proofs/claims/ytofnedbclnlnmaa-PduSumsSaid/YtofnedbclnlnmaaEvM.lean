/-
  Ev: append, copy, and all the operations that write: they do as it is reckoned.
-/
import Derived.Test.YtofnedbclnlnmaaEvL
namespace Go.Proofs.Ytofnedbclnlnmaa.Ev
set_option linter.unusedVariables false
set_option linter.unusedSimpArgs false
open Go.RowKit

section
variable {P : Program}

theorem overA_spec {s : List UInt8} : ∀ {l : List AVal} {x : Nat} {r : List AVal}, overA s l x = some r → r.length = l.length ∧ r.all AVal.data = true ∧ ∀ y, y < l.length → r[y]? = if x + y < s.length then some (.int .u8 ((s.getD (x + y) 0).toNat : Int)) else l[y]?
  | [], x, r, h => by simp only [overA, Option.some.injEq] at h; subst h; simp
  | u :: l, x, r, h => by
    simp only [overA] at h
    split at h <;> try cases h
    rename_i v r' hv hr
    obtain ⟨h1, h2, h3⟩ := overA_spec hr
    obtain ⟨w1, w2⟩ := setOne_spec hv
    refine ⟨by simp [h1], by simp [w2]; simpa using h2, fun y hy => ?_⟩
    cases y with
    | zero => simp only [List.getElem?_cons_zero, w1, Nat.add_zero]; by_cases hx : x < s.length <;> simp [hx]
    | succ y =>
      have := h3 y (by simp at hy; omega)
      simp only [List.getElem?_cons_succ, this, show x + 1 + y = x + (y + 1) by omega]

theorem len_src {size : Nat} {tx : TypeId} {x : Value} {n : Nat} {news : List Value} {w : World} (h : Src P size tx x n news w) : (Builtin.lenOf x).run P w = .ok n w := h.len w

theorem copy_run {t u e ty : TypeId} {a : Addr} {n c k m : Nat} {x : Value} {w w' : World} {cells : Array Value} (hu : P.underlying t = some (.slice e)) (hl : (Builtin.lenOf x).run P w = .ok k w) (hm : (sizeOf e).run P w = .ok m w)
    (hc : (Builtin.firstCells m (Nat.min k n) x).run P w = .ok cells w) (hs : (storeCells a cells.toList).run P w = .ok () w') : (Builtin.copy_ #[t, u] ty #[.slice (some a) n c, x]).run P w = .ok (.int .i64 ((Nat.min k n : Nat) : Int)) w' := by
  simp [Builtin.copy_, run_underlying hu, hl, hm, hc, hs, goInt]

theorem flat_drop (T : RowTy) (l : List T.α) (k : Nat) (hk : k ≤ l.length) : T.flat (l.drop k) = (T.flat l).drop (k * T.sz) := by
  have hfa : ∀ a b : List T.α, T.flat (a ++ b) = T.flat a ++ T.flat b := fun a b => by simp [RowTy.flat]
  have e1 : T.flat l = T.flat (l.take k) ++ T.flat (l.drop k) := by rw [← hfa, List.take_append_drop]
  have e2 : (T.flat (l.take k)).length = k * T.sz := by rw [flat_length, List.length_take, Nat.min_eq_left hk]
  rw [e1, List.drop_append, e2, Nat.sub_self, List.drop_zero, List.drop_of_length_le (l := T.flat (l.take k)) (by rw [e2]; exact Nat.le_refl _), List.nil_append]

theorem copyA_sound {H H' : AHeap} {t u : TypeId} {d s v : AVal} (h : copyA P H t u d s = some (true, v, H')) {ρ : Rho} {w : World} (hR : Rel ρ H w) (ty : TypeId) :
    ∃ w', (Builtin.copy_ #[t, u] ty #[tr ρ d, tr ρ s]).run P w = .ok (tr ρ v) w' ∧ v.data = true ∧ Step ρ H w ρ H' w' := by
  unfold copyA at h
  split at h
  · rename_i e b i sz j n c hu
    split at h <;> try cases h
    · rename_i m e' l hm hb
      split at h <;> try cases h
      rename_i s hm1 hsz hus
      have hm1 := nat_beq_eq.1 hm1
      have hsz := nat_beq_eq.1 hsz
      subst hm1 hsz
      split at h <;> try cases h
      rename_i old hold
      split at h <;> try cases h
      rename_i r hr
      split at h <;> try cases h
      rename_i l' hl'
      simp only [Option.some.injEq, Prod.mk.injEq, decide_eq_true_eq] at h
      obtain ⟨hij, rfl, rfl⟩ := h
      obtain ⟨k1, k2, k3, k4⟩ := hR.blk b _ hb
      obtain ⟨c0, c1, fz, c2, c3⟩ := k4
      obtain ⟨ho1, ho2⟩ := takeN_spec hold
      simp only [List.length_drop] at ho2
      obtain ⟨r1, r2, r3⟩ := overA_spec hr
      have hol : old.length = n := by rw [ho1, List.length_take, List.length_drop]; omega
      have hmr := sizeA_run hm w
      -- what is stored
      have hfc : (Builtin.firstCells 1 (Nat.min s.length n) (.string ⟨s.toArray⟩)).run P w = .ok ((s.take (Nat.min s.length n)).map fun c => Value.int .u8 (c.toNat : Int)).toArray w := by
        simp only [Builtin.firstCells, Sem.run_pure]
        congr 1
        apply Array.ext'
        simp [ByteArray.data_extract]
      have hlen : ((s.take (Nat.min s.length n)).map fun c => Value.int .u8 (c.toNat : Int)).length = Nat.min s.length n := by
        rw [List.length_map, List.length_take]; exact Nat.min_eq_left (Nat.min_le_left _ _)
      have hmn : Nat.min s.length n ≤ n := Nat.min_le_right _ _
      have hst := storeCells_run0 (P := P) (ρ.blk b) (i * 1 + j) e' fz ((s.take (Nat.min s.length n)).map fun c => Value.int .u8 (c.toNat : Int)) _ w c2 (by simpa [trL_length] using c3) (by intro u hu; obtain ⟨_, _, rfl⟩ := List.mem_map.1 hu; rfl) (by simp only [List.size_toArray, trL_length, hlen]; omega)
      have hcells : ((trL ρ l).toArray.toList.take (i * 1 + j) ++ ((s.take (Nat.min s.length n)).map fun c => Value.int .u8 (c.toNat : Int)) ++ (trL ρ l).toArray.toList.drop (i * 1 + j + ((s.take (Nat.min s.length n)).map fun c => Value.int .u8 (c.toNat : Int)).length)) = trL ρ l' := by
        have hl2 : l' = l.take (i * 1 + j) ++ r ++ l.drop (i * 1 + j + n) := by
          rcases replaceAt_spec hl' with ⟨h1, h2⟩ | ⟨h1, h2⟩
          · have hn0 : n = 0 := by rw [← hol, ← r1, h1]; rfl
            rw [h2, h1, hn0]; simp
          · rw [h2, r1, hol]
        rw [hlen, hl2, trL_append, trL_append, trL_take, trL_drop, List.append_assoc, List.append_assoc]
        congr 1
        have hsplit : (trL ρ l).drop (i * 1 + j + Nat.min s.length n) = ((trL ρ old).drop (Nat.min s.length n)) ++ (trL ρ l).drop (i * 1 + j + n) := by
          rw [ho1, trL_take, trL_drop, List.drop_take]
          have e1 : (trL ρ l).drop (i * 1 + j + n) = (((trL ρ l).drop (i * 1 + j)).drop (Nat.min s.length n)).drop (n - Nat.min s.length n) := by
            rw [List.drop_drop, List.drop_drop]; congr 1; omega
          rw [e1, List.take_append_drop, List.drop_drop]
        show _ ++ (trL ρ l).drop _ = _
        rw [hsplit, ← List.append_assoc]
        congr 1
        apply List.ext_getElem?
        intro y
        by_cases hy : y < n
        · have e1 := r3 y (by omega)
          rw [Nat.zero_add] at e1
          rw [trL_get, e1]
          by_cases hys : y < s.length
          · have hym : y < Nat.min s.length n := by have : Nat.min s.length n = min s.length n := rfl; omega
            rw [List.getElem?_append_left (by rw [hlen]; exact hym), List.getElem?_map, List.getElem?_take, if_pos hym, if_pos hys, List.getElem?_eq_getElem hys]
            simp [List.getD, List.getElem?_eq_getElem hys, tr]
          · have hmin : Nat.min s.length n = s.length := by have : Nat.min s.length n = min s.length n := rfl; omega
            rw [if_neg hys, List.getElem?_append_right (by rw [hlen, hmin]; omega), hlen, List.getElem?_drop, trL_get]
            congr 2; omega
        · rw [List.getElem?_eq_none (by simp only [List.length_append, hlen, List.length_drop, trL_length, hol]; omega), List.getElem?_eq_none (by rw [trL_length]; omega)]
      rw [hcells] at hst
      refine ⟨_, ?_, rfl, Step.put (o' := .cells (trL ρ l').toArray e' fz) hR hb rfl ⟨c0, ?_, fz, setB_get _ _ _ k3, ?_⟩ rfl ?_⟩
      · have e : min (s.length : Int) (n : Int) = ((Nat.min s.length n : Nat) : Int) := by
          have : Nat.min s.length n = min s.length n := rfl
          omega
        simp only [tr, e]
        refine copy_run hu (by simp [Builtin.lenOf, str_size]) hmr hfc ?_
        rw [c0, Nat.zero_add]
        exact hst
      · exact replaceAt_all hl' _ c1 (by rw [List.all_eq_true] at r2 ⊢; exact fun x hx => AVal.data_scalar (r2 x hx))
      · rw [replaceAt_length hl']; exact c3
      · show belowL _ _ = true
        rw [belowL_eq]
        refine replaceAt_all hl' _ (by rw [← belowL_eq]; exact k2) ?_
        rw [List.all_eq_true] at r2 ⊢
        exact fun x hx => AVal.data_below (r2 x hx) _
    · rename_i m e' T l md hm hb
      split at h <;> try cases h
      rename_i hmd
      split at h <;> try cases h
      rename_i q news hmsz hszT hsrc
      have hmsz := nat_beq_eq.1 hmsz
      have hszT := nat_beq_eq.1 hszT
      subst hmsz hszT
      simp only [Option.some.injEq, Prod.mk.injEq, Bool.and_eq_true, decide_eq_true_eq] at h
      obtain ⟨⟨rfl, rfl, hn, hpos⟩, rfl, rfl⟩ := h
      have hmd : md ≠ .ro := fun e => hmd e
      obtain ⟨k1, k2, k3, k4⟩ := hR.blk b _ hb
      have hsr := srcA_sound hsrc (ρ := ρ) (w := w) (N := H.next) (fun b y hy => ⟨(hR.blk b y hy).2.1, (hR.blk b y hy).2.2.2⟩)
      obtain ⟨h0, h1, h2, cur, fz, h3, h4, h5, h6⟩ := (ABlk.ok_own hmd).1 k4
      have hmr := sizeA_run hm w
      have hfa : ∀ a b : List T.α, T.flat (a ++ b) = T.flat a ++ T.flat b := fun a b => by simp [RowTy.flat]
      have hnl : (T.flat news).length = news.length * T.sz := flat_length T news
      have hlen := trL_length ρ (T.flat news)
      have hmul : news.length * T.sz ≤ l.length * T.sz := Nat.mul_le_mul_right _ (by omega)
      have hmul2 : l.length * T.sz ≤ ρ.cap b * T.sz := Nat.mul_le_mul_right _ h1
      have hst := storeCells_run0 (P := P) (ρ.blk b) 0 e' fz (trL ρ (T.flat news)) cur w h3 (h4.imp (fun h => h) (fun h => h.2)) hsr.one (by rw [hlen, hnl, h5]; omega)
      refine ⟨_, ?_, rfl, Step.put (o' := .cells (cur.toList.take 0 ++ trL ρ (T.flat news) ++ cur.toList.drop (0 + (trL ρ (T.flat news)).length)).toArray e' fz) hR hb (by cases md <;> simp_all [ABlk.own]) ((ABlk.ok_own hmd).2 ⟨h0, ?_, h2, _, fz, setB_get _ _ _ k3, ?_, ?_, ?_⟩) (by cases md <;> simp_all [ABlk.own]) rfl⟩
      · have hmin : Nat.min news.length news.length = news.length := Nat.min_self _
        have := fun C => copy_run (u := u) (ty := ty) (a := ⟨ρ.blk b, ρ.off b + (0 * T.sz + 0), none⟩) (n := news.length) (c := C) (x := tr ρ s) hu (hsr.len w) hmr (by rw [hmin]; exact hsr.cells) (by rw [h0]; simp only [Nat.zero_mul, Nat.zero_add, Nat.add_zero] at hst ⊢; exact hst)
        simp only [hmin, Nat.zero_add] at this ⊢
        simp only [tr]
        exact this _
      · simp only [List.length_append, List.length_drop]; omega
      · rcases h4 with h | h
        · exact .inl h
        · refine .inr ⟨h.1, ?_⟩
          have h := h.2
          simp only [List.size_toArray, List.length_append, List.length_take, List.length_drop, Array.length_toList, hlen, hnl]
          omega
      · simp only [List.size_toArray, List.length_append, List.length_take, List.length_drop, Array.length_toList, hlen, hnl]
        omega
      · have hll : (news ++ l.drop news.length).length = l.length := by simp only [List.length_append, List.length_drop]; omega
        rw [hll, hfa, trL_append]
        simp only [List.take_zero, List.nil_append, hlen, hnl, Nat.zero_add]
        rw [List.take_append, hlen, hnl, List.take_of_length_le (by rw [hlen, hnl]; omega)]
        congr 1
        rw [flat_drop T l _ hn, trL_drop, ← h6, List.drop_take]
  · cases h

end

end Go.Proofs.Ytofnedbclnlnmaa.Ev
