/-
  Ev: the operations that write: what they come to.
-/
import Derived.Test.YtofnedbclnlnmaaEvK
namespace Go.Proofs.Ytofnedbclnlnmaa.Ev
set_option linter.unusedVariables false
set_option linter.unusedSimpArgs false
open Go.RowKit

/-- n things out of cells. -/
def decN (T : RowTy) : Nat → List AVal → Option (Bool × List T.α)
  | 0, _ => some (true, [])
  | n + 1, cs => match takeN T.sz cs with
    | some c => match T.dec c, decN T n (cs.drop T.sz) with
      | some (b, a), some (b', r) => some (b && b', a :: r)
      | _, _ => none
    | none => none

/-- A thing of one row's type, as one of another row's. -/
def reDec (T T' : RowTy) (a : T'.α) : T.α :=
  match T.dec (T'.enc a) with
  | some (_, x) => x
  | none => T.dflt

def reOk (T T' : RowTy) (a : T'.α) : Bool :=
  match T.dec (T'.enc a) with
  | some (c, _) => c
  | none => false

/-- What is appended or copied: things. -/
def srcA (P : Program) (T : RowTy) (H : AHeap) (t : TypeId) (x : AVal) : Option (Bool × List T.α) :=
  match P.underlying t, x with
  | some (.slice _), .nils => some (true, [])
  | some (.slice _), .sl b i sz j m _ => match Nat.beq sz T.sz, H.get b with
    | true, some (.cells _ l) => match takeN (m * sz) (l.drop (i * sz + j)) with
      | some cs => decN T m cs
      | none => none
    | true, some (.row _ T' l _) => match Nat.beq T'.sz sz, j with
      | true, 0 => some (decide (i + m ≤ l.length) && ((l.drop i).take m).all (reOk T T'), ((l.drop i).take m).map (reDec T T'))
      | _, _ => none
    | _, _ => none
  | some .string, .str l => match T.bytes with
    | some (_, g) => some (true, g l)
    | none => none
  | _, _ => none

/-- A string's bytes over cells of bytes. -/
def overA (l : List UInt8) : List AVal → Nat → Option (List AVal)
  | [], _ => some []
  | u :: r, x => match setOne (decide (x < l.length)) u (.int .u8 ((l.getD x 0).toNat : Int)), overA l r (x + 1) with
    | some v, some r' => some (v :: r')
    | _, _ => none

def copyA (P : Program) (H : AHeap) (t u : TypeId) (d s : AVal) : Option (Bool × AVal × AHeap) :=
  match P.underlying t, d with
  | some (.slice e), .sl b i sz j n c => match sizeA P e, H.get b with
    | some m, some (.cells e' l) => match Nat.beq m 1, Nat.beq sz 1, P.underlying u, s with
      | true, true, some .string, .str s => match takeN n (l.drop (i * 1 + j)) with
        | some old => match overA s old 0 with
          | some r => match replaceAt l (i * 1 + j) r with
            | some l' => some (decide (i * 1 + j ≤ l.length), .int .i64 (min (s.length : Int) (n : Int)), H.put b (.cells e' l'))
            | none => none
          | none => none
        | none => none
      | _, _, _, _ => none
    | some m, some (.row e' T l md) => match md with
      | .ro => none
      | md => match Nat.beq m sz, Nat.beq sz T.sz, i, j, srcA P T H u s with
        | true, true, 0, 0, some (q, news) => some (q && decide (n = news.length ∧ n ≤ l.length ∧ 0 < T.sz), .int .i64 (n : Int), H.put b (.row e' T (news ++ l.drop news.length) md))
        | _, _, _, _, _ => none
    | _, _ => none
  | _, _ => none

def appendA (X : Ctx) (H : AHeap) (t u : TypeId) (s x : AVal) : Option (Bool × AVal × AHeap) :=
  match X.P.underlying t with
  | some (.slice e) => match X.P.info? e, zeroA X.P e with
    | some i, some zl => match s with
      | .nils => match X.rowTy e with
        | some T => match srcA X.P T H u x with
          | some (q, news) => some (q && decide (0 < news.length ∧ i.size = T.sz ∧ zl.length = T.sz ∧ 0 < T.sz ∧ news.length ≤ 9223372036854775807 ∧ news.length * i.bytes ≤ 140737488355328),
              .sl H.next 0 T.sz 0 news.length none, H.new (.row e T news .plain))
          | none => none
        | none => none
      | .sl b k sz j n c => match k, j, c, H.get b with
        | 0, 0, none, some (.row e' T l md) => match md with
          | .ro => none
          | md => match Nat.beq e e', Nat.beq sz T.sz, srcA X.P T H u x with
            | true, true, some (q, news) => some (q && decide (n = l.length ∧ i.size = T.sz ∧ zl.length = T.sz ∧ 0 < T.sz ∧ (l ++ news).length ≤ 9223372036854775807 ∧ (l ++ news).length * i.bytes ≤ 140737488355328),
                .sl H.next 0 T.sz 0 (l ++ news).length none, (H.put b .dead).new (.row e T (l ++ news) md))
            | _, _, _ => none
        | _, _, _, _ => none
      | _ => none
    | _, _ => none
  | _ => none

def storeA (P : Program) (sm : Bool) (H : AHeap) (t : TypeId) (x v : AVal) : Option (Bool × AVal × AHeap) :=
  match x with
  | .ptr b i sz j => match H.get b, sizeA P t with
    | some blk, some m => match Nat.beq m (cellsOfA v).length with
      | true => match writeCells sm blk i sz j (cellsOfA v) with
        | some (c, y) => some (c, .tup [], H.put b y)
        | none => none
      | false => none
    | _, _ => none
  | _ => none

def writeA (X : Ctx) (sm : Bool) (o : Oper) (E : Env) (H : AHeap) : Option (Bool × AVal × AHeap) :=
  match o.op with
  | .store t x v => match evalO E x, evalO E v with
    | some a, some b => storeA X.P sm H t a b
    | _, _ => none
  | .call { callee := .builtin .copy, args := ⟨[d, s]⟩, argTypes := ⟨[t, u]⟩ } => match evalO E d, evalO E s with
    | some a, some b => copyA X.P H t u a b
    | _, _ => none
  | .call { callee := .builtin .append, args := ⟨[d, s]⟩, argTypes := ⟨[t, u]⟩ } => match evalO E d, evalO E s with
    | some a, some b => appendA X H t u a b
    | _, _ => none
  | _ => none

/-! ### it does so -/

section
variable {P : Program}

theorem storeA_sound {sm : Bool} {H H' : AHeap} {t : TypeId} {x v u : AVal} (h : storeA P sm H t x v = some (true, u, H')) {ρ : Rho} {w : World} (hR : Rel ρ H w) (hv : v.under H.next = true) :
    ∃ w', (Instr.storeAt t (tr ρ x) (tr ρ v)).run P w = .ok () w' ∧ u = .tup [] ∧ Step ρ H w ρ H' w' := by
  unfold storeA at h
  split at h <;> try cases h
  rename_i b i sz j
  split at h <;> try cases h
  rename_i blk m hb hm
  split at h <;> try cases h
  rename_i hsz
  have hsz := nat_beq_eq.1 hsz
  split at h <;> try cases h
  rename_i y hwr
  obtain ⟨k1, k2, k3, k4⟩ := hR.blk b blk hb
  obtain ⟨o', h1, h2, h3, h4, h5, h6⟩ := writeCells_sound (P := P) hwr k4 k2 (cellsOfA_under hv)
  refine ⟨setB w (ρ.blk b) o', ?_, rfl, Step.put hR hb h6 h3 h5 h4⟩
  have hmr := sizeA_run hm w
  have hc : (trL ρ (cellsOfA v)).toArray.size = m := by rw [hsz]; simp [trL_length]
  simp only [tr, Instr.storeAt, Instr.sureAddr, Sem.run_bind, Sem.run_pure, Result.andThen_ok, storeVar, hmr, cells_tr, hc, ne_eq, not_true_eq_false, if_false, h1]

theorem decN_spec {T : RowTy} : ∀ {n : Nat} {cs : List AVal} {as : List T.α}, decN T n cs = some (true, as) → as.length = n ∧ T.flat as = cs.take (n * T.sz)
  | 0, cs, as, h => by simp only [decN, Option.some.injEq, Prod.mk.injEq, true_and] at h; subst h; simp [RowTy.flat]
  | n + 1, cs, as, h => by
    simp only [decN] at h
    split at h <;> try cases h
    rename_i c hc
    split at h <;> try cases h
    rename_i b a b' r hd hr
    simp only [Option.some.injEq, Prod.mk.injEq, Bool.and_eq_true] at h
    obtain ⟨⟨rfl, rfl⟩, rfl⟩ := h
    obtain ⟨h1, h2⟩ := decN_spec hr
    obtain ⟨rfl, hl⟩ := takeN_spec hc
    refine ⟨by simp [h1], ?_⟩
    simp only [RowTy.flat, List.flatMap_cons] at h2 ⊢
    rw [T.dec_enc _ _ hd, h2, Nat.add_mul, Nat.one_mul, Nat.add_comm, List.take_add]

theorem reDec_spec {T T' : RowTy} : ∀ {l : List T'.α}, l.all (reOk T T') = true → T.flat (l.map (reDec T T')) = T'.flat l
  | [], _ => rfl
  | a :: l, h => by
    simp only [List.all_cons, Bool.and_eq_true] at h
    have ih := reDec_spec h.2
    have h1 := h.1
    unfold reOk at h1
    simp only [List.map_cons, RowTy.flat, List.flatMap_cons] at ih ⊢
    rw [ih]
    congr 1
    unfold reDec
    split at h1
    · rename_i c x hd
      subst h1
      exact T.dec_enc _ _ hd
    · cases h1

/-- What the source holds: for the laws of append and copy. -/
theorem srcA_sound {T : RowTy} {H : AHeap} {t : TypeId} {x : AVal} {news : List T.α} (h : srcA P T H t x = some (true, news)) {ρ : Rho} {w : World} {N : Nat} (hH : ∀ b y, H.get b = some y → y.under N = true ∧ y.ok ρ w b) :
    Src P T.sz t (tr ρ x) news.length (trL ρ (T.flat news)) w := by
  have hlen : (trL ρ (T.flat news)).length = news.length * T.sz := by rw [trL_length, flat_length]
  have hone : ∀ u ∈ trL ρ (T.flat news), u.oneCell' = true := by
    refine trL_one ?_
    have := flat_data T news
    rw [List.all_eq_true] at this ⊢
    exact fun x hx => AVal.data_scalar (this x hx)
  unfold srcA at h
  split at h
  · rename_i e hu
    simp only [Option.some.injEq, Prod.mk.injEq, true_and] at h
    subst h
    simpa [tr, RowTy.flat, trL] using Src.ofNil w hu 0
  · rename_i e b i sz j m c hu
    have ofs : ∀ cs : List AVal, T.flat news = cs → news.length = m → (∀ y v, cs[y]? = some v → w.cell? ⟨ρ.blk b, ρ.off b + (i * sz + j) + y, none⟩ = some (tr ρ v)) → Src P T.sz t (tr ρ (.sl b i sz j m c)) news.length (trL ρ (T.flat news)) w := by
      intro cs hcs hm hcell
      simp only [tr]
      rw [hm]
      refine Src.ofSlice w hu _ m _ _ (by rw [hlen, hm]) (fun y v hv => ?_) hone
      rw [addr_add]
      rw [hcs, trL_get] at hv
      cases hy : cs[y]? with
      | none => simp [hy] at hv
      | some z => simp [hy] at hv; subst hv; exact hcell y z hy
    split at h <;> try cases h
    · rename_i e' l hsz hb
      have hsz := nat_beq_eq.1 hsz
      subst hsz
      split at h <;> try cases h
      rename_i cs hcs
      obtain ⟨k1, k2⟩ := hH b _ hb
      have hrd : readCells false (.cells e' l) i T.sz j (m * T.sz) = some (true, cs) ∨ T.sz = 0 := by
        cases hz : T.sz with
        | zero => exact .inr rfl
        | succ s => rw [hz] at hcs; left; simp only [readCells, hcs]
      obtain ⟨d1, d2⟩ := decN_spec h
      obtain ⟨hc1, hc2⟩ := takeN_spec hcs
      have hcl : cs.length = m * T.sz := by rw [hc1, List.length_take]; omega
      have hcs' : T.flat news = cs := by rw [d2, List.take_of_length_le (by omega)]
      rcases hrd with hrd | hz
      · obtain ⟨r1, r2, r3, r4⟩ := readCells_cells hrd k2 k1
        exact ofs cs hcs' d1 r4
      · refine ofs cs hcs' d1 (fun y v hv => ?_)
        rw [hz] at hcl
        simp only [Nat.mul_zero] at hcl
        have := List.eq_nil_of_length_eq_zero hcl
        rw [this] at hv
        simp at hv
    · rename_i e' T' l md hsz hb
      split at h <;> try cases h
      rename_i hsz'
      have hsz := nat_beq_eq.1 hsz
      have hsz' := nat_beq_eq.1 hsz'
      subst hsz
      simp only [Option.some.injEq, Prod.mk.injEq, Bool.and_eq_true, decide_eq_true_eq] at h
      obtain ⟨⟨h1, h2⟩, rfl⟩ := h
      obtain ⟨k1, k2⟩ := hH b _ hb
      refine ofs (T'.flat ((l.drop i).take m)) (reDec_spec h2) (by simp; omega) (fun y v hv => ?_)
      have hym : y < m * T'.sz := by
        have := (List.getElem?_eq_some_iff.1 hv).1
        rw [flat_length, List.length_take, List.length_drop] at this
        have h3 : min m (l.length - i) * T'.sz ≤ m * T'.sz := Nat.mul_le_mul_right _ (Nat.min_le_left _ _)
        omega
      have hsplit : T'.flat l = T'.flat (l.take i) ++ (T'.flat ((l.drop i).take m) ++ T'.flat ((l.drop i).drop m)) := by
        have e1 : l = l.take i ++ ((l.drop i).take m ++ (l.drop i).drop m) := by rw [List.take_append_drop, List.take_append_drop]
        have fa : ∀ a b : List T'.α, T'.flat (a ++ b) = T'.flat a ++ T'.flat b := fun a b => by simp [RowTy.flat]
        rw [← fa, ← fa, ← e1]
      have hl1 : (T'.flat (l.take i)).length = i * T'.sz := by rw [flat_length, List.length_take, Nat.min_eq_left (by omega)]
      have hget : (T'.flat l)[i * T'.sz + y]? = some v := by
        rw [hsplit, List.getElem?_append_right (by omega), hl1, Nat.add_sub_cancel_left, List.getElem?_append_left (by have := (List.getElem?_eq_some_iff.1 hv).1; exact this)]
        exact hv
      have := row_cell k2 hget
      rw [← this]
      congr 2
      rw [hsz']
      omega
  · rename_i l hu
    split at h <;> try cases h
    rename_i f g hfg
    obtain ⟨t1, t2, t3⟩ := T.toB f g hfg
    have hfl : T.flat (g l) = l.map fun c => AVal.int .u8 (c.toNat : Int) := t3 l
    have hgl : (g l).length = l.length := by
      have h1 := flat_length T (g l)
      rw [hfl, t1, Nat.mul_one] at h1
      simpa using h1.symm
    have := Src.ofString (P := P) w hu ⟨l.toArray⟩
    rw [str_size] at this
    rw [t1, hgl, hfl]
    simp only [tr]
    have e : trL ρ (l.map fun c => AVal.int .u8 (c.toNat : Int)) = byteCells ⟨l.toArray⟩ := by
      rw [trL_eq, List.map_map]; rfl
    rw [e]
    exact this
  · cases h

end

end Go.Proofs.Ytofnedbclnlnmaa.Ev
