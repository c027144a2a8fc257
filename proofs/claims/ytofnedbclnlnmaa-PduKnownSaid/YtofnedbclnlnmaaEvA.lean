/-
  Ev: a reckoner of programs over memory of its own (numbers for blocks, lists for their cells), and what it has to do with the program's memory.
-/
import Derived.WalkKit
import Derived.WalkSpells
import Derived.WalkLawsBesides
import Derived.KernelRfl
import Derived.Below
import Derived.Laws.AppendOwn
namespace Go.Proofs.Ytofnedbclnlnmaa.Ev
set_option linter.unusedVariables false
set_option linter.unusedSimpArgs false
open Go.RowKit

/-- Values, as they are reckoned with: blocks by numbers of our own; strings as lists. -/
inductive AVal where
  | int (k : IntKind) (n : Int)
  | bool (b : Bool)
  | str (s : List UInt8)
  | ptr (b i sz j : Nat)
  | nilp
  | sl (b i sz j n : Nat) (c : Option Nat)
  | nils
  | map (b : Nat)
  | nilm
  | func (f : FuncId) (first cap : List AVal)
  | nilf
  | agg (cs : List AVal)
  | tup (vs : List AVal)
  | niface
  deriving Inhabited

/-- Where our blocks lie. -/
structure Rho where
  blk : Nat → Nat
  off : Nat → Nat
  cap : Nat → Nat

mutual
def tr (ρ : Rho) : AVal → Value
  | .int k n => .int k n
  | .bool b => .bool b
  | .str s => .string ⟨s.toArray⟩
  | .ptr b i sz j => .pointer (some ⟨ρ.blk b, ρ.off b + (i * sz + j), none⟩)
  | .nilp => .pointer none
  | .sl b i sz j n c => .slice (some ⟨ρ.blk b, ρ.off b + (i * sz + j), none⟩) n (match c with | some c => c | none => ρ.cap b - i)
  | .nils => .slice none 0 0
  | .map b => .map (some (ρ.blk b))
  | .nilm => .map none
  | .func f first cap => .func (.func f) (trL ρ first).toArray (trL ρ cap).toArray
  | .nilf => .nilFunc
  | .agg cs => .agg (trL ρ cs).toArray
  | .tup vs => .tuple (trL ρ vs).toArray
  | .niface => .nilIface
def trL (ρ : Rho) : List AVal → List Value
  | [] => []
  | v :: vs => tr ρ v :: trL ρ vs
end

mutual
/-- All blocks of a value are below a number. -/
def AVal.under (N : Nat) : AVal → Bool
  | .ptr b _ _ _ | .sl b _ _ _ _ _ | .map b => Nat.blt b N
  | .func _ first cap => belowL N first && belowL N cap
  | .agg cs => belowL N cs
  | .tup vs => belowL N vs
  | _ => true
def belowL (N : Nat) : List AVal → Bool
  | [] => true
  | v :: vs => v.under N && belowL N vs
end

/-- A scalar that has no blocks. -/
def AVal.data : AVal → Bool
  | .int _ _ | .bool _ | .str _ => true
  | _ => false

def AVal.scalar : AVal → Bool
  | .agg _ | .tup _ => false
  | _ => true

theorem trL_eq (ρ : Rho) (l : List AVal) : trL ρ l = l.map (tr ρ) := by
  induction l with
  | nil => rfl
  | cons v l ih => simp [trL, ih]

theorem belowL_eq (N : Nat) (l : List AVal) : belowL N l = l.all (AVal.under N) := by
  induction l with
  | nil => rfl
  | cons v l ih => simp [belowL, ih]

def Rho.agree (N : Nat) (ρ ρ' : Rho) : Prop := ∀ b, b < N → ρ'.blk b = ρ.blk b ∧ ρ'.off b = ρ.off b ∧ ρ'.cap b = ρ.cap b

theorem Rho.agree.refl (N : Nat) (ρ : Rho) : Rho.agree N ρ ρ := fun _ _ => ⟨rfl, rfl, rfl⟩
theorem Rho.agree.trans {N M : Nat} {a b c : Rho} (h : Rho.agree N a b) (k : Rho.agree M b c) (hNM : N ≤ M) : Rho.agree N a c := fun x hx => by
  obtain ⟨h1, h2, h3⟩ := h x hx
  obtain ⟨k1, k2, k3⟩ := k x (by omega)
  exact ⟨k1.trans h1, k2.trans h2, k3.trans h3⟩
theorem Rho.agree.mono {N M : Nat} {a b : Rho} (h : Rho.agree N a b) (hM : M ≤ N) : Rho.agree M a b := fun x hx => h x (by omega)

mutual
theorem tr_agree {N : Nat} {ρ ρ' : Rho} (h : Rho.agree N ρ ρ') : ∀ v : AVal, v.under N = true → tr ρ' v = tr ρ v
  | .int _ _, _ | .bool _, _ | .str _, _ | .nilp, _ | .nils, _ | .nilm, _ | .nilf, _ | .niface, _ => rfl
  | .ptr b i sz j, hb => by
    simp only [AVal.under, Nat.blt_eq] at hb
    obtain ⟨h1, h2, _⟩ := h b hb
    simp only [tr, h1, h2]
  | .sl b i sz j n c, hb => by
    simp only [AVal.under, Nat.blt_eq] at hb
    obtain ⟨h1, h2, h3⟩ := h b hb
    simp only [tr, h1, h2, h3]
  | .map b, hb => by
    simp only [AVal.under, Nat.blt_eq] at hb
    obtain ⟨h1, _⟩ := h b hb
    simp only [tr, h1]
  | .func f first cap, hb => by
    simp only [AVal.under, Bool.and_eq_true] at hb
    simp only [tr, trL_agree h first hb.1, trL_agree h cap hb.2]
  | .agg cs, hb => by
    simp only [AVal.under] at hb
    simp only [tr, trL_agree h cs hb]
  | .tup cs, hb => by
    simp only [AVal.under] at hb
    simp only [tr, trL_agree h cs hb]
theorem trL_agree {N : Nat} {ρ ρ' : Rho} (h : Rho.agree N ρ ρ') : ∀ vs : List AVal, belowL N vs = true → trL ρ' vs = trL ρ vs
  | [], _ => rfl
  | v :: vs, hb => by
    simp only [belowL, Bool.and_eq_true] at hb
    simp only [trL, tr_agree h v hb.1, trL_agree h vs hb.2]
end

mutual
theorem AVal.under_mono {N M : Nat} (h : N ≤ M) : ∀ v : AVal, v.under N = true → v.under M = true
  | .int _ _, _ | .bool _, _ | .str _, _ | .nilp, _ | .nils, _ | .nilm, _ | .nilf, _ | .niface, _ => rfl
  | .ptr b i sz j, hb | .sl b i sz j n c, hb | .map b, hb => by
    simp only [AVal.under, Nat.blt_eq] at hb ⊢
    omega
  | .func f first cap, hb => by
    simp only [AVal.under, Bool.and_eq_true] at hb ⊢
    exact ⟨belowL_mono h first hb.1, belowL_mono h cap hb.2⟩
  | .agg cs, hb => by
    simp only [AVal.under] at hb ⊢
    exact belowL_mono h cs hb
  | .tup cs, hb => by
    simp only [AVal.under] at hb ⊢
    exact belowL_mono h cs hb
theorem belowL_mono {N M : Nat} (h : N ≤ M) : ∀ vs : List AVal, belowL N vs = true → belowL M vs = true
  | [], _ => rfl
  | v :: vs, hb => by
    simp only [belowL, Bool.and_eq_true] at hb ⊢
    exact ⟨AVal.under_mono h v hb.1, belowL_mono h vs hb.2⟩
end

theorem AVal.data_below {v : AVal} (h : v.data = true) (N : Nat) : v.under N = true := by
  cases v <;> simp_all [AVal.data, AVal.under]

theorem AVal.data_tr {v : AVal} (h : v.data = true) (ρ ρ' : Rho) : tr ρ v = tr ρ' v := by
  cases v <;> simp_all [AVal.data, tr]

theorem AVal.data_scalar {v : AVal} (h : v.data = true) : v.scalar = true := by
  cases v <;> simp_all [AVal.data, AVal.scalar]

theorem AVal.scalar_one {v : AVal} (h : v.scalar = true) (ρ : Rho) : (tr ρ v).oneCell' = true := by
  cases v <;> simp_all [AVal.scalar, tr, Value.oneCell']

/-! ### blocks -/

/-- Rows of things of one type: how a thing is laid into cells. -/
structure RowTy where
  α : Type
  sz : Nat
  dflt : α
  enc : α → List AVal
  dec : List AVal → Option (Bool × α)
  len : ∀ a, (enc a).length = sz
  isData : ∀ a, (enc a).all AVal.data = true
  dec_enc : ∀ cs a, dec cs = some (true, a) → enc a = cs
  bytes : Option ((List α → List UInt8) × (List UInt8 → List α))
  toB : ∀ f g, bytes = some (f, g) → sz = 1 ∧ (∀ l, l.flatMap enc = (f l).map fun c => AVal.int .u8 (c.toNat : Int)) ∧ (∀ s, (g s).flatMap enc = s.map fun c => AVal.int .u8 (c.toNat : Int))

/-- A row of the call's own; one with a mark behind its cells; one that is only read. -/
inductive RowMd where
  | plain
  | strish
  | ro

/-- A block: literal cells; a row whose length may be open; none. -/
inductive ABlk where
  | cells (e : TypeId) (l : List AVal)
  | row (e : TypeId) (T : RowTy) (l : List T.α) (md : RowMd)
  | dead

structure AHeap where
  next : Nat
  bs : List (Nat × ABlk)

def ABlk.live : ABlk → Option ABlk
  | .dead => none
  | x => some x

def getB : List (Nat × ABlk) → Nat → Option ABlk
  | [], _ => none
  | (c, x) :: r, b => match Nat.beq c b with
    | true => x.live
    | false => getB r b

def AHeap.get (H : AHeap) (b : Nat) : Option ABlk := getB H.bs b
def AHeap.put (H : AHeap) (b : Nat) (x : ABlk) : AHeap := ⟨H.next, (b, x) :: H.bs⟩
def AHeap.new (H : AHeap) (x : ABlk) : AHeap := ⟨Nat.succ H.next, (H.next, x) :: H.bs⟩

def ABlk.own : ABlk → Bool
  | .cells _ _ => true
  | .row _ _ _ .ro => false
  | .row _ _ _ _ => true
  | .dead => false

def ABlk.under (N : Nat) : ABlk → Bool
  | .cells _ l => belowL N l
  | _ => true

/-- All cells of a row, one behind the other. -/
def RowTy.flat (T : RowTy) (l : List T.α) : List AVal := l.flatMap T.enc

/-- A row of the call's own lies in memory as it is reckoned. -/
structure OwnRow (ρ : Rho) (w : World) (b : Nat) (e : TypeId) (T : RowTy) (l : List T.α) (st : Prop) : Prop where
  off : ρ.off b = 0
  fits : l.length ≤ ρ.cap b
  cap : ρ.cap b ≤ maxLen
  cells : ∃ (cur : Array Value) (fz : Nat × Nat), w.heap[ρ.blk b]? = some (.cells cur e fz) ∧ (fz = (0, 0) ∨ (st ∧ cur.size ≤ fz.1)) ∧ cur.size = ρ.cap b * T.sz ∧ cur.toList.take (l.length * T.sz) = trL ρ (T.flat l)

/-- A block lies in memory as it is reckoned. -/
def ABlk.ok (ρ : Rho) (w : World) (b : Nat) : ABlk → Prop
  | .cells e l => ρ.off b = 0 ∧ l.all AVal.scalar = true ∧ ∃ fz : Nat × Nat, w.heap[ρ.blk b]? = some (.cells (trL ρ l).toArray e fz) ∧ (fz = (0, 0) ∨ l.length ≤ fz.1)
  | .row _ T l .ro => l.length ≤ ρ.cap b ∧ ρ.cap b ≤ maxLen ∧ ρ.blk b < w.heap.size ∧ ∀ i v, (T.flat l)[i]? = some v → w.cell? ⟨ρ.blk b, ρ.off b + i, none⟩ = some (tr ρ v)
  | .row e T l .plain => OwnRow ρ w b e T l False
  | .row e T l .strish => OwnRow ρ w b e T l True
  | .dead => True

/-- Memory is as it is reckoned. -/
structure Rel (ρ : Rho) (H : AHeap) (w : World) : Prop where
  blk : ∀ b x, H.get b = some x → b < H.next ∧ x.under H.next = true ∧ ρ.blk b < w.heap.size ∧ x.ok ρ w b
  inj : ∀ b b' x x', H.get b = some x → H.get b' = some x' → x.own = true → b ≠ b' → ρ.blk b ≠ ρ.blk b'

/-- The blocks that the reckoned memory may write. -/
def Owns (ρ : Rho) (H : AHeap) (g : Nat) : Prop := ∃ b x, H.get b = some x ∧ x.own = true ∧ ρ.blk b = g

/-- From one memory to a later one: old numbers mean what they meant; nothing but owned blocks has turned; owned are new blocks and blocks that were. -/
structure Step (ρ : Rho) (H : AHeap) (w : World) (ρ' : Rho) (H' : AHeap) (w' : World) : Prop where
  agree : Rho.agree H.next ρ ρ'
  next : H.next ≤ H'.next
  rel : Rel ρ' H' w'
  os : w'.os = w.os
  tape : w'.tape = w.tape
  output : w'.output = w.output
  size : w.heap.size ≤ w'.heap.size
  old : ∀ g, g < w.heap.size → ¬ Owns ρ H g → w'.heap[g]? = w.heap[g]?
  owns : ∀ g, Owns ρ' H' g → w.heap.size ≤ g ∨ Owns ρ H g

theorem Step.refl {ρ : Rho} {H : AHeap} {w : World} (h : Rel ρ H w) : Step ρ H w ρ H w :=
  ⟨.refl _ _, Nat.le_refl _, h, rfl, rfl, rfl, Nat.le_refl _, fun _ _ _ => rfl, fun _ h => .inr h⟩

theorem Step.trans {ρ ρ' ρ'' : Rho} {H H' H'' : AHeap} {w w' w'' : World} (h : Step ρ H w ρ' H' w') (k : Step ρ' H' w' ρ'' H'' w'') : Step ρ H w ρ'' H'' w'' := by
  refine ⟨h.agree.trans k.agree h.next, Nat.le_trans h.next k.next, k.rel, k.os.trans h.os, k.tape.trans h.tape, k.output.trans h.output, Nat.le_trans h.size k.size, ?_, ?_⟩
  · intro g hg hn
    have hn' : ¬ Owns ρ' H' g := fun ho => by
      rcases h.owns g ho with h1 | h1
      · omega
      · exact hn h1
    exact (k.old g (Nat.lt_of_lt_of_le hg h.size) hn').trans (h.old g hg hn)
  · intro g hg
    rcases k.owns g hg with h1 | h1
    · exact .inl (Nat.le_trans h.size h1)
    · exact h.owns g h1

theorem Step.below {ρ ρ' : Rho} {H H' : AHeap} {w w' : World} (h : Step ρ H w ρ' H' w') {B : Nat} (hB : B ≤ w.heap.size) (ho : ∀ g, Owns ρ H g → B ≤ g) : Below B w w' :=
  ⟨h.os, h.tape, h.output, h.size, fun k hk => h.old k (by omega) fun hk' => by have := ho k hk'; omega⟩

theorem ABlk.ok_row {ρ : Rho} {w : World} {b : Nat} {e : TypeId} {T : RowTy} {l : List T.α} {md : RowMd} (h : (ABlk.row e T l md).ok ρ w b) : l.length ≤ ρ.cap b ∧ ρ.cap b ≤ maxLen := by
  cases md
  · exact ⟨h.fits, h.cap⟩
  · exact ⟨h.fits, h.cap⟩
  · exact ⟨h.1, h.2.1⟩

theorem ABlk.ok_own {ρ : Rho} {w : World} {b : Nat} {e : TypeId} {T : RowTy} {l : List T.α} {md : RowMd} (hmd : md ≠ .ro) : (ABlk.row e T l md).ok ρ w b ↔ OwnRow ρ w b e T l (md = .strish) := by
  cases md
  · simp [ABlk.ok]
  · simp [ABlk.ok]
  · exact absurd rfl hmd

/-! ### temporaries -/

abbrev Env := List (Nat × AVal)

def getE : Env → Nat → Option AVal
  | [], _ => none
  | (t, v) :: r, u => match Nat.beq t u with
    | true => some v
    | false => getE r u

def putE (E : Env) (dst : Option Tmp) (v : AVal) : Env :=
  match dst with
  | some t => (t, v) :: E
  | none => E

structure RelE (ρ : Rho) (N : Nat) (E : Env) (a : Act) : Prop where
  get : ∀ t v, getE E t = some v → a.tmps[t]? = some (tr ρ v) ∧ v.under N = true

theorem RelE.step {ρ ρ' : Rho} {N M : Nat} {E : Env} {a : Act} (h : RelE ρ N E a) (hg : Rho.agree N ρ ρ') (hN : N ≤ M) : RelE ρ' M E a :=
  ⟨fun t v ht => by
    obtain ⟨h1, h2⟩ := h.get t v ht
    exact ⟨by rw [h1, tr_agree hg v h2], AVal.under_mono hN v h2⟩⟩

theorem nat_beq_eq {a b : Nat} : Nat.beq a b = true ↔ a = b := ⟨Nat.eq_of_beq_eq_true, fun h => by subst h; exact Nat.beq_refl a⟩
theorem nat_beq_ne {a b : Nat} : Nat.beq a b = false ↔ a ≠ b := by
  constructor
  · intro h e; subst e; rw [Nat.beq_refl] at h; cases h
  · intro h; cases hb : Nat.beq a b with
    | false => rfl
    | true => exact absurd (nat_beq_eq.1 hb) h

theorem getE_cons (t : Nat) (v : AVal) (E : Env) (u : Nat) : getE ((t, v) :: E) u = if t = u then some v else getE E u := by
  by_cases h : t = u
  · rw [if_pos h]; simp only [getE, nat_beq_eq.2 h]
  · rw [if_neg h]; simp only [getE, nat_beq_ne.2 h]

theorem getB_cons (c : Nat) (x : ABlk) (l : List (Nat × ABlk)) (b : Nat) : getB ((c, x) :: l) b = if c = b then x.live else getB l b := by
  by_cases h : c = b
  · rw [if_pos h]; simp only [getB, nat_beq_eq.2 h]
  · rw [if_neg h]; simp only [getB, nat_beq_ne.2 h]

theorem RelE.put {ρ : Rho} {N : Nat} {E : Env} {a : Act} (h : RelE ρ N E a) {dst : Option Tmp} {v : AVal} (hv : v.under N = true) (hd : ∀ t, dst = some t → t < a.tmps.size) : RelE ρ N (putE E dst v) (a.put dst (tr ρ v)) := by
  cases dst with
  | none => exact h
  | some t =>
    refine ⟨fun u x hx => ?_⟩
    simp only [putE, getE_cons] at hx
    simp only [Act.put, Array.getElem?_setIfInBounds]
    by_cases htu : t = u
    · subst htu
      rw [if_pos rfl] at hx ⊢
      simp only [Option.some.injEq] at hx
      subst hx
      rw [if_pos (hd _ rfl)]
      exact ⟨rfl, hv⟩
    · rw [if_neg htu] at hx ⊢
      exact h.get u x hx

/-! ### values of the program's text -/

def ofScalar : Value → Option AVal
  | .bool b => some (.bool b)
  | .int k n => some (.int k n)
  | .string s => some (.str s.data.toList)
  | .pointer none => some .nilp
  | .slice none 0 0 => some .nils
  | .map none => some .nilm
  | .nilFunc => some .nilf
  | .nilIface => some .niface
  | _ => none

def ofCells : List Value → Option (List AVal)
  | [] => some []
  | v :: vs => match ofScalar v with
    | some x => match ofCells vs with
      | some xs => some (x :: xs)
      | none => none
    | none => none

def ofValue (v : Value) : Option AVal :=
  match v with
  | .agg cs => match ofCells cs.toList with
    | some l => some (.agg l)
    | none => none
  | .tuple ⟨[]⟩ => some (.tup [])
  | v => ofScalar v

theorem ofScalar_tr {v : Value} {x : AVal} (h : ofScalar v = some x) (ρ : Rho) : tr ρ x = v ∧ (∀ N, x.under N = true) ∧ x.scalar = true := by
  unfold ofScalar at h
  split at h <;> simp only [Option.some.injEq, reduceCtorEq] at h <;> subst h <;> simp [tr, AVal.under, AVal.scalar]

theorem ofCells_tr : ∀ {vs : List Value} {xs : List AVal}, ofCells vs = some xs → ∀ ρ, trL ρ xs = vs ∧ (∀ N, belowL N xs = true) ∧ xs.all AVal.scalar = true
  | [], xs, h, ρ => by simp only [ofCells, Option.some.injEq] at h; subst h; simp [trL, belowL]
  | v :: vs, xs, h, ρ => by
    simp only [ofCells] at h
    split at h <;> try cases h
    rename_i x hx
    split at h <;> try cases h
    rename_i ys hys
    obtain ⟨a1, a2, a3⟩ := ofScalar_tr hx ρ
    obtain ⟨b1, b2, b3⟩ := ofCells_tr hys ρ
    refine ⟨by simp [trL, a1, b1], fun N => by simp [belowL, a2, b2], by simp [a3]; simpa using b3⟩

theorem ofValue_tr {v : Value} {x : AVal} (h : ofValue v = some x) (ρ : Rho) : tr ρ x = v ∧ (∀ N, x.under N = true) := by
  unfold ofValue at h
  split at h
  · rename_i cs
    split at h <;> try cases h
    rename_i l hl
    obtain ⟨a1, a2, _⟩ := ofCells_tr hl ρ
    exact ⟨by simp [tr, a1], fun N => by simp [AVal.under, a2]⟩
  · simp only [Option.some.injEq] at h; subst h; simp [tr, trL, AVal.under, belowL]
  · exact ⟨(ofScalar_tr h ρ).1, (ofScalar_tr h ρ).2.1⟩

def evalO (E : Env) : Operand → Option AVal
  | .tmp t => getE E t
  | .const v => ofValue v
  | .global _ => none
  | .func f => some (.func f [] [])

def evalL (E : Env) : List Operand → Option (List AVal)
  | [] => some []
  | x :: xs => match evalO E x with
    | some v => match evalL E xs with
      | some vs => some (v :: vs)
      | none => none
    | none => none

theorem evalO_tr {ρ : Rho} {N : Nat} {E : Env} {a : Act} (h : RelE ρ N E a) {x : Operand} {v : AVal} (hx : evalO E x = some v) : a.eval x = tr ρ v ∧ v.under N = true := by
  cases x with
  | tmp t =>
    obtain ⟨h1, h2⟩ := h.get t v hx
    refine ⟨?_, h2⟩
    simp [Act.eval, h1]
  | const u => exact ⟨(ofValue_tr hx ρ).1.symm, (ofValue_tr hx ρ).2 N⟩
  | global g => simp [evalO] at hx
  | func f =>
    simp only [evalO, Option.some.injEq] at hx
    subst hx
    simp [Act.eval, tr, trL, AVal.under, belowL]

theorem evalL_tr {ρ : Rho} {N : Nat} {E : Env} {a : Act} (h : RelE ρ N E a) : ∀ {xs : List Operand} {vs : List AVal}, evalL E xs = some vs → xs.map a.eval = trL ρ vs ∧ belowL N vs = true
  | [], vs, hx => by simp only [evalL, Option.some.injEq] at hx; subst hx; simp [trL, belowL]
  | x :: xs, vs, hx => by
    simp only [evalL] at hx
    split at hx <;> try cases hx
    rename_i v hv
    split at hx <;> try cases hx
    rename_i us hus
    obtain ⟨h1, h2⟩ := evalO_tr h hv
    obtain ⟨k1, k2⟩ := evalL_tr h hus
    exact ⟨by simp [trL, h1, k1], by simp [belowL, h2, k2]⟩

end Go.Proofs.Ytofnedbclnlnmaa.Ev
