/-
  Ev, part 1.
-/
import Derived.WalkKit
import Derived.WalkSpells
import Derived.WalkLawsBesides
import Derived.KernelRfl
import Derived.Below
import Derived.Laws.AppendOwn
import Derived.Laws.Cells
import Derived.Laws.StructEq
import Derived.Laws.BitsAllLaws
import Derived.Laws.Bits64
import Derived.Laws.Shifts
import Derived.IntWalk
import Derived.Laws.Slices
import Derived.Laws.Strings2
import Derived.Laws.Strings3
import Derived.Laws.Tables
/-
  Ev: a reckoner of programs over memory of its own (numbers for blocks, lists for their cells), and what it has to do with the program's memory.
-/
namespace Go.Proofs.Ytcgnoegejmhgmaa.Ev
set_option linter.unusedVariables false
set_option linter.unusedSimpArgs false
open Go.RowKit

/-- Values, as they are reckoned with: blocks by numbers of our own; strings as lists. -/
inductive AVal where
  | int (k : IntKind) (n : Int)
  | bool (b : Bool)
  | str (s : List UInt8)
  | ptr (b i sz j : Nat)
  | nilp
  | sl (b i sz j n : Nat) (c : Option Nat)
  | nils
  | map (b : Nat)
  | nilm
  | func (f : FuncId) (first cap : List AVal)
  | nilf
  | agg (cs : List AVal)
  | tup (vs : List AVal)
  | niface
  | iface (t : TypeId) (v : AVal)
  | meth (m : String) (v : AVal)
  | yld (b : Nat)
  deriving Inhabited

/-- Where our blocks lie. -/
structure Rho where
  blk : Nat → Nat
  off : Nat → Nat
  cap : Nat → Nat
  fp : Nat → Nat → Prop

mutual
def tr (ρ : Rho) : AVal → Value
  | .int k n => .int k n
  | .bool b => .bool b
  | .str s => .string ⟨s.toArray⟩
  | .ptr b i sz j => .pointer (some ⟨ρ.blk b, ρ.off b + (i * sz + j), none⟩)
  | .nilp => .pointer none
  | .sl b i sz j n c => .slice (some ⟨ρ.blk b, ρ.off b + (i * sz + j), none⟩) n (match c with | some c => c | none => ρ.cap b - i)
  | .nils => .slice none 0 0
  | .map b => .map (some (ρ.blk b))
  | .nilm => .map none
  | .func f first cap => .func (.func f) (trL ρ first).toArray (trL ρ cap).toArray
  | .nilf => .nilFunc
  | .agg cs => .agg (trL ρ cs).toArray
  | .tup vs => .tuple (trL ρ vs).toArray
  | .niface => .nilIface
  | .iface t v => .iface t (tr ρ v)
  | .meth m v => .func (.method m) #[tr ρ v] #[]
  | .yld b => .func (.yield (ρ.blk b)) #[] #[]
def trL (ρ : Rho) : List AVal → List Value
  | [] => []
  | v :: vs => tr ρ v :: trL ρ vs
end

mutual
/-- All blocks of a value are below a number. -/
def AVal.under (N : Nat) : AVal → Bool
  | .ptr b _ _ _ | .sl b _ _ _ _ _ | .map b | .yld b => Nat.blt b N
  | .func _ first cap => belowL N first && belowL N cap
  | .agg cs => belowL N cs
  | .tup vs => belowL N vs
  | .iface _ v => v.under N
  | .meth _ v => v.under N
  | _ => true
def belowL (N : Nat) : List AVal → Bool
  | [] => true
  | v :: vs => v.under N && belowL N vs
end

/-- A scalar that has no blocks. -/
def AVal.data : AVal → Bool
  | .int _ _ | .bool _ | .str _ => true
  | _ => false

def AVal.scalar : AVal → Bool
  | .agg _ | .tup _ => false
  | _ => true

theorem trL_eq (ρ : Rho) (l : List AVal) : trL ρ l = l.map (tr ρ) := by
  induction l with
  | nil => rfl
  | cons v l ih => simp [trL, ih]

theorem belowL_eq (N : Nat) (l : List AVal) : belowL N l = l.all (AVal.under N) := by
  induction l with
  | nil => rfl
  | cons v l ih => simp [belowL, ih]

def Rho.agree (N : Nat) (ρ ρ' : Rho) : Prop := ∀ b, b < N → ρ'.blk b = ρ.blk b ∧ ρ'.off b = ρ.off b ∧ ρ'.cap b = ρ.cap b

theorem Rho.agree.refl (N : Nat) (ρ : Rho) : Rho.agree N ρ ρ := fun _ _ => ⟨rfl, rfl, rfl⟩
theorem Rho.agree.trans {N M : Nat} {a b c : Rho} (h : Rho.agree N a b) (k : Rho.agree M b c) (hNM : N ≤ M) : Rho.agree N a c := fun x hx => by
  obtain ⟨h1, h2, h3⟩ := h x hx
  obtain ⟨k1, k2, k3⟩ := k x (by omega)
  exact ⟨k1.trans h1, k2.trans h2, k3.trans h3⟩
theorem Rho.agree.mono {N M : Nat} {a b : Rho} (h : Rho.agree N a b) (hM : M ≤ N) : Rho.agree M a b := fun x hx => h x (by omega)

mutual
theorem tr_agree {N : Nat} {ρ ρ' : Rho} (h : Rho.agree N ρ ρ') : ∀ v : AVal, v.under N = true → tr ρ' v = tr ρ v
  | .int _ _, _ | .bool _, _ | .str _, _ | .nilp, _ | .nils, _ | .nilm, _ | .nilf, _ | .niface, _ => rfl
  | .ptr b i sz j, hb => by
    simp only [AVal.under, Nat.blt_eq] at hb
    obtain ⟨h1, h2, _⟩ := h b hb
    simp only [tr, h1, h2]
  | .sl b i sz j n c, hb => by
    simp only [AVal.under, Nat.blt_eq] at hb
    obtain ⟨h1, h2, h3⟩ := h b hb
    simp only [tr, h1, h2, h3]
  | .map b, hb | .yld b, hb => by
    simp only [AVal.under, Nat.blt_eq] at hb
    obtain ⟨h1, _⟩ := h b hb
    simp only [tr, h1]
  | .func f first cap, hb => by
    simp only [AVal.under, Bool.and_eq_true] at hb
    simp only [tr, trL_agree h first hb.1, trL_agree h cap hb.2]
  | .agg cs, hb => by
    simp only [AVal.under] at hb
    simp only [tr, trL_agree h cs hb]
  | .tup cs, hb => by
    simp only [AVal.under] at hb
    simp only [tr, trL_agree h cs hb]
  | .iface t v, hb => by
    simp only [AVal.under] at hb
    simp only [tr, tr_agree h v hb]
  | .meth m v, hb => by
    simp only [AVal.under] at hb
    simp only [tr, tr_agree h v hb]
theorem trL_agree {N : Nat} {ρ ρ' : Rho} (h : Rho.agree N ρ ρ') : ∀ vs : List AVal, belowL N vs = true → trL ρ' vs = trL ρ vs
  | [], _ => rfl
  | v :: vs, hb => by
    simp only [belowL, Bool.and_eq_true] at hb
    simp only [trL, tr_agree h v hb.1, trL_agree h vs hb.2]
end

mutual
theorem AVal.under_mono {N M : Nat} (h : N ≤ M) : ∀ v : AVal, v.under N = true → v.under M = true
  | .int _ _, _ | .bool _, _ | .str _, _ | .nilp, _ | .nils, _ | .nilm, _ | .nilf, _ | .niface, _ => rfl
  | .ptr b i sz j, hb | .sl b i sz j n c, hb | .map b, hb | .yld b, hb => by
    simp only [AVal.under, Nat.blt_eq] at hb ⊢
    omega
  | .func f first cap, hb => by
    simp only [AVal.under, Bool.and_eq_true] at hb ⊢
    exact ⟨belowL_mono h first hb.1, belowL_mono h cap hb.2⟩
  | .agg cs, hb => by
    simp only [AVal.under] at hb ⊢
    exact belowL_mono h cs hb
  | .tup cs, hb => by
    simp only [AVal.under] at hb ⊢
    exact belowL_mono h cs hb
  | .iface t v, hb => by
    simp only [AVal.under] at hb ⊢
    exact AVal.under_mono h v hb
  | .meth m v, hb => by
    simp only [AVal.under] at hb ⊢
    exact AVal.under_mono h v hb
theorem belowL_mono {N M : Nat} (h : N ≤ M) : ∀ vs : List AVal, belowL N vs = true → belowL M vs = true
  | [], _ => rfl
  | v :: vs, hb => by
    simp only [belowL, Bool.and_eq_true] at hb ⊢
    exact ⟨AVal.under_mono h v hb.1, belowL_mono h vs hb.2⟩
end

theorem AVal.data_below {v : AVal} (h : v.data = true) (N : Nat) : v.under N = true := by
  cases v <;> simp_all [AVal.data, AVal.under]

theorem AVal.data_tr {v : AVal} (h : v.data = true) (ρ ρ' : Rho) : tr ρ v = tr ρ' v := by
  cases v <;> simp_all [AVal.data, tr]

theorem AVal.data_scalar {v : AVal} (h : v.data = true) : v.scalar = true := by
  cases v <;> simp_all [AVal.data, AVal.scalar]

theorem AVal.scalar_one {v : AVal} (h : v.scalar = true) (ρ : Rho) : (tr ρ v).oneCell' = true := by
  cases v <;> simp_all [AVal.scalar, tr, Value.oneCell']

/-! ### blocks -/

/-- Rows of things of one type: how a thing is laid into cells. -/
structure RowTy where
  α : Type
  sz : Nat
  dflt : α
  enc : α → List AVal
  dec : List AVal → Option (Bool × α)
  len : ∀ a, (enc a).length = sz
  isData : ∀ a, (enc a).all AVal.data = true
  dec_enc : ∀ cs a, dec cs = some (true, a) → enc a = cs
  bytes : Option ((List α → List UInt8) × (List UInt8 → List α))
  toB : ∀ f g, bytes = some (f, g) → sz = 1 ∧ (∀ l, l.flatMap enc = (f l).map fun c => AVal.int .u8 (c.toNat : Int)) ∧ (∀ s, (g s).flatMap enc = s.map fun c => AVal.int .u8 (c.toNat : Int))

/-- A row of the call's own; one with a mark behind its cells; one that is only read. -/
inductive RowMd where
  | plain
  | strish
  | ro

/-- Objects of memory that a thing of ours may be made of. -/
def oursO : Obj → Bool
  | .cells _ _ _ => true
  | .map _ _ => true
  | .mapIter _ _ _ _ => true
  | _ => false

/-- The place of a number among a map's keys, and the value. -/
def idxI (n : Int) : List MapEntry → Nat → Option (Nat × Value)
  | [], _ => none
  | e :: es, i => match e.key with
    | .int .i64 m => if n = m then some (i, e.val) else idxI n es (i + 1)
    | _ => idxI n es (i + 1)
/-- All keys are numbers. -/
def KeyI (es : List MapEntry) : Prop := ∀ e ∈ es, ∃ m, e.key = .int .i64 m
/-- A map behind a store (some) or a removal (none). -/
def updO (es : Array MapEntry) (clock : Nat) (n : Int) (x : Option Value) : Array MapEntry × Nat :=
  match idxI n es.toList 0 with
  | some (i, _) => match x with
    | some v => (es.modify i fun e => { e with key := .int .i64 n, val := v }, clock)
    | none => (es.eraseIdxIfInBounds i, clock)
  | none => match x with
    | some v => (es.push { key := .int .i64 n, val := v, born := clock }, clock + 1)
    | none => (es, clock)

/-- A thing of several objects: what is known of it (with values of ours in it), at its root, over its further objects F; how it is read and written, if it is a map. -/
structure ObjTy where
  σ : Type
  inv : σ → List Value → World → Nat → (Nat → Prop) → Prop
  look : σ → List AVal → Int → Option (Bool × Option AVal)
  upd : σ → List AVal → Int → Option AVal → Option (Bool × σ × List AVal)
  rootOut : ∀ s vs w r F, inv s vs w r F → ¬ ∃ g, F g ∧ g = r
  ours : ∀ s vs w r F, inv s vs w r F → ∀ g, g = r ∨ F g → ∃ o, w.heap[g]? = some o ∧ oursO o = true
  keep : ∀ s vs w w' r F, inv s vs w r F → (∀ g, g = r ∨ F g → w'.heap[g]? = w.heap[g]?) → inv s vs w' r F
  lookOk : ∀ s l n v, look s l n = some (true, v) → (∀ N, belowL N l = true → ∀ x, v = some x → x.under N = true) ∧ ∀ ρ w r F, inv s (trL ρ l) w r F → ∃ es clock, w.heap[r]? = some (.map es clock) ∧ KeyI es.toList ∧ (idxI n es.toList 0).map (·.2) = v.map (tr ρ)
  updOk : ∀ s l n x s' l', upd s l n x = some (true, s', l') → (∀ N, belowL N l = true → (∀ v, x = some v → v.under N = true) → belowL N l' = true) ∧ ∀ ρ w r F, inv s (trL ρ l) w r F → ∃ es clock, w.heap[r]? = some (.map es clock) ∧ KeyI es.toList ∧
    ∀ w', w'.heap[r]? = some (.map (updO es clock n (x.map (tr ρ))).1 (updO es clock n (x.map (tr ρ))).2) → (∀ g, F g → w'.heap[g]? = w.heap[g]?) → inv s' (trL ρ l') w' r F

/-- A block: literal cells; a row whose length may be open; a thing of several objects; none. -/
inductive ABlk where
  | cells (e : TypeId) (l : List AVal)
  | row (e : TypeId) (T : RowTy) (l : List T.α) (md : RowMd)
  | obj (U : ObjTy) (s : U.σ) (l : List AVal)
  | dead

structure AHeap where
  next : Nat
  bs : List (Nat × ABlk)

def ABlk.live : ABlk → Option ABlk
  | .dead => none
  | x => some x

def getB : List (Nat × ABlk) → Nat → Option ABlk
  | [], _ => none
  | (c, x) :: r, b => match Nat.beq c b with
    | true => x.live
    | false => getB r b

def AHeap.get (H : AHeap) (b : Nat) : Option ABlk := getB H.bs b
def AHeap.put (H : AHeap) (b : Nat) (x : ABlk) : AHeap := ⟨H.next, (b, x) :: H.bs⟩
def AHeap.new (H : AHeap) (x : ABlk) : AHeap := ⟨Nat.succ H.next, (H.next, x) :: H.bs⟩

def ABlk.own : ABlk → Bool
  | .cells _ _ => true
  | .row _ _ _ .ro => false
  | .row _ _ _ _ => true
  | .obj _ _ _ => true
  | .dead => false

/-- It may have further objects. -/
def ABlk.big : ABlk → Bool
  | .obj _ _ _ => true
  | _ => false

def ABlk.under (N : Nat) : ABlk → Bool
  | .cells _ l => belowL N l
  | .obj _ _ l => belowL N l
  | _ => true

/-- The objects of a block. -/
def ABlk.fp (ρ : Rho) (b : Nat) (x : ABlk) (g : Nat) : Prop := g = ρ.blk b ∨ (x.big = true ∧ ρ.fp b g)

/-- All cells of a row, one behind the other. -/
def RowTy.flat (T : RowTy) (l : List T.α) : List AVal := l.flatMap T.enc

/-- A row of the call's own lies in memory as it is reckoned. -/
structure OwnRow (ρ : Rho) (w : World) (b : Nat) (e : TypeId) (T : RowTy) (l : List T.α) (st : Prop) : Prop where
  off : ρ.off b = 0
  fits : l.length ≤ ρ.cap b
  cap : ρ.cap b ≤ maxLen
  cells : ∃ (cur : Array Value) (fz : Nat × Nat), w.heap[ρ.blk b]? = some (.cells cur e fz) ∧ (fz = (0, 0) ∨ (st ∧ cur.size ≤ fz.1)) ∧ cur.size = ρ.cap b * T.sz ∧ cur.toList.take (l.length * T.sz) = trL ρ (T.flat l)

/-- A block lies in memory as it is reckoned. -/
def ABlk.ok (ρ : Rho) (w : World) (b : Nat) : ABlk → Prop
  | .cells e l => ρ.off b = 0 ∧ l.all AVal.scalar = true ∧ ∃ fz : Nat × Nat, w.heap[ρ.blk b]? = some (.cells (trL ρ l).toArray e fz) ∧ (fz = (0, 0) ∨ l.length ≤ fz.1)
  | .row _ T l .ro => l.length ≤ ρ.cap b ∧ ρ.cap b ≤ maxLen ∧ ρ.blk b < w.heap.size ∧ ∀ i v, (T.flat l)[i]? = some v → w.cell? ⟨ρ.blk b, ρ.off b + i, none⟩ = some (tr ρ v)
  | .row e T l .plain => OwnRow ρ w b e T l False
  | .row e T l .strish => OwnRow ρ w b e T l True
  | .obj U s l => ρ.off b = 0 ∧ U.inv s (trL ρ l) w (ρ.blk b) (ρ.fp b)
  | .dead => True

/-- Memory is as it is reckoned. -/
structure Rel (ρ : Rho) (H : AHeap) (w : World) : Prop where
  blk : ∀ b x, H.get b = some x → b < H.next ∧ x.under H.next = true ∧ ρ.blk b < w.heap.size ∧ x.ok ρ w b
  inj : ∀ b b' x x', H.get b = some x → H.get b' = some x' → x.own = true → b ≠ b' → ∀ g, x.fp ρ b g → ¬ x'.fp ρ b' g

/-- The blocks that the reckoned memory may write. -/
def Owns (ρ : Rho) (H : AHeap) (g : Nat) : Prop := ∃ b x, H.get b = some x ∧ x.own = true ∧ x.fp ρ b g

theorem ABlk.fp_root (ρ : Rho) (b : Nat) (x : ABlk) : x.fp ρ b (ρ.blk b) := .inl rfl
theorem ABlk.fp_small {ρ : Rho} {b g : Nat} {x : ABlk} (h : x.big = false) : x.fp ρ b g ↔ g = ρ.blk b := by simp [ABlk.fp, h]
theorem ABlk.fp_eq {ρ ρ' : Rho} {b b' : Nat} (h1 : ρ'.blk b' = ρ.blk b) (h2 : ρ'.fp b' = ρ.fp b) (x : ABlk) (g : Nat) : x.fp ρ' b' g ↔ x.fp ρ b g := by simp [ABlk.fp, h1, h2]
theorem ABlk.big_own {x : ABlk} (h : x.big = true) : x.own = true := by cases x <;> simp_all [ABlk.big, ABlk.own]

theorem Rel.low {ρ : Rho} {H : AHeap} {w : World} (h : Rel ρ H w) {b : Nat} {x : ABlk} (hx : H.get b = some x) {g : Nat} (hg : x.fp ρ b g) : g < w.heap.size := by
  obtain ⟨_, _, h3, h4⟩ := h.blk b x hx
  rcases hg with rfl | ⟨hb, hg⟩
  · exact h3
  · cases x with
    | obj U s l =>
      obtain ⟨o, ho, _⟩ := U.ours _ _ _ _ _ h4.2 g (.inr hg)
      exact (Array.getElem?_eq_some_iff.1 ho).1
    | _ => cases hb

theorem Rel.ne {ρ : Rho} {H : AHeap} {w : World} (h : Rel ρ H w) {b b' : Nat} {x x' : ABlk} (hx : H.get b = some x) (hx' : H.get b' = some x') (ho : x.own = true) (hne : b ≠ b') : ρ.blk b ≠ ρ.blk b' :=
  fun e => h.inj b b' x x' hx hx' ho hne _ (x.fp_root ρ b) (by rw [e]; exact x'.fp_root ρ b')

/-- From one memory to a later one: old numbers mean what they meant; nothing but owned blocks has turned; owned are new blocks and blocks that were. -/
structure Step (ρ : Rho) (H : AHeap) (w : World) (ρ' : Rho) (H' : AHeap) (w' : World) : Prop where
  agree : Rho.agree H.next ρ ρ'
  next : H.next ≤ H'.next
  rel : Rel ρ' H' w'
  os : w'.os = w.os
  tape : w'.tape = w.tape
  output : w'.output = w.output
  size : w.heap.size ≤ w'.heap.size
  old : ∀ g, g < w.heap.size → ¬ Owns ρ H g → w'.heap[g]? = w.heap[g]?
  owns : ∀ g, Owns ρ' H' g → w.heap.size ≤ g ∨ Owns ρ H g

theorem Step.refl {ρ : Rho} {H : AHeap} {w : World} (h : Rel ρ H w) : Step ρ H w ρ H w :=
  ⟨.refl _ _, Nat.le_refl _, h, rfl, rfl, rfl, Nat.le_refl _, fun _ _ _ => rfl, fun _ h => .inr h⟩

theorem Step.trans {ρ ρ' ρ'' : Rho} {H H' H'' : AHeap} {w w' w'' : World} (h : Step ρ H w ρ' H' w') (k : Step ρ' H' w' ρ'' H'' w'') : Step ρ H w ρ'' H'' w'' := by
  refine ⟨h.agree.trans k.agree h.next, Nat.le_trans h.next k.next, k.rel, k.os.trans h.os, k.tape.trans h.tape, k.output.trans h.output, Nat.le_trans h.size k.size, ?_, ?_⟩
  · intro g hg hn
    have hn' : ¬ Owns ρ' H' g := fun ho => by
      rcases h.owns g ho with h1 | h1
      · omega
      · exact hn h1
    exact (k.old g (Nat.lt_of_lt_of_le hg h.size) hn').trans (h.old g hg hn)
  · intro g hg
    rcases k.owns g hg with h1 | h1
    · exact .inl (Nat.le_trans h.size h1)
    · exact h.owns g h1

theorem Step.below {ρ ρ' : Rho} {H H' : AHeap} {w w' : World} (h : Step ρ H w ρ' H' w') {B : Nat} (hB : B ≤ w.heap.size) (ho : ∀ g, Owns ρ H g → B ≤ g) : Below B w w' :=
  ⟨h.os, h.tape, h.output, h.size, fun k hk => h.old k (by omega) fun hk' => by have := ho k hk'; omega⟩

theorem ABlk.ok_row {ρ : Rho} {w : World} {b : Nat} {e : TypeId} {T : RowTy} {l : List T.α} {md : RowMd} (h : (ABlk.row e T l md).ok ρ w b) : l.length ≤ ρ.cap b ∧ ρ.cap b ≤ maxLen := by
  cases md
  · exact ⟨h.fits, h.cap⟩
  · exact ⟨h.fits, h.cap⟩
  · exact ⟨h.1, h.2.1⟩

theorem ABlk.ok_own {ρ : Rho} {w : World} {b : Nat} {e : TypeId} {T : RowTy} {l : List T.α} {md : RowMd} (hmd : md ≠ .ro) : (ABlk.row e T l md).ok ρ w b ↔ OwnRow ρ w b e T l (md = .strish) := by
  cases md
  · simp [ABlk.ok]
  · simp [ABlk.ok]
  · exact absurd rfl hmd

/-! ### temporaries -/

abbrev Env := List (Nat × AVal)

def getE : Env → Nat → Option AVal
  | [], _ => none
  | (t, v) :: r, u => match Nat.beq t u with
    | true => some v
    | false => getE r u

def putE (E : Env) (dst : Option Tmp) (v : AVal) : Env :=
  match dst with
  | some t => (t, v) :: E
  | none => E

structure RelE (ρ : Rho) (N : Nat) (E : Env) (a : Act) : Prop where
  get : ∀ t v, getE E t = some v → a.tmps[t]? = some (tr ρ v) ∧ v.under N = true

theorem RelE.step {ρ ρ' : Rho} {N M : Nat} {E : Env} {a : Act} (h : RelE ρ N E a) (hg : Rho.agree N ρ ρ') (hN : N ≤ M) : RelE ρ' M E a :=
  ⟨fun t v ht => by
    obtain ⟨h1, h2⟩ := h.get t v ht
    exact ⟨by rw [h1, tr_agree hg v h2], AVal.under_mono hN v h2⟩⟩

theorem nat_beq_eq {a b : Nat} : Nat.beq a b = true ↔ a = b := ⟨Nat.eq_of_beq_eq_true, fun h => by subst h; exact Nat.beq_refl a⟩
theorem nat_beq_ne {a b : Nat} : Nat.beq a b = false ↔ a ≠ b := by
  constructor
  · intro h e; subst e; rw [Nat.beq_refl] at h; cases h
  · intro h; cases hb : Nat.beq a b with
    | false => rfl
    | true => exact absurd (nat_beq_eq.1 hb) h

theorem getE_cons (t : Nat) (v : AVal) (E : Env) (u : Nat) : getE ((t, v) :: E) u = if t = u then some v else getE E u := by
  by_cases h : t = u
  · rw [if_pos h]; simp only [getE, nat_beq_eq.2 h]
  · rw [if_neg h]; simp only [getE, nat_beq_ne.2 h]

theorem getB_cons (c : Nat) (x : ABlk) (l : List (Nat × ABlk)) (b : Nat) : getB ((c, x) :: l) b = if c = b then x.live else getB l b := by
  by_cases h : c = b
  · rw [if_pos h]; simp only [getB, nat_beq_eq.2 h]
  · rw [if_neg h]; simp only [getB, nat_beq_ne.2 h]

theorem RelE.put {ρ : Rho} {N : Nat} {E : Env} {a : Act} (h : RelE ρ N E a) {dst : Option Tmp} {v : AVal} (hv : v.under N = true) (hd : ∀ t, dst = some t → t < a.tmps.size) : RelE ρ N (putE E dst v) (a.put dst (tr ρ v)) := by
  cases dst with
  | none => exact h
  | some t =>
    refine ⟨fun u x hx => ?_⟩
    simp only [putE, getE_cons] at hx
    simp only [Act.put, Array.getElem?_setIfInBounds]
    by_cases htu : t = u
    · subst htu
      rw [if_pos rfl] at hx ⊢
      simp only [Option.some.injEq] at hx
      subst hx
      rw [if_pos (hd _ rfl)]
      exact ⟨rfl, hv⟩
    · rw [if_neg htu] at hx ⊢
      exact h.get u x hx

/-! ### values of the program's text -/

def ofScalar : Value → Option AVal
  | .bool b => some (.bool b)
  | .int k n => some (.int k n)
  | .string s => some (.str s.data.toList)
  | .pointer none => some .nilp
  | .slice none 0 0 => some .nils
  | .map none => some .nilm
  | .nilFunc => some .nilf
  | .nilIface => some .niface
  | _ => none

def ofCells : List Value → Option (List AVal)
  | [] => some []
  | v :: vs => match ofScalar v with
    | some x => match ofCells vs with
      | some xs => some (x :: xs)
      | none => none
    | none => none

def ofValue (v : Value) : Option AVal :=
  match v with
  | .agg cs => match ofCells cs.toList with
    | some l => some (.agg l)
    | none => none
  | .tuple ⟨[]⟩ => some (.tup [])
  | v => ofScalar v

theorem ofScalar_tr {v : Value} {x : AVal} (h : ofScalar v = some x) (ρ : Rho) : tr ρ x = v ∧ (∀ N, x.under N = true) ∧ x.scalar = true := by
  unfold ofScalar at h
  split at h <;> simp only [Option.some.injEq, reduceCtorEq] at h <;> subst h <;> simp [tr, AVal.under, AVal.scalar]

theorem ofCells_tr : ∀ {vs : List Value} {xs : List AVal}, ofCells vs = some xs → ∀ ρ, trL ρ xs = vs ∧ (∀ N, belowL N xs = true) ∧ xs.all AVal.scalar = true
  | [], xs, h, ρ => by simp only [ofCells, Option.some.injEq] at h; subst h; simp [trL, belowL]
  | v :: vs, xs, h, ρ => by
    simp only [ofCells] at h
    split at h <;> try cases h
    rename_i x hx
    split at h <;> try cases h
    rename_i ys hys
    obtain ⟨a1, a2, a3⟩ := ofScalar_tr hx ρ
    obtain ⟨b1, b2, b3⟩ := ofCells_tr hys ρ
    refine ⟨by simp [trL, a1, b1], fun N => by simp [belowL, a2, b2], by simp [a3]; simpa using b3⟩

theorem ofValue_tr {v : Value} {x : AVal} (h : ofValue v = some x) (ρ : Rho) : tr ρ x = v ∧ (∀ N, x.under N = true) := by
  unfold ofValue at h
  split at h
  · rename_i cs
    split at h <;> try cases h
    rename_i l hl
    obtain ⟨a1, a2, _⟩ := ofCells_tr hl ρ
    exact ⟨by simp [tr, a1], fun N => by simp [AVal.under, a2]⟩
  · simp only [Option.some.injEq] at h; subst h; simp [tr, trL, AVal.under, belowL]
  · exact ⟨(ofScalar_tr h ρ).1, (ofScalar_tr h ρ).2.1⟩

def evalO (E : Env) : Operand → Option AVal
  | .tmp t => getE E t
  | .const v => ofValue v
  | .global _ => none
  | .func f => some (.func f [] [])

def evalL (E : Env) : List Operand → Option (List AVal)
  | [] => some []
  | x :: xs => match evalO E x with
    | some v => match evalL E xs with
      | some vs => some (v :: vs)
      | none => none
    | none => none

theorem evalO_tr {ρ : Rho} {N : Nat} {E : Env} {a : Act} (h : RelE ρ N E a) {x : Operand} {v : AVal} (hx : evalO E x = some v) : a.eval x = tr ρ v ∧ v.under N = true := by
  cases x with
  | tmp t =>
    obtain ⟨h1, h2⟩ := h.get t v hx
    refine ⟨?_, h2⟩
    simp [Act.eval, h1]
  | const u => exact ⟨(ofValue_tr hx ρ).1.symm, (ofValue_tr hx ρ).2 N⟩
  | global g => simp [evalO] at hx
  | func f =>
    simp only [evalO, Option.some.injEq] at hx
    subst hx
    simp [Act.eval, tr, trL, AVal.under, belowL]

theorem evalL_tr {ρ : Rho} {N : Nat} {E : Env} {a : Act} (h : RelE ρ N E a) : ∀ {xs : List Operand} {vs : List AVal}, evalL E xs = some vs → xs.map a.eval = trL ρ vs ∧ belowL N vs = true
  | [], vs, hx => by simp only [evalL, Option.some.injEq] at hx; subst hx; simp [trL, belowL]
  | x :: xs, vs, hx => by
    simp only [evalL] at hx
    split at hx <;> try cases hx
    rename_i v hv
    split at hx <;> try cases hx
    rename_i us hus
    obtain ⟨h1, h2⟩ := evalO_tr h hv
    obtain ⟨k1, k2⟩ := evalL_tr h hus
    exact ⟨by simp [trL, h1, k1], by simp [belowL, h2, k2]⟩

end Go.Proofs.Ytcgnoegejmhgmaa.Ev

/-
  Ev: what an operation comes to, as it is reckoned.
-/
namespace Go.Proofs.Ytcgnoegejmhgmaa.Ev
set_option linter.unusedVariables false
set_option linter.unusedSimpArgs false
open Go.RowKit

/-! ### how whole numbers are compared: so that numbers of which a part is open are not counted through -/

def leI : Int → Int → Bool
  | .ofNat m, .ofNat n => Nat.ble m n
  | .negSucc _, .ofNat _ => true
  | .ofNat _, .negSucc _ => false
  | .negSucc m, .negSucc n => Nat.ble n m
def ltI : Int → Int → Bool
  | .ofNat m, .ofNat n => Nat.ble (Nat.succ m) n
  | .negSucc _, .ofNat _ => true
  | .ofNat _, .negSucc _ => false
  | .negSucc m, .negSucc n => Nat.ble (Nat.succ n) m
theorem leI_iff (a b : Int) : leI a b = true ↔ a ≤ b := by
  cases a <;> cases b <;> simp [leI, Nat.ble_eq] <;> omega
theorem ltI_iff (a b : Int) : ltI a b = true ↔ a < b := by
  cases a <;> cases b <;> simp [ltI, Nat.ble_eq] <;> omega
instance (priority := 100000) intLeDec (a b : Int) : Decidable (a ≤ b) :=
  Bool.casesOn (motive := fun c => leI a b = c → Decidable (a ≤ b)) (leI a b) (fun h => isFalse fun k => by rw [(leI_iff a b).2 k] at h; cases h) (fun h => isTrue ((leI_iff a b).1 h)) rfl
instance (priority := 100000) intLtDec (a b : Int) : Decidable (a < b) :=
  Bool.casesOn (motive := fun c => ltI a b = c → Decidable (a < b)) (ltI a b) (fun h => isFalse fun k => by rw [(ltI_iff a b).2 k] at h; cases h) (fun h => isTrue ((ltI_iff a b).1 h)) rfl

/-- What a function comes to that only makes new memory: under a condition, a value. -/
abbrev FC := List AVal → AHeap → Option (Bool × AVal)

/-- How a function ends. -/
inductive Out where
  | ret (v : AVal)
  | panic (v : AVal)

/-- How a piece of code ends. -/
inductive AExit where
  | normal
  | exit (id : Nat)
  | ret
  | panic (v : AVal)

/-- What a call asks for what follows. -/
abbrev GC := List AVal → AHeap → (Out → AHeap → Prop) → Prop

/-- What a block of code asks for what follows; the first number: what the function's memory began with. -/
abbrev LC := Nat → Env → AHeap → (AExit → Env → AHeap → Prop) → Prop

structure Ctx where
  P : Program
  fns : FuncId → Option Func
  fc : FuncId → Option FC
  rowTy : TypeId → Option RowTy
  gc : FuncId → Option GC
  lcs : FuncId → Nat → Option LC
  sms : FuncId → Bool
  op : Oper → Env → AHeap → Option ((Out → AHeap → Prop) → Prop)

/-! ### lists -/

def nth : List AVal → Nat → Option AVal
  | [], _ => none
  | v :: _, 0 => some v
  | _ :: l, n + 1 => nth l n

def takeN : Nat → List AVal → Option (List AVal)
  | 0, _ => some []
  | _ + 1, [] => none
  | n + 1, v :: l => match takeN n l with
    | some r => some (v :: r)
    | none => none

/-- l with vs from o on. -/
def replaceAt : List AVal → Nat → List AVal → Option (List AVal)
  | l, _, [] => some l
  | [], _, _ :: _ => none
  | x :: l, 0, v :: vs => match replaceAt l 0 vs with
    | some r => some (v :: r)
    | none => none
  | x :: l, o + 1, v :: vs => match replaceAt l o (v :: vs) with
    | some r => some (x :: r)
    | none => none

def intsOf (k : IntKind) : List AVal → Option (List Int)
  | [] => some []
  | .int k' n :: l => if k' = k then (match intsOf k l with
    | some r => some (n :: r)
    | none => none) else none
  | _ => none

def strsOf : List AVal → Option (List (List UInt8))
  | [] => some []
  | .str s :: l => match strsOf l with
    | some r => some (s :: r)
    | none => none
  | _ => none

def boolsOf : List AVal → Option (List Bool)
  | [] => some []
  | .bool s :: l => match boolsOf l with
    | some r => some (s :: r)
    | none => none
  | _ => none

/-- The one of number i, of cells of one kind. -/
def selOne (i : Nat) (l : List AVal) : Option AVal :=
  match l with
  | .int k _ :: _ => match intsOf k l with
    | some xs => some (.int k (xs.getD i 0))
    | none => none
  | .str _ :: _ => match strsOf l with
    | some xs => some (.str (xs.getD i []))
    | none => none
  | .bool _ :: _ => match boolsOf l with
    | some xs => some (.bool (xs.getD i false))
    | none => none
  | _ => none

/-- Each n-th cell: c of them. -/
def column (l : List AVal) (sz : Nat) : Nat → Nat → Option (List AVal)
  | 0, _ => some []
  | c + 1, o => match nth l o with
    | some v => match column l sz c (o + sz) with
      | some r => some (v :: r)
      | none => none
    | none => none

/-- m cells, from the i-th of c things on that are sz cells apart. -/
def selCells (l : List AVal) (i sz c : Nat) : Nat → Nat → Option (List AVal)
  | 0, _ => some []
  | m + 1, j => match column l sz c j with
    | some col => match selOne i col with
      | some v => match selCells l i sz c m (j + 1) with
        | some r => some (v :: r)
        | none => none
      | none => none
    | none => none

def setOne (c : Bool) : AVal → AVal → Option AVal
  | .int k a, .int k' b => if k = k' then some (.int k (if c then b else a)) else none
  | .str a, .str b => some (.str (if c then b else a))
  | .bool a, .bool b => some (.bool (if c then b else a))
  | _, _ => none

/-- The i-th of single cells is set (x: the number of the first one). -/
def setSel (i : Nat) (v : AVal) : List AVal → Nat → Option (List AVal)
  | [], _ => some []
  | u :: l, x => match setOne (decide (i = x)) u v with
    | some w => match setSel i v l (x + 1) with
      | some r => some (w :: r)
      | none => none
    | none => none

def readCells (sm : Bool) (x : ABlk) (i sz j m : Nat) : Option (Bool × List AVal) :=
  match x with
  | .cells _ l => match sz with
    | 0 => match takeN m (l.drop j) with
      | some r => some (true, r)
      | none => none
    | s + 1 => match sm with
      | true => match selCells l i (s + 1) ((l.length - j) / (s + 1)) m j with
        | some r => some (decide (i < (l.length - j) / (s + 1)), r)
        | none => none
      | false => match takeN m (l.drop (i * (s + 1) + j)) with
        | some r => some (true, r)
        | none => none
  | .row _ T l _ => match Nat.beq sz T.sz with
    | true => match takeN m ((T.enc (l.getD i T.dflt)).drop j) with
      | some r => some (decide (i < l.length), r)
      | none => none
    | false => none
  | .obj _ _ _ => none
  | .dead => none

def writeCells (sm : Bool) (x : ABlk) (i sz j : Nat) (vs : List AVal) : Option (Bool × ABlk) :=
  match vs.all AVal.scalar with
  | false => none
  | true => match x with
    | .cells e l => match sz with
      | 0 => match replaceAt l j vs with
        | some r => some (true, .cells e r)
        | none => none
      | s + 1 => match sm with
        | true => match s, j, vs with
          | 0, 0, [v] => match setSel i v l 0 with
            | some r => some (decide (i < l.length), .cells e r)
            | none => none
          | _, _, _ => none
        | false => match replaceAt l (i * (s + 1) + j) vs with
          | some r => some (true, .cells e r)
          | none => none
    | .row e T l md => match md with
      | .ro => none
      | md => match Nat.beq sz T.sz with
        | true => match replaceAt (T.enc (l.getD i T.dflt)) j vs with
          | some cs => match T.dec cs with
            | some (c, a) => some (decide (i < l.length) && c, .row e T (l.set i a) md)
            | none => none
          | none => none
        | false => none
    | .obj _ _ _ => none
    | .dead => none

/-! ### types -/

def sizeA (P : Program) (t : TypeId) : Option Nat :=
  match P.info? t with
  | some i => some i.size
  | none => none

def aggA (P : Program) (t : TypeId) : Option Bool :=
  match P.underlying t with
  | some (.struct _) => some true
  | some (.array _ _) => some true
  | some _ => some false
  | none => none

def zeroA (P : Program) (t : TypeId) : Option (List AVal) :=
  match P.info? t with
  | some i => match i.zero with
    | some z => ofCells z.cells.toList
    | none => none
  | none => none

/-- A value out of its cells. -/
def pack (ag : Bool) (cs : List AVal) : Option AVal :=
  match ag with
  | true => some (.agg cs)
  | false => match cs with
    | [v] => some v
    | _ => none

def cellsOfA : AVal → List AVal
  | .agg cs => cs
  | v => [v]

/-! ### integers -/

def inI64 (n : Int) : Bool := decide (-9223372036854775808 ≤ n ∧ n ≤ 9223372036854775807)

def aWrap (k : IntKind) (n : Int) : Option (Bool × Int) :=
  match k with
  | .i64 => some (inI64 n, n)
  | .u8 => some (true, n % 256)
  | .u16 => some (true, n % 65536)
  | .u32 => some (true, n % 4294967296)
  | .u64 => some (true, n % 18446744073709551616)
  | _ => none

/-- x shifted by y: 2 ^ y, at most 2 ^ (the kind's bits). -/
def pow2 (k : IntKind) (y : Int) : Int := 2 ^ (min y.toNat k.bits)

def bitsA (op : BinOp) (k : IntKind) (x y : Int) : Int :=
  match op with
  | .and => k.wrap (BitVec.ofInt k.bits x &&& BitVec.ofInt k.bits y).toNat
  | .or => k.wrap (BitVec.ofInt k.bits x ||| BitVec.ofInt k.bits y).toNat
  | .xor => k.wrap (BitVec.ofInt k.bits x ^^^ BitVec.ofInt k.bits y).toNat
  | _ => k.wrap (BitVec.ofInt k.bits x &&& ~~~ BitVec.ofInt k.bits y).toNat

def intA (op : BinOp) (k : IntKind) (x y : Int) : Option (Bool × AVal) :=
  match op with
  | .add => match aWrap k (x + y) with
    | some (c, n) => some (c, .int k n)
    | none => none
  | .sub => match aWrap k (x - y) with
    | some (c, n) => some (c, .int k n)
    | none => none
  | .mul => match aWrap k (x * y) with
    | some (c, n) => some (c, .int k n)
    | none => none
  | .quo => match aWrap k (x / y) with
    | some (c, n) => some (decide (0 ≤ x ∧ 0 < y) && c, .int k n)
    | none => none
  | .rem => some (decide (0 ≤ x ∧ 0 < y), .int k (x % y))
  | .and => some (true, .int k (bitsA .and k x y))
  | .or => some (true, .int k (bitsA .or k x y))
  | .xor => some (true, .int k (bitsA .xor k x y))
  | .andNot => some (true, .int k (bitsA .andNot k x y))
  | .eql => some (true, .bool (decide (x = y)))
  | .neq => some (true, .bool (!decide (x = y)))
  | .lss => some (true, .bool (decide (x < y)))
  | .leq => some (true, .bool (decide (x ≤ y)))
  | .gtr => some (true, .bool (decide (y < x)))
  | .geq => some (true, .bool (decide (y ≤ x)))
  | _ => none

def shiftA (op : BinOp) (k : IntKind) (x y : Int) : Option (Bool × AVal) :=
  match op with
  | .shl => match aWrap k (x * pow2 k y) with
    | some (c, n) => some (decide (0 ≤ y) && c, .int k n)
    | none => none
  | .shr => some (decide (0 ≤ y), .int k (x / pow2 k y))
  | _ => none

/-! ### equality -/

def eqFs (P : Program) (eq : TypeId → AVal → AVal → Option Bool) (xs ys : List AVal) : List Field → Option Bool
  | [] => some true
  | f :: fs => match f.name == "_" with
    | true => eqFs P eq xs ys fs
    | false => match sizeA P f.type, aggA P f.type with
      | some m, some ag => match takeN m (xs.drop f.offset), takeN m (ys.drop f.offset) with
        | some a, some b => match pack ag a, pack ag b with
          | some a, some b => match eq f.type a b, eqFs P eq xs ys fs with
            | some r, some s => some (r && s)
            | _, _ => none
          | _, _ => none
        | _, _ => none
      | _, _ => none

def eqAs (ag : Bool) (m : Nat) (eq : AVal → AVal → Option Bool) (xs ys : List AVal) : Nat → Nat → Option Bool
  | 0, _ => some true
  | n + 1, o => match takeN m (xs.drop o), takeN m (ys.drop o) with
    | some a, some b => match pack ag a, pack ag b with
      | some a, some b => match eq a b, eqAs ag m eq xs ys n (o + m) with
        | some r, some s => some (r && s)
        | _, _ => none
      | _, _ => none
    | _, _ => none

def eqT (P : Program) : Nat → TypeId → AVal → AVal → Option Bool
  | 0, _, _, _ => none
  | d + 1, t, x, y =>
    match P.underlying t, x, y with
    | some .bool, .bool a, .bool b => some (a == b)
    | some (.int _), .int k a, .int k' b => if k = k' then some (decide (a = b)) else none
    | some .string, .str a, .str b => some (decide (a = b))
    | some (.struct fs), .agg xs, .agg ys => match P.stoodInHeld t with
      | true => none
      | false => eqFs P (eqT P d) xs ys fs.toList
    | some (.array n e), .agg xs, .agg ys => match sizeA P e, aggA P e with
      | some m, some ag => eqAs ag m (eqT P d e) xs ys n 0
      | _, _ => none
    | some (.pointer _), .nilp, .nilp => some true
    | some (.pointer _), .ptr _ _ _ _, .nilp => some false
    | some (.pointer _), .nilp, .ptr _ _ _ _ => some false
    | some (.slice _), .nils, .nils => some true
    | some (.slice _), .nils, .sl _ _ _ _ _ _ => some false
    | some (.slice _), .sl _ _ _ _ _ _, .nils => some false
    | _, _, _ => none

/-! ### the operations that leave memory as it is -/

def binA (P : Program) (op : BinOp) (t : TypeId) (x y : AVal) : Option (Bool × AVal) :=
  match x, y with
  | .int k a, .int k' b =>
    match op with
    | .shl => shiftA .shl k a b
    | .shr => shiftA .shr k a b
    | op => if k = k' then intA op k a b else none
  | .str a, .str b =>
    match op with
    | .add => some (decide (((a.length + b.length : Nat) : Int) ≤ 9223372036854775807), .str (a ++ b))
    | .eql => some (true, .bool (decide (a = b)))
    | .neq => some (true, .bool (!decide (a = b)))
    | _ => none
  | x, y =>
    match P.eqGuardType P.depth t with
    | true => none
    | false => match op with
      | .eql => match eqT P 12 t x y with
        | some r => some (true, .bool r)
        | none => none
      | .neq => match eqT P 12 t x y with
        | some r => some (true, .bool (!r))
        | none => none
      | _ => none

def unA (op : UnOp) (x : AVal) : Option (Bool × AVal) :=
  match op, x with
  | .not, .bool b => some (true, .bool (!b))
  | .neg, .int k n => match aWrap k (0 - n) with
    | some (c, m) => some (c, .int k m)
    | none => none
  | _, _ => none

def bytesOfA : List AVal → Option (List UInt8)
  | [] => some []
  | .int .u8 n :: l => match bytesOfA l with
    | some r => some (UInt8.ofNat n.toNat :: r)
    | none => none
  | _ => none

def convA (P : Program) (H : AHeap) (src dst : TypeId) (x : AVal) : Option (Bool × AVal) :=
  match P.underlying src, P.underlying dst, x with
  | some _, some (.int k), .int _ n => match aWrap k n with
    | some (c, m) => some (c, .int k m)
    | none => none
  | some _, some .string, .str s => some (true, .str s)
  | some (.slice e), some .string, .nils => match P.underlying e with
    | some (.int .u8) => some (true, .str [])
    | _ => none
  | some (.slice e), some .string, .sl b i sz j n _ => match P.underlying e with
    | some (.int .u8) => match H.get b with
      | some (.cells _ l) => match sz with
        | 1 => match takeN n (l.drop (i * 1 + j)) with
          | some r => match bytesOfA r with
            | some bs => some (true, .str bs)
            | none => none
          | none => none
        | _ => none
      | some (.row _ T l _) => match Nat.beq sz 1, j, T.bytes with
        | true, 0, some (f, _) => some (decide (i + n ≤ l.length), .str (f ((l.drop i).take n)))
        | _, _, _ => none
      | _ => none
    | _ => none
  | _, _, _ => none

/-- Does a slice lie within its array's capacity? -/
def capA (H : AHeap) (b i n : Nat) (c : Option Nat) : Option Bool :=
  match c with
  | some c => some (decide (n ≤ c))
  | none => match H.get b with
    | some (.row _ T l _) => some (decide (i + n ≤ l.length))
    | _ => none

def sliceA (P : Program) (H : AHeap) (t : TypeId) (x : AVal) (lo hi : Option AVal) : Option (Bool × AVal) :=
  match P.underlying t, x with
  | some .string, .str s => match lo, hi with
    | none, none => some (true, .str s)
    | some (.int _ l), none => some (decide (0 ≤ l ∧ l ≤ s.length), .str (s.drop l.toNat))
    | none, some (.int _ h) => some (decide (0 ≤ h ∧ h ≤ s.length), .str (s.take h.toNat))
    | some (.int _ l), some (.int _ h) => some (decide (0 ≤ l ∧ l ≤ h ∧ h ≤ s.length), .str ((s.take h.toNat).drop l.toNat))
    | _, _ => none
  | some (.slice e), .sl b i sz j n c => match sizeA P e, capA H b i n c with
    | some m, some q => match Nat.beq m sz with
      | true => match lo, hi with
        | none, none => some (q, .sl b i sz j n c)
        | some (.int _ l), none => some (decide (0 ≤ l ∧ l < n) && q, .sl b (i + l.toNat) sz j (n - l.toNat) (c.map (· - l.toNat)))
        | none, some (.int _ h) => some (decide (0 ≤ h ∧ h ≤ n) && q, .sl b i sz j h.toNat c)
        | some (.int _ l), some (.int _ h) => some (decide (0 ≤ l ∧ l < n ∧ l ≤ h ∧ h ≤ n) && q, .sl b (i + l.toNat) sz j (h.toNat - l.toNat) (c.map (· - l.toNat)))
        | _, _ => none
      | false => none
    | _, _ => none
  | some (.array n e), .ptr b i sz j => match sizeA P e with
    | some m => match lo, hi with
      | none, none => some (true, .sl b 0 m (i * sz + j) n (some n))
      | none, some (.int _ h) => some (decide (0 ≤ h ∧ h ≤ n), .sl b 0 m (i * sz + j) h.toNat (some n))
      | _, _ => none
    | none => none
  | _, _ => none

def optO (E : Env) : Option Operand → Option (Option AVal)
  | none => some none
  | some x => match evalO E x with
    | some v => some (some v)
    | none => none

def fieldAddrA (P : Program) (t : TypeId) (x : AVal) (f : Nat) : Option (Bool × AVal) :=
  match P.underlying t, x with
  | some (.struct fs), .ptr b i sz j => match fs.toList[f]? with
    | some fd => match sizeA P fd.type with
      | some (_ + 1) => some (true, .ptr b i sz (j + fd.offset))
      | _ => none
    | none => none
  | _, _ => none

def fieldA (P : Program) (t : TypeId) (x : AVal) (f : Nat) : Option (Bool × AVal) :=
  match P.underlying t, x with
  | some (.struct fs), .agg cs => match fs.toList[f]? with
    | some fd => match sizeA P fd.type, aggA P fd.type with
      | some m, some ag => match takeN m (cs.drop fd.offset) with
        | some r => match pack ag r with
          | some v => some (true, v)
          | none => none
        | none => none
      | _, _ => none
    | none => none
  | _, _ => none

def indexAddrA (P : Program) (t : TypeId) (x ix : AVal) : Option (Bool × AVal) :=
  match P.underlying t, x, ix with
  | some (.slice e), .sl b i sz j n _, .int _ k => match sizeA P e with
    | some (m + 1) => match Nat.beq (m + 1) sz with
      | true => some (decide (0 ≤ k ∧ k < n), .ptr b (i + k.toNat) sz j)
      | false => none
    | _ => none
  | some (.array n e), .ptr b i sz j, .int _ k => match sizeA P e with
    | some (m + 1) => match sz with
      | 0 => some (decide (0 ≤ k ∧ k < n), .ptr b k.toNat (m + 1) (i * 0 + j))
      | s + 1 => some (decide (0 ≤ k ∧ k < n), .ptr b i (s + 1) (j + k.toNat * (m + 1)))
    | _ => none
  | _, _, _ => none

def indexA (P : Program) (sm : Bool) (t : TypeId) (x ix : AVal) : Option (Bool × AVal) :=
  match P.underlying t, x, ix with
  | some .string, .str s, .int _ k => some (decide (0 ≤ k ∧ k < s.length), .int .u8 ((s.getD k.toNat 0).toNat : Int))
  | some (.array n e), .agg cs, .int _ k => match sizeA P e, aggA P e with
    | some (m + 1), some ag => match sm with
      | true => match selCells cs k.toNat (m + 1) n (m + 1) 0 with
        | some r => match pack ag r with
          | some v => some (decide (0 ≤ k ∧ k < n), v)
          | none => none
        | none => none
      | false => match takeN (m + 1) (cs.drop (k.toNat * (m + 1))) with
        | some r => match pack ag r with
          | some v => some (decide (0 ≤ k ∧ k < n), v)
          | none => none
        | none => none
    | _, _ => none
  | _, _, _ => none

def loadA (P : Program) (sm : Bool) (H : AHeap) (t : TypeId) (x : AVal) : Option (Bool × AVal) :=
  match x with
  | .ptr b i sz j => match H.get b with
    | some blk => match sizeA P t, aggA P t with
      | some m, some ag => match readCells sm blk i sz j m with
        | some (c, r) => match pack ag r with
          | some v => some (c, v)
          | none => none
        | none => none
      | _, _ => none
    | none => none
  | _ => none

def lenA (P : Program) (t : TypeId) (x : AVal) : Option (Bool × AVal) :=
  match P.underlying t, x with
  | some .string, .str s => some (true, .int .i64 (s.length : Int))
  | some (.slice _), .sl _ _ _ _ n _ => some (true, .int .i64 (n : Int))
  | some (.slice _), .nils => some (true, .int .i64 0)
  | some (.array n _), _ => some (true, .int .i64 (n : Int))
  | _, _ => none

def fillA : List (Nat × Nat) → List AVal → List (Nat × AVal) → Option (List AVal)
  | _, cells, [] => some cells
  | places, cells, (i, v) :: rest => match places[i]? with
    | some (off, s + 1) => match Nat.beq (cellsOfA v).length (s + 1) with
      | true => match replaceAt cells off (cellsOfA v) with
        | some r => fillA places r rest
        | none => none
      | false => none
    | _ => none

def placesA (P : Program) : List Field → Option (List (Nat × Nat))
  | [] => some []
  | f :: fs => match sizeA P f.type, placesA P fs with
    | some m, some r => some ((f.offset, m) :: r)
    | _, _ => none

def arrPlaces (m : Nat) : Nat → Nat → List (Nat × Nat)
  | 0, _ => []
  | n + 1, o => (o, m) :: arrPlaces m n (o + m)

def evalP (E : Env) : List (Nat × Operand) → Option (List (Nat × AVal))
  | [] => some []
  | (i, x) :: r => match evalO E x, evalP E r with
    | some v, some vs => some ((i, v) :: vs)
    | _, _ => none

def buildA (P : Program) (t : TypeId) (parts : List (Nat × AVal)) : Option (Bool × AVal) :=
  match zeroA P t with
  | some z => match P.underlying t with
    | some (.struct fs) => match placesA P fs.toList with
      | some ps => match fillA ps z parts with
        | some r => some (true, .agg r)
        | none => none
      | none => none
    | some (.array n e) => match sizeA P e with
      | some m => match fillA (arrPlaces m n 0) z parts with
        | some r => some (true, .agg r)
        | none => none
      | none => none
    | _ => none
  | none => none

def pickA (c a b : AVal) : Option (Bool × AVal) :=
  match c with
  | .bool true => some (true, a)
  | .bool false => some (true, b)
  | _ => none

def minMaxA (isMax : Bool) : List AVal → Option (Bool × AVal)
  | [.int .i64 x, .int .i64 y] => some (true, .int .i64 (match isMax with | true => max x y | false => min x y))
  | _ => none

/-- Is an interface's value nil? -/
def nilIfA (P : Program) (op : BinOp) (t : TypeId) (x : AVal) : Option (Bool × AVal) :=
  match P.underlying t with
  | some (.interface _) => match op, x with
    | .eql, .iface _ _ => some (true, .bool false)
    | .eql, .niface => some (true, .bool true)
    | .neq, .iface _ _ => some (true, .bool true)
    | .neq, .niface => some (true, .bool false)
    | _, _ => none
  | _ => none

def makeIfA (P : Program) (t : TypeId) (x : AVal) : Option (Bool × AVal) :=
  match P.underlying t with
  | some (.interface _) => none
  | some _ => some (true, .iface t x)
  | none => none

/-- A type's zero. -/
def zeroV (P : Program) (t : TypeId) : Option AVal :=
  match P.info? t with
  | some i => match i.zero with
    | some z => ofValue z
    | none => none
  | none => none

def assertA (P : Program) (as : TypeId) (ok : Bool) (x : AVal) : Option (Bool × AVal) :=
  match P.underlying as with
  | some (.interface _) => none
  | some _ => match x with
    | .iface t v => match Nat.beq t as with
      | true => match ok with
        | true => some (true, .tup [v, .bool true])
        | false => some (true, v)
      | false => match ok, zeroV P as with
        | true, some z => some (true, .tup [z, .bool false])
        | _, _ => none
    | .niface => match ok, zeroV P as with
      | true, some z => some (true, .tup [z, .bool false])
      | _, _ => none
    | _ => none
  | none => none

/-- A method of a pointer's type, by its name. -/
def methA (P : Program) (t : TypeId) (name : String) : Option FuncId :=
  match P.info? t, P.underlying t with
  | some i, some (.pointer _) => match i.methods.find? (·.name == name) with
    | some m => match m.path.toList, m.func with
      | [], some (f, true) => some f
      | _, _ => none
    | none => none
  | _, _ => none

def lookRes (z : AVal) (ok : Bool) : Option AVal → AVal
  | some v => match ok with
    | true => .tup [v, .bool true]
    | false => v
  | none => match ok with
    | true => .tup [z, .bool false]
    | false => z
/-- A map is asked. -/
def lookupA (P : Program) (H : AHeap) (t : TypeId) (x ix : AVal) (ok : Bool) : Option (Bool × AVal) :=
  match P.underlying t with
  | some (.map kt et) => match P.underlying kt with
    | some (.int .i64) => match ix with
      | .int .i64 n => match zeroV P et with
        | some z => match x with
          | .nilm => some (true, lookRes z ok none)
          | .map b => match H.get b with
            | some (.obj U s l) => match U.look s l n with
              | some (c, r) => some (c, lookRes z ok r)
              | none => none
            | _ => none
          | _ => none
        | none => none
      | _ => none
    | _ => none
  | _ => none

/-- What an operation comes to that leaves memory as it is and calls nobody. -/
def pureA (P : Program) (sm : Bool) (o : Oper) (E : Env) (H : AHeap) : Option (Bool × AVal) :=
  match o.op with
  | .move x | .assign x => match evalO E x with
    | some v => some (true, v)
    | none => none
  | .pick c a b => match evalO E c with
    | some (.bool true) => match evalO E a with
      | some v => some (true, v)
      | none => none
    | some (.bool false) => match evalO E b with
      | some v => some (true, v)
      | none => none
    | _ => none
  | .load t x => match evalO E x with
    | some v => loadA P sm H t v
    | none => none
  | .nilCheck x => match evalO E x with
    | some (.ptr b i sz j) => some (true, .ptr b i sz j)
    | some (.func f first cap) => some (true, .func f first cap)
    | some (.meth m (.iface t v)) => match methA P t m with
      | some _ => some (true, .meth m (.iface t v))
      | none => none
    | _ => none
  | .binOp op t x y _ => match y with
    | .const .nilIface => match evalO E x with
      | some a => nilIfA P op t a
      | none => none
    | y => match evalO E x, evalO E y with
      | some a, some b => binA P op t a b
      | _, _ => none
  | .makeInterface t x => match evalO E x with
    | some v => makeIfA P t v
    | none => none
  | .typeAssert x _ as ok => match evalO E x with
    | some v => assertA P as ok v
    | none => none
  | .unOp op _ x => match evalO E x with
    | some v => unA op v
    | none => none
  | .convert s d x => match evalO E x with
    | some v => convA P H s d v
    | none => none
  | .slice t x lo hi none => match evalO E x, optO E lo, optO E hi with
    | some v, some l, some h => sliceA P H t v l h
    | _, _, _ => none
  | .fieldAddr t x f => match evalO E x with
    | some v => fieldAddrA P t v f
    | none => none
  | .field t x f => match evalO E x with
    | some v => fieldA P t v f
    | none => none
  | .indexAddr t x ix => match evalO E x, evalO E ix with
    | some v, some i => indexAddrA P t v i
    | _, _ => none
  | .index t x ix => match evalO E x, evalO E ix with
    | some v, some i => indexA P sm t v i
    | _, _ => none
  | .lookup t x ix ok => match evalO E x, evalO E ix with
    | some v, some i => lookupA P H t v i ok
    | _, _ => none
  | .extract x ix => match evalO E x with
    | some (.tup vs) => match nth vs ix with
      | some v => some (true, v)
      | none => none
    | _ => none
  | .build t parts => match evalP E parts.toList with
    | some ps => buildA P t ps
    | none => none
  | .makeFunc (.method m) first cap => match first.toList, cap.toList with
    | [x], [] => match evalO E x with
      | some a => some (true, .meth m a)
      | none => none
    | _, _ => none
  | .makeFunc (.func f) first cap => match evalL E first.toList, evalL E cap.toList with
    | some a, some b => some (true, .func f a b)
    | _, _ => none
  | .call { callee := .builtin .len, args := ⟨[x]⟩, argTypes := ⟨[t]⟩ } => match evalO E x with
    | some v => lenA P t v
    | none => none
  | .call { callee := .builtin .min, args := args, .. } => match evalL E args.toList with
    | some vs => minMaxA false vs
    | none => none
  | .call { callee := .builtin .max, args := args, .. } => match evalL E args.toList with
    | some vs => minMaxA true vs
    | none => none
  | _ => none

end Go.Proofs.Ytcgnoegejmhgmaa.Ev

/-
  Ev: what is reckoned of an operation that leaves memory as it is, it does.
-/
namespace Go.Proofs.Ytcgnoegejmhgmaa.Ev
set_option linter.unusedVariables false
set_option linter.unusedSimpArgs false
open Go.RowKit

theorem nth_eq : ∀ (l : List AVal) (n : Nat), nth l n = l[n]?
  | [], n => by simp [nth]
  | v :: l, 0 => by simp [nth]
  | v :: l, n + 1 => by simp [nth, nth_eq l n]

theorem takeN_spec : ∀ {n : Nat} {l r : List AVal}, takeN n l = some r → r = l.take n ∧ n ≤ l.length
  | 0, l, r, h => by simp only [takeN, Option.some.injEq] at h; subst h; simp
  | n + 1, [], r, h => by simp [takeN] at h
  | n + 1, v :: l, r, h => by
    simp only [takeN] at h
    split at h <;> try cases h
    rename_i r' hr
    obtain ⟨h1, h2⟩ := takeN_spec hr
    subst h1
    simpa using h2

theorem replaceAt_spec : ∀ {l : List AVal} {o : Nat} {vs r : List AVal}, replaceAt l o vs = some r → (vs = [] ∧ r = l) ∨ (o + vs.length ≤ l.length ∧ r = l.take o ++ vs ++ l.drop (o + vs.length))
  | l, o, [], r, h => by
    cases l <;> simp only [replaceAt, Option.some.injEq] at h <;> exact .inl ⟨rfl, h.symm⟩
  | [], o, v :: vs, r, h => by cases o <;> simp [replaceAt] at h
  | x :: l, 0, v :: vs, r, h => by
    simp only [replaceAt] at h
    split at h <;> try cases h
    rename_i r' hr
    rcases replaceAt_spec hr with ⟨rfl, rfl⟩ | ⟨h1, rfl⟩
    · right; simp
    · right; simp at h1 ⊢; exact h1
  | x :: l, o + 1, v :: vs, r, h => by
    simp only [replaceAt] at h
    split at h <;> try cases h
    rename_i r' hr
    rcases replaceAt_spec hr with ⟨h0, rfl⟩ | ⟨h1, rfl⟩
    · cases h0
    · right
      refine ⟨by simp at h1 ⊢; omega, ?_⟩
      rw [show o + 1 + (v :: vs).length = o + (v :: vs).length + 1 by omega]
      simp only [List.take_succ_cons, List.drop_succ_cons, List.cons_append]

theorem replaceAt_length {l : List AVal} {o : Nat} {vs r : List AVal} (h : replaceAt l o vs = some r) : r.length = l.length := by
  rcases replaceAt_spec h with ⟨_, rfl⟩ | ⟨h1, rfl⟩
  · rfl
  · simp; omega

theorem replaceAt_all {l : List AVal} {o : Nat} {vs r : List AVal} (h : replaceAt l o vs = some r) (f : AVal → Bool) (hl : l.all f = true) (hv : vs.all f = true) : r.all f = true := by
  rcases replaceAt_spec h with ⟨_, rfl⟩ | ⟨h1, rfl⟩
  · exact hl
  · simp only [List.all_eq_true, List.mem_append] at hl hv ⊢
    rintro x ((hx | hx) | hx)
    · exact hl x (List.mem_of_mem_take hx)
    · exact hv x hx
    · exact hl x (List.mem_of_mem_drop hx)

theorem belowL_take {N : Nat} {l : List AVal} (h : belowL N l = true) (n : Nat) : belowL N (l.take n) = true := by
  rw [belowL_eq, List.all_eq_true] at h ⊢
  exact fun x hx => h x (List.mem_of_mem_take hx)

theorem belowL_drop {N : Nat} {l : List AVal} (h : belowL N l = true) (n : Nat) : belowL N (l.drop n) = true := by
  rw [belowL_eq, List.all_eq_true] at h ⊢
  exact fun x hx => h x (List.mem_of_mem_drop hx)

theorem intsOf_spec {k : IntKind} : ∀ {l : List AVal} {r : List Int}, intsOf k l = some r → l = r.map (AVal.int k)
  | [], r, h => by simp only [intsOf, Option.some.injEq] at h; subst h; rfl
  | v :: l, r, h => by
    cases v <;> simp only [intsOf, reduceCtorEq] at h
    rename_i k' n
    split at h <;> try cases h
    rename_i hk
    subst hk
    split at h <;> try cases h
    rename_i r' hr
    rw [intsOf_spec hr]; rfl

theorem strsOf_spec : ∀ {l : List AVal} {r : List (List UInt8)}, strsOf l = some r → l = r.map AVal.str
  | [], r, h => by simp only [strsOf, Option.some.injEq] at h; subst h; rfl
  | v :: l, r, h => by
    cases v <;> simp only [strsOf, reduceCtorEq] at h
    split at h <;> try cases h
    rename_i r' hr
    rw [strsOf_spec hr]; rfl

theorem boolsOf_spec : ∀ {l : List AVal} {r : List Bool}, boolsOf l = some r → l = r.map AVal.bool
  | [], r, h => by simp only [boolsOf, Option.some.injEq] at h; subst h; rfl
  | v :: l, r, h => by
    cases v <;> simp only [boolsOf, reduceCtorEq] at h
    split at h <;> try cases h
    rename_i r' hr
    rw [boolsOf_spec hr]; rfl

theorem selOne_spec {i : Nat} {l : List AVal} {v : AVal} (h : selOne i l = some v) (hi : i < l.length) : l[i]? = some v := by
  unfold selOne at h
  split at h <;> try cases h
  · split at h <;> try cases h
    rename_i xs hx
    rw [intsOf_spec hx] at hi ⊢
    simp at hi
    simp [hi]
  · split at h <;> try cases h
    rename_i xs hx
    rw [strsOf_spec hx] at hi ⊢
    simp at hi
    simp [hi]
  · split at h <;> try cases h
    rename_i xs hx
    rw [boolsOf_spec hx] at hi ⊢
    simp at hi
    simp [hi]

theorem selOne_data {i : Nat} {l : List AVal} {v : AVal} (h : selOne i l = some v) : v.data = true := by
  unfold selOne at h
  split at h <;> try cases h
  all_goals
    split at h <;> try cases h
    rfl

theorem column_spec {l : List AVal} {sz : Nat} : ∀ {c o : Nat} {r : List AVal}, column l sz c o = some r → r.length = c ∧ ∀ i, i < c → r[i]? = l[o + i * sz]?
  | 0, o, r, h => by simp only [column, Option.some.injEq] at h; subst h; simp
  | c + 1, o, r, h => by
    simp only [column] at h
    split at h <;> try cases h
    rename_i v hv
    split at h <;> try cases h
    rename_i r' hr
    obtain ⟨h1, h2⟩ := column_spec hr
    refine ⟨by simp [h1], fun i hi => ?_⟩
    cases i with
    | zero => rw [nth_eq] at hv; simp [hv]
    | succ i =>
      have := h2 i (by omega)
      simp only [List.getElem?_cons_succ, this]
      congr 1
      rw [Nat.add_mul]; omega

theorem selCells_spec {l : List AVal} {i sz c : Nat} (hi : i < c) : ∀ {m j : Nat} {r : List AVal}, selCells l i sz c m j = some r → r.length = m ∧ r.all AVal.data = true ∧ ∀ x, x < m → r[x]? = l[j + x + i * sz]?
  | 0, j, r, h => by simp only [selCells, Option.some.injEq] at h; subst h; simp
  | m + 1, j, r, h => by
    simp only [selCells] at h
    split at h <;> try cases h
    rename_i col hcol
    split at h <;> try cases h
    rename_i v hv
    split at h <;> try cases h
    rename_i r' hr
    obtain ⟨h1, h2, h3⟩ := selCells_spec hi hr
    obtain ⟨c1, c2⟩ := column_spec hcol
    refine ⟨by simp [h1], by simp [selOne_data hv]; simpa using h2, fun x hx => ?_⟩
    cases x with
    | zero =>
      have e := selOne_spec hv (by omega)
      rw [c2 i hi] at e
      simp [e]
    | succ x =>
      have := h3 x (by omega)
      simp only [List.getElem?_cons_succ, this]
      congr 1
      omega

theorem setOne_spec {c : Bool} {u v w : AVal} (h : setOne c u v = some w) : w = (if c then v else u) ∧ w.data = true := by
  unfold setOne at h
  split at h
  · split at h <;> try cases h
    rename_i hk
    subst hk
    cases c <;> simp [AVal.data]
  · cases h; cases c <;> simp [AVal.data]
  · cases h; cases c <;> simp [AVal.data]
  · cases h

theorem setSel_spec {i : Nat} {v : AVal} : ∀ {l : List AVal} {x : Nat} {r : List AVal}, setSel i v l x = some r → r.length = l.length ∧ r.all AVal.data = true ∧ ∀ y, y < l.length → r[y]? = if i = x + y then some v else l[y]?
  | [], x, r, h => by simp only [setSel, Option.some.injEq] at h; subst h; simp
  | u :: l, x, r, h => by
    simp only [setSel] at h
    split at h <;> try cases h
    rename_i w hw
    split at h <;> try cases h
    rename_i r' hr
    obtain ⟨h1, h2, h3⟩ := setSel_spec hr
    obtain ⟨w1, w2⟩ := setOne_spec hw
    refine ⟨by simp [h1], by simp [w2]; simpa using h2, fun y hy => ?_⟩
    cases y with
    | zero => simp only [List.getElem?_cons_zero, w1, Nat.add_zero]; by_cases hix : i = x <;> simp [hix]
    | succ y =>
      have := h3 y (by simp at hy; omega)
      simp only [List.getElem?_cons_succ, this]
      have e : (i = x + 1 + y) = (i = x + (y + 1)) := by rw [show x + 1 + y = x + (y + 1) by omega]
      simp only [e]

theorem pack_spec {ag : Bool} {cs : List AVal} {v : AVal} (h : pack ag cs = some v) : (ag = true ∧ v = .agg cs) ∨ (ag = false ∧ cs = [v]) := by
  unfold pack at h
  cases ag
  · right
    simp only at h
    split at h <;> simp_all
  · left; simpa using h.symm

/-! ### types -/

section
variable {P : Program}

theorem sizeA_run {t : TypeId} {m : Nat} (h : sizeA P t = some m) (w : World) : (sizeOf t).run P w = .ok m w := by
  unfold sizeA at h
  split at h <;> try cases h
  rename_i i hi
  simp [sizeOf, typeInfo, hi]

theorem aggA_run {t : TypeId} {ag : Bool} (h : aggA P t = some ag) (w : World) : (isAgg t).run P w = .ok ag w := by
  unfold aggA at h
  simp only [isAgg, underlying, Sem.run_bind, run_program, Result.andThen_ok]
  split at h
  · rename_i hu; cases h; simp [hu]
  · rename_i hu; cases h; simp [hu]
  · rename_i d h1 h2 hu
    cases h
    simp only [hu]
    cases d <;> first | rfl | (exfalso; first | exact h1 _ rfl | exact h2 _ _ rfl)
  · cases h

theorem zeroA_run {t : TypeId} {l : List AVal} (h : zeroA P t = some l) (w : World) : ∃ z : Value, (zeroValue t).run P w = .ok z w ∧ (∃ i, P.info? t = some i ∧ i.zero = some z) ∧ (∀ ρ, trL ρ l = z.cells.toList) ∧ (∀ N, belowL N l = true) ∧ l.all AVal.scalar = true := by
  unfold zeroA at h
  split at h <;> try cases h
  rename_i i hi
  split at h <;> try cases h
  rename_i z hz
  refine ⟨z, by simp [zeroValue, typeInfo, hi, hz], ⟨i, hi, hz⟩, fun ρ => (ofCells_tr h ρ).1, fun N => (ofCells_tr h ⟨id, id, id, fun _ _ => False⟩).2.1 N, (ofCells_tr h ⟨id, id, id, fun _ _ => False⟩).2.2⟩

theorem trL_take (ρ : Rho) (l : List AVal) (n : Nat) : trL ρ (l.take n) = (trL ρ l).take n := by rw [trL_eq, trL_eq, List.map_take]
theorem trL_drop (ρ : Rho) (l : List AVal) (n : Nat) : trL ρ (l.drop n) = (trL ρ l).drop n := by rw [trL_eq, trL_eq, List.map_drop]
theorem trL_append (ρ : Rho) (l m : List AVal) : trL ρ (l ++ m) = trL ρ l ++ trL ρ m := by rw [trL_eq, trL_eq, trL_eq, List.map_append]
theorem trL_length (ρ : Rho) (l : List AVal) : (trL ρ l).length = l.length := by rw [trL_eq, List.length_map]
theorem trL_get (ρ : Rho) (l : List AVal) (i : Nat) : (trL ρ l)[i]? = (l[i]?).map (tr ρ) := by rw [trL_eq, List.getElem?_map]

/-- A part of a value that is in cells. -/
theorem part_run {t : TypeId} {m : Nat} {ag : Bool} (hm : sizeA P t = some m) (ha : aggA P t = some ag) {ρ : Rho} {cs r : List AVal} {v : AVal} {o : Nat} (hr : takeN m (cs.drop o) = some r) (hv : pack ag r = some v) (w : World) :
    (part t (trL ρ cs).toArray o).run P w = .ok (tr ρ v) w := by
  obtain ⟨rfl, hl⟩ := takeN_spec hr
  have h1 := aggA_run ha w
  have h2 := sizeA_run hm w
  simp only [List.length_drop] at hl
  rcases pack_spec hv with ⟨rfl, rfl⟩ | ⟨rfl, hc⟩
  · simp only [part, Sem.run_bind, h1, Result.andThen_ok, if_true, h2, Sem.run_pure]
    congr 2
    simp only [tr, trL_take, trL_drop]
    simp [Nat.add_sub_cancel_left]
  · simp only [part, Sem.run_bind, h1, Result.andThen_ok, Bool.false_eq_true, if_false]
    have e : (cs.drop o)[0]? = some v := by
      have : (List.take m (cs.drop o))[0]? = some v := by rw [hc]; rfl
      rw [List.getElem?_take] at this
      split at this
      · exact this
      · cases this
    rw [List.getElem?_drop, Nat.add_zero] at e
    have : (trL ρ cs).toArray[o]? = some (tr ρ v) := by simp [trL_get, e]
    simp [this]

end

end Go.Proofs.Ytcgnoegejmhgmaa.Ev

/-
  Ev: cells read as they are reckoned.
-/
namespace Go.Proofs.Ytcgnoegejmhgmaa.Ev
set_option linter.unusedVariables false
set_option linter.unusedSimpArgs false
open Go.RowKit

theorem flat_length (T : RowTy) : ∀ l : List T.α, (T.flat l).length = l.length * T.sz
  | [] => by simp [RowTy.flat]
  | a :: l => by
    have := flat_length T l
    simp only [RowTy.flat, List.flatMap_cons, List.length_append, T.len, List.length_cons] at this ⊢
    rw [this, Nat.add_mul]; omega

theorem flat_get (T : RowTy) : ∀ (l : List T.α) (i : Nat) (a : T.α) (y : Nat), l[i]? = some a → y < T.sz → (T.flat l)[i * T.sz + y]? = (T.enc a)[y]?
  | [], i, a, y, h, _ => by simp at h
  | b :: l, 0, a, y, h, hy => by
    simp only [List.getElem?_cons_zero, Option.some.injEq] at h
    subst h
    simp only [RowTy.flat, List.flatMap_cons, Nat.zero_mul, Nat.zero_add]
    rw [List.getElem?_append_left (by rw [T.len]; exact hy)]
  | b :: l, i + 1, a, y, h, hy => by
    simp only [List.getElem?_cons_succ] at h
    have := flat_get T l i a y h hy
    simp only [RowTy.flat, List.flatMap_cons] at this ⊢
    rw [List.getElem?_append_right (by rw [T.len, Nat.add_mul]; omega), T.len, ← this]
    congr 1
    rw [Nat.add_mul]; omega

theorem flat_data (T : RowTy) (l : List T.α) : (T.flat l).all AVal.data = true := by
  rw [List.all_eq_true]
  intro x hx
  simp only [RowTy.flat, List.mem_flatMap] at hx
  obtain ⟨a, _, ha⟩ := hx
  have := T.isData a
  rw [List.all_eq_true] at this
  exact this x ha

theorem cell_of_heap {w : World} {g : Nat} {cs : Array Value} {e : TypeId} {fz : Nat × Nat} (h : w.heap[g]? = some (.cells cs e fz)) (o : Nat) : w.cell? ⟨g, o, none⟩ = cs[o]? := by
  simp [World.cell?, h]

/-- What a row's cells hold. -/
theorem row_cell {ρ : Rho} {w : World} {b : Nat} {e : TypeId} {T : RowTy} {l : List T.α} {md : RowMd} (h : (ABlk.row e T l md).ok ρ w b) {o : Nat} {v : AVal} (hv : (T.flat l)[o]? = some v) : w.cell? ⟨ρ.blk b, ρ.off b + o, none⟩ = some (tr ρ v) := by
  by_cases hmd : md = .ro
  · subst hmd
    exact h.2.2.2 o v hv
  · obtain ⟨h0, h1, h2, cur, fz, h3, h4, h5, h6⟩ := (ABlk.ok_own hmd).1 h
    have ho : o < l.length * T.sz := by
      have := (List.getElem?_eq_some_iff.1 hv).1
      rwa [flat_length] at this
    rw [h0, Nat.zero_add, cell_of_heap h3]
    have e1 : (cur.toList.take (l.length * T.sz))[o]? = (trL ρ (T.flat l))[o]? := by rw [h6]
    rw [List.getElem?_take, if_pos ho, trL_get, hv] at e1
    simpa using e1

theorem readCells_cells {sm : Bool} {x : ABlk} {i sz j m b : Nat} {r : List AVal} {ρ : Rho} {w : World} (h : readCells sm x i sz j m = some (true, r)) (hok : x.ok ρ w b) {N : Nat} (hN : x.under N = true) :
    r.length = m ∧ belowL N r = true ∧ r.all AVal.scalar = true ∧ ∀ y v, r[y]? = some v → w.cell? ⟨ρ.blk b, ρ.off b + (i * sz + j) + y, none⟩ = some (tr ρ v) := by
  cases x with
  | dead => simp [readCells] at h
  | obj U s l => simp [readCells] at h
  | cells e l =>
    obtain ⟨h0, hsc, fz, hh, _⟩ := hok
    have plain : ∀ o r, takeN m (l.drop o) = some r → r.length = m ∧ belowL N r = true ∧ r.all AVal.scalar = true ∧ ∀ y v, r[y]? = some v → w.cell? ⟨ρ.blk b, ρ.off b + o + y, none⟩ = some (tr ρ v) := by
      intro o r hr
      obtain ⟨rfl, hl⟩ := takeN_spec hr
      refine ⟨by rw [List.length_take]; omega, belowL_take (belowL_drop hN _) _, ?_, ?_⟩
      · rw [List.all_eq_true] at hsc ⊢
        exact fun x hx => hsc x (List.mem_of_mem_drop (List.mem_of_mem_take hx))
      · intro y v hy
        rw [List.getElem?_take] at hy
        split at hy <;> try cases hy
        rw [List.getElem?_drop] at hy
        rw [h0, Nat.zero_add, cell_of_heap hh]
        simp [trL_get, hy]
    simp only [readCells] at h
    split at h
    · split at h <;> try cases h
      rename_i r' hr
      simpa using plain j r hr
    · rename_i s
      split at h
      · split at h <;> try cases h
        rename_i r' hr
        simp only [Option.some.injEq, Prod.mk.injEq, decide_eq_true_eq] at h
        obtain ⟨hi, rfl⟩ := h
        obtain ⟨h1, h2, h3⟩ := selCells_spec hi hr
        refine ⟨h1, ?_, ?_, ?_⟩
        · rw [belowL_eq, List.all_eq_true]
          rw [List.all_eq_true] at h2
          exact fun x hx => AVal.data_below (h2 x hx) N
        · rw [List.all_eq_true] at h2 ⊢
          exact fun x hx => AVal.data_scalar (h2 x hx)
        · intro y v hy
          have hym : y < m := by rw [← h1]; exact (List.getElem?_eq_some_iff.1 hy).1
          rw [h3 y hym] at hy
          rw [h0, Nat.zero_add, cell_of_heap hh]
          have : i * (s + 1) + j + y = j + y + i * (s + 1) := by omega
          simp [trL_get, this, hy]
      · split at h <;> try cases h
        rename_i r' hr
        exact plain _ r hr
  | row e T l md =>
    simp only [readCells] at h
    split at h <;> try cases h
    rename_i hsz
    have hsz := nat_beq_eq.1 hsz
    subst hsz
    split at h <;> try cases h
    rename_i r' hr
    simp only [Option.some.injEq, Prod.mk.injEq, decide_eq_true_eq] at h
    obtain ⟨hi, rfl⟩ := h
    obtain ⟨rfl, hl⟩ := takeN_spec hr
    have hget : l[i]? = some (l.getD i T.dflt) := by simp [List.getD, List.getElem?_eq_getElem hi]
    have hd := T.isData (l.getD i T.dflt)
    rw [List.all_eq_true] at hd
    refine ⟨by rw [List.length_take]; omega, ?_, ?_, ?_⟩
    · rw [belowL_eq, List.all_eq_true]
      exact fun x hx => AVal.data_below (hd x (List.mem_of_mem_drop (List.mem_of_mem_take hx))) N
    · rw [List.all_eq_true]
      exact fun x hx => AVal.data_scalar (hd x (List.mem_of_mem_drop (List.mem_of_mem_take hx)))
    · intro y v hy
      rw [List.getElem?_take] at hy
      split at hy <;> try cases hy
      rw [List.getElem?_drop] at hy
      have hjy : j + y < T.sz := by
        have := (List.getElem?_eq_some_iff.1 hy).1
        rwa [T.len] at this
      have := flat_get T l i _ (j + y) hget hjy
      rw [hy] at this
      have := row_cell hok this
      rw [← this]
      congr 2
      omega

section
variable {P : Program}

theorem load_cells {ρ : Rho} {w : World} {g o m : Nat} {r : List AVal} (hl : r.length = m) (h : ∀ y v, r[y]? = some v → w.cell? ⟨g, o + y, none⟩ = some (tr ρ v)) : (loadCells ⟨g, o, none⟩ m).run P w = .ok (trL ρ r).toArray w := by
  have := run_loadCells_list (P := P) w ⟨g, o, none⟩ (trL ρ r) (fun j v hv => by
    have e : (⟨g, o, none⟩ : Addr).add j = ⟨g, o + j, none⟩ := by unfold Addr.add; split <;> simp_all
    rw [e]
    rw [trL_get] at hv
    cases hr : r[j]? with
    | none => simp [hr] at hv
    | some x => simp [hr] at hv; subst hv; exact h j x hr)
  rw [trL_length, hl] at this
  exact this

theorem load_var {t : TypeId} {m : Nat} {ag : Bool} (hm : sizeA P t = some m) (ha : aggA P t = some ag) {ρ : Rho} {w : World} {g o : Nat} {r : List AVal} {v : AVal} (hl : r.length = m) (h : ∀ y v, r[y]? = some v → w.cell? ⟨g, o + y, none⟩ = some (tr ρ v)) (hv : pack ag r = some v) :
    (loadVar t ⟨g, o, none⟩).run P w = .ok (tr ρ v) w := by
  have h1 := aggA_run ha w
  have h2 := sizeA_run hm w
  rcases pack_spec hv with ⟨hag, hc⟩ | ⟨hag, hc⟩
  · subst hag hc
    simp only [loadVar, Sem.run_bind, h1, Result.andThen_ok, if_true, h2, load_cells hl h, Sem.run_pure]
    rfl
  · subst hag
    have := h 0 v (by rw [hc]; rfl)
    simp only [loadVar, Sem.run_bind, h1, Result.andThen_ok, Bool.false_eq_true, if_false, run_load]
    simp only [Nat.add_zero] at this
    simp [this]

theorem loadA_sound {sm : Bool} {H : AHeap} {t : TypeId} {x v : AVal} (h : loadA P sm H t x = some (true, v)) {ρ : Rho} {w : World} {N : Nat} (hH : ∀ b y, H.get b = some y → y.under N = true ∧ y.ok ρ w b) :
    (Instr.loadAt t (tr ρ x)).run P w = .ok (tr ρ v) w ∧ v.under N = true := by
  cases x <;> simp only [loadA, reduceCtorEq] at h
  rename_i b i sz j
  split at h <;> try cases h
  rename_i blk hb
  split at h <;> try cases h
  rename_i m ag hm ha
  split at h <;> try cases h
  rename_i c r hr
  split at h <;> try cases h
  rename_i hv
  obtain ⟨k1, k2⟩ := hH b blk hb
  obtain ⟨r1, r2, r3, r4⟩ := readCells_cells hr k2 k1
  refine ⟨?_, ?_⟩
  · simp only [tr, Instr.loadAt, Instr.sureAddr, Sem.run_bind, Sem.run_pure, Result.andThen_ok]
    exact load_var hm ha r1 r4 hv
  · rcases pack_spec hv with ⟨rfl, rfl⟩ | ⟨rfl, rfl⟩
    · simpa [AVal.under] using r2
    · simpa [belowL] using r2

end

end Go.Proofs.Ytcgnoegejmhgmaa.Ev

/-
  Ev: arithmetic, strings, equality, conversions, slices, fields, indexes: each does as it is reckoned.
-/
namespace Go.Proofs.Ytcgnoegejmhgmaa.Ev
set_option linter.unusedVariables false
set_option linter.unusedSimpArgs false
open Go.RowKit

theorem aWrap_sound {k : IntKind} {n m : Int} (h : aWrap k n = some (true, m)) : k.wrap n = m := by
  unfold aWrap at h
  split at h
  · simp only [Option.some.injEq, Prod.mk.injEq, inI64, decide_eq_true_eq] at h
    obtain ⟨h1, rfl⟩ := h
    exact IntWalk.i64_in n h1
  · simp only [Option.some.injEq, Prod.mk.injEq, true_and] at h; subst h; exact IntKind.wrap_u8' n
  · simp only [Option.some.injEq, Prod.mk.injEq, true_and] at h; subst h; exact IntKind.wrap_u16 n
  · simp only [Option.some.injEq, Prod.mk.injEq, true_and] at h; subst h; exact IntKind.wrap_u32' n
  · simp only [Option.some.injEq, Prod.mk.injEq, true_and] at h; subst h; exact IntKind.wrap_u64 n
  · cases h

section
variable {P : Program} (w : World)

theorem intA_sound {op : BinOp} {k : IntKind} {x y : Int} {v : AVal} (h : intA op k x y = some (true, v)) (t : TypeId) (ρ : Rho) : (binOp op t (.int k x) (.int k y)).run P w = .ok (tr ρ v) w ∧ v.data = true := by
  cases op <;> simp only [intA, Option.some.injEq, Prod.mk.injEq, true_and, reduceCtorEq] at h
  case add | sub | mul =>
    split at h <;> try cases h
    rename_i n hn
    have := aWrap_sound hn
    simp [binOp, Op.intArith, this, tr, AVal.data]
  case quo =>
    split at h <;> try cases h
    rename_i c n hn
    simp only [Option.some.injEq, Prod.mk.injEq, Bool.and_eq_true, decide_eq_true_eq] at h
    obtain ⟨⟨⟨hx, hy⟩, rfl⟩, rfl⟩ := h
    have := aWrap_sound hn
    have hy0 : ¬ y = 0 := by omega
    simp [binOp, Op.intDiv, hy0, Int.tdiv_eq_ediv_of_nonneg hx, this, tr, AVal.data]
  case rem =>
    simp only [decide_eq_true_eq] at h
    obtain ⟨⟨hx, hy⟩, rfl⟩ := h
    have hy0 : ¬ y = 0 := by omega
    simp [binOp, Op.intDiv, hy0, Int.tmod_eq_emod_of_nonneg hx, tr, AVal.data]
  all_goals
    subst h
    simp [binOp, Op.intBits, Op.intCmp, bitsA, tr, AVal.data]
    try rfl

theorem pow2_pos (k : IntKind) (y : Int) : 0 < pow2 k y := by
  unfold pow2
  exact Int.pow_pos (by decide)

theorem shiftA_sound {op : BinOp} {k : IntKind} {x y : Int} {v : AVal} (h : shiftA op k x y = some (true, v)) (t : TypeId) (yk : IntKind) (ρ : Rho) : (binOp op t (.int k x) (.int yk y)).run P w = .ok (tr ρ v) w ∧ v.data = true := by
  cases op <;> simp only [shiftA, reduceCtorEq] at h
  case shl =>
    split at h <;> try cases h
    rename_i c n hn
    simp only [Option.some.injEq, Prod.mk.injEq, Bool.and_eq_true, decide_eq_true_eq] at h
    obtain ⟨⟨hy, rfl⟩, rfl⟩ := h
    have := aWrap_sound hn
    unfold pow2 at this
    have hy0 : ¬ y < 0 := by omega
    simp [binOp, Op.shift, hy0, this, tr, AVal.data]
  case shr =>
    simp only [Option.some.injEq, Prod.mk.injEq, decide_eq_true_eq] at h
    obtain ⟨hy, rfl⟩ := h
    have hy0 : ¬ y < 0 := by omega
    have hp := pow2_pos k y
    simp only [binOp, Op.shift, hy0, if_false, Sem.run_pure, tr, AVal.data, and_true]
    congr 2
    rw [Int.fdiv_eq_ediv_of_nonneg _ (by unfold pow2 at hp; exact Int.le_of_lt hp)]
    rfl

theorem str_toList (a : List UInt8) : (⟨a.toArray⟩ : ByteArray).toList = a := by rw [ByteArray.toList_eq]

theorem str_append (a b : List UInt8) : (⟨a.toArray⟩ : ByteArray) ++ ⟨b.toArray⟩ = ⟨(a ++ b).toArray⟩ := by
  apply ByteArray.ext
  simp [ByteArray.data_append]

theorem str_size (a : List UInt8) : (⟨a.toArray⟩ : ByteArray).size = a.length := by simp [ByteArray.size]

/-! ### equality -/

theorem beq_dec {α : Type} [DecidableEq α] (a b : α) : (a == b) = decide (a = b) := by
  by_cases h : a = b <;> simp [h]

theorem eqT_sound : ∀ (d D : Nat) (t : TypeId) (x y : AVal) (r : Bool), d ≤ D → eqT P d t x y = some r → ∀ ρ, (Op.equalIn D t (tr ρ x) (tr ρ y)).run P w = .ok r w := by
  intro d
  induction d with
  | zero => intro D t x y r _ h; simp [eqT] at h
  | succ d ih =>
    intro D t x y r hD h ρ
    obtain ⟨D, rfl⟩ : ∃ D', D = D' + 1 := ⟨D - 1, by omega⟩
    simp only [eqT] at h
    split at h
    · rename_i hu
      simp only [Option.some.injEq] at h; subst h
      simp [Op.equalIn, run_underlying hu, tr]
    · rename_i hu
      split at h <;> try cases h
      rename_i hk
      subst hk
      simp [Op.equalIn, run_underlying hu, tr, beq_dec]
    · rename_i hu
      simp only [Option.some.injEq] at h; subst h
      rename_i a b
      have e : ((⟨a.toArray⟩ : ByteArray) == ⟨b.toArray⟩) = decide (a = b) := by
        rw [beq_toListBytes, str_toList, str_toList]
        by_cases hab : a = b <;> simp [hab]
      simp [Op.equalIn, run_underlying hu, tr, e]
    · rename_i fs xs ys hu
      split at h <;> try cases h
      rename_i hst
      have hf : P.fieldsOf t = fs := by simp [Program.fieldsOf, hu]
      have := run_equalIn_struct (P := P) w D t (trL ρ xs).toArray (trL ρ ys).toArray (by rw [hf]; exact hu) hst
      simp only [tr]
      rw [this, hf]
      clear this hf hu
      generalize fs.toList = l at h
      induction l generalizing r with
      | nil => simp only [eqFs, Option.some.injEq] at h; subst h; simp [Op.eqFields]
      | cons f l ihl =>
        simp only [eqFs] at h
        split at h
        · rename_i hn
          have hn' : ¬ f.name ≠ "_" := by simpa using hn
          simp only [Op.eqFields, hn', if_false]
          exact ihl r h
        · rename_i hn
          have hn' : f.name ≠ "_" := by simpa using hn
          split at h <;> try cases h
          rename_i m ag hm ha
          split at h <;> try cases h
          rename_i a b hta htb
          split at h <;> try cases h
          rename_i a' b' hpa hpb
          split at h <;> try cases h
          rename_i r1 r2 h1 h2
          simp only [Op.eqFields, hn', ne_eq, not_false_eq_true, if_true, Sem.run_bind, part_run hm ha hta hpa, part_run hm ha htb hpb, Result.andThen_ok, ih D f.type a' b' r1 (by omega) h1 ρ]
          cases r1
          · simp
          · simp [ihl r2 h2]
    · rename_i n e xs ys hu
      split at h <;> try cases h
      rename_i m ag hm ha
      simp only [Op.equalIn, tr, Sem.run_bind, run_underlying hu, Result.andThen_ok, sizeA_run hm, Std.Legacy.Range.forIn_eq_forIn_range', Std.Legacy.Range.size, Nat.sub_zero, Nat.add_sub_cancel, Nat.div_one]
      have key : ∀ (k i : Nat) (r : Bool), eqAs ag m (eqT P d e) xs ys k (i * m) = some r →
          ((forIn (List.range' i k) ((none, ()) : Option Bool × Unit) fun i _ => do
              let a ← part e (trL ρ xs).toArray (i * m)
              let b ← part e (trL ρ ys).toArray (i * m)
              let r ← Op.equalIn D e a b
              if (!r) = true then pure (ForInStep.done (some false, ())) else pure (ForInStep.yield (none, ())) : Sem (Option Bool × Unit))).run P w = .ok (if r then (none, ()) else (some false, ())) w := by
        intro k
        induction k with
        | zero => intro i r h; simp only [eqAs, Option.some.injEq] at h; subst h; simp
        | succ k ihk =>
          intro i r h
          simp only [eqAs] at h
          split at h <;> try cases h
          rename_i a b hta htb
          split at h <;> try cases h
          rename_i a' b' hpa hpb
          split at h <;> try cases h
          rename_i r1 r2 h1 h2
          rw [show i * m + m = (i + 1) * m by rw [Nat.add_mul]; omega] at h2
          simp only [List.range'_succ, List.forIn_cons, Sem.run_bind, part_run hm ha hta hpa, part_run hm ha htb hpb, Result.andThen_ok, ih D e a' b' r1 (by omega) h1 ρ]
          cases r1
          · simp
          · simp only [Bool.not_true, Bool.false_eq_true, if_false, Sem.run_pure, Result.andThen_ok, Bool.true_and]
            exact ihk (i + 1) r2 h2
      have hk := key n 0 r (by simpa using h)
      rw [hk]
      cases r <;> rfl
    all_goals first
      | (rename_i hu; simp only [Option.some.injEq] at h; subst h; simp [Op.equalIn, run_underlying hu, tr]; done)
      | (cases h; done)

end

end Go.Proofs.Ytcgnoegejmhgmaa.Ev

/-
  Ev: the operations that leave memory as it is, each.
-/
namespace Go.Proofs.Ytcgnoegejmhgmaa.Ev
set_option linter.unusedVariables false
set_option linter.unusedSimpArgs false
open Go.RowKit

section
variable {P : Program} (w : World)

theorem binA_sound {op : BinOp} {t : TypeId} {x y v : AVal} (h : binA P op t x y = some (true, v)) (ox oy : Operand) (ρ : Rho) :
    (do eqGuard op t ox oy (tr ρ x) (tr ρ y); binOp op t (tr ρ x) (tr ρ y) : Sem Value).run P w = .ok (tr ρ v) w ∧ v.data = true := by
  unfold binA at h
  split at h
  · rename_i k a k' b
    have hg : (eqGuard op t ox oy (tr ρ (.int k a)) (tr ρ (.int k' b))).run P w = .ok () w := by
      cases op <;> simp [eqGuard, tr]
    simp only [Sem.run_bind, hg, Result.andThen_ok]
    split at h
    · exact shiftA_sound w h t k' ρ
    · exact shiftA_sound w h t k' ρ
    · split at h <;> try cases h
      rename_i hk
      subst hk
      exact intA_sound w h t ρ
  · rename_i a b
    have hg : (eqGuard op t ox oy (tr ρ (.str a)) (tr ρ (.str b))).run P w = .ok () w := by
      cases op <;> simp [eqGuard, tr]
    simp only [Sem.run_bind, hg, Result.andThen_ok]
    split at h
    · simp only [Option.some.injEq, Prod.mk.injEq, decide_eq_true_eq] at h
      obtain ⟨hl, rfl⟩ := h
      have hn : ¬ (9223372036854775807 : Int) < (a.length : Int) + (b.length : Int) := by push_cast at hl; omega
      have hm : IntKind.i64.max = 9223372036854775807 := rfl
      simp [binOp, Op.stringOp, tr, str_size, hm, hn, str_append, AVal.data]
    · simp only [Option.some.injEq, Prod.mk.injEq, true_and] at h
      subst h
      simp only [binOp, Op.stringOp, tr, str_toList, Sem.run_pure, AVal.data, and_true]
      by_cases hab : a = b <;> simp [hab]
    · simp only [Option.some.injEq, Prod.mk.injEq, true_and] at h
      subst h
      simp only [binOp, Op.stringOp, tr, str_toList, Sem.run_pure, AVal.data, and_true]
      by_cases hab : a = b <;> simp [hab]
    · cases h
  · rename_i h1 h2
    split at h <;> try cases h
    rename_i hgt
    have hg : ∀ op, (op = .eql ∨ op = .neq) → ∀ r, eqT P 12 t x y = some r → (eqGuard op t ox oy (tr ρ x) (tr ρ y)).run P w = .ok () w := by
      intro op hop r hr
      cases x <;> cases y <;> first
        | (rcases hop with rfl | rfl <;> simp [eqGuard, tr, hgt]; done)
        | (exfalso; unfold eqT at hr; split at hr <;> simp_all; done)
    have hb : ∀ r, eqT P 12 t x y = some r → (binOp .eql t (tr ρ x) (tr ρ y)).run P w = .ok (.bool r) w ∧ (binOp .neq t (tr ρ x) (tr ρ y)).run P w = .ok (.bool (!r)) w := by
      intro r hr
      have he := eqT_sound (P := P) w 12 Op.maxDepth t x y r (by decide) hr ρ
      have he' : (Op.equal t (tr ρ x) (tr ρ y)).run P w = .ok r w := he
      cases x <;> cases y <;> first
        | (simp only [tr] at he' ⊢; simp only [binOp, Sem.run_bind, he', Result.andThen_ok, Sem.run_pure]; exact ⟨trivial, trivial⟩)
        | (exfalso; exact h1 _ _ _ _ rfl rfl)
        | (exfalso; exact h2 _ _ rfl rfl)
        | (exfalso; unfold eqT at hr; split at hr <;> simp_all; done)
    split at h
    · split at h <;> try cases h
      rename_i r hr
      simp only [Sem.run_bind, hg _ (.inl rfl) r hr, Result.andThen_ok, (hb r hr).1, tr, AVal.data, and_true]
    · split at h <;> try cases h
      rename_i r hr
      simp only [Sem.run_bind, hg _ (.inr rfl) r hr, Result.andThen_ok, (hb r hr).2, tr, AVal.data, and_true]
    · cases h

theorem eqIf_run {t : TypeId} {ms : Array (String × TypeId)} (hu : P.underlying t = some (.interface ms)) (d : Nat) (t' : TypeId) (u : Value) :
    (Op.equalIn (d + 1) t (.iface t' u) .nilIface).run P w = .ok false w ∧ (Op.equalIn (d + 1) t .nilIface .nilIface).run P w = .ok true w := by
  simp [Op.equalIn, underlying, hu]

theorem nilIfA_sound {op : BinOp} {t : TypeId} {x v : AVal} (h : nilIfA P op t x = some (true, v)) (ox : Operand) (ρ : Rho) :
    (do eqGuard op t ox (.const .nilIface) (tr ρ x) .nilIface; binOp op t (tr ρ x) .nilIface : Sem Value).run P w = .ok (tr ρ v) w ∧ v.data = true := by
  unfold nilIfA at h
  split at h <;> try cases h
  rename_i ms hu
  have he := eqIf_run (P := P) w hu 9999
  have h1 : ∀ t' u, (Op.equal t (.iface t' u) .nilIface).run P w = .ok false w := fun t' u => (he t' u).1
  have h2 : (Op.equal t .nilIface .nilIface).run P w = .ok true w := (he 0 .nilIface).2
  split at h <;> cases h <;>
    simp [tr, eqGuard, binOp, h1, h2, AVal.data]

theorem makeIfA_sound {t : TypeId} {x v : AVal} (h : makeIfA P t x = some (true, v)) {N : Nat} (hx : x.under N = true) (ρ : Rho) :
    (Instr.makeInterface t (tr ρ x)).run P w = .ok (tr ρ v) w ∧ v.under N = true := by
  unfold makeIfA at h
  split at h <;> try cases h
  rename_i d hd hu
  refine ⟨?_, by simpa [AVal.under] using hx⟩
  simp only [Instr.makeInterface, underlying, Sem.run_bind, run_program, Result.andThen_ok, hu, tr, Sem.run_pure]

theorem zeroV_sound {t : TypeId} {z : AVal} (h : zeroV P t = some z) (ρ : Rho) : (zeroValue t).run P w = .ok (tr ρ z) w ∧ ∀ N, z.under N = true := by
  unfold zeroV at h
  split at h <;> try cases h
  rename_i i hi
  split at h <;> try cases h
  rename_i zv hz
  obtain ⟨h1, h2⟩ := ofValue_tr h ρ
  exact ⟨by simp [zeroValue, typeInfo, hi, hz, h1], h2⟩

theorem assertA_sound {as : TypeId} {ok : Bool} {x v : AVal} (h : assertA P as ok x = some (true, v)) (xt : TypeId) {N : Nat} (hx : x.under N = true) (ρ : Rho) :
    (Instr.typeAssert (tr ρ x) xt as ok).run P w = .ok (tr ρ v) w ∧ v.under N = true := by
  unfold assertA at h
  split at h <;> try cases h
  rename_i d hd hu
  split at h
  · rename_i t u
    split at h
    · rename_i hb
      have hb := nat_beq_eq.1 hb
      subst hb
      split at h <;> cases h
      · refine ⟨?_, by simpa [AVal.under, belowL] using hx⟩
        simp only [Instr.typeAssert, underlying, Sem.run_bind, run_program, Result.andThen_ok, hu, tr, trL, Sem.run_pure]
        cases d <;> first | (exact absurd rfl (hd _)) | simp
      · refine ⟨?_, by simpa [AVal.under, belowL] using hx⟩
        simp only [Instr.typeAssert, underlying, Sem.run_bind, run_program, Result.andThen_ok, hu, tr, trL, Sem.run_pure]
        cases d <;> first | (exact absurd rfl (hd _)) | simp
    · rename_i hb
      have hb := nat_beq_ne.1 hb
      split at h <;> try cases h
      rename_i z hz
      obtain ⟨z1, z2⟩ := zeroV_sound w hz ρ
      refine ⟨?_, by simp [AVal.under, belowL, z2 N]⟩
      simp only [Instr.typeAssert, underlying, Sem.run_bind, run_program, Result.andThen_ok, hu, tr, trL, Sem.run_pure]
      cases d <;> first | (exact absurd rfl (hd _)) | simp [hb, z1]
  · split at h <;> try cases h
    rename_i z hz
    obtain ⟨z1, z2⟩ := zeroV_sound w hz ρ
    refine ⟨?_, by simp [AVal.under, belowL, z2 N]⟩
    simp only [Instr.typeAssert, underlying, Sem.run_bind, run_program, Result.andThen_ok, hu, tr, trL, Sem.run_pure]
    cases d <;> first | (exact absurd rfl (hd _)) | simp [z1]
  · cases h

theorem unA_sound {op : UnOp} {x v : AVal} (h : unA op x = some (true, v)) (ρ : Rho) : (Op.unary op (tr ρ x)).run P w = .ok (tr ρ v) w ∧ v.data = true := by
  unfold unA at h
  split at h
  · simp only [Option.some.injEq, Prod.mk.injEq, true_and] at h; subst h; simp [Op.unary, tr, AVal.data]
  · split at h <;> try cases h
    rename_i n hn
    have := aWrap_sound hn
    rw [Int.zero_sub] at this
    simp [Op.unary, Op.intArith, tr, this, AVal.data]
  · cases h

theorem bytesOfA_spec : ∀ {l : List AVal} {bs : List UInt8}, bytesOfA l = some bs → ∃ ns : List Int, l = ns.map (AVal.int .u8) ∧ bs = ns.map fun n => UInt8.ofNat n.toNat
  | [], bs, h => by simp only [bytesOfA, Option.some.injEq] at h; subst h; exact ⟨[], rfl, rfl⟩
  | v :: l, bs, h => by
    unfold bytesOfA at h
    split at h
    · rename_i he; cases he
    · rename_i n l' he
      cases he
      split at h <;> try cases h
      rename_i r hr
      obtain ⟨ns, h1, h2⟩ := bytesOfA_spec hr
      exact ⟨n :: ns, by rw [h1]; rfl, by rw [h2]; rfl⟩
    · cases h

theorem strOfNums_eq (ns : List Int) : strOfNums ns = ⟨(ns.map fun n => UInt8.ofNat n.toNat).toArray⟩ := by
  unfold strOfNums
  have : ∀ (l : List Int) (b : ByteArray), (l.foldl (fun s n => s.push (UInt8.ofNat n.toNat)) b) = ⟨b.data ++ (l.map fun n => UInt8.ofNat n.toNat).toArray⟩ := by
    intro l
    induction l with
    | nil => intro b; simp
    | cons n l ih => intro b; simp only [List.foldl_cons, ih]; apply ByteArray.ext; simp
  first
    | (rw [this]; rfl)
    | (rw [this]; apply ByteArray.ext; simp)
    | rfl

theorem conv_bytes {src dst e : TypeId} (hs : P.underlying src = some (.slice e)) (he : P.underlying e = some (.int .u8)) (hd : P.underlying dst = some .string) {g o c : Nat} (ns : List Int)
    (h : ∀ y v, (ns.map (AVal.int .u8))[y]? = some v → w.cell? ⟨g, o + y, none⟩ = some (tr ⟨id, id, id, fun _ _ => False⟩ v)) :
    (convert src dst (.slice (some ⟨g, o, none⟩) ns.length c)).run P w = .ok (.string ⟨(ns.map fun n => UInt8.ofNat n.toNat).toArray⟩) w := by
  rw [← strOfNums_eq]
  refine run_convert_bytes_arg _ src e hs he g o ns.length c ns rfl (fun i hi => ?_) dst hd
  have := h i (.int .u8 (ns.getD i 0)) (by simp [List.getElem?_map, List.getD, List.getElem?_eq_getElem hi])
  rw [this]
  simp [tr, List.getD]

theorem convA_sound {H : AHeap} {src dst : TypeId} {x v : AVal} (h : convA P H src dst x = some (true, v)) {ρ : Rho} {N : Nat} (hH : ∀ b y, H.get b = some y → y.under N = true ∧ y.ok ρ w b) :
    (convert src dst (tr ρ x)).run P w = .ok (tr ρ v) w ∧ v.data = true := by
  unfold convA at h
  split at h
  · rename_i hs hd
    split at h <;> try cases h
    rename_i n hn
    have := aWrap_sound hn
    simp [convert, run_underlying hs, run_underlying hd, tr, Conv.intToInt, this, AVal.data]
  · rename_i hs hd
    simp only [Option.some.injEq, Prod.mk.injEq, true_and] at h; subst h
    simp [convert, run_underlying hs, run_underlying hd, tr, AVal.data]
  · rename_i e hs hd
    split at h <;> try cases h
    rename_i he
    simp only [convert, Sem.run_bind, run_underlying hs, run_underlying hd, Result.andThen_ok, tr, run_underlying he, Conv.bytesToString, Sem.run_pure, AVal.data, and_true]
    rfl
  · rename_i e b i sz j n c hs hd
    split at h <;> try cases h
    rename_i he
    split at h <;> try cases h
    · rename_i e2 l hb
      split at h <;> try cases h
      split at h <;> try cases h
      rename_i r hr
      split at h <;> try cases h
      rename_i bs hbs
      obtain ⟨k1, k2⟩ := hH b _ hb
      have hrd : readCells false (.cells e2 l) i 1 j n = some (true, r) := by simp only [readCells, hr]
      obtain ⟨r1, r2, r3, r4⟩ := readCells_cells hrd k2 k1
      obtain ⟨ns, rfl, rfl⟩ := bytesOfA_spec hbs
      simp only [List.length_map] at r1
      subst r1
      refine ⟨?_, rfl⟩
      simp only [tr]
      exact conv_bytes w hs he hd ns (fun y v hy => by
        rw [r4 y v hy]
        simp only [List.getElem?_map, Option.map_eq_some_iff] at hy
        obtain ⟨_, _, rfl⟩ := hy
        rfl)
    · rename_i e' T l md hb
      split at h <;> try cases h
      rename_i f g hsz hf
      simp only [Option.some.injEq, Prod.mk.injEq, decide_eq_true_eq] at h
      obtain ⟨hn, rfl⟩ := h
      obtain ⟨k1, k2⟩ := hH b _ hb
      have hsz := nat_beq_eq.1 hsz
      subst hsz
      obtain ⟨t1, t2, t3⟩ := T.toB f g hf
      have hfl : ∀ o (u : UInt8), (f l)[o]? = some u → w.cell? ⟨ρ.blk b, ρ.off b + o, none⟩ = some (.int .u8 (u.toNat : Int)) := fun o u hu => by
        have := row_cell k2 (o := o) (v := .int .u8 (u.toNat : Int)) (by rw [RowTy.flat, t2]; simp [hu])
        simpa [tr] using this
      have hlen : ∀ l : List T.α, (f l).length = l.length := fun l => by
        have h1 := flat_length T l
        rw [t1, Nat.mul_one, RowTy.flat, t2] at h1
        simpa using h1
      have hfe : ∀ l : List T.α, ∀ m : List T.α, f (l ++ m) = f l ++ f m := fun l m => by
        have h1 := t2 (l ++ m)
        rw [List.flatMap_append, t2, t2, ← List.map_append] at h1
        have inj : ∀ a b : List UInt8, a.map (fun c => AVal.int .u8 (c.toNat : Int)) = b.map (fun c => AVal.int .u8 (c.toNat : Int)) → a = b := by
          intro a
          induction a with
          | nil => intro b hb; cases b <;> simp_all
          | cons x a ih =>
            intro b hb
            cases b with
            | nil => simp at hb
            | cons y b =>
              simp only [List.map_cons, List.cons.injEq, AVal.int.injEq, true_and] at hb
              rw [ih b hb.2, UInt8.toNat_inj.1 (by omega : x.toNat = y.toNat)]
        exact (inj _ _ h1).symm
      have hget : ∀ y, y < n → (f ((l.drop i).take n))[y]? = (f l)[i + y]? := fun y hy => by
        have e1 : l = l.take i ++ ((l.drop i).take n ++ (l.drop i).drop n) := by rw [List.take_append_drop, List.take_append_drop]
        have e2 : f l = f (l.take i) ++ (f ((l.drop i).take n) ++ f ((l.drop i).drop n)) := by rw [← hfe, ← hfe, ← e1]
        rw [e2]
        have l1 : (f (l.take i)).length = i := by rw [hlen, List.length_take]; omega
        have l2 : (f ((l.drop i).take n)).length = n := by rw [hlen, List.length_take, List.length_drop]; omega
        rw [List.getElem?_append_right (by omega), l1, List.getElem?_append_left (by omega)]
        congr 1; omega
      refine ⟨?_, rfl⟩
      simp only [tr]
      have hl2 : (f ((l.drop i).take n)).length = n := by rw [hlen, List.length_take, List.length_drop]; omega
      have key := fun C => conv_bytes (P := P) w hs he hd (g := ρ.blk b) (o := ρ.off b + (i * 1 + 0)) (c := C) ((f ((l.drop i).take n)).map fun u => (u.toNat : Int)) (fun y v hy => by
        simp only [List.getElem?_map, Option.map_eq_some_iff] at hy
        obtain ⟨z, ⟨u, hu, rfl⟩, rfl⟩ := hy
        have hyn : y < n := by rw [← hl2]; exact (List.getElem?_eq_some_iff.1 hu).1
        rw [hget y hyn] at hu
        have := hfl (i + y) u hu
        simp only [tr]
        rw [← this]
        congr 2; omega)
      simp only [List.length_map, hl2, List.map_map] at key
      refine (key _).trans ?_
      congr 4
      have : (fun n : Int => UInt8.ofNat n.toNat) ∘ (fun u : UInt8 => (u.toNat : Int)) = id := by funext u; simp
      rw [this, List.map_id]
  · cases h

end

end Go.Proofs.Ytcgnoegejmhgmaa.Ev

/-
  Ev: slices, fields, indexes, lengths, aggregates; and all the operations that leave memory as it is.
-/
namespace Go.Proofs.Ytcgnoegejmhgmaa.Ev
set_option linter.unusedVariables false
set_option linter.unusedSimpArgs false
open Go.RowKit

section
variable {P : Program} (w : World)

theorem addr_add (g o n : Nat) : (⟨g, o, none⟩ : Addr).add n = ⟨g, o + n, none⟩ := by unfold Addr.add; split <;> simp_all

theorem run_bound (k : IntKind) (i : Int) (y : Nat) (code : BoundsCode) (h0 : 0 ≤ i) (h1 : i ≤ y) : (Instr.sliceBound (.int k i) y code).run P w = .ok i.toNat w := by
  simp [Instr.sliceBound, asIntOf, h0, h1]

theorem str_extract (s : List UInt8) (a b : Nat) : (⟨s.toArray⟩ : ByteArray).extract a b = ⟨((s.take b).drop a).toArray⟩ := by
  apply ByteArray.ext
  simp [ByteArray.data_extract, List.extract_eq_take_drop, List.drop_take]

theorem tr_int (ρ : Rho) (k : IntKind) (n : Int) : tr ρ (.int k n) = .int k n := rfl

theorem sliceA_sound {t : TypeId} {x v : AVal} {lo hi : Option AVal} {H : AHeap} (h : sliceA P H t x lo hi = some (true, v)) {ρ : Rho} {N : Nat} (hH : ∀ b y, H.get b = some y → y.under N = true ∧ y.ok ρ w b) (hx : x.under N = true) :
    (Instr.sliceAt t (tr ρ x) (lo.map (tr ρ)) (hi.map (tr ρ)) none).run P w = .ok (tr ρ v) w ∧ v.under N = true := by
  unfold sliceA at h
  split at h
  · rename_i s hu
    split at h
    · simp only [Option.some.injEq, Prod.mk.injEq, true_and] at h; subst h
      refine ⟨?_, rfl⟩
      simp only [Instr.sliceAt, Instr.slice, Sem.run_bind, run_underlying hu, Result.andThen_ok, tr, Option.map_none, Option.isSome_none, Bool.false_eq_true, if_false, Instr.sliceBounds, Sem.run_pure, str_extract, str_size]
      simp
    · rename_i k l
      simp only [Option.some.injEq, Prod.mk.injEq, decide_eq_true_eq] at h
      obtain ⟨⟨h0, h1⟩, rfl⟩ := h
      refine ⟨?_, rfl⟩
      simp only [Instr.sliceAt, Instr.slice, Sem.run_bind, run_underlying hu, Result.andThen_ok, tr, Option.map_none, Option.map_some, Option.isSome_none, Bool.false_eq_true, if_false, Instr.sliceBounds, Sem.run_pure, str_extract, str_size, run_bound w k l s.length _ h0 h1]
      simp
    · rename_i k l
      simp only [Option.some.injEq, Prod.mk.injEq, decide_eq_true_eq] at h
      obtain ⟨⟨h0, h1⟩, rfl⟩ := h
      refine ⟨?_, rfl⟩
      simp only [Instr.sliceAt, Instr.slice, Sem.run_bind, run_underlying hu, Result.andThen_ok, tr, Option.map_none, Option.map_some, Option.isSome_none, Bool.false_eq_true, if_false, Instr.sliceBounds, Sem.run_pure, str_extract, str_size, run_bound w k l s.length _ h0 h1]
      simp
    · rename_i k l k' l'
      simp only [Option.some.injEq, Prod.mk.injEq, decide_eq_true_eq] at h
      obtain ⟨⟨h0, h1, h2⟩, rfl⟩ := h
      refine ⟨?_, rfl⟩
      simp only [Instr.sliceAt, Instr.slice, Sem.run_bind, run_underlying hu, Result.andThen_ok, tr, Option.map_none, Option.map_some, Option.isSome_none, Bool.false_eq_true, if_false, Instr.sliceBounds, Sem.run_pure, str_extract, str_size, run_bound w k' l' s.length _ (by omega) h2, run_bound w k l l'.toNat _ h0 (by omega)]
    · cases h
  · rename_i e b i sz j n c hu
    split at h <;> try cases h
    rename_i m q hm hq
    split at h <;> try cases h
    rename_i hsz
    have hsz := nat_beq_eq.1 hsz
    subst hsz
    have hm' := sizeA_run hm w
    -- the capacity
    have hqt : q = true := by
      split at h <;> simp only [Option.some.injEq, Prod.mk.injEq, Bool.and_eq_true, reduceCtorEq] at h
      · exact h.1
      · exact h.1.2
      · exact h.1.2
      · exact h.1.2
    subst hqt
    simp only [Bool.and_true] at h
    have hcc : match c with | some c => n ≤ c | none => i + n ≤ ρ.cap b := by
      unfold capA at hq
      cases c with
      | some c => simpa using hq
      | none =>
        simp only at hq
        split at hq <;> try cases hq
        rename_i e' T l md hb
        simp only [Option.some.injEq, decide_eq_true_eq] at hq
        have := (hH b _ hb).2
        have := (ABlk.ok_row this).1
        simp only; omega
    obtain ⟨C, hC, hnC, hCl⟩ : ∃ C, (∀ o, tr ρ (.sl b i m j n c) = .slice (some ⟨ρ.blk b, ρ.off b + (i * m + j), none⟩) n C) ∧ n ≤ C ∧ (∀ l n', l ≤ C → tr ρ (.sl b (i + l) m j n' (c.map (· - l))) = .slice (some ⟨ρ.blk b, ρ.off b + ((i + l) * m + j), none⟩) n' (C - l)) := by
      cases c with
      | none =>
        refine ⟨ρ.cap b - i, fun _ => rfl, by simp only at hcc; omega, fun l n' hl => ?_⟩
        simp only [tr, Option.map_none]
        congr 1
        omega
      | some c => exact ⟨c, fun _ => rfl, hcc, fun l n' hl => rfl⟩
    have hb : Nat.blt b N = true := hx
    have run : ∀ (l h : Nat) (hl : l = 0 ∨ l < n) (hlh : l ≤ h) (hh : h ≤ n), (Value.slice (if C = l then some ⟨ρ.blk b, ρ.off b + (i * m + j), none⟩ else (some (⟨ρ.blk b, ρ.off b + (i * m + j), none⟩ : Addr)).map (·.add (l * m))) (h - l) (C - l)) = tr ρ (.sl b (i + l) m j (h - l) (c.map (· - l))) := by
      intro l h hl hlh hh
      rw [hCl l _ (by omega)]
      by_cases hcl : C = l
      · have : l = 0 := by omega
        subst this
        simp [hcl]
      · rw [if_neg hcl]
        simp only [Option.map_some, addr_add]
        congr 3
        rw [Nat.add_mul]; omega
    have hsl := hC 0
    split at h
    · simp only [Option.some.injEq, Prod.mk.injEq, true_and] at h; subst h
      refine ⟨?_, hx⟩
      have := run 0 n (.inl rfl) (by omega) (Nat.le_refl _)
      rw [hsl]
      simp only [Instr.sliceAt, Instr.slice, Sem.run_bind, run_underlying hu, Result.andThen_ok, Option.map_none, Instr.sliceBounds, Sem.run_pure, hm', Nat.zero_mul, Option.isSome_none, Bool.false_eq_true, if_false, Option.map_some]
      congr 2
      by_cases hc0 : C = 0 <;> simp [hc0, addr_add]
    · rename_i k l
      simp only [Option.some.injEq, Prod.mk.injEq, decide_eq_true_eq] at h
      obtain ⟨⟨h0, h1⟩, rfl⟩ := h
      refine ⟨?_, hb⟩
      rw [← run l.toNat n (by omega) (by omega) (Nat.le_refl _)]
      rw [hsl]
      simp only [Instr.sliceAt, Instr.slice, Sem.run_bind, run_underlying hu, Result.andThen_ok, Option.map_none, Option.map_some, tr_int, Instr.sliceBounds, Sem.run_pure, hm', Option.isSome_none, Bool.false_eq_true, if_false, run_bound w k l n _ h0 (by omega)]
    · rename_i k l
      simp only [Option.some.injEq, Prod.mk.injEq, decide_eq_true_eq] at h
      obtain ⟨⟨h0, h1⟩, rfl⟩ := h
      refine ⟨?_, hb⟩
      have e : tr ρ (.sl b i m j l.toNat c) = .slice (some ⟨ρ.blk b, ρ.off b + (i * m + j), none⟩) l.toNat C := by
        have := hCl 0 l.toNat (Nat.zero_le _)
        have hcc : c.map (· - 0) = c := by cases c <;> simp
        simpa [hcc] using this
      rw [e]
      rw [hsl]
      simp only [Instr.sliceAt, Instr.slice, Sem.run_bind, run_underlying hu, Result.andThen_ok, Option.map_none, Option.map_some, tr_int, Instr.sliceBounds, Sem.run_pure, hm', Option.isSome_none, Bool.false_eq_true, if_false, run_bound w k l C _ h0 (by omega), Nat.zero_mul]
      congr 2
      by_cases hc0 : C = 0 <;> simp [hc0, addr_add]
    · rename_i k l k' l'
      simp only [Option.some.injEq, Prod.mk.injEq, decide_eq_true_eq] at h
      obtain ⟨⟨h0, h1, h2, h3⟩, rfl⟩ := h
      refine ⟨?_, hb⟩
      rw [← run l.toNat l'.toNat (by omega) (by omega) (by omega)]
      rw [hsl]
      simp only [Instr.sliceAt, Instr.slice, Sem.run_bind, run_underlying hu, Result.andThen_ok, Option.map_none, Option.map_some, tr_int, Instr.sliceBounds, Sem.run_pure, hm', Option.isSome_none, Bool.false_eq_true, if_false, run_bound w k' l' C _ (by omega) (by omega), run_bound w k l l'.toNat _ h0 (by omega)]
    · cases h
  · rename_i n e b i sz j hu
    split at h <;> try cases h
    rename_i m hm
    have hm' := sizeA_run hm w
    have hb : Nat.blt b N = true := hx
    split at h
    · simp only [Option.some.injEq, Prod.mk.injEq, true_and] at h; subst h
      refine ⟨?_, hb⟩
      simp only [Instr.sliceAt, Instr.sureAddr, Sem.run_bind, run_underlying hu, Result.andThen_ok, Option.map_none, tr, Instr.sliceBounds, Sem.run_pure, hm', Nat.zero_mul, Nat.sub_zero, Nat.zero_add]
      congr 2
      by_cases hc0 : n = 0 <;> simp [hc0, addr_add]
    · rename_i k l
      simp only [Option.some.injEq, Prod.mk.injEq, decide_eq_true_eq] at h
      obtain ⟨⟨h0, h1⟩, rfl⟩ := h
      refine ⟨?_, hb⟩
      simp only [Instr.sliceAt, Instr.sureAddr, Sem.run_bind, run_underlying hu, Result.andThen_ok, Option.map_none, Option.map_some, tr, Instr.sliceBounds, Sem.run_pure, hm', Nat.zero_mul, Nat.sub_zero, Nat.zero_add, run_bound w k l n _ h0 h1]
      congr 2
      by_cases hc0 : n = 0 <;> simp [hc0, addr_add]
    · cases h
  · cases h

theorem fieldAddrA_sound {t : TypeId} {x v : AVal} {f : Nat} (h : fieldAddrA P t x f = some (true, v)) {ρ : Rho} {N : Nat} (hx : x.under N = true) :
    (Instr.fieldAt t (tr ρ x) f).run P w = .ok (tr ρ v) w ∧ v.under N = true := by
  unfold fieldAddrA at h
  split at h
  · rename_i fs b i sz j hu
    split at h <;> try cases h
    rename_i fd hfd
    split at h <;> try cases h
    rename_i m hm
    refine ⟨?_, hx⟩
    have hm' := sizeA_run hm w
    have hfd' : fs[f]? = some fd := by simpa using hfd
    simp only [Instr.fieldAt, Sem.run_bind, run_underlying hu, Result.andThen_ok, hfd', Instr.sureAddr, tr, Sem.run_pure, fieldPlace, hm', Nat.add_one_ne_zero, if_false, addr_add]
    congr 4
    omega
  · cases h

theorem fieldA_sound {t : TypeId} {x v : AVal} {f : Nat} (h : fieldA P t x f = some (true, v)) {ρ : Rho} {N : Nat} (hx : x.under N = true) :
    (Instr.field t (tr ρ x) f).run P w = .ok (tr ρ v) w ∧ v.under N = true := by
  unfold fieldA at h
  split at h
  · rename_i fs cs hu
    split at h <;> try cases h
    rename_i fd hfd
    split at h <;> try cases h
    rename_i m ag hm ha
    split at h <;> try cases h
    rename_i r hr
    split at h <;> try cases h
    rename_i hv
    have hfd' : fs[f]? = some fd := by simpa using hfd
    refine ⟨?_, ?_⟩
    · simp only [Instr.field, Sem.run_bind, run_underlying hu, Result.andThen_ok, hfd', tr, asAgg, Sem.run_pure]
      exact part_run hm ha hr hv w
    · obtain ⟨rfl, _⟩ := takeN_spec hr
      have hb : belowL N (List.take m (List.drop fd.offset cs)) = true := belowL_take (belowL_drop hx _) _
      rcases pack_spec hv with ⟨_, rfl⟩ | ⟨_, hc⟩
      · exact hb
      · rw [hc] at hb; simpa [belowL] using hb
  · cases h

theorem indexAddrA_sound {t : TypeId} {x ix v : AVal} (h : indexAddrA P t x ix = some (true, v)) {ρ : Rho} {N : Nat} (hx : x.under N = true) :
    (Instr.indexAt t (tr ρ x) (tr ρ ix)).run P w = .ok (tr ρ v) w ∧ v.under N = true := by
  unfold indexAddrA at h
  split at h
  · rename_i e b i sz j n c k q hu
    split at h <;> try cases h
    rename_i m hm
    split at h <;> try cases h
    rename_i hsz
    have hsz := nat_beq_eq.1 hsz
    subst hsz
    simp only [Option.some.injEq, Prod.mk.injEq, decide_eq_true_eq] at h
    obtain ⟨⟨h0, h1⟩, rfl⟩ := h
    refine ⟨?_, hx⟩
    have hm' := sizeA_run hm w
    simp only [Instr.indexAt, Sem.run_bind, tr, asIntOf, Sem.run_pure, Result.andThen_ok, run_underlying hu, Bool.and_false, Bool.false_eq_true, if_false, h0, h1, and_self, if_true, hm', addr_add]
    congr 4
    simp only [Nat.succ_eq_add_one, Nat.add_mul i]; omega
  · rename_i n e b i sz j k q hu
    split at h <;> try cases h
    rename_i m hm
    have hm' := sizeA_run hm w
    split at h
    · simp only [Option.some.injEq, Prod.mk.injEq, decide_eq_true_eq] at h
      obtain ⟨⟨h0, h1⟩, rfl⟩ := h
      refine ⟨?_, hx⟩
      simp only [Instr.indexAt, Sem.run_bind, tr, asIntOf, Sem.run_pure, Result.andThen_ok, run_underlying hu, Instr.sureAddr, h0, h1, and_self, if_true, hm', addr_add]
      congr 4
      simp only [Nat.succ_eq_add_one]; omega
    · simp only [Option.some.injEq, Prod.mk.injEq, decide_eq_true_eq] at h
      obtain ⟨⟨h0, h1⟩, rfl⟩ := h
      refine ⟨?_, hx⟩
      simp only [Instr.indexAt, Sem.run_bind, tr, asIntOf, Sem.run_pure, Result.andThen_ok, run_underlying hu, Instr.sureAddr, h0, h1, and_self, if_true, hm', addr_add]
      congr 4
      simp only [Nat.succ_eq_add_one]; omega
  · cases h

theorem indexA_sound {sm : Bool} {t : TypeId} {x ix v : AVal} (h : indexA P sm t x ix = some (true, v)) {ρ : Rho} {N : Nat} (hx : x.under N = true) :
    (Instr.index t (tr ρ x) (tr ρ ix)).run P w = .ok (tr ρ v) w ∧ v.under N = true := by
  unfold indexA at h
  split at h
  · rename_i s k q hu
    simp only [Option.some.injEq, Prod.mk.injEq, decide_eq_true_eq] at h
    obtain ⟨⟨h0, h1⟩, rfl⟩ := h
    refine ⟨?_, rfl⟩
    have h2 : q.toNat < s.length := by omega
    have e : (⟨s.toArray⟩ : ByteArray)[q.toNat]? = some s[q.toNat] := by
      rw [getElem?_pos (⟨s.toArray⟩ : ByteArray) q.toNat (by simpa [ByteArray.size] using h2)]
      rfl
    simp only [Instr.index, Sem.run_bind, tr, asIntOf, Sem.run_pure, Result.andThen_ok, run_underlying hu, h0, if_true, e]
    simp [List.getD, List.getElem?_eq_getElem h2]
  · rename_i n e cs k q hu
    split at h <;> try cases h
    rename_i m ag hm ha
    split at h
    · split at h <;> try cases h
      rename_i r hr
      split at h <;> try cases h
      rename_i v' hv
      simp only [Option.some.injEq, Prod.mk.injEq, decide_eq_true_eq] at h
      obtain ⟨⟨h0, h1⟩, rfl⟩ := h
      have hm' := sizeA_run hm w
      obtain ⟨r1, r2, r3⟩ := selCells_spec (by omega : q.toNat < n) hr
      have hr' : takeN (m + 1) (cs.drop (q.toNat * (m + 1))) = some r := by
        have : ∀ (n : Nat) (l r : List AVal), r.length = n → (∀ x, x < n → r[x]? = l[x]?) → takeN n l = some r := by
          intro n
          induction n with
          | zero => intro l r hl _; cases r <;> simp_all [takeN]
          | succ n ih =>
            intro l r hl hx
            cases r with
            | nil => simp at hl
            | cons y r =>
              cases l with
              | nil => have := hx 0 (by omega); simp at this
              | cons z l =>
                have := hx 0 (by omega)
                simp only [List.getElem?_cons_zero, Option.some.injEq] at this
                subst this
                simp only [takeN, ih l r (by simpa using hl) (fun x hxn => by have := hx (x + 1) (by omega); simpa using this)]
        refine this _ _ _ r1 (fun x hxm => ?_)
        rw [r3 x hxm, List.getElem?_drop]
        congr 1; omega
      refine ⟨?_, ?_⟩
      · simp only [Instr.index, Sem.run_bind, tr, asIntOf, Sem.run_pure, Result.andThen_ok, run_underlying hu, h0, h1, and_self, if_true, hm']
        exact part_run hm ha hr' hv w
      · have hb : belowL N r = true := by
          rw [belowL_eq, List.all_eq_true]
          rw [List.all_eq_true] at r2
          exact fun x hx => AVal.data_below (r2 x hx) N
        rcases pack_spec hv with ⟨_, rfl⟩ | ⟨_, rfl⟩
        · exact hb
        · simpa [belowL] using hb
    · split at h <;> try cases h
      rename_i r hr
      split at h <;> try cases h
      rename_i v' hv
      simp only [Option.some.injEq, Prod.mk.injEq, decide_eq_true_eq] at h
      obtain ⟨⟨h0, h1⟩, rfl⟩ := h
      have hm' := sizeA_run hm w
      refine ⟨?_, ?_⟩
      · simp only [Instr.index, Sem.run_bind, tr, asIntOf, Sem.run_pure, Result.andThen_ok, run_underlying hu, h0, h1, and_self, if_true, hm']
        exact part_run hm ha hr hv w
      · obtain ⟨rfl, _⟩ := takeN_spec hr
        have hb : belowL N (List.take (m + 1) (List.drop (q.toNat * (m + 1)) cs)) = true := belowL_take (belowL_drop hx _) _
        rcases pack_spec hv with ⟨_, rfl⟩ | ⟨_, hc⟩
        · exact hb
        · rw [hc] at hb; simpa [belowL] using hb
  · cases h

theorem lenA_sound {t : TypeId} {x v : AVal} (h : lenA P t x = some (true, v)) (ts : Array TypeId) (ht : ts[0]? = some t) (ty : TypeId) (ρ : Rho) :
    (Builtin.len_ ts ty #[tr ρ x]).run P w = .ok (tr ρ v) w ∧ v.data = true := by
  unfold lenA at h
  split at h
  · rename_i s hu
    simp only [Option.some.injEq, Prod.mk.injEq, true_and] at h; subst h
    simp [Builtin.len_, ht, run_underlying hu, tr, str_size, goInt, AVal.data]
  · rename_i hu
    simp only [Option.some.injEq, Prod.mk.injEq, true_and] at h; subst h
    simp [Builtin.len_, ht, run_underlying hu, tr, goInt, AVal.data]
  · rename_i hu
    simp only [Option.some.injEq, Prod.mk.injEq, true_and] at h; subst h
    simp [Builtin.len_, ht, run_underlying hu, tr, goInt, AVal.data]
  · rename_i hu
    simp only [Option.some.injEq, Prod.mk.injEq, true_and] at h; subst h
    simp [Builtin.len_, ht, run_underlying hu, tr, goInt, AVal.data]
  · cases h

end

end Go.Proofs.Ytcgnoegejmhgmaa.Ev

/-
  Ev: maps that are asked, written, and from which is removed: what the model does at keys that are numbers.
-/
namespace Go.Proofs.Ytcgnoegejmhgmaa.Ev
set_option linter.unusedVariables false
set_option linter.unusedSimpArgs false
open Go.RowKit

section
variable {P : Program}

theorem findNow_int (n : Int) : ∀ (es : List MapEntry) (i : Nat), KeyI es → Instr.findNow (.int .i64) (.int .i64 n) es i = some (idxI n es i)
  | [], i, _ => rfl
  | e :: es, i, h => by
    obtain ⟨m, hm⟩ := h e (List.mem_cons_self ..)
    have hr : KeyI es := fun x hx => h x (List.mem_cons_of_mem _ hx)
    simp only [Instr.findNow, hm, Instr.sameNow, if_true, idxI]
    by_cases hnm : n = m
    · have : (n == m) = true := by simp [hnm]
      rw [this]; simp [hnm]
    · have : (n == m) = false := by simp [hnm]
      rw [this, if_neg hnm]
      exact findNow_int n es (i + 1) hr

theorem checkKey_int {kt : TypeId} (hk : P.underlying kt = some (.int .i64)) (em : Bool) (k : Nat) (n : Int) (w : World) : (Instr.checkKey em (k + 1) kt (.int .i64 n)).run P w = .ok () w := by
  simp [Instr.checkKey, run_underlying hk]

theorem findKey_int {kt : TypeId} (hk : P.underlying kt = some (.int .i64)) (n : Int) {es : List MapEntry} (he : KeyI es) (w : World) : (Instr.findKey kt (.int .i64 n) es).run P w = .ok (idxI n es 0) w := by
  simp [Instr.findKey, run_underlying hk, findNow_int n es 0 he]

theorem getObj_run {g : Nat} {es : Array MapEntry} {clock : Nat} {w : World} (h : w.heap[g]? = some (.map es clock)) : (getObj g).run P w = .ok (.map es clock) w := by
  simp [getObj, Sem.run, h]

theorem setObj_run {g : Nat} {es : Array MapEntry} {clock : Nat} {o' : Obj} {w : World} (h : w.heap[g]? = some (.map es clock)) : (setObj g o').run P w = .ok () { w with heap := w.heap.setIfInBounds g o' } := by
  simp [setObj, Sem.run, h]

theorem lookRes_tr {et : TypeId} {z : AVal} {ok : Bool} {ρ : Rho} {r : Option AVal} {w : World} (hz : (zeroValue et).run P w = .ok (tr ρ z) w) (q : Option (Nat × Value)) (hq : q.map (·.2) = r.map (tr ρ)) {s : Sem (Option (Nat × Value))} (hs : s.run P w = .ok q w) :
    (do
      let (v, b) ← match ← s with
        | some (_, v) => pure (v, true)
        | none => pure (← zeroValue et, false)
      pure (if ok then Value.tuple #[v, .bool b] else v) : Sem Value).run P w = .ok (tr ρ (lookRes z ok r)) w := by
  cases r with
  | none =>
    cases q with
    | some p => simp at hq
    | none => cases ok <;> simp [hs, hz, lookRes, tr, trL]
  | some v =>
    cases q with
    | none => simp at hq
    | some p =>
      obtain ⟨i, u⟩ := p
      simp at hq
      subst hq
      cases ok <;> simp [hs, lookRes, tr, trL]

theorem lookupA_sound {H : AHeap} {t : TypeId} {x ix v : AVal} {ok : Bool} (h : lookupA P H t x ix ok = some (true, v)) {ρ : Rho} {w : World} {N : Nat} (hH : ∀ b y, H.get b = some y → y.under N = true ∧ y.ok ρ w b) (hx : x.under N = true) :
    (Instr.lookup t (tr ρ x) (tr ρ ix) ok).run P w = .ok (tr ρ v) w ∧ v.under N = true := by
  unfold lookupA at h
  split at h <;> try cases h
  rename_i kt et hu
  split at h <;> try cases h
  rename_i hk
  split at h <;> try cases h
  rename_i n
  split at h <;> try cases h
  rename_i z hz
  obtain ⟨hz1, hz2⟩ := zeroV_sound (w := w) hz ρ
  have res : ∀ {r : Option AVal}, (∀ y, r = some y → y.under N = true) → (lookRes z ok r).under N = true := by
    intro r hr
    cases r with
    | none => cases ok <;> simp [lookRes, AVal.under, belowL, hz2 N]
    | some y => cases ok <;> simp [lookRes, AVal.under, belowL, hr y rfl]
  split at h
  · cases h
    refine ⟨?_, res (fun y hy => by cases hy)⟩
    have := lookRes_tr (ok := ok) (r := none) hz1 none rfl (s := Instr.findKey kt (.int .i64 n) []) (by rw [findKey_int hk n (fun e he => by cases he)]; rfl)
    simp only [Instr.lookup, run_underlying hu, tr, Sem.run_bind, Sem.run_pure, Result.andThen_ok, checkKey_int hk, Array.isEmpty, Array.toList] at this ⊢
    exact this
  · rename_i b
    split at h <;> try cases h
    rename_i U s l hb
    split at h <;> try cases h
    rename_i r hl
    obtain ⟨q1, q2⟩ := hH b _ hb
    obtain ⟨k1, k2⟩ := U.lookOk _ _ _ _ hl
    obtain ⟨es, clock, h1, h2, h3⟩ := k2 _ _ _ _ q2.2
    refine ⟨?_, res (k1 N q1)⟩
    have := lookRes_tr (ok := ok) (r := r) hz1 (idxI n es.toList 0) h3 (s := Instr.findKey kt (.int .i64 n) es.toList) (findKey_int hk n h2 w)
    simp only [Instr.lookup, run_underlying hu, tr, Sem.run_bind, Sem.run_pure, Result.andThen_ok, checkKey_int hk, getObj_run h1] at this ⊢
    exact this
  · cases h

/-- A map is written. -/
theorem mapUpdate_run {t kt et : TypeId} (hu : P.underlying t = some (.map kt et)) (hk : P.underlying kt = some (.int .i64)) {g : Nat} {es : Array MapEntry} {clock : Nat} {w : World} (hg : w.heap[g]? = some (.map es clock)) (he : KeyI es.toList) (n : Int) (v : Value) :
    (Instr.mapUpdate t (.map (some g)) (.int .i64 n) v).run P w = .ok () { w with heap := w.heap.setIfInBounds g (.map (updO es clock n (some v)).1 (updO es clock n (some v)).2) } := by
  unfold updO
  cases hf : idxI n es.toList 0 with
  | none =>
    simp only [Instr.mapUpdate, run_underlying hu, Sem.run_bind, Sem.run_pure, Result.andThen_ok, getObj_run hg, checkKey_int hk, findKey_int hk n he, hf, setObj_run hg]
  | some p =>
    obtain ⟨i, u⟩ := p
    have hkey : ∀ (es : List MapEntry) (j : Nat), idxI n es j = some (i, u) → ∃ e, j ≤ i ∧ es[i - j]? = some e ∧ e.key = .int .i64 n ∧ e.val = u := by
      intro es
      induction es with
      | nil => intro j h; cases h
      | cons e es ih =>
        intro j h
        simp only [idxI] at h
        have next : idxI n es (j + 1) = some (i, u) → ∃ e', j ≤ i ∧ (e :: es)[i - j]? = some e' ∧ e'.key = .int .i64 n ∧ e'.val = u := by
          intro h
          obtain ⟨e', h1, h2, h3⟩ := ih (j + 1) h
          refine ⟨e', by omega, ?_, h3⟩
          rw [show i - j = (i - (j + 1)) + 1 by omega, List.getElem?_cons_succ]; exact h2
        split at h
        · rename_i m hm
          split at h
          · rename_i hnm
            cases h
            exact ⟨e, Nat.le_refl _, by simp, by rw [hm, hnm], rfl⟩
          · exact next h
        · exact next h
    obtain ⟨e, _, h2, h3, h4⟩ := hkey es.toList 0 hf
    have h2 : es[i]? = some e := by simpa using h2
    have hks : (Instr.keyThatStays (((es[i]?).map (·.key)).getD (.int .i64 n)) (.int .i64 n)).run P w = .ok (.int .i64 n) w := by
      rw [h2]
      simp [Instr.keyThatStays, h3, Instr.sameBits]
    simp only [Instr.mapUpdate, run_underlying hu, Sem.run_bind, Sem.run_pure, Result.andThen_ok, getObj_run hg, checkKey_int hk, findKey_int hk n he, hf, hks, setObj_run hg]

theorem delete_run {t kt et kt' ty : TypeId} (hu : P.underlying t = some (.map kt et)) (hk : P.underlying kt = some (.int .i64)) {g : Nat} {es : Array MapEntry} {clock : Nat} {w : World} (hg : w.heap[g]? = some (.map es clock)) (he : KeyI es.toList) (n : Int) :
    (Builtin.delete_ #[t, kt'] ty #[.map (some g), .int .i64 n]).run P w = .ok (.tuple #[]) { w with heap := w.heap.setIfInBounds g (.map (updO es clock n none).1 (updO es clock n none).2) } := by
  unfold updO
  cases hf : idxI n es.toList 0 with
  | none =>
    simp only [Builtin.delete_, List.getElem?_toArray, List.getElem?_cons_zero, List.getElem?_cons_succ, run_underlying hu, Sem.run_bind, Sem.run_pure, Result.andThen_ok, getObj_run hg, checkKey_int hk, findKey_int hk n he, hf, setObj_run hg]
  | some p =>
    obtain ⟨i, u⟩ := p
    simp only [Builtin.delete_, List.getElem?_toArray, List.getElem?_cons_zero, List.getElem?_cons_succ, run_underlying hu, Sem.run_bind, Sem.run_pure, Result.andThen_ok, getObj_run hg, checkKey_int hk, findKey_int hk n he, hf, setObj_run hg]

end

end Go.Proofs.Ytcgnoegejmhgmaa.Ev

/-
  Ev: aggregates that are built; and all the operations that leave memory as it is.
-/
namespace Go.Proofs.Ytcgnoegejmhgmaa.Ev
set_option linter.unusedVariables false
set_option linter.unusedSimpArgs false
open Go.RowKit

section
variable {P : Program}

theorem cells_tr (ρ : Rho) (v : AVal) : (tr ρ v).cells = (trL ρ (cellsOfA v)).toArray := by
  cases v <;> simp [tr, Value.cells, cellsOfA, trL]

theorem set_many : ∀ (vs : List Value) (off s : Nat) (cs : Array Value), off + s + vs.length ≤ cs.size →
    ((vs.zipIdx s).foldl (fun (cs : Array Value) (x : Value × Nat) => cs.setIfInBounds (off + x.2) x.1) cs) = (cs.toList.take (off + s) ++ vs ++ cs.toList.drop (off + s + vs.length)).toArray
  | [], off, s, cs, h => by simp
  | v :: vs, off, s, cs, h => by
    simp only [List.zipIdx_cons, List.foldl_cons, List.length_cons] at h ⊢
    rw [set_many vs off (s + 1) _ (by simp; omega)]
    congr 1
    have h1 : off + s < cs.toList.length := by simp; omega
    simp only [Array.toList_setIfInBounds]
    rw [List.set_eq_take_append_cons_drop, if_pos h1]
    rw [show off + (s + 1) = off + s + 1 by omega, show off + s + 1 + vs.length = off + s + (vs.length + 1) by omega]
    have e1 : (List.take (off + s) cs.toList).length = off + s := by simp; omega
    generalize hA : off + s = A at e1 h1 ⊢
    rw [List.take_append, List.drop_append, e1, show A + 1 - A = 1 by omega, show A + (vs.length + 1) - A = vs.length + 1 by omega]
    rw [List.take_of_length_le (by omega), List.drop_of_length_le (by omega : (List.take A cs.toList).length ≤ A + (vs.length + 1))]
    simp only [List.take_succ_cons, List.take_zero, List.drop_succ_cons, List.drop_drop, List.nil_append, List.append_assoc, List.cons_append]
    congr 4
    omega

theorem fillA_sound {ρ : Rho} {place : Nat → Option (Nat × Nat)} {places : List (Nat × Nat)} (hp : ∀ i x, places[i]? = some x → place i = some x) : ∀ {parts : List (Nat × AVal)} {cells r : List AVal}, fillA places cells parts = some r →
    Instr.fill place (trL ρ cells).toArray (parts.map fun p => (p.1, tr ρ p.2)) = some (trL ρ r).toArray
  | [], cells, r, h => by simp only [fillA, Option.some.injEq] at h; subst h; simp [Instr.fill]
  | (i, v) :: rest, cells, r, h => by
    simp only [fillA] at h
    split at h <;> try cases h
    rename_i off size hpl
    split at h <;> try cases h
    rename_i hsz
    have hsz := nat_beq_eq.1 hsz
    split at h <;> try cases h
    rename_i c2 hc2
    have ih := fillA_sound (ρ := ρ) hp h
    simp only [List.map_cons, Instr.fill, hp i _ hpl, cells_tr]
    have hl : (trL ρ (cellsOfA v)).toArray.size = size + 1 := by simp [trL_length, hsz]
    have hsp := (replaceAt_spec hc2).resolve_left (fun h => by rw [h.1] at hsz; simp at hsz)
    obtain ⟨h1, h2⟩ := hsp
    have hstep : ((trL ρ (cellsOfA v)).toArray.zipIdx.foldl (fun (cs : Array Value) (x : Value × Nat) => cs.setIfInBounds (off + x.2) x.1) (trL ρ cells).toArray) = (trL ρ c2).toArray := by
      have := set_many (trL ρ (cellsOfA v)) off 0 (trL ρ cells).toArray (by simp [trL_length]; omega)
      simp only [Nat.add_zero] at this
      rw [← Array.foldl_toList]
      simp only [Array.toList_zipIdx]
      rw [this, h2, trL_append, trL_append, trL_take, trL_drop, trL_length]
    have hc : (decide ((trL ρ (cellsOfA v)).toArray.size ≠ size + 1) || decide (off + (trL ρ (cellsOfA v)).toArray.size > (trL ρ cells).toArray.size)) = false := by
      simp [trL_length, hsz]; omega
    simp only [hstep]
    rw [if_neg (by simpa using hc)]
    exact ih

theorem arrPlaces_spec (m : Nat) : ∀ (n o i : Nat) (x : Nat × Nat), (arrPlaces m n o)[i]? = some x → x = (o + i * m, m)
  | 0, o, i, x, h => by simp [arrPlaces] at h
  | n + 1, o, 0, x, h => by simp [arrPlaces] at h; simp [← h]
  | n + 1, o, i + 1, x, h => by
    simp only [arrPlaces, List.getElem?_cons_succ] at h
    rw [arrPlaces_spec m n (o + m) i x h, Nat.add_mul]
    congr 1; omega

theorem placesA_spec : ∀ {fs : List Field} {ps : List (Nat × Nat)}, placesA P fs = some ps → fs.mapM (fun f => (P.info? f.type).map fun i => (f.offset, i.size)) = some ps
  | [], ps, h => by simp only [placesA, Option.some.injEq] at h; subst h; rfl
  | f :: fs, ps, h => by
    simp only [placesA] at h
    split at h <;> try cases h
    rename_i m r hm hr
    have ih := placesA_spec hr
    unfold sizeA at hm
    split at hm <;> try cases hm
    rename_i i hi
    simp [List.mapM_cons, hi, ih]

theorem fillA_under {N : Nat} : ∀ {places : List (Nat × Nat)} {parts : List (Nat × AVal)} {cells r : List AVal}, fillA places cells parts = some r → belowL N cells = true → (∀ p ∈ parts, p.2.under N = true) → belowL N r = true
  | places, [], cells, r, h, hc, _ => by simp only [fillA, Option.some.injEq] at h; subst h; exact hc
  | places, (i, v) :: rest, cells, r, h, hc, hp => by
    simp only [fillA] at h
    split at h <;> try cases h
    split at h <;> try cases h
    split at h <;> try cases h
    rename_i c2 hc2
    refine fillA_under h ?_ (fun p hpm => hp p (by simp [hpm]))
    rw [belowL_eq] at hc ⊢
    refine replaceAt_all hc2 _ hc ?_
    rw [← belowL_eq]
    have := hp (i, v) (by simp)
    cases v <;> simp_all [cellsOfA, belowL, AVal.under]

theorem evalP_tr {ρ : Rho} {N : Nat} {E : Env} {a : Act} (h : RelE ρ N E a) : ∀ {ps : List (Nat × Operand)} {vs : List (Nat × AVal)}, evalP E ps = some vs → ps.map (fun p => (p.1, a.eval p.2)) = vs.map (fun p => (p.1, tr ρ p.2)) ∧ ∀ p ∈ vs, p.2.under N = true
  | [], vs, hx => by simp only [evalP, Option.some.injEq] at hx; subst hx; simp
  | (i, x) :: ps, vs, hx => by
    simp only [evalP] at hx
    split at hx <;> try cases hx
    rename_i v us hv hus
    obtain ⟨h1, h2⟩ := evalO_tr h hv
    obtain ⟨k1, k2⟩ := evalP_tr h hus
    refine ⟨by simp [h1, k1], fun p hp => ?_⟩
    rcases List.mem_cons.1 hp with rfl | hp
    · exact h2
    · exact k2 p hp

theorem buildA_sound {t : TypeId} {parts : List (Nat × AVal)} {v : AVal} (h : buildA P t parts = some (true, v)) {N : Nat} (hp : ∀ p ∈ parts, p.2.under N = true) (ρ : Rho) (w : World) :
    (Instr.build t (parts.map fun p => (p.1, tr ρ p.2)).toArray).run P w = .ok (tr ρ v) w ∧ v.under N = true := by
  unfold buildA at h
  split at h <;> try cases h
  rename_i z hz
  obtain ⟨zv, _, ⟨it, hit, hiz⟩, hzc, hzb, _⟩ := zeroA_run hz w
  split at h
  · rename_i fs hu
    split at h <;> try cases h
    rename_i ps hps
    split at h <;> try cases h
    rename_i r hr
    have hpl := placesA_spec hps
    refine ⟨?_, fillA_under hr (hzb N) hp⟩
    refine run_build w t _ (trL ρ r).toArray ?_
    unfold Program.built
    simp only [hit, hu, hiz, hpl]
    have := fillA_sound (ρ := ρ) (place := fun x => ps.toArray[x]?) (fun i x hx => by simpa using hx) hr
    rw [hzc ρ] at this
    simpa using this
  · rename_i n e hu
    split at h <;> try cases h
    rename_i m hm
    split at h <;> try cases h
    rename_i r hr
    refine ⟨?_, fillA_under hr (hzb N) hp⟩
    refine run_build w t _ (trL ρ r).toArray ?_
    unfold Program.built
    unfold sizeA at hm
    split at hm <;> try cases hm
    rename_i ie hie
    simp only [hit, hu, hiz, hie]
    have := fillA_sound (ρ := ρ) (place := fun i => some (i * ie.size, ie.size)) (fun i x hx => by have := arrPlaces_spec ie.size n 0 i x hx; rw [this, Nat.zero_add]) hr
    rw [hzc ρ] at this
    simpa using this
  · cases h

/-! ### all of them -/

theorem nilAhead_run {P : Program} {t : TypeId} {name : String} {f : FuncId} (h : methA P t name = some f) {v : Value} {w : World} : (nilAhead (P.types.size + Made.depth) t v name).run P w = .ok (some false) w := by
  have key : ∀ k, (nilAhead (k + 1) t v name).run P w = .ok (some false) w := by
    intro k
    unfold methA at h
    split at h <;> try cases h
    rename_i i e hi hu
    split at h <;> try cases h
    rename_i m hm
    split at h <;> try cases h
    rename_i hp hf
    simp only [nilAhead, typeInfo, Sem.run_bind, run_program, Result.andThen_ok, hi, Sem.run_pure, hm, hp, hf, followBlind]
  exact key (P.types.size + 99)

theorem pureA_sound {sm : Bool} {o : Oper} {E : Env} {H : AHeap} {v : AVal} (h : pureA P sm o E H = some (true, v)) {ρ : Rho} {w : World} {N : Nat} {a : Act} (hE : RelE ρ N E a) (hH : ∀ b y, H.get b = some y → y.under N = true ∧ y.ok ρ w b) :
    (execOp a.eval o).run P w = .ok (.value (tr ρ v)) w ∧ v.under N = true := by
  unfold pureA at h
  have fin : ∀ {s : Sem Value} {u : AVal}, (s.run P w = .ok (tr ρ u) w ∧ u.under N = true) → u = v → (do pure (Next.value (← s)) : Sem Next).run P w = .ok (.value (tr ρ v)) w ∧ v.under N = true := by
    rintro s u ⟨h1, h2⟩ rfl
    simp [h1, h2]
  have dat : ∀ {u : AVal}, u.data = true → u.under N = true := fun h => AVal.data_below h N
  split at h
  · rename_i x ho
    split at h <;> try cases h
    rename_i hx
    obtain ⟨h1, h2⟩ := evalO_tr hE hx
    simp [execOp, ho, h1, h2]
  · rename_i x ho
    split at h <;> try cases h
    rename_i hx
    obtain ⟨h1, h2⟩ := evalO_tr hE hx
    simp [execOp, ho, h1, h2]
  · rename_i c x y ho
    split at h
    · rename_i hc
      split at h <;> try cases h
      rename_i hx
      obtain ⟨h1, h2⟩ := evalO_tr hE hx
      obtain ⟨k1, _⟩ := evalO_tr hE hc
      simp [execOp, ho, h1, h2, k1, tr, asBool]
    · rename_i hc
      split at h <;> try cases h
      rename_i hx
      obtain ⟨h1, h2⟩ := evalO_tr hE hx
      obtain ⟨k1, _⟩ := evalO_tr hE hc
      simp [execOp, ho, h1, h2, k1, tr, asBool]
    · cases h
  · rename_i t x ho
    split at h <;> try cases h
    rename_i u hx
    obtain ⟨h1, h2⟩ := evalO_tr hE hx
    simp only [execOp, ho, h1]
    exact fin (loadA_sound h hH) rfl
  · rename_i x ho
    split at h
    · rename_i hx
      cases h
      obtain ⟨h1, h2⟩ := evalO_tr hE hx
      simp only [execOp, ho, h1, tr]
      exact ⟨rfl, h2⟩
    · rename_i hx
      cases h
      obtain ⟨h1, h2⟩ := evalO_tr hE hx
      simp only [execOp, ho, h1, tr]
      exact ⟨rfl, h2⟩
    · rename_i hx
      split at h <;> try cases h
      rename_i hm
      obtain ⟨h1, h2⟩ := evalO_tr hE hx
      refine ⟨?_, h2⟩
      simp only [execOp, ho, h1, tr, List.getElem?_toArray, List.getElem?_cons_zero, Sem.run_bind, run_program, Result.andThen_ok, nilAhead_run hm]
      rfl
    · cases h
  · rename_i op t x y _ ho
    split at h
    · split at h <;> try cases h
      rename_i u hx
      obtain ⟨h1, h2⟩ := evalO_tr hE hx
      simp only [execOp, ho, h1, show a.eval (.const .nilIface) = .nilIface from rfl]
      have := nilIfA_sound w h x ρ
      exact fin ⟨this.1, dat this.2⟩ rfl
    · split at h <;> try cases h
      rename_i p q hx hy
      obtain ⟨h1, h2⟩ := evalO_tr hE hx
      obtain ⟨k1, k2⟩ := evalO_tr hE hy
      simp only [execOp, ho, h1, k1]
      have := binA_sound w h x y ρ
      exact fin ⟨this.1, dat this.2⟩ rfl
  · rename_i t x ho
    split at h <;> try cases h
    rename_i u hx
    obtain ⟨h1, h2⟩ := evalO_tr hE hx
    simp only [execOp, ho, h1]
    have := makeIfA_sound w h h2 ρ
    exact fin ⟨this.1, this.2⟩ rfl
  · rename_i x xt as ok ho
    split at h <;> try cases h
    rename_i u hx
    obtain ⟨h1, h2⟩ := evalO_tr hE hx
    simp only [execOp, ho, h1]
    have := assertA_sound w h xt h2 ρ
    exact fin ⟨this.1, this.2⟩ rfl
  · rename_i op t x ho
    split at h <;> try cases h
    rename_i u hx
    obtain ⟨h1, h2⟩ := evalO_tr hE hx
    simp only [execOp, ho, h1]
    have := unA_sound (P := P) w h ρ
    exact fin ⟨this.1, dat this.2⟩ rfl
  · rename_i s d x ho
    split at h <;> try cases h
    rename_i u hx
    obtain ⟨h1, h2⟩ := evalO_tr hE hx
    simp only [execOp, ho, h1]
    have := convA_sound w h hH
    exact fin ⟨this.1, dat this.2⟩ rfl
  · rename_i t x lo hi ho
    split at h <;> try cases h
    rename_i u l r hx hlo hhi
    obtain ⟨h1, h2⟩ := evalO_tr hE hx
    have opt : ∀ {y : Option Operand} {z : Option AVal}, optO E y = some z → y.map a.eval = z.map (tr ρ) := by
      intro y z hz
      cases y with
      | none => simp only [optO, Option.some.injEq] at hz; subst hz; rfl
      | some y =>
        simp only [optO] at hz
        split at hz <;> try cases hz
        rename_i u hu
        simp [(evalO_tr hE hu).1]
    simp only [execOp, ho, h1, opt hlo, opt hhi, Option.map_none]
    exact fin (sliceA_sound w h hH h2) rfl
  · rename_i t x f ho
    split at h <;> try cases h
    rename_i u hx
    obtain ⟨h1, h2⟩ := evalO_tr hE hx
    simp only [execOp, ho, h1]
    exact fin (fieldAddrA_sound w h h2) rfl
  · rename_i t x f ho
    split at h <;> try cases h
    rename_i u hx
    obtain ⟨h1, h2⟩ := evalO_tr hE hx
    simp only [execOp, ho, h1]
    exact fin (fieldA_sound w h h2) rfl
  · rename_i t x y ho
    split at h <;> try cases h
    rename_i p q hx hy
    obtain ⟨h1, h2⟩ := evalO_tr hE hx
    obtain ⟨k1, k2⟩ := evalO_tr hE hy
    simp only [execOp, ho, h1, k1]
    exact fin (indexAddrA_sound w h h2) rfl
  · rename_i t x y ho
    split at h <;> try cases h
    rename_i p q hx hy
    obtain ⟨h1, h2⟩ := evalO_tr hE hx
    obtain ⟨k1, k2⟩ := evalO_tr hE hy
    simp only [execOp, ho, h1, k1]
    exact fin (indexA_sound w h h2) rfl
  · rename_i t x ix ok ho
    split at h <;> try cases h
    rename_i p q hx hy
    obtain ⟨h1, h2⟩ := evalO_tr hE hx
    obtain ⟨k1, k2⟩ := evalO_tr hE hy
    simp only [execOp, ho, h1, k1]
    exact fin (lookupA_sound h hH h2) rfl
  · rename_i x ix ho
    split at h <;> try cases h
    rename_i vs hx
    split at h <;> try cases h
    rename_i hv
    obtain ⟨h1, h2⟩ := evalO_tr hE hx
    rw [nth_eq] at hv
    simp only [execOp, ho, h1, tr]
    refine fin (u := v) ⟨?_, ?_⟩ rfl
    · simp [Instr.extract, trL_get, hv]
    · have h2' : belowL N vs = true := h2
      rw [belowL_eq, List.all_eq_true] at h2'
      exact h2' v (List.mem_of_getElem? hv)
  · rename_i t parts ho
    split at h <;> try cases h
    rename_i ps hps
    obtain ⟨h1, h2⟩ := evalP_tr hE hps
    simp only [execOp, ho]
    have e : (parts.map fun (i, x) => (i, a.eval x)) = (ps.map fun p => (p.1, tr ρ p.2)).toArray := by
      rw [← h1]; apply Array.ext'; simp
    rw [e]
    exact fin (buildA_sound h h2 ρ w) rfl
  · rename_i m first cap ho
    split at h <;> try cases h
    rename_i x e1 e2
    split at h <;> try cases h
    rename_i u hx
    obtain ⟨h1, h2⟩ := evalO_tr hE hx
    have f1 : first = #[x] := Array.ext' e1
    have f2 : cap = #[] := Array.ext' e2
    subst f1
    subst f2
    simp only [execOp, ho]
    refine fin (u := .meth m u) ⟨?_, h2⟩ rfl
    simp [Instr.makeFunc, tr, h1]
  · rename_i f first cap ho
    split at h <;> try cases h
    rename_i p q hp hq
    obtain ⟨h1, h2⟩ := evalL_tr hE hp
    obtain ⟨k1, k2⟩ := evalL_tr hE hq
    simp only [execOp, ho]
    have e1 : first.map a.eval = (trL ρ p).toArray := by rw [← h1]; apply Array.ext'; simp
    have e2 : cap.map a.eval = (trL ρ q).toArray := by rw [← k1]; apply Array.ext'; simp
    rw [e1, e2]
    exact fin (u := .func f p q) ⟨rfl, by simp [AVal.under, h2, k2]⟩ rfl
  · rename_i x t ho
    split at h <;> try cases h
    rename_i u hx
    obtain ⟨h1, h2⟩ := evalO_tr hE hx
    have := lenA_sound (P := P) w h #[t] rfl o.type ρ
    simp only [execOp, ho, resolve, invoke, builtin, Sem.run_bind, Sem.run_pure, Result.andThen_ok, List.map_toArray, List.map_cons, List.map_nil, h1, this.1]
    exact ⟨trivial, dat this.2⟩
  · rename_i args ts ho
    split at h <;> try cases h
    rename_i vs hvs
    obtain ⟨h1, h2⟩ := evalL_tr hE hvs
    unfold minMaxA at h
    split at h <;> try cases h
    rename_i x y
    have e1 : args.map a.eval = (trL ρ [.int .i64 x, .int .i64 y]).toArray := by rw [← h1]; apply Array.ext'; simp
    simp only [trL, tr] at e1
    have hm := run_min_int2 (P := P) w ts o.type .i64 .i64 x y
    simp only [execOp, ho, resolve, invoke, builtin, Sem.run_bind, Sem.run_pure, Result.andThen_ok, e1, hm]
    refine ⟨?_, rfl⟩
    have e2 : min x y = (if y < x then y else x) := by omega
    show Result.ok (Next.value (Value.int .i64 _)) w = Result.ok (Next.value (Value.int .i64 (min x y))) w
    rw [e2]
    congr 4
  · rename_i args ts ho
    split at h <;> try cases h
    rename_i vs hvs
    obtain ⟨h1, h2⟩ := evalL_tr hE hvs
    unfold minMaxA at h
    split at h <;> try cases h
    rename_i x y
    have e1 : args.map a.eval = (trL ρ [.int .i64 x, .int .i64 y]).toArray := by rw [← h1]; apply Array.ext'; simp
    simp only [trL, tr] at e1
    have hm := run_max_int2 (P := P) w ts o.type .i64 .i64 x y
    simp only [execOp, ho, resolve, invoke, builtin, Sem.run_bind, Sem.run_pure, Result.andThen_ok, e1, hm]
    refine ⟨?_, rfl⟩
    have e2 : max x y = (if y > x then y else x) := by omega
    show Result.ok (Next.value (Value.int .i64 _)) w = Result.ok (Next.value (Value.int .i64 (max x y))) w
    rw [e2]
    congr 4
  · cases h

end

end Go.Proofs.Ytcgnoegejmhgmaa.Ev

