/-
  Ev: regions of open order: how they are reckoned; one operation of them.
-/
import Derived.Test.YtofnedbclnlnmaaEvP
import Derived.Orders
namespace Go.Proofs.Ytofnedbclnlnmaa.Ev
set_option linter.unusedVariables false
set_option linter.unusedSimpArgs false
open Go.RowKit

/-! ### values and the blocks that they name -/

mutual
/-- All blocks of a value are of some kind. -/
def AVal.pB (p : Nat → Bool) : AVal → Bool
  | .ptr b _ _ _ | .sl b _ _ _ _ _ | .map b => p b
  | .func _ first cap => pBL p first && pBL p cap
  | .agg cs => pBL p cs
  | .tup vs => pBL p vs
  | _ => true
def pBL (p : Nat → Bool) : List AVal → Bool
  | [] => true
  | v :: vs => v.pB p && pBL p vs
end

def Rho.same (p : Nat → Bool) (ρ ρ' : Rho) : Prop := ∀ b, p b = true → ρ'.blk b = ρ.blk b ∧ ρ'.off b = ρ.off b ∧ ρ'.cap b = ρ.cap b

mutual
theorem tr_same {p : Nat → Bool} {ρ ρ' : Rho} (h : Rho.same p ρ ρ') : ∀ v : AVal, v.pB p = true → tr ρ' v = tr ρ v
  | .int _ _, _ | .bool _, _ | .str _, _ | .nilp, _ | .nils, _ | .nilm, _ | .nilf, _ | .niface, _ => rfl
  | .ptr b i sz j, hb => by
    obtain ⟨h1, h2, _⟩ := h b hb
    simp only [tr, h1, h2]
  | .sl b i sz j n c, hb => by
    obtain ⟨h1, h2, h3⟩ := h b hb
    simp only [tr, h1, h2, h3]
  | .map b, hb => by
    obtain ⟨h1, _⟩ := h b hb
    simp only [tr, h1]
  | .func f first cap, hb => by
    simp only [AVal.pB, Bool.and_eq_true] at hb
    simp only [tr, trL_same h first hb.1, trL_same h cap hb.2]
  | .agg cs, hb => by
    simp only [AVal.pB] at hb
    simp only [tr, trL_same h cs hb]
  | .tup cs, hb => by
    simp only [AVal.pB] at hb
    simp only [tr, trL_same h cs hb]
theorem trL_same {p : Nat → Bool} {ρ ρ' : Rho} (h : Rho.same p ρ ρ') : ∀ vs : List AVal, pBL p vs = true → trL ρ' vs = trL ρ vs
  | [], _ => rfl
  | v :: vs, hb => by
    simp only [pBL, Bool.and_eq_true] at hb
    simp only [trL, tr_same h v hb.1, trL_same h vs hb.2]
end

mutual
theorem AVal.pB_mono {p q : Nat → Bool} (h : ∀ b, p b = true → q b = true) : ∀ v : AVal, v.pB p = true → v.pB q = true
  | .int _ _, _ | .bool _, _ | .str _, _ | .nilp, _ | .nils, _ | .nilm, _ | .nilf, _ | .niface, _ => rfl
  | .ptr b i sz j, hb | .sl b i sz j n c, hb | .map b, hb => h b hb
  | .func f first cap, hb => by
    simp only [AVal.pB, Bool.and_eq_true] at hb ⊢
    exact ⟨pBL_mono h first hb.1, pBL_mono h cap hb.2⟩
  | .agg cs, hb => by
    simp only [AVal.pB] at hb ⊢
    exact pBL_mono h cs hb
  | .tup cs, hb => by
    simp only [AVal.pB] at hb ⊢
    exact pBL_mono h cs hb
theorem pBL_mono {p q : Nat → Bool} (h : ∀ b, p b = true → q b = true) : ∀ vs : List AVal, pBL p vs = true → pBL q vs = true
  | [], _ => rfl
  | v :: vs, hb => by
    simp only [pBL, Bool.and_eq_true] at hb ⊢
    exact ⟨AVal.pB_mono h v hb.1, pBL_mono h vs hb.2⟩
end

mutual
theorem AVal.under_pB {N : Nat} : ∀ v : AVal, v.under N = v.pB (fun b => Nat.blt b N)
  | .int _ _ | .bool _ | .str _ | .nilp | .nils | .nilm | .nilf | .niface => rfl
  | .ptr b i sz j | .sl b i sz j n c | .map b => rfl
  | .func f first cap => by simp only [AVal.under, AVal.pB, belowL_pB first, belowL_pB cap]
  | .agg cs => by simp only [AVal.under, AVal.pB, belowL_pB cs]
  | .tup cs => by simp only [AVal.under, AVal.pB, belowL_pB cs]
theorem belowL_pB {N : Nat} : ∀ vs : List AVal, belowL N vs = pBL (fun b => Nat.blt b N) vs
  | [] => rfl
  | v :: vs => by simp only [belowL, pBL, AVal.under_pB v, belowL_pB vs]
end

def ABlk.pB (p : Nat → Bool) : ABlk → Bool
  | .cells _ l => pBL p l
  | _ => true

/-! ### entries -/

/-- What one operation of the region comes to: its value, its new block, the operations ahead of it. -/
structure Ent where
  v : AVal
  nb : Option ABlk
  pr : List Nat

def memN (j : Nat) : List Nat → Bool
  | [] => false
  | x :: l => match Nat.beq x j with
    | true => true
    | false => memN j l

theorem memN_iff {j : Nat} {l : List Nat} : memN j l = true ↔ j ∈ l := by
  induction l with
  | nil => simp [memN]
  | cons x l ih =>
    simp only [memN, List.mem_cons]
    split
    · rename_i h; have := nat_beq_eq.1 h; simp [this]
    · rename_i h; have := nat_beq_ne.1 h; rw [ih]; simp [Ne.symm this]

def nthE : List Ent → Nat → Option Ent
  | [], _ => none
  | e :: _, 0 => some e
  | _ :: l, n + 1 => nthE l n

theorem nthE_eq : ∀ (l : List Ent) (n : Nat), nthE l n = l[n]?
  | [], n => by simp [nthE]
  | v :: l, 0 => by simp [nthE]
  | v :: l, n + 1 => by simp [nthE, nthE_eq l n]

def addL : List Nat → List Nat → List Nat
  | [], l => l
  | x :: r, l => match memN x l with
    | true => addL r l
    | false => addL r (x :: l)

theorem mem_addL {j : Nat} : ∀ {a l : List Nat}, j ∈ addL a l ↔ j ∈ a ∨ j ∈ l
  | [], l => by simp [addL]
  | x :: r, l => by
    simp only [addL, List.mem_cons]
    split
    · rename_i h
      rw [mem_addL]
      have := memN_iff.1 h
      constructor
      · rintro (h | h)
        · exact .inl (.inr h)
        · exact .inr h
      · rintro ((rfl | h) | h)
        · exact .inr this
        · exact .inl h
        · exact .inr h
    · rw [mem_addL]
      simp only [List.mem_cons]
      constructor
      · rintro (h | h | h)
        · exact .inl (.inr h)
        · exact .inl (.inl h)
        · exact .inr h
      · rintro ((h | h) | h)
        · exact .inr (.inl h)
        · exact .inl h
        · exact .inr (.inr h)

def predsL (es : List Ent) : List Edge → List Nat
  | [] => []
  | e :: r => match Region.binds .any e with
    | true => addL (e.on :: (match nthE es e.on with
      | some x => x.pr
      | none => [])) (predsL es r)
    | false => predsL es r

/-- The list, reckoned before what follows. -/
def forceN : List Nat → (List Nat → Prop) → Prop
  | [], K => K []
  | x :: r, K => forceN r (fun r => K (x :: r))
theorem forceN_eq : ∀ (l : List Nat) (K : List Nat → Prop), forceN l K = K l
  | [], K => rfl
  | x :: r, K => by rw [forceN, forceN_eq r]
def forceE : List Ent → (List Ent → Prop) → Prop
  | [], K => K []
  | ⟨v, nb, pr⟩ :: r, K => forceE r (fun r => K (⟨v, nb, pr⟩ :: r))
theorem forceE_eq : ∀ (l : List Ent) (K : List Ent → Prop), forceE l K = K l
  | [], K => rfl
  | ⟨v, nb, pr⟩ :: r, K => by rw [forceE, forceE_eq r]

def tmpsOf : List Operand → List Nat
  | [] => []
  | .tmp t :: r => t :: tmpsOf r
  | _ :: r => tmpsOf r

/-- The value that an operation ahead lays into t. -/
def findT (t : Nat) (pr : List Nat) : List Oper → List Ent → Nat → Option AVal
  | o :: os, e :: es, k => match o.dst with
    | some d => match Nat.beq d t with
      | true => match memN k pr with
        | true => some e.v
        | false => findT t pr os es (k + 1)
      | false => findT t pr os es (k + 1)
    | none => findT t pr os es (k + 1)
  | _, _, _ => none

def envK (E0 : Env) (ops : List Oper) (es : List Ent) (pr : List Nat) : List Nat → Env
  | [] => []
  | t :: ts => match findT t pr ops es 0 with
    | some v => (t, v) :: envK E0 ops es pr ts
    | none => match getE E0 t with
      | some v => (t, v) :: envK E0 ops es pr ts
      | none => envK E0 ops es pr ts

def blkS (next : Nat) (sel : Nat → Bool) : List Ent → Nat → List (Nat × ABlk)
  | [], _ => []
  | e :: es, k => match sel k, e.nb with
    | true, some x => (next + k, x) :: blkS next sel es (k + 1)
    | _, _ => blkS next sel es (k + 1)

def heapS (H0 : AHeap) (total : Nat) (sel : Nat → Bool) (es : List Ent) : AHeap := ⟨H0.next + total, blkS H0.next sel es 0 ++ H0.bs⟩

/-- An operation that only makes memory: value, new block. -/
noncomputable def growA (X : Ctx) (sm : Bool) (o : Oper) (E : Env) (H : AHeap) (id : Nat) : Option (Bool × AVal × Option ABlk) :=
  match pureA X.P sm o E H with
  | some (c, v) => some (c, v, none)
  | none => match newA X o E id with
    | some (c, v, x) => some (c, v, some x)
    | none => match callArgs E o with
      | some (f, args) => match X.fc f with
        | some fc => match fc args H with
          | some (c, v) => some (c, v, none)
          | none => none
        | none => none
      | none => none

/-- The blocks that operation k's value may name. -/
def allowed (next k : Nat) (pr : List Nat) (b : Nat) : Bool :=
  match Nat.blt b next with
  | true => true
  | false => match Nat.ble next b with
    | true => memN (b - next) (k :: pr)
    | false => false

def okVal (next k : Nat) (pr : List Nat) (v : AVal) (nb : Option ABlk) : Bool :=
  v.pB (allowed next k pr) && (match nb with
    | some x => x.pB (allowed next k pr)
    | none => true)

inductive WantD where
  | yes
  | no
  | ask (j : Nat) (b want : Bool)
  | bad

def wantD (es : List Ent) (pr : List Nat) (ops : List Oper) (o : Oper) : WantD :=
  match o.guard with
  | none => .yes
  | some (j, want) => match memN j pr, nthE es j, (ops[j]?).bind (·.dst) with
    | true, some e, some _ => match e.v with
      | .bool b => .ask j b want
      | .tup [] => .no
      | _ => .bad
    | _, _, _ => .bad

def setV (es : List Ent) (j : Nat) (v : AVal) : List Ent :=
  match es, j with
  | [], _ => []
  | e :: r, 0 => { e with v := v } :: r
  | e :: r, j + 1 => e :: setV r j v

/-- What operation k reads, nobody else writes but those ahead of it or behind it; no two write one temporary. -/
def okPair (es : List Ent) (k m : Nat) (ok om : Oper) (pk pm : List Nat) : Bool :=
  match om.dst with
  | some d => (!(memN d (tmpsOf ok.op.operands.toList)) || memN m pk || memN k pm) && (match ok.dst with
    | some d' => !(Nat.beq d d')
    | none => true)
  | none => true

def okRow (es : List Ent) (k : Nat) (ok : Oper) (pk : List Nat) : List Oper → List Ent → Nat → Bool
  | om :: os, em :: es', m => (Nat.beq m k || okPair es k m ok om pk em.pr) && okRow es k ok pk os es' (m + 1)
  | _, _, _ => true

def okTmps (ops : List Oper) (es : List Ent) : List Oper → List Ent → Nat → Bool
  | o :: os, e :: es', k => okRow es k o e.pr ops es 0 && okTmps ops es os es' (k + 1)
  | _, _, _ => true

/-- Each of the last ones waits for all that stand ahead of it. -/
def okTail (es : List Ent) : List Oper → Nat → Bool
  | [], _ => true
  | o :: r, k => (List.range k).all (fun j => memN j (predsL es o.after.toList)) && (predsL es o.after.toList).all (fun j => Nat.blt j k) && okTail (es ++ [⟨.tup [], none, predsL es o.after.toList⟩]) r (k + 1)

def putAll : List Oper → List Ent → Env → Env
  | o :: os, e :: es, E => putAll os es (putE E o.dst e.v)
  | _, _, E => E

noncomputable def finishD (X : Ctx) (sm : Bool) (cf : CallF) (all : List Oper) (E0 : Env) (H0 : AHeap) (es : List Ent) (rest : List Oper) (Q : AExit → Env → AHeap → Prop) : Prop :=
  match okTmps all es all es 0 && okTail es rest es.length with
  | true => wpSeq X sm cf all rest (putAll all es E0) (heapS H0 all.length (fun _ => true) es) Q
  | false => False

noncomputable def wpDraw (X : Ctx) (sm : Bool) (cf : CallF) (all : List Oper) (E0 : Env) (H0 : AHeap) : List Oper → List Ent → (AExit → Env → AHeap → Prop) → Prop
  | [], es, Q => finishD X sm cf all E0 H0 es [] Q
  | o :: rest, es, Q => forceN (predsL es o.after.toList) fun pr =>
    let step : List Ent → Prop := fun es =>
      match growA X sm o (envK E0 all es pr (tmpsOf o.op.operands.toList)) (heapS H0 es.length (fun j => memN j pr) es) (H0.next + es.length) with
      | some (c, v, nb) => obl c (match okVal H0.next es.length pr v nb with
        | true => forceE (es ++ [⟨v, nb, pr⟩]) fun es => wpDraw X sm cf all E0 H0 rest es Q
        | false => False)
      | none => finishD X sm cf all E0 H0 es (o :: rest) Q
    let skip : List Ent → Prop := fun es => forceE (es ++ [⟨.tup [], none, pr⟩]) fun es => wpDraw X sm cf all E0 H0 rest es Q
    match pr.all (fun j => Nat.blt j es.length) with
    | false => False
    | true => match wantD es pr all o with
      | .yes => step es
      | .no => skip es
      | .ask j b want => match want with
        | true => branch b (forceE (setV es j (.bool true)) step) (forceE (setV es j (.bool false)) skip)
        | false => branch b (forceE (setV es j (.bool true)) skip) (forceE (setV es j (.bool false)) step)
      | .bad => False

end Go.Proofs.Ytofnedbclnlnmaa.Ev
