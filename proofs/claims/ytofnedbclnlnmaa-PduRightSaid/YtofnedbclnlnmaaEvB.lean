/-
  Ev: what an operation comes to, as it is reckoned.
-/
import Derived.Test.YtofnedbclnlnmaaEvA
namespace Go.Proofs.Ytofnedbclnlnmaa.Ev
set_option linter.unusedVariables false
set_option linter.unusedSimpArgs false
open Go.RowKit

/-- What a function comes to that only makes new memory: under a condition, a value. -/
abbrev FC := List AVal → AHeap → Option (Bool × AVal)

/-- How a function ends. -/
inductive Out where
  | ret (v : AVal)
  | panic (v : AVal)

/-- How a piece of code ends. -/
inductive AExit where
  | normal
  | exit (id : Nat)
  | ret
  | panic (v : AVal)

/-- What a call asks for what follows. -/
abbrev GC := List AVal → AHeap → (Out → AHeap → Prop) → Prop

/-- What a block of code asks for what follows; the first number: what the function's memory began with. -/
abbrev LC := Nat → Env → AHeap → (AExit → Env → AHeap → Prop) → Prop

structure Ctx where
  P : Program
  fns : FuncId → Option Func
  fc : FuncId → Option FC
  rowTy : TypeId → Option RowTy
  gc : FuncId → Option GC
  lcs : FuncId → Nat → Option LC
  sms : FuncId → Bool

/-! ### lists -/

def nth : List AVal → Nat → Option AVal
  | [], _ => none
  | v :: _, 0 => some v
  | _ :: l, n + 1 => nth l n

def takeN : Nat → List AVal → Option (List AVal)
  | 0, _ => some []
  | _ + 1, [] => none
  | n + 1, v :: l => match takeN n l with
    | some r => some (v :: r)
    | none => none

/-- l with vs from o on. -/
def replaceAt : List AVal → Nat → List AVal → Option (List AVal)
  | l, _, [] => some l
  | [], _, _ :: _ => none
  | x :: l, 0, v :: vs => match replaceAt l 0 vs with
    | some r => some (v :: r)
    | none => none
  | x :: l, o + 1, v :: vs => match replaceAt l o (v :: vs) with
    | some r => some (x :: r)
    | none => none

def intsOf (k : IntKind) : List AVal → Option (List Int)
  | [] => some []
  | .int k' n :: l => if k' = k then (match intsOf k l with
    | some r => some (n :: r)
    | none => none) else none
  | _ => none

def strsOf : List AVal → Option (List (List UInt8))
  | [] => some []
  | .str s :: l => match strsOf l with
    | some r => some (s :: r)
    | none => none
  | _ => none

def boolsOf : List AVal → Option (List Bool)
  | [] => some []
  | .bool s :: l => match boolsOf l with
    | some r => some (s :: r)
    | none => none
  | _ => none

/-- The one of number i, of cells of one kind. -/
def selOne (i : Nat) (l : List AVal) : Option AVal :=
  match l with
  | .int k _ :: _ => match intsOf k l with
    | some xs => some (.int k (xs.getD i 0))
    | none => none
  | .str _ :: _ => match strsOf l with
    | some xs => some (.str (xs.getD i []))
    | none => none
  | .bool _ :: _ => match boolsOf l with
    | some xs => some (.bool (xs.getD i false))
    | none => none
  | _ => none

/-- Each n-th cell: c of them. -/
def column (l : List AVal) (sz : Nat) : Nat → Nat → Option (List AVal)
  | 0, _ => some []
  | c + 1, o => match nth l o with
    | some v => match column l sz c (o + sz) with
      | some r => some (v :: r)
      | none => none
    | none => none

/-- m cells, from the i-th of c things on that are sz cells apart. -/
def selCells (l : List AVal) (i sz c : Nat) : Nat → Nat → Option (List AVal)
  | 0, _ => some []
  | m + 1, j => match column l sz c j with
    | some col => match selOne i col with
      | some v => match selCells l i sz c m (j + 1) with
        | some r => some (v :: r)
        | none => none
      | none => none
    | none => none

def setOne (c : Bool) : AVal → AVal → Option AVal
  | .int k a, .int k' b => if k = k' then some (.int k (if c then b else a)) else none
  | .str a, .str b => some (.str (if c then b else a))
  | .bool a, .bool b => some (.bool (if c then b else a))
  | _, _ => none

/-- The i-th of single cells is set (x: the number of the first one). -/
def setSel (i : Nat) (v : AVal) : List AVal → Nat → Option (List AVal)
  | [], _ => some []
  | u :: l, x => match setOne (decide (i = x)) u v with
    | some w => match setSel i v l (x + 1) with
      | some r => some (w :: r)
      | none => none
    | none => none

def readCells (sm : Bool) (x : ABlk) (i sz j m : Nat) : Option (Bool × List AVal) :=
  match x with
  | .cells _ l => match sz with
    | 0 => match takeN m (l.drop j) with
      | some r => some (true, r)
      | none => none
    | s + 1 => match sm with
      | true => match selCells l i (s + 1) ((l.length - j) / (s + 1)) m j with
        | some r => some (decide (i < (l.length - j) / (s + 1)), r)
        | none => none
      | false => match takeN m (l.drop (i * (s + 1) + j)) with
        | some r => some (true, r)
        | none => none
  | .row _ T l _ => match Nat.beq sz T.sz with
    | true => match takeN m ((T.enc (l.getD i T.dflt)).drop j) with
      | some r => some (decide (i < l.length), r)
      | none => none
    | false => none
  | .dead => none

def writeCells (sm : Bool) (x : ABlk) (i sz j : Nat) (vs : List AVal) : Option (Bool × ABlk) :=
  match vs.all AVal.scalar with
  | false => none
  | true => match x with
    | .cells e l => match sz with
      | 0 => match replaceAt l j vs with
        | some r => some (true, .cells e r)
        | none => none
      | s + 1 => match sm with
        | true => match s, j, vs with
          | 0, 0, [v] => match setSel i v l 0 with
            | some r => some (decide (i < l.length), .cells e r)
            | none => none
          | _, _, _ => none
        | false => match replaceAt l (i * (s + 1) + j) vs with
          | some r => some (true, .cells e r)
          | none => none
    | .row e T l md => match md with
      | .ro => none
      | md => match Nat.beq sz T.sz with
        | true => match replaceAt (T.enc (l.getD i T.dflt)) j vs with
          | some cs => match T.dec cs with
            | some (c, a) => some (decide (i < l.length) && c, .row e T (l.set i a) md)
            | none => none
          | none => none
        | false => none
    | .dead => none

/-! ### types -/

def sizeA (P : Program) (t : TypeId) : Option Nat :=
  match P.info? t with
  | some i => some i.size
  | none => none

def aggA (P : Program) (t : TypeId) : Option Bool :=
  match P.underlying t with
  | some (.struct _) => some true
  | some (.array _ _) => some true
  | some _ => some false
  | none => none

def zeroA (P : Program) (t : TypeId) : Option (List AVal) :=
  match P.info? t with
  | some i => match i.zero with
    | some z => ofCells z.cells.toList
    | none => none
  | none => none

/-- A value out of its cells. -/
def pack (ag : Bool) (cs : List AVal) : Option AVal :=
  match ag with
  | true => some (.agg cs)
  | false => match cs with
    | [v] => some v
    | _ => none

def cellsOfA : AVal → List AVal
  | .agg cs => cs
  | v => [v]

/-! ### integers -/

def inI64 (n : Int) : Bool := decide (-9223372036854775808 ≤ n ∧ n ≤ 9223372036854775807)

def aWrap (k : IntKind) (n : Int) : Option (Bool × Int) :=
  match k with
  | .i64 => some (inI64 n, n)
  | .u8 => some (true, n % 256)
  | .u16 => some (true, n % 65536)
  | .u32 => some (true, n % 4294967296)
  | .u64 => some (true, n % 18446744073709551616)
  | _ => none

/-- x shifted by y: 2 ^ y, at most 2 ^ (the kind's bits). -/
def pow2 (k : IntKind) (y : Int) : Int := 2 ^ (min y.toNat k.bits)

def bitsA (op : BinOp) (k : IntKind) (x y : Int) : Int :=
  match op with
  | .and => k.wrap (BitVec.ofInt k.bits x &&& BitVec.ofInt k.bits y).toNat
  | .or => k.wrap (BitVec.ofInt k.bits x ||| BitVec.ofInt k.bits y).toNat
  | .xor => k.wrap (BitVec.ofInt k.bits x ^^^ BitVec.ofInt k.bits y).toNat
  | _ => k.wrap (BitVec.ofInt k.bits x &&& ~~~ BitVec.ofInt k.bits y).toNat

def intA (op : BinOp) (k : IntKind) (x y : Int) : Option (Bool × AVal) :=
  match op with
  | .add => match aWrap k (x + y) with
    | some (c, n) => some (c, .int k n)
    | none => none
  | .sub => match aWrap k (x - y) with
    | some (c, n) => some (c, .int k n)
    | none => none
  | .mul => match aWrap k (x * y) with
    | some (c, n) => some (c, .int k n)
    | none => none
  | .quo => match aWrap k (x / y) with
    | some (c, n) => some (decide (0 ≤ x ∧ 0 < y) && c, .int k n)
    | none => none
  | .rem => some (decide (0 ≤ x ∧ 0 < y), .int k (x % y))
  | .and => some (true, .int k (bitsA .and k x y))
  | .or => some (true, .int k (bitsA .or k x y))
  | .xor => some (true, .int k (bitsA .xor k x y))
  | .andNot => some (true, .int k (bitsA .andNot k x y))
  | .eql => some (true, .bool (decide (x = y)))
  | .neq => some (true, .bool (!decide (x = y)))
  | .lss => some (true, .bool (decide (x < y)))
  | .leq => some (true, .bool (decide (x ≤ y)))
  | .gtr => some (true, .bool (decide (y < x)))
  | .geq => some (true, .bool (decide (y ≤ x)))
  | _ => none

def shiftA (op : BinOp) (k : IntKind) (x y : Int) : Option (Bool × AVal) :=
  match op with
  | .shl => match aWrap k (x * pow2 k y) with
    | some (c, n) => some (decide (0 ≤ y) && c, .int k n)
    | none => none
  | .shr => some (decide (0 ≤ y), .int k (x / pow2 k y))
  | _ => none

/-! ### equality -/

def eqFs (P : Program) (eq : TypeId → AVal → AVal → Option Bool) (xs ys : List AVal) : List Field → Option Bool
  | [] => some true
  | f :: fs => match f.name == "_" with
    | true => eqFs P eq xs ys fs
    | false => match sizeA P f.type, aggA P f.type with
      | some m, some ag => match takeN m (xs.drop f.offset), takeN m (ys.drop f.offset) with
        | some a, some b => match pack ag a, pack ag b with
          | some a, some b => match eq f.type a b, eqFs P eq xs ys fs with
            | some r, some s => some (r && s)
            | _, _ => none
          | _, _ => none
        | _, _ => none
      | _, _ => none

def eqAs (ag : Bool) (m : Nat) (eq : AVal → AVal → Option Bool) (xs ys : List AVal) : Nat → Nat → Option Bool
  | 0, _ => some true
  | n + 1, o => match takeN m (xs.drop o), takeN m (ys.drop o) with
    | some a, some b => match pack ag a, pack ag b with
      | some a, some b => match eq a b, eqAs ag m eq xs ys n (o + m) with
        | some r, some s => some (r && s)
        | _, _ => none
      | _, _ => none
    | _, _ => none

def eqT (P : Program) : Nat → TypeId → AVal → AVal → Option Bool
  | 0, _, _, _ => none
  | d + 1, t, x, y =>
    match P.underlying t, x, y with
    | some .bool, .bool a, .bool b => some (a == b)
    | some (.int _), .int k a, .int k' b => if k = k' then some (decide (a = b)) else none
    | some .string, .str a, .str b => some (decide (a = b))
    | some (.struct fs), .agg xs, .agg ys => match P.stoodInHeld t with
      | true => none
      | false => eqFs P (eqT P d) xs ys fs.toList
    | some (.array n e), .agg xs, .agg ys => match sizeA P e, aggA P e with
      | some m, some ag => eqAs ag m (eqT P d e) xs ys n 0
      | _, _ => none
    | some (.pointer _), .nilp, .nilp => some true
    | some (.pointer _), .ptr _ _ _ _, .nilp => some false
    | some (.pointer _), .nilp, .ptr _ _ _ _ => some false
    | some (.slice _), .nils, .nils => some true
    | some (.slice _), .nils, .sl _ _ _ _ _ _ => some false
    | some (.slice _), .sl _ _ _ _ _ _, .nils => some false
    | _, _, _ => none

/-! ### the operations that leave memory as it is -/

def binA (P : Program) (op : BinOp) (t : TypeId) (x y : AVal) : Option (Bool × AVal) :=
  match x, y with
  | .int k a, .int k' b =>
    match op with
    | .shl => shiftA .shl k a b
    | .shr => shiftA .shr k a b
    | op => if k = k' then intA op k a b else none
  | .str a, .str b =>
    match op with
    | .add => some (decide (((a.length + b.length : Nat) : Int) ≤ 9223372036854775807), .str (a ++ b))
    | .eql => some (true, .bool (decide (a = b)))
    | .neq => some (true, .bool (!decide (a = b)))
    | _ => none
  | x, y =>
    match P.eqGuardType P.depth t with
    | true => none
    | false => match op with
      | .eql => match eqT P 12 t x y with
        | some r => some (true, .bool r)
        | none => none
      | .neq => match eqT P 12 t x y with
        | some r => some (true, .bool (!r))
        | none => none
      | _ => none

def unA (op : UnOp) (x : AVal) : Option (Bool × AVal) :=
  match op, x with
  | .not, .bool b => some (true, .bool (!b))
  | .neg, .int k n => match aWrap k (0 - n) with
    | some (c, m) => some (c, .int k m)
    | none => none
  | _, _ => none

def bytesOfA : List AVal → Option (List UInt8)
  | [] => some []
  | .int .u8 n :: l => match bytesOfA l with
    | some r => some (UInt8.ofNat n.toNat :: r)
    | none => none
  | _ => none

def convA (P : Program) (H : AHeap) (src dst : TypeId) (x : AVal) : Option (Bool × AVal) :=
  match P.underlying src, P.underlying dst, x with
  | some _, some (.int k), .int _ n => match aWrap k n with
    | some (c, m) => some (c, .int k m)
    | none => none
  | some _, some .string, .str s => some (true, .str s)
  | some (.slice e), some .string, .nils => match P.underlying e with
    | some (.int .u8) => some (true, .str [])
    | _ => none
  | some (.slice e), some .string, .sl b i sz j n _ => match P.underlying e with
    | some (.int .u8) => match H.get b with
      | some (.cells _ l) => match sz with
        | 1 => match takeN n (l.drop (i * 1 + j)) with
          | some r => match bytesOfA r with
            | some bs => some (true, .str bs)
            | none => none
          | none => none
        | _ => none
      | some (.row _ T l _) => match Nat.beq sz 1, j, T.bytes with
        | true, 0, some (f, _) => some (decide (i + n ≤ l.length), .str (f ((l.drop i).take n)))
        | _, _, _ => none
      | _ => none
    | _ => none
  | _, _, _ => none

/-- Does a slice lie within its array's capacity? -/
def capA (H : AHeap) (b i n : Nat) (c : Option Nat) : Option Bool :=
  match c with
  | some c => some (decide (n ≤ c))
  | none => match H.get b with
    | some (.row _ T l _) => some (decide (i + n ≤ l.length))
    | _ => none

def sliceA (P : Program) (H : AHeap) (t : TypeId) (x : AVal) (lo hi : Option AVal) : Option (Bool × AVal) :=
  match P.underlying t, x with
  | some .string, .str s => match lo, hi with
    | none, none => some (true, .str s)
    | some (.int _ l), none => some (decide (0 ≤ l ∧ l ≤ s.length), .str (s.drop l.toNat))
    | none, some (.int _ h) => some (decide (0 ≤ h ∧ h ≤ s.length), .str (s.take h.toNat))
    | some (.int _ l), some (.int _ h) => some (decide (0 ≤ l ∧ l ≤ h ∧ h ≤ s.length), .str ((s.take h.toNat).drop l.toNat))
    | _, _ => none
  | some (.slice e), .sl b i sz j n c => match sizeA P e, capA H b i n c with
    | some m, some q => match Nat.beq m sz with
      | true => match lo, hi with
        | none, none => some (q, .sl b i sz j n c)
        | some (.int _ l), none => some (decide (0 ≤ l ∧ l < n) && q, .sl b (i + l.toNat) sz j (n - l.toNat) (c.map (· - l.toNat)))
        | none, some (.int _ h) => some (decide (0 ≤ h ∧ h ≤ n) && q, .sl b i sz j h.toNat c)
        | some (.int _ l), some (.int _ h) => some (decide (0 ≤ l ∧ l < n ∧ l ≤ h ∧ h ≤ n) && q, .sl b (i + l.toNat) sz j (h.toNat - l.toNat) (c.map (· - l.toNat)))
        | _, _ => none
      | false => none
    | _, _ => none
  | some (.array n e), .ptr b i sz j => match sizeA P e with
    | some m => match lo, hi with
      | none, none => some (true, .sl b 0 m (i * sz + j) n (some n))
      | none, some (.int _ h) => some (decide (0 ≤ h ∧ h ≤ n), .sl b 0 m (i * sz + j) h.toNat (some n))
      | _, _ => none
    | none => none
  | _, _ => none

def optO (E : Env) : Option Operand → Option (Option AVal)
  | none => some none
  | some x => match evalO E x with
    | some v => some (some v)
    | none => none

def fieldAddrA (P : Program) (t : TypeId) (x : AVal) (f : Nat) : Option (Bool × AVal) :=
  match P.underlying t, x with
  | some (.struct fs), .ptr b i sz j => match fs.toList[f]? with
    | some fd => match sizeA P fd.type with
      | some (_ + 1) => some (true, .ptr b i sz (j + fd.offset))
      | _ => none
    | none => none
  | _, _ => none

def fieldA (P : Program) (t : TypeId) (x : AVal) (f : Nat) : Option (Bool × AVal) :=
  match P.underlying t, x with
  | some (.struct fs), .agg cs => match fs.toList[f]? with
    | some fd => match sizeA P fd.type, aggA P fd.type with
      | some m, some ag => match takeN m (cs.drop fd.offset) with
        | some r => match pack ag r with
          | some v => some (true, v)
          | none => none
        | none => none
      | _, _ => none
    | none => none
  | _, _ => none

def indexAddrA (P : Program) (t : TypeId) (x ix : AVal) : Option (Bool × AVal) :=
  match P.underlying t, x, ix with
  | some (.slice e), .sl b i sz j n _, .int _ k => match sizeA P e with
    | some (m + 1) => match Nat.beq (m + 1) sz with
      | true => some (decide (0 ≤ k ∧ k < n), .ptr b (i + k.toNat) sz j)
      | false => none
    | _ => none
  | some (.array n e), .ptr b i sz j, .int _ k => match sizeA P e with
    | some (m + 1) => some (decide (0 ≤ k ∧ k < n), .ptr b k.toNat (m + 1) (i * sz + j))
    | _ => none
  | _, _, _ => none

def indexA (P : Program) (sm : Bool) (t : TypeId) (x ix : AVal) : Option (Bool × AVal) :=
  match P.underlying t, x, ix with
  | some .string, .str s, .int _ k => some (decide (0 ≤ k ∧ k < s.length), .int .u8 ((s.getD k.toNat 0).toNat : Int))
  | some (.array n e), .agg cs, .int _ k => match sizeA P e, aggA P e with
    | some (m + 1), some ag => match sm with
      | true => match selCells cs k.toNat (m + 1) n (m + 1) 0 with
        | some r => match pack ag r with
          | some v => some (decide (0 ≤ k ∧ k < n), v)
          | none => none
        | none => none
      | false => match takeN (m + 1) (cs.drop (k.toNat * (m + 1))) with
        | some r => match pack ag r with
          | some v => some (decide (0 ≤ k ∧ k < n), v)
          | none => none
        | none => none
    | _, _ => none
  | _, _, _ => none

def loadA (P : Program) (sm : Bool) (H : AHeap) (t : TypeId) (x : AVal) : Option (Bool × AVal) :=
  match x with
  | .ptr b i sz j => match H.get b with
    | some blk => match sizeA P t, aggA P t with
      | some m, some ag => match readCells sm blk i sz j m with
        | some (c, r) => match pack ag r with
          | some v => some (c, v)
          | none => none
        | none => none
      | _, _ => none
    | none => none
  | _ => none

def lenA (P : Program) (t : TypeId) (x : AVal) : Option (Bool × AVal) :=
  match P.underlying t, x with
  | some .string, .str s => some (true, .int .i64 (s.length : Int))
  | some (.slice _), .sl _ _ _ _ n _ => some (true, .int .i64 (n : Int))
  | some (.slice _), .nils => some (true, .int .i64 0)
  | some (.array n _), _ => some (true, .int .i64 (n : Int))
  | _, _ => none

def fillA : List (Nat × Nat) → List AVal → List (Nat × AVal) → Option (List AVal)
  | _, cells, [] => some cells
  | places, cells, (i, v) :: rest => match places[i]? with
    | some (off, s + 1) => match Nat.beq (cellsOfA v).length (s + 1) with
      | true => match replaceAt cells off (cellsOfA v) with
        | some r => fillA places r rest
        | none => none
      | false => none
    | _ => none

def placesA (P : Program) : List Field → Option (List (Nat × Nat))
  | [] => some []
  | f :: fs => match sizeA P f.type, placesA P fs with
    | some m, some r => some ((f.offset, m) :: r)
    | _, _ => none

def arrPlaces (m : Nat) : Nat → Nat → List (Nat × Nat)
  | 0, _ => []
  | n + 1, o => (o, m) :: arrPlaces m n (o + m)

def evalP (E : Env) : List (Nat × Operand) → Option (List (Nat × AVal))
  | [] => some []
  | (i, x) :: r => match evalO E x, evalP E r with
    | some v, some vs => some ((i, v) :: vs)
    | _, _ => none

def buildA (P : Program) (t : TypeId) (parts : List (Nat × AVal)) : Option (Bool × AVal) :=
  match zeroA P t with
  | some z => match P.underlying t with
    | some (.struct fs) => match placesA P fs.toList with
      | some ps => match fillA ps z parts with
        | some r => some (true, .agg r)
        | none => none
      | none => none
    | some (.array n e) => match sizeA P e with
      | some m => match fillA (arrPlaces m n 0) z parts with
        | some r => some (true, .agg r)
        | none => none
      | none => none
    | _ => none
  | none => none

def pickA (c a b : AVal) : Option (Bool × AVal) :=
  match c with
  | .bool true => some (true, a)
  | .bool false => some (true, b)
  | _ => none

def minMaxA (isMax : Bool) : List AVal → Option (Bool × AVal)
  | [.int .i64 x, .int .i64 y] => some (true, .int .i64 (match isMax with | true => max x y | false => min x y))
  | _ => none

/-- What an operation comes to that leaves memory as it is and calls nobody. -/
def pureA (P : Program) (sm : Bool) (o : Oper) (E : Env) (H : AHeap) : Option (Bool × AVal) :=
  match o.op with
  | .move x | .assign x => match evalO E x with
    | some v => some (true, v)
    | none => none
  | .pick c a b => match evalO E c with
    | some (.bool true) => match evalO E a with
      | some v => some (true, v)
      | none => none
    | some (.bool false) => match evalO E b with
      | some v => some (true, v)
      | none => none
    | _ => none
  | .load t x => match evalO E x with
    | some v => loadA P sm H t v
    | none => none
  | .nilCheck x => match evalO E x with
    | some (.ptr b i sz j) => some (true, .ptr b i sz j)
    | some (.func f first cap) => some (true, .func f first cap)
    | _ => none
  | .binOp op t x y _ => match evalO E x, evalO E y with
    | some a, some b => binA P op t a b
    | _, _ => none
  | .unOp op _ x => match evalO E x with
    | some v => unA op v
    | none => none
  | .convert s d x => match evalO E x with
    | some v => convA P H s d v
    | none => none
  | .slice t x lo hi none => match evalO E x, optO E lo, optO E hi with
    | some v, some l, some h => sliceA P H t v l h
    | _, _, _ => none
  | .fieldAddr t x f => match evalO E x with
    | some v => fieldAddrA P t v f
    | none => none
  | .field t x f => match evalO E x with
    | some v => fieldA P t v f
    | none => none
  | .indexAddr t x ix => match evalO E x, evalO E ix with
    | some v, some i => indexAddrA P t v i
    | _, _ => none
  | .index t x ix => match evalO E x, evalO E ix with
    | some v, some i => indexA P sm t v i
    | _, _ => none
  | .extract x ix => match evalO E x with
    | some (.tup vs) => match nth vs ix with
      | some v => some (true, v)
      | none => none
    | _ => none
  | .build t parts => match evalP E parts.toList with
    | some ps => buildA P t ps
    | none => none
  | .makeFunc (.func f) first cap => match evalL E first.toList, evalL E cap.toList with
    | some a, some b => some (true, .func f a b)
    | _, _ => none
  | .call { callee := .builtin .len, args := ⟨[x]⟩, argTypes := ⟨[t]⟩ } => match evalO E x with
    | some v => lenA P t v
    | none => none
  | .call { callee := .builtin .min, args := args, .. } => match evalL E args.toList with
    | some vs => minMaxA false vs
    | none => none
  | .call { callee := .builtin .max, args := args, .. } => match evalL E args.toList with
    | some vs => minMaxA true vs
    | none => none
  | _ => none

end Go.Proofs.Ytofnedbclnlnmaa.Ev
