/-
  Pieces out of bytes: what the functions come to.
-/
import Derived.Test.YtjacnjecggedhaaGseOk3
import Derived.Test.YtjacnjecggedhaaEm4
import Derived.Test.YtjacnjecggedhaaEm4
import Derived.Test.YtjacnjecggedhaaPcRow
namespace Go.Proofs.Ytjacnjecggedhaa
set_option linter.unusedVariables false
set_option linter.unusedSimpArgs false
open Go.RowKit Ev

/-- A byte of a text. -/
def by8 (b : List UInt8) (i : Nat) : Int := ((b.getD i 0).toNat : Int)
/-- Two bytes of a text, as a number. -/
def w16 (b : List UInt8) (i : Nat) : Int := by8 b i * 256 + by8 b (i + 1)

/-- What reading is given up by. -/
def shortV : AVal := .iface 110 (.agg [])

noncomputable def gTake (l r : List AVal) (k : Out → List AVal → Prop) : Prop := match l, r with
  | [.str s], [.int .i64 n] => branch (decide ((s.length : Int) < n)) (k (.panic shortV) [.str s]) (obl (decide (0 ≤ n)) (k (.ret (.str (s.take n.toNat))) [.str (s.drop n.toNat)]))
  | _, _ => Stuck 40 []

noncomputable def gByte (l r : List AVal) (k : Out → List AVal → Prop) : Prop := match l, r with
  | [.str s], [] => branch (decide ((s.length : Int) < 1)) (k (.panic shortV) [.str s]) (k (.ret (.int .i64 (by8 s 0))) [.str (s.drop 1)])
  | _, _ => Stuck 41 []

noncomputable def gWord (l r : List AVal) (k : Out → List AVal → Prop) : Prop := match l, r with
  | [.str s], [] => branch (decide ((s.length : Int) < 2)) (k (.panic shortV) [.str (s.drop 1)]) (k (.ret (.int .i64 (w16 s 0))) [.str (s.drop 2)])
  | _, _ => Stuck 42 []

/-- Where a piece's type stands in its body. -/
def rA (st en : Bool) : Nat := if st && en then 0 else 1
def rB (st en : Bool) : Nat := rA st en + (if st && !en then 2 else 0)
def rC (st en : Bool) (k : Int) : Nat := rB st en + (if st then 2 + (lSize k).toNat else 0)
/-- Is a body long enough? -/
def rOk (st en : Bool) (k : Int) (b : List UInt8) : Bool := decide (rC st en k + (if !st && en then 4 else 0) ≤ b.length)
def rId (st en : Bool) (b : List UInt8) : Int := if st && en then 0 else by8 b 0
def rTotal (st en : Bool) (b : List UInt8) : Int := if st && !en then w16 b 1 else 0
def rTyp (st en : Bool) (b : List UInt8) : Int := if st then w16 b (rB st en) else 0
def rK (st : Bool) (k : Int) : Int := if st then k else 0
def rLb (st en : Bool) (k : Int) (b : List UInt8) : List UInt8 := if st then (b.drop (rB st en + 2)).take (lSize k).toNat else []
def rData (st en : Bool) (k : Int) (b : List UInt8) : List UInt8 := if !st && en then (b.drop 1).take (b.length - 5) else b.drop (rC st en k)
def rSum (st en : Bool) (b : List UInt8) : List UInt8 := if !st && en then b.drop (b.length - 4) else []

noncomputable def gRead (r : List AVal) (k : Out → Prop) : Prop := match r with
  | [.agg [.bool st, .bool en], .int .i64 kind, .str b] => obl (decide (b.length ≤ 9223372036854775807)) <| branch (rOk st en kind b) (k (.ret (.agg [.bool st, .bool en, .int .i64 (rId st en b), .int .i64 (rTotal st en b), .int .i64 (rTyp st en b), .int .i64 (rK st kind), .str (rLb st en kind b), .str (rData st en kind b), .str (rSum st en b)]))) (k (.panic shortV))
  | _ => Stuck 43 []

noncomputable def TR1 : Tabs := TG.addGc 41 (gcCell 112 gTake)
noncomputable def TR2 : Tabs := TR1.addGc 56 (gcCell 112 gByte)
noncomputable def TR3 : Tabs := TR2.addGc 40 (gcCell 112 gWord)
noncomputable def TR4 : Tabs := TR3.addGc 42 (gcData gRead)

end Go.Proofs.Ytjacnjecggedhaa
