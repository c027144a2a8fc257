/-
  MemberOnce: states.
-/
import Derived.Test.YtcgnoegejmhgmaaMbL3
namespace Go.Proofs.Ytcgnoegejmhgmaa
set_option linter.unusedVariables false
set_option linter.unusedSimpArgs false
open Go.RowKit Ev

namespace Ev
def condO (d : Operand) : Code → Operand
  | .cond o _ _ => o
  | _ => d

/-- A fork. -/
theorem Gd.cond {X : Ctx} {f : FuncId} {H0 : AHeap} {Q : AExit → Env → AHeap → Prop} {E : Env} {H : AHeap} {o : Operand} {x y : Code} {b : Bool} (hb : evalO E o = some (.bool b))
    (h1 : b = true → Gd X f H0 x Q E H) (h2 : b = false → Gd X f H0 y Q E H) : Gd X f H0 (.cond o x y) Q E H := by
  intro fn hf N hN d ρ0 w0 ρ a w hS hE hd hn
  obtain ⟨q1, q2⟩ := evalO_tr hE hb
  exact wp_cond_split (t := b) (by rw [q1]; rfl) (fun ht => h1 ht fn hf N hN d ρ0 w0 ρ a w hS hE hd hn) (fun ht => h2 ht fn hf N hN d ρ0 w0 ρ a w hS hE hd hn)
end Ev

/-- Indexes into the array of counts are symbols. -/
noncomputable def TMO : Tabs := symT TM8 5
theorem TMOok : TabsOk TMO Try.prog := symT_ok TM8ok _

noncomputable abbrev onB : Code := bodyC Try.f5
abbrev pR : List Bool := [true, true, true, true, false, true, false, false]
abbrev pC : List Bool := [true, true, true, true, false, true, false, false, true, false, false]
abbrev pD : List Bool := [true, true, true, true, false, true, false, false, true, false, false, true, true, true, true, true]
noncomputable abbrev onR : Code := codeAt pR onB
noncomputable abbrev onA : Code := codeAt (pR ++ [false]) onB
noncomputable abbrev onZ : Code := codeAt (pR ++ [true, true]) onB
noncomputable abbrev onC : Code := codeAt pC onB
noncomputable abbrev on13 : Code := codeAt (pC ++ [true, true, true, true, false, false]) onB
noncomputable abbrev onT : Code := codeAt (pC ++ [true, true, true, true, false, true, false]) onB
noncomputable abbrev onF : Code := codeAt (pC ++ [true, true, true, true, false, true, true]) onB
noncomputable abbrev on14 : Code := codeAt (pC ++ [true, true, true, true, false, true, false, false]) onB
noncomputable abbrev on15 : Code := codeAt (pC ++ [true, true, true, true, false, true, false, true, false, false]) onB
noncomputable abbrev onR2 : Code := codeAt (pC ++ [true, true, true, true, false, true, false, true, false, true, false, false]) onB
noncomputable abbrev onW : Code := codeAt (pC ++ [true, true, true, true, false, true, false, true, true]) onB
noncomputable abbrev onD : Code := codeAt pD onB
noncomputable abbrev on26 : Code := codeAt (pD ++ [true, true, false, false]) onB
noncomputable abbrev onR4 : Code := codeAt (pD ++ [true, true, false, true, false, false]) onB
noncomputable abbrev on27 : Code := codeAt (pD ++ [true, true, false, true, false, false, false]) onB
noncomputable abbrev onG : Code := codeAt (pD ++ [true, true, false, true, false, false, true, false, false]) onB
noncomputable abbrev on28 : Code := codeAt (pD ++ [true, true, false, true, false, false, true, true]) onB
noncomputable abbrev on32 : Code := codeAt (pD ++ [true, true, false, true, false, false, true, false, false, true, true, false]) onB
noncomputable abbrev onR6 : Code := codeAt (pD ++ [true, true, false, true, false, false, true, false, false, true, true, true, false, false]) onB
noncomputable abbrev on38 : Code := codeAt (pD ++ [true, true, true, false]) onB
noncomputable abbrev onR8 : Code := codeAt (pD ++ [true, true, true, true, false, false]) onB
noncomputable abbrev on43 : Code := codeAt [true, true, true, true, true] onB

def cntB (c : Nat → Int) : ABlk := .cells 40 [.int .i64 (c 0), .int .i64 (c 1), .int .i64 (c 2), .int .i64 (c 3), .int .i64 (c 4), .int .i64 (c 5), .int .i64 (c 6), .int .i64 (c 7)]

def onE0 (v : AVal) (n : Int) : Env := [(1, v), (5, .int .i64 n), (6, .ptr 1 0 0 0)]
def onE1 (v : AVal) (n i : Int) : Env := [(1, v), (5, .int .i64 n), (6, .ptr 1 0 0 0), (7, .int .i64 i)]
def onE2 (v : AVal) (n i t m f : Int) (o th : AVal) : Env := [(1, v), (5, .int .i64 n), (6, .ptr 1 0 0 0), (7, .int .i64 i), (8, .int .i64 t), (9, .int .i64 m), (10, .int .i64 f), (11, o), (12, th)]
def onE2b (v : AVal) (n i t m f : Int) (o th : AVal) (b : Bool) : Env := [(1, v), (5, .int .i64 n), (6, .ptr 1 0 0 0), (7, .int .i64 i), (8, .int .i64 t), (9, .int .i64 m), (10, .int .i64 f), (11, o), (12, th), (78, .bool b)]
def onE2n (v : AVal) (n i t m f : Int) (o th r : AVal) : Env := [(1, v), (5, .int .i64 n), (6, .ptr 1 0 0 0), (7, .int .i64 i), (8, .int .i64 t), (9, .int .i64 m), (10, .int .i64 f), (11, o), (12, th), (13, r)]
def onE3 (v : AVal) (n i t m f : Int) (o th r : AVal) (k : Int) : Env := [(1, v), (5, .int .i64 n), (6, .ptr 1 0 0 0), (7, .int .i64 i), (8, .int .i64 t), (9, .int .i64 m), (10, .int .i64 f), (11, o), (12, th), (13, r), (14, .int .i64 k)]
def onE3e (v : AVal) (n i t m f : Int) (th r : AVal) : Env := [(1, v), (5, .int .i64 n), (6, .ptr 1 0 0 0), (7, .int .i64 i), (8, .int .i64 t), (9, .int .i64 m), (10, .int .i64 f), (12, th), (13, r)]
def onE4 (v : AVal) (n i : Int) (ks : AVal) : Env := [(1, v), (5, .int .i64 n), (6, .ptr 1 0 0 0), (7, .int .i64 i), (15, .ptr 2 0 0 0), (16, ks)]
def onE5 (v : AVal) (n i : Int) (ks : AVal) (k : Int) : Env := [(1, v), (5, .int .i64 n), (6, .ptr 1 0 0 0), (7, .int .i64 i), (15, .ptr 2 0 0 0), (16, ks), (17, .int .i64 k)]
def onE5l (v : AVal) (n i : Int) (ks : AVal) (k : Int) (l : AVal) : Env := [(1, v), (5, .int .i64 n), (6, .ptr 1 0 0 0), (7, .int .i64 i), (15, .ptr 2 0 0 0), (16, ks), (17, .int .i64 k), (18, l)]
def onE6 (v : AVal) (n i : Int) (ks : AVal) (k : Int) (l : AVal) (j : Int) : Env := [(1, v), (5, .int .i64 n), (6, .ptr 1 0 0 0), (7, .int .i64 i), (15, .ptr 2 0 0 0), (16, ks), (17, .int .i64 k), (18, l), (19, .int .i64 j)]
def onE7 (v : AVal) (n i : Int) : Env := [(1, v), (5, .int .i64 n), (6, .ptr 1 0 0 0), (7, .int .i64 i), (15, .ptr 2 0 0 0)]
def onE8 (v : AVal) (n i k : Int) : Env := [(1, v), (5, .int .i64 n), (6, .ptr 1 0 0 0), (7, .int .i64 i), (15, .ptr 2 0 0 0), (20, .int .i64 k)]

def onHn (S : MemS) : AHeap := ⟨4, [(1, memAt S 2 3), (2, rowI S.modes), (3, objL S)]⟩
def onH1 (hs : List PairR) (S : MemS) : AHeap := ⟨4, [(0, mlRow hs), (1, memAt S 2 3), (2, rowI S.modes), (3, objL S)]⟩
def onHa (hs : List PairR) (S : MemS) (a : ABlk) : AHeap := ⟨5, [(0, mlRow hs), (1, memAt S 3 4), (2, a), (3, rowI S.modes), (4, objL S)]⟩
def onHb (hs : List PairR) (S : MemS) (a b : ABlk) : AHeap := ⟨6, [(0, mlRow hs), (1, memAt S 4 5), (2, a), (3, b), (4, rowI S.modes), (5, objL S)]⟩
def onHc (hs : List PairR) (S : MemS) (a b c : ABlk) : AHeap := ⟨7, [(0, mlRow hs), (1, memAt S 5 6), (2, a), (3, b), (4, c), (5, rowI S.modes), (6, objL S)]⟩

def tsO0 : List Nat := [1, 5, 6]
def tsO1 : List Nat := [1, 5, 6, 7]
def tsO2 : List Nat := [1, 5, 6, 7, 8, 9, 10, 11, 12]
def tsO4 : List Nat := [1, 5, 6, 7, 15, 16]
def tsO5 : List Nat := [1, 5, 6, 7, 15, 16, 17, 18]
/-- ts: behind, and at an exit. -/
def tsO (a b : List Nat) : AExit → List Nat := fun x => match x with
  | .ret => [4]
  | .normal => a
  | _ => b

end Go.Proofs.Ytcgnoegejmhgmaa
