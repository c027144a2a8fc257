/-
  Texts for RowFillIs: of the reckoner, walks, contracts and plain laws that its row stands on.
-/
import Derived.WalkKit
import Derived.WalkSpells
import Derived.WalkLawsBesides
import Derived.KernelRfl
import Derived.Lib.Hide
import Derived.StillTailTactics
import Derived.Deep.QuietTactic
import Derived.BigQuiet
namespace Go.Proofs.Ytjacnjecggedhaa
set_option linter.unusedVariables false
open Go.RowKit
theorem wpList_build_to {P : Program} {ops : Array Oper} {rest : List Oper} {o : Oper} {a : Act} {w : World} {Q : Exit → Act → World → Prop} (hg : o.guard = none) (t : TypeId) (parts : List (Nat × Operand)) (ho : o.op = .build t parts.toArray)
    (cells : Array Value) (hf : P.built t (parts.map fun p => (p.1, a.eval p.2)) = some cells)
    (h : wpList P ops Q rest (a.put o.dst (.agg cells)) w) : wpList P ops Q (o :: rest) a w := by
  have hf' : P.built t (parts.toArray.map fun (i, x) => (i, a.eval x)).toList = some cells := by simpa using hf
  exact wpList_build hg t parts.toArray ho (by rw [hf']; rfl) (by rw [hf']; exact h)
def Since (W w : World) : Prop := Below W.heap.size W w
theorem Since.call {P : Program} {W w : World} {f : FuncId} {args : Array Value} {v : Value} (hw : Since W w) (h : Calls P f args w fun e w' => e = .returned v ∧ Below w.heap.size w w') : Calls P f args w fun e w' => e = .returned v ∧ Since W w' :=
  h.mono fun _ _ ⟨he, hb⟩ => ⟨he, Below.trans hw (hb.mono (Below.size hw))⟩
structure Wrote (w w' : World) (g o n : Nat) : Prop where
  grown : w.grownBy w' (some g)
  cell : ∀ j, j < o ∨ o + n ≤ j → w'.cell? ⟨g, j, none⟩ = w.cell? ⟨g, j, none⟩
  frozen : ∀ j, w'.frozen? ⟨g, j, none⟩ = w.frozen? ⟨g, j, none⟩
theorem Wrote.set {w w' : World} {g o n : Nat} (h : Wrote w w' g o n) {j : Nat} (hj : o ≤ j) (hj2 : j < o + n) (v : Value) : Wrote w (w'.setCell ⟨g, j, none⟩ v) g o n := by
  refine ⟨⟨h.grown.os, h.grown.tape, h.grown.output, by simp [World.setCell]; exact h.grown.size, fun k hk hne => ?_⟩, fun i hi => ?_, fun i => by rw [World.frozen?_setCell]; exact h.frozen i⟩
  · rw [Below.heap_setCell _ _ _ _ (fun e => hne (by rw [e]))]; exact h.grown.block k hk hne
  · rw [World.cell?_setCell_other _ _ _ _ (fun e => by simp only [Addr.mk.injEq] at e; omega)]; exact h.cell i hi
theorem Wrote.drew {w w' : World} {g o n : Nat} (h : Wrote w w' g o n) : Wrote w w'.drew g o n := ⟨⟨h.grown.os, h.grown.tape, h.grown.output, h.grown.size, h.grown.block⟩, h.cell, h.frozen⟩
theorem Wrote.size {w w' : World} {g o n : Nat} (h : Wrote w w' g o n) : w.heap.size ≤ w'.heap.size := h.grown.size
theorem Wrote.trans {w w' w'' : World} {g o n : Nat} (h : Wrote w w' g o n) (k : Wrote w' w'' g o n) : Wrote w w'' g o n :=
  ⟨⟨k.grown.os.trans h.grown.os, k.grown.tape.trans h.grown.tape, k.grown.output.trans h.grown.output, Nat.le_trans h.grown.size k.grown.size, fun i hi hne => (k.grown.block i (Nat.lt_of_lt_of_le hi h.grown.size) hne).trans (h.grown.block i hi hne)⟩,
   fun j hj => (k.cell j hj).trans (h.cell j hj), fun j => (k.frozen j).trans (h.frozen j)⟩
theorem Wrote.below {w0 w w' : World} {g o n B : Nat} (hb : Below B w0 w) (h : Wrote w w' g o n) (hB : B ≤ w.heap.size) (hg : B ≤ g) : Below B w0 w' :=
  hb.grown h.grown hB (fun k hk => by injection hk with hk; omega)
def HasBytes (w : World) (g : Nat) (l : List UInt8) : Prop :=
  ∀ i (h : i < l.length), w.cell? ⟨g, i, none⟩ = some (.int .u8 (l[i].toNat : Int)) ∧ w.frozen? ⟨g, i, none⟩ = false
theorem HasBytes.below {w w' : World} {g B : Nat} {l : List UInt8} (h : HasBytes w g l) (hb : Below B w w') (hg : g < B) : HasBytes w' g l := fun i hi =>
  ⟨(hb.cell (p := ⟨g, i, none⟩) hg).trans (h i hi).1, (hb.frozen (p := ⟨g, i, none⟩) hg).trans (h i hi).2⟩
theorem HasBytes.drew {w : World} {g : Nat} {l : List UInt8} (h : HasBytes w g l) : HasBytes w.drew g l := h
theorem HasBytes.set {w : World} {g : Nat} {l : List UInt8} (h : HasBytes w g l) (j : Nat) (hj : j < l.length) (x : UInt8) (v : Int) (hv : v = (x.toNat : Int)) : HasBytes (w.setCell ⟨g, j, none⟩ (.int .u8 v)) g (l.set j x) := by
  subst hv
  intro i hi
  have hi' : i < l.length := by simpa using hi
  refine ⟨?_, by rw [World.frozen?_setCell]; exact (h i hi').2⟩
  by_cases hij : j = i
  · subst hij
    rw [World.cell?_setCell_same' _ _ _ (by rw [(h j hj).1]; rfl)]
    simp
  · rw [World.cell?_setCell_other _ _ _ _ (fun e => by simp only [Addr.mk.injEq] at e; omega), (h i hi').1]
    simp [hij]
theorem HasBytes.ofString (w : World) (e : TypeId) (s : ByteArray) (cap : Nat) : HasBytes (w.drew.alloc (.cells (bytesRow s cap) e ((bytesRow s cap).size, (bytesRow s cap).size + 1))) w.heap.size s.data.toList := by
  intro i hi
  have hi' : i < s.data.size := by simpa using hi
  have hh : (w.drew.alloc (.cells (bytesRow s cap) e ((bytesRow s cap).size, (bytesRow s cap).size + 1))).heap[w.heap.size]? = some (.cells (bytesRow s cap) e ((bytesRow s cap).size, (bytesRow s cap).size + 1)) := heap_alloc_new w.drew _
  have hsz : i < (bytesRow s cap).size := by simp only [bytesRow, Array.size_append, Array.size_map]; omega
  refine ⟨?_, ?_⟩
  · rw [cell_of_row _ _ i _ _ _ hh]
    have hi2 : i < s.size := hi'
    simp [bytesRow, Array.getElem?_append, hi2]
  · simp only [World.frozen?, hh]
    simp only [Bool.and_eq_false_iff, decide_eq_false_iff_not]
    omega
theorem HasBytes.string {P : Program} {w : World} {g : Nat} {l : List UInt8} (h : HasBytes w g l) (src dst e : TypeId) (hs : P.underlying src = some (.slice e)) (he : P.underlying e = some (.int .u8)) (hd : P.underlying dst = some .string) (c : Nat) :
    (convert src dst (.slice (some ⟨g, 0, none⟩) l.length c)).run P w = .ok (.string ⟨l.toArray⟩) w :=
  run_convert_bytes_back w src dst e ⟨g, 0, none⟩ c l hs he hd fun j hj => by
    have : (⟨g, 0, none⟩ : Addr).add j = ⟨g, j, none⟩ := by unfold Addr.add; split <;> simp_all
    rw [this]; exact (h j hj).1
end Go.Proofs.Ytjacnjecggedhaa
