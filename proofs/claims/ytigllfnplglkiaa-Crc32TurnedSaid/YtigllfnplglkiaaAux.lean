/-
  Small laws of the walk, over whatever program: an array or struct that is built whole; a region of open order whose operations keep a class of worlds.
-/
import Derived.WalkKit
import Derived.WalkSpells
import Derived.WalkLawsBesides
import Derived.KernelRfl
import Derived.Lib.Hide
import Derived.StillTailTactics
import Derived.Deep.QuietTactic
import Derived.BigQuiet
namespace Go.Proofs.Ytigllfnplglkiaa
set_option linter.unusedVariables false
open Go.RowKit

theorem wpList_build_to {P : Program} {ops : Array Oper} {rest : List Oper} {o : Oper} {a : Act} {w : World} {Q : Exit → Act → World → Prop} (hg : o.guard = none) (t : TypeId) (parts : List (Nat × Operand)) (ho : o.op = .build t parts.toArray)
    (cells : Array Value) (hf : P.built t (parts.map fun p => (p.1, a.eval p.2)) = some cells)
    (h : wpList P ops Q rest (a.put o.dst (.agg cells)) w) : wpList P ops Q (o :: rest) a w := by
  have hf' : P.built t (parts.toArray.map fun (i, x) => (i, a.eval x)).toList = some cells := by simpa using hf
  exact wpList_build hg t parts.toArray ho (by rw [hf']; rfl) (by rw [hf']; exact h)

theorem wp_region_class {P : Program} {id : Nat} {Q : Exit → Act → World → Prop} {a : Act} {w : World} {l : List Oper} (C : World → Prop) (hm : P.follows .mixedOrders = true) (hB : Region.lexB .any l.toArray = true)
    (hC : C w.drew) (h : wpQuiet P l.toArray C (fun a' => ∀ w', C w' → Q .normal a' w') l a) : (Code.region id l.toArray true).wp P Q a w :=
  wp_region_quiet (C := C) hm hB hC (by simpa using h)

/-- 'string([]byte{..})': the bytes that were just laid. -/
theorem conv_new {P : Program} (src dst e : TypeId) (hs : P.underlying src = some (.slice e)) (he : P.underlying e = some (.int .u8)) (hd : P.underlying dst = some .string) (xs : List Int) (w : World) :
    (convert src dst (.slice (some ⟨w.heap.size, 0, none⟩) xs.length xs.length)).run P (w.alloc (.cells (xs.map (Value.int .u8)).toArray e)) = .ok (.string (strOfNums xs)) (w.alloc (.cells (xs.map (Value.int .u8)).toArray e)) := by
  refine run_convert_bytes_arg _ src e hs he w.heap.size 0 xs.length xs.length xs rfl (fun i hi => ?_) dst hd
  rw [Nat.zero_add, World.cell?_alloc_new]
  simp [List.getElem?_eq_getElem hi, List.getD]

/-- Since W nothing that was there has turned. -/
def Since (W w : World) : Prop := Below W.heap.size W w

theorem quiet_run {P : Program} {C : World → Prop} {K : Act → Prop} {o : Oper} {a : Act} (v : Value) (h : ∀ w, C w → (execOp a.eval o).run P w = .ok (.value v) w) (hK : K (a.put o.dst v)) : o.quiet P a C K :=
  ⟨v, fun w hw => by unfold Oper.quietAt; rw [h w hw]; exact ⟨rfl, rfl⟩, hK⟩

theorem quiet_call {P : Program} {C : World → Prop} {K : Act → Prop} {o : Oper} {a : Act} (f : FuncId) (args : Array Value) (v : Value) (h : ∀ w, C w → (execOp a.eval o).run P w = .ok (.enter f args) w)
    (hc : ∀ w, C w → Calls P f args w fun e w' => e = .returned v ∧ C w') (hK : K (a.put o.dst v)) : o.quiet P a C K :=
  ⟨v, fun w hw => by unfold Oper.quietAt; rw [h w hw]; exact ⟨rfl, hc w hw⟩, hK⟩

theorem Since.call {P : Program} {W w : World} {f : FuncId} {args : Array Value} {v : Value} (hw : Since W w) (h : Calls P f args w fun e w' => e = .returned v ∧ Below w.heap.size w w') : Calls P f args w fun e w' => e = .returned v ∧ Since W w' :=
  h.mono fun _ _ ⟨he, hb⟩ => ⟨he, Below.trans hw (hb.mono (Below.size hw))⟩

/-! ### rows of bytes -/

/-- Block g begins with the bytes l, and they may be written. -/
def HasBytes (w : World) (g : Nat) (l : List UInt8) : Prop :=
  ∀ i (h : i < l.length), w.cell? ⟨g, i, none⟩ = some (.int .u8 (l[i].toNat : Int)) ∧ w.frozen? ⟨g, i, none⟩ = false

theorem HasBytes.below {w w' : World} {g B : Nat} {l : List UInt8} (h : HasBytes w g l) (hb : Below B w w') (hg : g < B) : HasBytes w' g l := fun i hi =>
  ⟨(hb.cell (p := ⟨g, i, none⟩) hg).trans (h i hi).1, (hb.frozen (p := ⟨g, i, none⟩) hg).trans (h i hi).2⟩

theorem HasBytes.drew {w : World} {g : Nat} {l : List UInt8} (h : HasBytes w g l) : HasBytes w.drew g l := h

theorem HasBytes.set {w : World} {g : Nat} {l : List UInt8} (h : HasBytes w g l) (j : Nat) (hj : j < l.length) (x : UInt8) (v : Int) (hv : v = (x.toNat : Int)) : HasBytes (w.setCell ⟨g, j, none⟩ (.int .u8 v)) g (l.set j x) := by
  subst hv
  intro i hi
  have hi' : i < l.length := by simpa using hi
  refine ⟨?_, by rw [World.frozen?_setCell]; exact (h i hi').2⟩
  by_cases hij : j = i
  · subst hij
    rw [World.cell?_setCell_same' _ _ _ (by rw [(h j hj).1]; rfl)]
    simp
  · rw [World.cell?_setCell_other _ _ _ _ (fun e => by simp only [Addr.mk.injEq] at e; omega), (h i hi').1]
    simp [hij]

theorem HasBytes.make (w : World) (e : TypeId) (n : Nat) : HasBytes (w.alloc (.cells (madeCells #[.int .u8 0] n) e)) w.heap.size (List.replicate n 0) := by
  intro i hi
  have hi' : i < n := by simpa using hi
  refine ⟨?_, World.frozen?_alloc_new _ _ _ _⟩
  rw [World.cell?_alloc_new]
  simp [madeCells, hi', Nat.mod_one]

theorem HasBytes.ofString (w : World) (e : TypeId) (s : ByteArray) (cap : Nat) : HasBytes (w.drew.alloc (.cells (bytesRow s cap) e ((bytesRow s cap).size, (bytesRow s cap).size + 1))) w.heap.size s.data.toList := by
  intro i hi
  have hi' : i < s.data.size := by simpa using hi
  have hh : (w.drew.alloc (.cells (bytesRow s cap) e ((bytesRow s cap).size, (bytesRow s cap).size + 1))).heap[w.heap.size]? = some (.cells (bytesRow s cap) e ((bytesRow s cap).size, (bytesRow s cap).size + 1)) := heap_alloc_new w.drew _
  have hsz : i < (bytesRow s cap).size := by simp only [bytesRow, Array.size_append, Array.size_map]; omega
  refine ⟨?_, ?_⟩
  · rw [cell_of_row _ _ i _ _ _ hh]
    have hi2 : i < s.size := hi'
    simp [bytesRow, Array.getElem?_append, hi2]
  · simp only [World.frozen?, hh]
    simp only [Bool.and_eq_false_iff, decide_eq_false_iff_not]
    omega

theorem HasBytes.string {P : Program} {w : World} {g : Nat} {l : List UInt8} (h : HasBytes w g l) (src dst e : TypeId) (hs : P.underlying src = some (.slice e)) (he : P.underlying e = some (.int .u8)) (hd : P.underlying dst = some .string) (c : Nat) :
    (convert src dst (.slice (some ⟨g, 0, none⟩) l.length c)).run P w = .ok (.string ⟨l.toArray⟩) w :=
  run_convert_bytes_back w src dst e ⟨g, 0, none⟩ c l hs he hd fun j hj => by
    have : (⟨g, 0, none⟩ : Addr).add j = ⟨g, j, none⟩ := by unfold Addr.add; split <;> simp_all
    rw [this]; exact (h j hj).1

end Go.Proofs.Ytigllfnplglkiaa
