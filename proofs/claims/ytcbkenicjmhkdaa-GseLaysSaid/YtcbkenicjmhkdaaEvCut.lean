/-
  Ev: a function's body, reckoned as far as its k-th part.
-/
import Derived.Test.YtcbkenicjmhkdaaEvDf
namespace Go.Proofs.Ytcbkenicjmhkdaa.Ev
set_option linter.unusedVariables false
set_option linter.unusedSimpArgs false
open Go.RowKit

/-- The first k parts; KK: what is asked where they end. -/
noncomputable def wpN (X : Ctx) : Nat → Nat → Nat → Nat → Code → Env → AHeap → (Env → AHeap → Prop) → (AExit → Env → AHeap → Prop) → Prop
  | 0, _, _, _, _, E, H, KK, _ => KK E H
  | _ + 1, 0, _, _, _, _, _, _, _ => False
  | k + 1, n + 1, f, base, c, E, H, KK, Q => wpC X n f base (seqL c) E H fun x E H => match x with
    | .normal => wpN X k n f base (seqR c) E H KK Q
    | .exit i => Q (.exit i) E H
    | .ret => Q .ret E H
    | .panic v => Q (.panic v) E H

def isSeqs : Nat → Code → Bool
  | 0, _ => true
  | k + 1, .seq _ b => isSeqs k b
  | _ + 1, _ => false
def tailN : Nat → Code → Code
  | 0, c => c
  | k + 1, c => tailN k (seqR c)

theorem wpN_wpC {X : Ctx} {f base : Nat} {Q : AExit → Env → AHeap → Prop} : ∀ (k n : Nat) (c : Code) (E : Env) (H : AHeap), isSeqs k c = true →
    wpN X k (n + k) f base c E H (fun E H => wpC X n f base (tailN k c) E H Q) Q = wpC X (n + k) f base c E H Q
  | 0, n, c, E, H, _ => rfl
  | k + 1, n, c, E, H, h => by
    cases c with
    | seq a b =>
      show wpC X (n + k) f base a E H (fun x E H => match x with
        | .normal => wpN X k (n + k) f base b E H (fun E H => wpC X n f base (tailN k b) E H Q) Q
        | .exit i => Q (.exit i) E H
        | .ret => Q .ret E H
        | .panic v => Q (.panic v) E H) = wpC X ((n + k) + 1) f base (.seq a b) E H Q
      have e : ∀ E H, wpN X k (n + k) f base b E H (fun E H => wpC X n f base (tailN k b) E H Q) Q = wpC X (n + k) f base b E H Q := fun E H => wpN_wpC k n b E H h
      simp only [e]
      rfl
    | _ => simp [isSeqs] at h

/-- A call, in two parts. -/
theorem callC_cut {X : Ctx} {f k n : Nat} {fn : Func} {c : Code} {args : List AVal} {H : AHeap} {K : Out → AHeap → Prop} (hg : X.gc f = none) (hf : X.fns f = some fn) (hb : fn.body = some c) (hs : isSeqs k c = true)
    (h : wpN X k (n + k) f H.next c (env0 args 0) H (fun E H' => wpC X n f H.next (tailN k c) E H' (endA X.P fn K)) (endA X.P fn K)) : callC X (n + k) f args H K := by
  rw [wpN_wpC k n c _ _ hs] at h
  unfold callC
  rw [hg, hf]
  simp only [hb]
  exact h

end Go.Proofs.Ytcbkenicjmhkdaa.Ev
