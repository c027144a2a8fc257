/-
  Ev: a function that defers a closure which recovers.
-/
import Derived.Test.YtcbkenicjmhkdaaEm4
import Derived.Recover
namespace Go.Proofs.Ytcbkenicjmhkdaa.Ev
set_option linter.unusedVariables false
set_option linter.unusedSimpArgs false
open Go.RowKit

def seqL : Code → Code
  | .seq a _ => a
  | c => c
def seqR : Code → Code
  | .seq _ b => b
  | c => c
def bodyC (fn : Func) : Code := match fn.body with
  | some c => c
  | none => .ret

/-- What is asked of a function that first runs c0, then defers a closure (t: its temporary), then runs the rest; the closure asks first what has come to grief (u, u'). -/
noncomputable def wpD (X : Ctx) (n : Nat) (f g t u u' : Nat) (caps : List Operand) (fn : Func) (c0 rest grest : Code) (args : List AVal) (H0 : AHeap) (K : Out → AHeap → Prop) : Prop :=
  wpC X n f H0.next c0 (env0 args 0) H0 fun x E H => match x with
    | .normal => match evalL E caps with
      | some cs => wpC X n f H.next rest ((t, .func g [] cs) :: E) H fun x E' H' => match x with
        | .normal | .ret => wpC X n g H'.next grest ((u', .niface) :: (u, .niface) :: env0 cs 0) H' fun x _ H'' => match x with
          | .normal | .ret => endA X.P fn K .ret E' H''
          | _ => False
        | .panic v => wpC X n g H'.next grest ((u', v) :: (u, v) :: env0 cs 0) H' fun x _ H'' => match x with
          | .normal | .ret => endA X.P fn K .ret E' H''
          | _ => False
        | .exit _ => False
      | none => False
    | _ => False

/-- The results of a function, out of what was reckoned. -/
theorem end_results {X : Ctx} {fn : Func} {E : Env} {H : AHeap} {K : Out → AHeap → Prop} (h : endA X.P fn K .ret E H) {ρ0 ρ : Rho} {H0 : AHeap} {w0 w : World} {a : Act} (hE : RelE ρ H.next E a) (hS : Step ρ0 H0 w0 ρ H w) :
    ∃ v, (results fn a.tmps).run X.P w = .ok v w ∧ ∃ out H'' ρ'', Out.rel ρ'' H''.next out (.returned v) ∧ K out H'' ∧ Step ρ0 H0 w0 ρ'' H'' w := by
  have hH : ∀ b y, H.get b = some y → y.under H.next = true ∧ y.ok ρ w b := fun b y hy => ⟨(hS.rel.blk b y hy).2.1, (hS.rel.blk b y hy).2.2.2⟩
  simp only [endA] at h
  split at h
  · rename_i c vs hres
    obtain ⟨rfl, hk⟩ := obl_true h
    obtain ⟨r1, r2⟩ := resL_sound hE hH hres
    refine ⟨tr ρ (resA vs), ?_, .ret (resA vs), H, ρ, ⟨rfl, ?_⟩, hk, hS⟩
    · rw [results_eq, Array.mapM_eq_mapM_toList]
      simp only [Sem.run_bind, Sem.run_map, r1, Result.andThen_ok, Sem.run_pure]
      congr 1
      cases vs with
      | nil => simp [trL, resA, tr]
      | cons v vs =>
        cases vs with
        | nil => simp [trL, resA]
        | cons v' vs => simp [trL, resA, tr]
    · cases vs with
      | nil => rfl
      | cons v vs =>
        cases vs with
        | nil => simpa [resA, belowL] using r2
        | cons v' vs => exact r2
  · exact h.elim

theorem env0_rel {ρ : Rho} {N : Nat} {args : List AVal} (hargs : belowL N args = true) (m : Nat) : RelE ρ N (env0 args 0) { tmps := (trL ρ args).toArray ++ Array.replicate m undef, defers := [] } := by
  refine ⟨fun t v hv => ?_⟩
  obtain ⟨i, rfl, hi⟩ := env0_get hv
  rw [Nat.zero_add]
  have hil : i < args.length := (List.getElem?_eq_some_iff.1 hi).1
  refine ⟨?_, ?_⟩
  · rw [Array.getElem?_append_left (by simp [trL_length, hil])]
    simp [trL_get, hi]
  · rw [belowL_eq, List.all_eq_true] at hargs
    exact hargs v (List.mem_of_getElem? hi)

theorem blocksC_none {c : Code} (h : blocksC c = []) (l : List (Nat × Code)) : ∀ p ∈ blocksC c, p ∈ l := by rw [h]; simp

/-- THE FUNCTION's CONTRACT. -/
theorem wpD_sound {X : Ctx} (hX : CtxOk X) {n f g t u u' : Nat} {caps : List Operand} {fn gn : Func} {c0 rest grest : Code} {i j ty1 ty2 ty3 ty4 : Nat} {p1 p2 p3 p4 : String} {af2 af4 : Array Edge}
    (hf : X.fns f = some fn) (hg : X.fns g = some gn)
    (hb : fn.body = some (.seq c0 (.seq (.region i #[⟨some t, .makeFunc (.func g) #[] caps.toArray, ty1, p1, #[], none⟩, ⟨none, .defer { callee := .value (.tmp t), args := #[], argTypes := #[] }, ty2, p2, af2, none⟩] false) rest)))
    (hgb : gn.body = some (.seq (.region j #[⟨some u, .call { callee := .builtin .recover, args := #[], argTypes := #[] }, ty3, p3, #[], none⟩, ⟨some u', .assign (.tmp u), ty4, p4, af4, none⟩] false) grest))
    (hgr : gn.results = #[]) (hcaps : caps.length ≤ u ∧ caps.length ≤ u' ∧ u ≠ u' ∧ u < gn.ntmps ∧ u' < gn.ntmps)
    {args : List AVal} {H0 : AHeap} {K : Out → AHeap → Prop} (h : wpD X n f g t u u' caps fn c0 rest grest args H0 K) {ρ0 : Rho} {w0 : World} (hR : Rel ρ0 H0 w0) (hargs : belowL H0.next args = true) :
    Calls X.P f (trL ρ0 args).toArray w0 fun e w' => ∃ out H' ρ', Out.rel ρ' H'.next out e ∧ K out H' ∧ Step ρ0 H0 w0 ρ' H' w' := by
  obtain ⟨q1, q2, c2, q3, q4⟩ := hX.fns f fn hf
  rw [hb] at q3
  cases q3
  obtain ⟨g1, g2, c3, g3, g4⟩ := hX.fns g gn hg
  rw [hgb] at g3
  cases g3
  simp only [okDst, Bool.and_eq_true, List.all_cons, List.all_nil] at q4 g4
  refine calls_of_wp_defers q1 hb ?_
  have hE0 := env0_rel (ρ := ρ0) hargs (fn.ntmps - (trL ρ0 args).toArray.size)
  generalize ha0 : (Act.mk ((trL ρ0 args).toArray ++ Array.replicate (fn.ntmps - (trL ρ0 args).toArray.size) undef) []) = a0 at hE0 ⊢
  have hN0 : fn.ntmps ≤ a0.tmps.size := by rw [← ha0]; simp; omega
  have hd0 : a0.defers = [] := by rw [← ha0]
  have sub0 : ∀ {c : Code}, (∀ p ∈ blocksC c, p ∈ blocksC (.seq c0 (.seq (.region i #[⟨some t, .makeFunc (.func g) #[] caps.toArray, ty1, p1, #[], none⟩, ⟨none, .defer { callee := .value (.tmp t), args := #[], argTypes := #[] }, ty2, p2, af2, none⟩] false) rest))) → okDst fn.ntmps c = true → ∃ fn', X.fns f = some fn' ∧ fn'.ntmps ≤ a0.tmps.size ∧ ∃ body, fn'.body = some body ∧ (∀ p ∈ blocksC c, p ∈ blocksC body) ∧ okDst fn'.ntmps c = true :=
    fun hc ho => ⟨fn, hf, hN0, _, hb, hc, ho⟩
  unfold wpD at h
  refine wp_seq (wp_mono (@wpC_sound X hX ⟨[]⟩ _ _ _ _ _ _ _ h _ _ _ _ _ _ _ (Nat.le_refl _) (sub0 (fun p hp => by simp [blocksC, hp]) q4.1) (Step.refl hR) hE0 hd0 rfl) ?_)
  rintro e a1 w1 ⟨x', E1, H1, ρ1, h1, h2, h3, h4, h5, h6⟩
  cases x' with
  | exit i => exact h2.elim
  | ret => exact h2.elim
  | panic v => exact h2.elim
  | normal =>
    cases e <;> simp only [AExit.rel] at h1
    simp only at h2
    split at h2
    · rename_i cs hcs
      obtain ⟨k1, k2⟩ := evalL_tr h3 hcs
      -- the closure is made and deferred
      refine wp_seq (wp_region ?_)
      have hta : t < a1.tmps.size := by
        have := q4.2.1
        simp at this
        omega
      have ht1 : (a1.put (some t) (.func (.func g) #[] (trL ρ1 cs).toArray)).tmps[t]? = some (.func (.func g) #[] (trL ρ1 cs).toArray) := by
        simp [Act.put, hta]
      have hcm : caps.toArray.map a1.eval = (trL ρ1 cs).toArray := by rw [← k1]; simp
      have r1 : ∀ o : Oper, o.op = .makeFunc (.func g) #[] caps.toArray → (execOp a1.eval o).run X.P w1 = .ok (.value (.func (.func g) #[] (trL ρ1 cs).toArray)) w1 := by
        intro o ho
        simp only [execOp, ho, hcm]
        simp [Instr.makeFunc]
      have r2 : ∀ (a : Act) (o : Oper), a.tmps[t]? = some (.func (.func g) #[] (trL ρ1 cs).toArray) → o.op = .defer { callee := .value (.tmp t), args := #[], argTypes := #[] } → (execOp a.eval o).run X.P w1 = .ok (.defer { target := .fn (.func g) (trL ρ1 cs).toArray, args := #[] }) w1 := by
        intro a o ha ho
        have hev : a.eval (.tmp t) = .func (.func g) #[] (trL ρ1 cs).toArray := by simp [Act.eval, Array.getD_eq_getD_getElem?, ha]
        simp only [execOp, ho, resolve, Sem.run_bind, Sem.run_pure, Result.andThen_ok, hev, Deferred.ofValue]
        simp
      show wpOps X.P _ _ [0, 1] a1 w1
      unfold wpOps
      simp only [List.getElem?_toArray, List.getElem?_cons_zero]
      rw [if_pos (show Region.wanted _ _ = true from rfl)]
      refine .inl ?_
      unfold Oper.wp
      rw [r1 _ rfl, Oper.upon_value]
      unfold wpOps
      simp only [List.getElem?_toArray, List.getElem?_cons_zero, List.getElem?_cons_succ]
      rw [if_pos (show Region.wanted _ _ = true from rfl)]
      refine .inl ?_
      unfold Oper.wp
      rw [r2 _ _ ht1 rfl, Oper.upon_defer]
      unfold wpOps
      simp only [Exit.then]
      -- the rest
      generalize hD : (Deferred.mk (.fn (.func g) (trL ρ1 cs).toArray) #[]) = D
      have hE2 : RelE ρ1 H1.next ((t, .func g [] cs) :: E1) ({ (a1.put (some t) (.func (.func g) #[] (trL ρ1 cs).toArray)) with defers := D :: (a1.put (some t) (.func (.func g) #[] (trL ρ1 cs).toArray)).defers }.put none undef) := by
        have := h3.put (v := .func g [] cs) (dst := some t) (by simp [AVal.under, belowL, k2]) (fun t' ht' => by cases ht'; exact hta)
        exact ⟨fun t' v' hv' => this.get t' v' hv'⟩
      have hdD : ({ (a1.put (some t) (.func (.func g) #[] (trL ρ1 cs).toArray)) with defers := D :: (a1.put (some t) (.func (.func g) #[] (trL ρ1 cs).toArray)).defers }.put none undef).defers = [D] := by
        show D :: (a1.put (some t) _).defers = [D]
        rw [put_defers, h4]
        rfl
      have hnD : ({ (a1.put (some t) (.func (.func g) #[] (trL ρ1 cs).toArray)) with defers := D :: (a1.put (some t) (.func (.func g) #[] (trL ρ1 cs).toArray)).defers }.put none undef).tmps.size = a0.tmps.size := by
        show (a1.put (some t) _).tmps.size = _
        rw [put_size]
        exact h5
      refine wp_mono (@wpC_sound X hX ⟨[D]⟩ _ _ _ _ _ _ _ h2 _ _ _ _ _ _ _ (Nat.le_refl _) (sub0 (fun p hp => by simp [blocksC, hp]) q4.2.2) (Step.refl h6.rel) hE2 hdD hnD) ?_
      rintro e a2 w2 ⟨x2, E2, H2, ρ2, m1, m2, m3, m4, m5, m6⟩
      -- the closure runs
      have hcs2 : trL ρ2 cs = trL ρ1 cs ∧ belowL H2.next cs = true := ⟨trL_agree m6.agree cs k2, belowL_mono m6.next cs k2⟩
      have hcl : cs.length = caps.length := by
        have := congrArg List.length k1
        simpa [trL_length] using this.symm
      obtain ⟨c1, c2, c3, c4, c5⟩ := hcaps
      have gfr : ∀ (v : AVal), v.under H2.next = true → RelE ρ2 H2.next ((u', v) :: (u, v) :: env0 cs 0) ((({ tmps := (trL ρ1 cs).toArray ++ Array.replicate (gn.ntmps - (trL ρ1 cs).toArray.size) undef, defers := [] } : Act).put (some u) (tr ρ2 v)).put (some u') (tr ρ2 v)) := by
        intro v hv
        rw [← hcs2.1]
        have e0 := env0_rel (ρ := ρ2) hcs2.2 (gn.ntmps - (trL ρ2 cs).toArray.size)
        have hsz : gn.ntmps ≤ ((trL ρ2 cs).toArray ++ Array.replicate (gn.ntmps - (trL ρ2 cs).toArray.size) undef).size := by simp; omega
        have e1 := e0.put (v := v) (dst := some u) hv (fun t' ht' => by cases ht'; exact Nat.lt_of_lt_of_le c4 hsz)
        exact e1.put (v := v) (dst := some u') hv (fun t' ht' => by cases ht'; rw [put_size]; exact Nat.lt_of_lt_of_le c5 hsz)
      have hgs : ∃ fn', X.fns g = some fn' ∧ fn'.ntmps ≤ ((trL ρ1 cs).toArray ++ Array.replicate (gn.ntmps - (trL ρ1 cs).toArray.size) undef).size ∧ ∃ body, fn'.body = some body ∧ (∀ p ∈ blocksC grest, p ∈ blocksC body) ∧ okDst fn'.ntmps grest = true :=
        ⟨gn, hg, by simp; omega, _, hgb, fun p hp => by simp [blocksC, hp], g4.2⟩
      -- the closure's call, in either state
      have leave : ∀ (v : AVal) (um : FrameMode) (um' : FrameMode), v.under H2.next = true → settle um' = .returning → um ≠ .run →
          (∀ (c : Frame) (cs' : List Frame), c.mode = um → (match recoverD (c :: cs') with | some (v', cs'') => v' = tr ρ2 v ∧ cs'' = { c with mode := um' } :: cs' | none => tr ρ2 v = .nilIface ∧ um' = um)) →
          (wpC X n g H2.next grest ((u', v) :: (u, v) :: env0 cs 0) H2 fun x _ H'' => match x with
            | .normal | .ret => endA X.P fn K .ret E2 H''
            | _ => False) →
          Leaves X.P fn a2.tmps (fun e w' => ∃ out H' ρ', Out.rel ρ' H'.next out e ∧ K out H' ∧ Step ρ0 H0 w0 ρ' H' w') a2.defers um w2 := by
        intro v um um' hv hset hum hrec hw
        rw [m4]
        show Leaves X.P fn a2.tmps _ [D] um w2
        rw [← hD]
        refine leaves_cons hum (by show (callFunc g (#[] ++ (trL ρ1 cs).toArray)).run X.P w2 = .ok (.enter g (trL ρ1 cs).toArray) w2; rw [Array.empty_append]; exact g2 _ _) ?_
        refine callsD_of_wpS g1 hgb (fun c₀ cs₀ hc₀ => ?_)
        -- the closure's first region: recover, assign
        have hsz : gn.ntmps ≤ ((trL ρ1 cs).toArray ++ Array.replicate (gn.ntmps - (trL ρ1 cs).toArray.size) undef).size := by simp; omega
        generalize hb0 : ({ tmps := (trL ρ1 cs).toArray ++ Array.replicate (gn.ntmps - (trL ρ1 cs).toArray.size) undef, defers := [] } : Act) = b0 at gfr hsz ⊢
        have hsz' : gn.ntmps ≤ b0.tmps.size := by rw [← hb0]; exact hsz
        have rrec : ∀ o : Oper, o.op = .call { callee := .builtin .recover, args := #[], argTypes := #[] } → (execOp b0.eval o).run X.P w2 = .ok .recover w2 := by
          intro o ho
          simp [execOp, ho, resolve, invoke, builtin]
        have rasg : ∀ (o : Oper) (y : Value), o.op = .assign (.tmp u) → (execOp (b0.put (some u) y).eval o).run X.P w2 = .ok (.value y) w2 := by
          intro o y ho
          have hlt : u < b0.tmps.size := Nat.lt_of_lt_of_le c4 hsz'
          have hev : (b0.put (some u) y).eval (.tmp u) = y := by simp [Act.eval, Act.put, Array.getD_eq_getD_getElem?, hlt]
          simp only [execOp, ho, hev]
          rfl
        have fin : ∀ cs'', cs'' = { c₀ with mode := um' } :: cs₀ → grest.wpS X.P (bodyPostS X.P gn c₀ cs₀ fun
            | .returned _, u', w' => Leaves X.P fn a2.tmps (fun e w' => ∃ out H' ρ', Out.rel ρ' H'.next out e ∧ K out H' ∧ Step ρ0 H0 w0 ρ' H' w') [] (settle u') w'
            | .panicked chain, u', w' => Leaves X.P fn a2.tmps (fun e w' => ∃ out H' ρ', Out.rel ρ' H'.next out e ∧ K out H' ∧ Step ρ0 H0 w0 ρ' H' w') [] (raised u' chain) w'
            | .outgrown, _, w' => (fun e w' => ∃ out H' ρ', Out.rel ρ' H'.next out e ∧ K out H' ∧ Step ρ0 H0 w0 ρ' H' w') .outgrown w') ((b0.put (some u) (tr ρ2 v)).put (some u') (tr ρ2 v)) cs'' w2 := by
          rintro cs'' rfl
          refine wpS_of_wp (wp_mono (@wpC_sound X hX ⟨[]⟩ _ _ _ _ _ _ _ hw _ _ _ _ _ _ _ (Nat.le_refl _) (by
            obtain ⟨fn', z1, z2, z3⟩ := hgs
            rw [hg] at z1
            cases z1
            exact ⟨gn, hg, (by rw [put_size, put_size]; exact hsz'), z3⟩) (Step.refl m6.rel) (gfr v hv) (by rw [put_defers, put_defers, ← hb0]; rfl) rfl) ?_)
          rintro e3 a3 w3 ⟨x3, E3, H3, ρ3, n1, n2, n3, n4, n5, n6⟩
          have hfin : endA X.P fn K .ret E2 H3 → bodyPostS X.P gn c₀ cs₀ (fun
              | .returned _, u', w' => Leaves X.P fn a2.tmps (fun e w' => ∃ out H' ρ', Out.rel ρ' H'.next out e ∧ K out H' ∧ Step ρ0 H0 w0 ρ' H' w') [] (settle u') w'
              | .panicked chain, u', w' => Leaves X.P fn a2.tmps (fun e w' => ∃ out H' ρ', Out.rel ρ' H'.next out e ∧ K out H' ∧ Step ρ0 H0 w0 ρ' H' w') [] (raised u' chain) w'
              | .outgrown, _, w' => (fun e w' => ∃ out H' ρ', Out.rel ρ' H'.next out e ∧ K out H' ∧ Step ρ0 H0 w0 ρ' H' w') .outgrown w') .ret a3 ({ c₀ with mode := um' } :: cs₀) w3 := by
            intro he
            refine ⟨n4, um', rfl, .tuple #[], ?_, ?_⟩
            · simp [results, hgr]
            · show Leaves X.P fn a2.tmps _ [] (settle um') w3
              rw [hset]
              obtain ⟨vr, hr1, hr2⟩ := end_results he (m3.step n6.agree n6.next) (h6.trans (m6.trans n6))
              exact ⟨vr, hr1, hr2⟩
          cases x3 with
          | normal => cases e3 <;> simp only [AExit.rel] at n1; exact hfin n2
          | ret => cases e3 <;> simp only [AExit.rel] at n1; exact hfin n2
          | exit i => exact n2.elim
          | panic v => exact n2.elim
        refine wpS_seq (wpS_region ?_)
        show wpOpsS X.P _ _ [0, 1] b0 (c₀ :: cs₀) w2
        have hrc := hrec c₀ cs₀ hc₀
        unfold wpOpsS
        simp only [List.getElem?_toArray, List.getElem?_cons_zero]
        rw [if_pos (show Region.wanted _ _ = true from rfl), rrec _ rfl]
        simp only
        have snd : ∀ (y : Value) (cs'' : List Frame), y = tr ρ2 v → cs'' = { c₀ with mode := um' } :: cs₀ → wpOpsS X.P #[⟨some u, .call { callee := .builtin .recover, args := #[], argTypes := #[] }, ty3, p3, #[], none⟩, ⟨some u', .assign (.tmp u), ty4, p4, af4, none⟩] (Exit.thenS (grest.wpS X.P (bodyPostS X.P gn c₀ cs₀ fun
            | .returned _, u', w' => Leaves X.P fn a2.tmps (fun e w' => ∃ out H' ρ', Out.rel ρ' H'.next out e ∧ K out H' ∧ Step ρ0 H0 w0 ρ' H' w') [] (settle u') w'
            | .panicked chain, u', w' => Leaves X.P fn a2.tmps (fun e w' => ∃ out H' ρ', Out.rel ρ' H'.next out e ∧ K out H' ∧ Step ρ0 H0 w0 ρ' H' w') [] (raised u' chain) w'
            | .outgrown, _, w' => (fun e w' => ∃ out H' ρ', Out.rel ρ' H'.next out e ∧ K out H' ∧ Step ρ0 H0 w0 ρ' H' w') .outgrown w')) (bodyPostS X.P gn c₀ cs₀ fun
            | .returned _, u', w' => Leaves X.P fn a2.tmps (fun e w' => ∃ out H' ρ', Out.rel ρ' H'.next out e ∧ K out H' ∧ Step ρ0 H0 w0 ρ' H' w') [] (settle u') w'
            | .panicked chain, u', w' => Leaves X.P fn a2.tmps (fun e w' => ∃ out H' ρ', Out.rel ρ' H'.next out e ∧ K out H' ∧ Step ρ0 H0 w0 ρ' H' w') [] (raised u' chain) w'
            | .outgrown, _, w' => (fun e w' => ∃ out H' ρ', Out.rel ρ' H'.next out e ∧ K out H' ∧ Step ρ0 H0 w0 ρ' H' w') .outgrown w')) [1] (b0.put (some u) y) cs'' w2 := by
          rintro y cs'' rfl hcs''
          unfold wpOpsS
          simp only [List.getElem?_toArray, List.getElem?_cons_zero, List.getElem?_cons_succ]
          rw [if_pos (show Region.wanted _ _ = true from rfl), rasg _ _ rfl]
          simp only [Oper.upon_value]
          unfold wpOpsS
          exact fin cs'' hcs''
        split at hrc
        · rename_i v' cs'' hrr
          rw [hrr]
          exact snd v' cs'' hrc.1 hrc.2
        · rename_i hrr
          rw [hrr]
          refine snd .nilIface (c₀ :: cs₀) hrc.1.symm ?_
          rw [hrc.2, ← hc₀]
      have ok2 : ∀ um um' v, v.under H2.next = true → settle um' = .returning → um ≠ .run → (∀ (c : Frame) (cs' : List Frame), c.mode = um → (match recoverD (c :: cs') with | some (v', cs'') => v' = tr ρ2 v ∧ cs'' = { c with mode := um' } :: cs' | none => tr ρ2 v = .nilIface ∧ um' = um)) → (wpC X n g H2.next grest ((u', v) :: (u, v) :: env0 cs 0) H2 fun x _ H'' => match x with
            | .normal | .ret => endA X.P fn K .ret E2 H''
            | _ => False) → Leaves X.P fn a2.tmps (fun e w' => ∃ out H' ρ', Out.rel ρ' H'.next out e ∧ K out H' ∧ Step ρ0 H0 w0 ρ' H' w') a2.defers um w2 := fun um um' v q1 q2 q3 q4 q5 => leave v um um' q1 q2 q3 q4 q5
      have rret : ∀ (c : Frame) (cs' : List Frame), c.mode = .returning → (match recoverD (c :: cs') with | some (v', cs'') => v' = tr ρ2 .niface ∧ cs'' = { c with mode := .returning } :: cs' | none => tr ρ2 .niface = .nilIface ∧ FrameMode.returning = .returning) := by
        intro c cs' hc
        simp [recoverD, hc, tr]
      cases x2 with
      | normal => cases e <;> simp only [AExit.rel] at m1; exact ok2 .returning .returning .niface rfl rfl (by simp) rret m2
      | ret => cases e <;> simp only [AExit.rel] at m1; exact ok2 .returning .returning .niface rfl rfl (by simp) rret m2
      | exit i => exact m2.elim
      | panic v =>
        cases e <;> simp only [AExit.rel] at m1
        obtain ⟨rfl, hv⟩ := m1
        refine ok2 (.panicking [{ v := tr ρ2 v, recovered := false }]) (.panicking [{ v := tr ρ2 v, recovered := true }]) v hv rfl (by simp) (fun c cs' hc => ?_) m2
        simp [recoverD, hc]
    · exact h2.elim

/-- Its contract, where it is handed no memory. -/
theorem fc_wpD {X : Ctx} (hX : CtxOk X) {f : Nat} {c : FC} (he : ∀ vs w, (callFunc f vs).run X.P w = .ok (.enter f vs) w)
    (h : ∀ args H v, c args H = some (true, v) → belowL 0 args = true ∧ v.under 0 = true ∧ ∀ ρ w, Calls X.P f (trL ρ args).toArray w fun e w' => ∃ out H' ρ', Out.rel ρ' H'.next out e ∧ out = .ret v ∧ Step ρ ⟨0, []⟩ w ρ' H' w') : FcSound X.P f c := by
  refine fc_of_calls he (fun args H v hv => ?_)
  obtain ⟨h1, h2, h3⟩ := h args H v hv
  refine ⟨h1, h2, fun ρ w => (h3 ρ w).mono ?_⟩
  rintro e w' ⟨out, H', ρ', q1, rfl, q3⟩
  cases e <;> simp only [Out.rel] at q1
  refine ⟨by rw [q1.1, tr_agree (agree0 ρ ρ') v h2], q3.below (Nat.le_refl _) (fun g hg => ?_)⟩
  obtain ⟨b, x, hx, _⟩ := hg
  simp [AHeap.get, getB] at hx

end Go.Proofs.Ytcbkenicjmhkdaa.Ev
