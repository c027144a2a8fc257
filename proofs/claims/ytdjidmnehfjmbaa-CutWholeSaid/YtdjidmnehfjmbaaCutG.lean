/-
  cut.Next, by what comes of it: a contract by outcomes.
-/
import Derived.Test.YtdjidmnehfjmbaaCutOk1
namespace Go.Proofs.Ytdjidmnehfjmbaa
set_option linter.unusedVariables false
set_option linter.unusedSimpArgs false
open Go.RowKit Ev

theorem gc_of_fc {P : Program} {f : Nat} {c : FC} {g : GC} (hc : FcSound P f c) (h : ∀ args H K, g args H K → ∃ v, c args H = some (true, v) ∧ K (.ret v) H) : GcSound P f g := by
  intro args H K hg ρ w hR ha
  obtain ⟨v, hv, hk⟩ := h args H K hg
  obtain ⟨h1, h2⟩ := hc.2 args H v hv ρ w H.next (fun b y hy => (hR.blk b y hy).2) ha
  refine ⟨hc.1, h1.mono ?_⟩
  rintro e w' ⟨rfl, hb⟩
  exact ⟨.ret v, H, ρ, ⟨rfl, h2⟩, hk, Step.grow hR hb⟩

def gcNext : GC := fun args H K => match args with
  | [.agg [.int .i64 typ, .int .i64 k, .str b, .str data, .int .i64 at_, .int .i64 id], .agg [.int .i64 lk, .str lb], .int .i64 space, .bool whole] =>
    (nextR typ k b data at_ id lk lb space whole = ⟨false, false, 0, 0, 0, 0, [], [], [], k, b, at_, 2⟩ → K (.ret (nextT typ data id ⟨false, false, 0, 0, 0, 0, [], [], [], k, b, at_, 2⟩)) H) ∧
    (nextR typ k b data at_ id lk lb space whole = ⟨false, false, 0, 0, 0, 0, [], [], [], k, b, at_, 12⟩ → K (.ret (nextT typ data id ⟨false, false, 0, 0, 0, 0, [], [], [], k, b, at_, 12⟩)) H) ∧
    (nextR typ k b data at_ id lk lb space whole = ⟨true, true, 0, 0, typ, lk, lb, data, [], k, b, (data.length : Int), 0⟩ → K (.ret (nextT typ data id ⟨true, true, 0, 0, typ, lk, lb, data, [], k, b, (data.length : Int), 0⟩)) H) ∧
    (∀ (n : Int) (x : List UInt8), nextR typ k b data at_ id lk lb space whole = ⟨true, false, id, pTotal lk lb (data.length : Int), typ, lk, lb, x, [], lk, lb, n, 0⟩ → K (.ret (nextT typ data id ⟨true, false, id, pTotal lk lb (data.length : Int), typ, lk, lb, x, [], lk, lb, n, 0⟩)) H) ∧
    (∀ (x s : List UInt8), nextR typ k b data at_ id lk lb space whole = ⟨false, true, id, 0, 0, 0, [], x, s, k, b, (data.length : Int), 0⟩ → K (.ret (nextT typ data id ⟨false, true, id, 0, 0, 0, [], x, s, k, b, (data.length : Int), 0⟩)) H) ∧
    (∀ (n : Int) (x : List UInt8), nextR typ k b data at_ id lk lb space whole = ⟨false, false, id, 0, 0, 0, [], x, [], k, b, n, 0⟩ → K (.ret (nextT typ data id ⟨false, false, id, 0, 0, 0, [], x, [], k, b, n, 0⟩)) H)
  | _ => False

theorem gcNext_sound : GcSound Try.prog 6 gcNext := by
  refine gc_of_fc next_sound (fun args H K hg => ?_)
  unfold gcNext at hg
  split at hg
  · rename_i typ k b data at_ id lk lb space whole
    obtain ⟨g1, g2, g3, g4, g5, g6⟩ := hg
    refine ⟨_, rfl, ?_⟩
    generalize hR : nextR typ k b data at_ id lk lb space whole = R at *
    unfold nextR at hR
    split at hR
    · exact hR ▸ g1 hR.symm
    split at hR
    · split at hR
      · exact hR ▸ g3 hR.symm
      split at hR
      · exact hR ▸ g2 hR.symm
      · exact hR ▸ g4 _ _ hR.symm
    · split at hR
      · exact hR ▸ g5 _ _ hR.symm
      split at hR
      · exact hR ▸ g2 hR.symm
      · exact hR ▸ g6 _ _ hR.symm
  · exact hg.elim

noncomputable def TCG : Tabs := TC0.addGc 6 gcNext
theorem TCGok : TabsOk TCG Try.prog := TC0ok.addGc gcNext_sound

end Go.Proofs.Ytdjidmnehfjmbaa
