/- The program's IsGreedy answers as the reference's does, for every list. -/
import Derived.Test.YtbaodkllldhbmaaFirst0
import Derived.Test.YtbaodkllldhbmaaGx14
import Derived.Test.YtbaodkllldhbmaaGx13
namespace Go.Proofs.Ytbaodkllldhbmaa.Pure
open Go.RowKit Go.Proofs.Ytbaodkllldhbmaa.G Go.Proofs.YtbaodkllldhbmaaW.PrintWords Go.Proofs.YtbaodkllldhbmaaW.PrintLast

theorem IsGreedy_ev (l : List Int) (hl : l.length ≤ 35184372088832) : ∃ r : Bool × Bool, Ev (fun k => spec_IsGreedy.f k l) r ∧ Ev (fun k => impl_IsGreedy.f k l) r := by
  obtain ⟨r, hs, hi⟩ := FirstFailure_ev l hl
  unfold spec_IsGreedy.f impl_IsGreedy.f
  cases hco : coinsB l with
  | false => exact ⟨_, Ev.bind (cnGood_ev l hl) (Ev.if_neg' (by simp [hco]) (Ev.now _)), Ev.bind (AreCoins_ev l hl) (Ev.if_neg' (by simp [hco]) (Ev.now _))⟩
  | true => exact ⟨(!r.2, true), Ev.bind (cnGood_ev l hl) (Ev.if_pos' hco (Ev.bind hs (Ev.now _))), Ev.bind (AreCoins_ev l hl) (Ev.if_pos' hco (Ev.bind hi (Ev.now _)))⟩
theorem FnExactIsGreedy : laws_FnExactIsGreedy.Pure := by
  intro l _ _ _
  by_cases h : (l.length : Int) > 1048576
  · exact ⟨0, by unfold laws_FnExactIsGreedy.f; rw [if_pos h]⟩
  have hl : l.length ≤ 35184372088832 := by omega
  obtain ⟨r, hs, hi⟩ := IsGreedy_ev l hl
  apply Ev.rounds
  unfold laws_FnExactIsGreedy.f
  refine Ev.if_neg' h (Ev.bind (toIntS_ev l hl) (Ev.bind hs (Ev.bind (toIntS_ev l hl) (Ev.bind hi (Ev.if_neg' (by simp) ?_)))))
  rw [show (r.2 != r.2) = false by simp]
  exact Ev.step (fun k => by rw [laws_FnExactIsGreedy.j0, if_neg (by simp)]) (same_end l hl)

end Go.Proofs.Ytbaodkllldhbmaa.Pure
