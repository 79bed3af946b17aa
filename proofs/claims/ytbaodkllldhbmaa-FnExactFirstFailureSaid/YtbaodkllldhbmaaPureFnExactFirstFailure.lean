/- The program's FirstFailure answers as the reference's does, for every list. -/
import Derived.Test.YtbaodkllldhbmaaFirst0
import Derived.Test.YtbaodkllldhbmaaGx13
namespace Go.Proofs.Ytbaodkllldhbmaa.Pure
open Go.RowKit Go.Proofs.Ytbaodkllldhbmaa.G Go.Proofs.YtbaodkllldhbmaaW.PrintWords Go.Proofs.YtbaodkllldhbmaaW.PrintLast

theorem FnExactFirstFailure : laws_FnExactFirstFailure.Pure := by
  intro l _ _ _
  by_cases h : (l.length : Int) > 1048576
  · exact ⟨0, by unfold laws_FnExactFirstFailure.f; rw [if_pos h]⟩
  have hl : l.length ≤ 35184372088832 := by omega
  obtain ⟨r, hs, hi⟩ := FirstFailure_ev l hl
  apply Ev.rounds
  unfold laws_FnExactFirstFailure.f
  refine Ev.if_neg' h (Ev.bind (toIntS_ev l hl) (Ev.bind hs (Ev.bind (toIntS_ev l hl) (Ev.bind hi (Ev.if_pos' rfl ?_)))))
  rw [show (r.2 != r.2) = false by simp]
  exact Ev.step (fun k => by rw [laws_FnExactFirstFailure.j0, if_neg (by simp)]) (same_end l hl)

end Go.Proofs.Ytbaodkllldhbmaa.Pure
