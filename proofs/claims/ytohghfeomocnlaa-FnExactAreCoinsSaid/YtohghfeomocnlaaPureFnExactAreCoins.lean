/- The program's AreCoins answers as the reference's does, for every list. -/
import Derived.Test.YtohghfeomocnlaaCoin0
import Derived.Test.YtohghfeomocnlaaGx3
namespace Go.Proofs.Ytohghfeomocnlaa.Pure
open Go.RowKit Go.Proofs.Ytohghfeomocnlaa.G Go.Proofs.YtohghfeomocnlaaW.PrintWords Go.Proofs.YtohghfeomocnlaaW.PrintLast

theorem FnExactAreCoins : laws_FnExactAreCoins.Pure := by
  intro l hl _ _
  by_cases h : (l.length : Int) > 1048576
  · exact ⟨0, by unfold laws_FnExactAreCoins.f; rw [if_pos h]⟩
  have hl : l.length ≤ 35184372088832 := by omega
  apply Ev.rounds
  unfold laws_FnExactAreCoins.f spec_AreCoins.f
  refine Ev.if_neg' h ?_
  refine Ev.bind (toIntS_ev l hl) ?_
  refine Ev.bind (Ev.bind (cnGood_ev l hl) (Ev.now _)) ?_
  refine Ev.bind (toIntS_ev l hl) ?_
  refine Ev.bind (AreCoins_ev l hl) ?_
  refine Ev.if_neg' (by simp) ?_
  refine Ev.bind (toIntS_ev l hl) ?_
  refine Ev.bind (eqIntS_self l hl) ?_
  exact Ev.if_pos' rfl (Ev.now _)

end Go.Proofs.Ytohghfeomocnlaa.Pure
