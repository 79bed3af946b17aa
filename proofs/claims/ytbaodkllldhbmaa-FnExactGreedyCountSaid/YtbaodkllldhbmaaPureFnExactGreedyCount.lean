/- The program's GreedyCount answers as the reference's does, for every list and amount. -/
import Derived.Test.YtbaodkllldhbmaaGreedy0
import Derived.Test.YtbaodkllldhbmaaGx6
namespace Go.Proofs.Ytbaodkllldhbmaa.Pure
open Go.RowKit Go.Proofs.Ytbaodkllldhbmaa.G Go.Proofs.YtbaodkllldhbmaaW.PrintWords Go.Proofs.YtbaodkllldhbmaaW.PrintLast

theorem FnExactGreedyCount : laws_FnExactGreedyCount.Pure := by
  intro l a _ _ _ _
  by_cases h : (l.length : Int) > 1048576
  · exact ⟨0, by unfold laws_FnExactGreedyCount.f; rw [if_pos h]⟩
  have hl : l.length ≤ 35184372088832 := by omega
  obtain ⟨r, hr, h0, hsum, hf, hs, hi⟩ := GreedyChange_ev l a hl
  have hs2 : Ev (fun k => spec_GreedyCount.f k l a) (r.1.sum, r.2) := by
    unfold spec_GreedyCount.f
    refine Ev.bind hs ?_
    cases h2 : r.2 with
    | true => exact Ev.if_pos' rfl (Ev.bind (piSum_ev r.1 (by omega) h0 (by omega)) (Ev.now _))
    | false => rw [hf h2]; exact Ev.if_neg' (by simp) (Ev.now _)
  have hi2 : Ev (fun k => impl_GreedyCount.f k l a) (r.1.sum, r.2) := by
    unfold impl_GreedyCount.f
    exact Ev.bind hi (Ev.bind (total_ev r.1 (by omega) h0 (by omega)) (Ev.now _))
  apply Ev.rounds
  unfold laws_FnExactGreedyCount.f
  refine Ev.if_neg' h (Ev.bind (toIntS_ev l hl) (Ev.bind hs2 (Ev.bind (toIntS_ev l hl) (Ev.bind hi2 (Ev.if_pos' rfl ?_)))))
  rw [show (r.2 != r.2) = false by simp]
  exact Ev.step (fun k => by rw [laws_FnExactGreedyCount.j0, if_neg (by simp)]) (same_end l hl)

end Go.Proofs.Ytbaodkllldhbmaa.Pure
