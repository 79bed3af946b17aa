/- The program's CanBalance answers as the reference's does, for every list and every number. -/
import Derived.Test.YtobcoaafbekhaaaSdL
import Derived.Test.YtobcoaafbekhaaaSdx8
import Derived.Test.YtobcoaafbekhaaaSdx7
namespace Go.Proofs.Ytobcoaafbekhaaa.Pure
open Go.RowKit Go.Proofs.Ytobcoaafbekhaaa.Sd Go.Proofs.YtobcoaafbekhaaaW.PrintWords Go.Proofs.YtobcoaafbekhaaaW.PrintLast

theorem CanBalance_ev (l : List Int) (n : Int) (hl : l.length ≤ 35184372088832) : ∃ r, Ev (fun k => spec_CanBalance.f k l n) r ∧ Ev (fun k => impl_CanBalance.f k l n) r := by
  unfold spec_CanBalance.f impl_CanBalance.f impl_WaysBoth.f
  cases hq : (fewB l && decide (0 ≤ n ∧ n ≤ 1000000)) with
  | false => exact ⟨(false, false), Ev.bind (siAsked_ev l n hl) (Ev.if_neg' (by rw [hq]; simp) (Ev.now _)), Ev.bind (Ev.bind (isBoth_ev l n hl) (Ev.if_neg' (by rw [hq]; simp) (Ev.now _))) (Ev.now _)⟩
  | true =>
    have hq2 := hq
    rw [Bool.and_eq_true, decide_eq_true_eq] at hq2
    refine ⟨(decide (wayW l n > 0), true), Ev.bind (siAsked_ev l n hl) (Ev.if_pos' hq (Ev.bind (siMake_ev l n hq2.1 (by omega)) (Ev.now _))), Ev.bind (a := (wayW l n, true)) (Ev.bind (isBoth_ev l n hl) (Ev.if_pos' hq (Ev.if_pos' ⟨good_few hq2.1, hq2.2⟩ ?_))) (Ev.now _)⟩
    rw [waysTo_eq l hq2.1 0 n, List.drop_zero]
    exact Ev.now _

theorem FnExactCanBalance : laws_FnExactCanBalance.Pure := by
  intro l n _ _ _ _
  by_cases h : (l.length : Int) > 1048576
  · exact ⟨0, by unfold laws_FnExactCanBalance.f; rw [if_pos h]⟩
  have hl : l.length ≤ 35184372088832 := by omega
  obtain ⟨r, hs, hi⟩ := CanBalance_ev l n hl
  apply Ev.rounds
  unfold laws_FnExactCanBalance.f
  refine Ev.if_neg' h (Ev.bind (toIntS_ev l hl) (Ev.bind hs (Ev.bind (toIntS_ev l hl) (Ev.bind hi (Ev.if_neg' (by simp) ?_)))))
  rw [show (r.2 != r.2) = false by simp]
  exact Ev.step (fun k => by rw [laws_FnExactCanBalance.j0, if_neg (by simp)]) (Ev.bind (toIntS_ev l hl) (Ev.bind (eqIntS_self l hl) (Ev.if_pos' rfl (Ev.now _))))

end Go.Proofs.Ytobcoaafbekhaaa.Pure
