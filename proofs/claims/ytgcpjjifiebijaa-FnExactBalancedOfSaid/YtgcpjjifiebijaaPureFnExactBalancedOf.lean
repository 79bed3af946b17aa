/- The program's BalancedOf answers as the reference's does, for every number. -/
import Derived.Test.YtgcpjjifiebijaaBoL
import Derived.Test.YtgcpjjifiebijaaBox4
import Derived.Test.YtgcpjjifiebijaaBox1
namespace Go.Proofs.Ytgcpjjifiebijaa.Pure
open Go.RowKit Go.Proofs.Ytgcpjjifiebijaa.Bo Go.Proofs.YtgcpjjifiebijaaW.PrintWords Go.Proofs.YtgcpjjifiebijaaW.PrintLast

theorem BalancedOf_ev (x : Int) : ∃ r, Ev (fun k => spec_BalancedOf.f k x) r ∧ Ev (fun k => impl_BalancedOf.f k x) r := by
  unfold spec_BalancedOf.f impl_BalancedOf.f
  by_cases h : -1000000 ≤ x ∧ x ≤ 1000000
  · exact ⟨_, Ev.const_bind (l1In_eq _ _ _) (Ev.if_pos' (decide_eq_true h) (Ev.bind (siBalanced_ev x (by omega)) (Ev.now _))),
      Ev.const_bind (within_eq _ _ _) (Ev.if_pos' (decide_eq_true h) (Ev.bind (balanced_ev x (by omega)) (Ev.now _)))⟩
  · exact ⟨_, Ev.const_bind (l1In_eq _ _ _) (Ev.if_neg' (by rw [decide_eq_false h]; simp) (Ev.now _)),
      Ev.const_bind (within_eq _ _ _) (Ev.if_neg' (by rw [decide_eq_false h]; simp) (Ev.now _))⟩
theorem FnExactBalancedOf : laws_FnExactBalancedOf.Pure := by
  intro x _
  obtain ⟨r, hs, hi⟩ := BalancedOf_ev x
  apply Ev.rounds
  unfold laws_FnExactBalancedOf.f
  exact Ev.bind hs (Ev.bind hi (Ev.if_pos' rfl (Ev.if_neg' (by simp) (Ev.now _))))

end Go.Proofs.Ytgcpjjifiebijaa.Pure
