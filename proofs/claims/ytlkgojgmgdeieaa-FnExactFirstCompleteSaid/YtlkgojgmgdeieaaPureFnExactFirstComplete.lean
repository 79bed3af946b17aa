/- The program's FirstComplete answers as the reference's does, for every number. -/
import Derived.Test.YtlkgojgmgdeieaaFcL
import Derived.Test.YtlkgojgmgdeieaaFcx7
import Derived.Test.YtlkgojgmgdeieaaFcx5
namespace Go.Proofs.Ytlkgojgmgdeieaa.Pure
open Go.RowKit Go.Proofs.Ytlkgojgmgdeieaa.Fc Go.Proofs.YtlkgojgmgdeieaaW.PrintWords Go.Proofs.YtlkgojgmgdeieaaW.PrintLast

theorem head_first (r : List (List Int)) : rd_L1 r 0 = r.headD [] := by
  cases r <;> rfl
theorem FirstComplete_ev (a : Int) : ∃ r : List Int × Bool, r.1.length ≤ 1000 ∧ Ev (fun k => spec_FirstComplete.f k a) r ∧ Ev (fun k => impl_FirstComplete.f k a) r := by
  unfold spec_FirstComplete.f impl_FirstComplete.f
  by_cases h : 1 ≤ a ∧ a ≤ 20
  · obtain ⟨r, h1, h2, h3, h4, h5⟩ := complete_ev a h
    have hp := List.length_pos_iff.2 h1
    refine ⟨(r.headD [], true), ?_, Ev.const_bind (l1In_eq _ _ _) (Ev.if_pos' (decide_eq_true h) (Ev.bind h4 (Ev.now _))), Ev.bind h5 (Ev.if_pos' rfl (Ev.if_pos' (by show (0 : Int) < (r.length : Int); omega) ?_))⟩
    · cases r with
      | nil => simp
      | cons w t => have := h2 w (by simp); show w.length ≤ 1000; omega
    · rw [head_first]; exact Ev.now _
  · exact ⟨([], false), by simp, Ev.const_bind (l1In_eq _ _ _) (Ev.if_neg' (by rw [decide_eq_false h]; simp) (Ev.now _)), Ev.bind (completes_none a h) (Ev.if_neg' (by simp) (Ev.now _))⟩
theorem FnExactFirstComplete : laws_FnExactFirstComplete.Pure := by
  intro a _
  obtain ⟨r, hlen, hs, hi⟩ := FirstComplete_ev a
  apply Ev.rounds
  unfold laws_FnExactFirstComplete.f
  refine Ev.bind hs (Ev.bind hi (Ev.bind (eqIntS_self r.1 (by omega)) (Ev.if_pos' rfl ?_)))
  rw [show (r.2 != r.2) = false by simp]
  have hm := mark_ev r.1 (by omega)
  have hh := held_ev r.1.length (by omega)
  refine Ev.step (fun k => by rw [laws_FnExactFirstComplete.j0, if_neg (by simp)]) ?_
  refine Ev.bind hm (Ev.bind hh (Ev.if_neg' (by omega) (Ev.if_pos' rfl (Ev.bind hi (Ev.bind (eqIntS_self r.1 (by omega)) (Ev.if_pos' rfl ?_))))))
  rw [show (r.2 != r.2) = false by simp]
  refine Ev.step (fun k => by rw [laws_FnExactFirstComplete.j1, if_neg (by simp)]) ?_
  exact Ev.bind hh (Ev.if_neg' (by omega) (Ev.if_pos' rfl (Ev.now _)))

end Go.Proofs.Ytlkgojgmgdeieaa.Pure
