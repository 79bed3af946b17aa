/- The program's FirstSparse answers as the reference's does, for every number. -/
import Derived.Test.YtlkgojgmgdeieaaFsL
import Derived.Test.YtlkgojgmgdeieaaFsx7
import Derived.Test.YtlkgojgmgdeieaaFsx5
namespace Go.Proofs.Ytlkgojgmgdeieaa.Pure
open Go.RowKit Go.Proofs.Ytlkgojgmgdeieaa.Fs Go.Proofs.YtlkgojgmgdeieaaW.PrintWords Go.Proofs.YtlkgojgmgdeieaaW.PrintLast

theorem FirstSparse_ev (a : Int) : ∃ r : List Int × Bool, r.1.length ≤ 1000 ∧ Ev (fun k => spec_FirstSparse.f k a) r ∧ Ev (fun k => impl_FirstSparse.f k a) r := by
  unfold spec_FirstSparse.f impl_FirstSparse.f
  by_cases h : 2 ≤ a ∧ a ≤ 6
  · obtain ⟨r, ⟨h1, h2⟩, h3, h4⟩ := short_ev a h
    exact ⟨(r, true), by show r.length ≤ 1000; omega, Ev.const_bind (l1In_eq _ _ _) (Ev.if_pos' (decide_eq_true h) (Ev.bind h3 (Ev.now _))), Ev.bind h4 (Ev.now _)⟩
  · refine ⟨([], false), by simp, Ev.const_bind (l1In_eq _ _ _) (Ev.if_neg' (by rw [decide_eq_false h]; simp) (Ev.now _)), ?_⟩
    have : Ev (fun k => impl_firstSparse.f k a) ([], false) := by
      unfold impl_firstSparse.f
      exact Ev.const_bind (within_eq _ _ _) (Ev.if_neg' (by rw [decide_eq_false h]; simp) (Ev.now _))
    exact Ev.bind this (Ev.now _)
theorem FnExactFirstSparse : laws_FnExactFirstSparse.Pure := by
  intro a _
  obtain ⟨r, hlen, hs, hi⟩ := FirstSparse_ev a
  apply Ev.rounds
  unfold laws_FnExactFirstSparse.f
  refine Ev.bind hs (Ev.bind hi (Ev.bind (eqIntS_self r.1 (by omega)) (Ev.if_pos' rfl ?_)))
  rw [show (r.2 != r.2) = false by simp]
  have hm := mark_ev r.1 (by omega)
  have hh := held_ev r.1.length (by omega)
  refine Ev.step (fun k => by rw [laws_FnExactFirstSparse.j0, if_neg (by simp)]) ?_
  refine Ev.bind hm (Ev.bind hh (Ev.if_neg' (by omega) (Ev.if_pos' rfl (Ev.bind hi (Ev.bind (eqIntS_self r.1 (by omega)) (Ev.if_pos' rfl ?_))))))
  rw [show (r.2 != r.2) = false by simp]
  refine Ev.step (fun k => by rw [laws_FnExactFirstSparse.j1, if_neg (by simp)]) ?_
  exact Ev.bind hh (Ev.if_neg' (by omega) (Ev.if_pos' rfl (Ev.now _)))

end Go.Proofs.Ytlkgojgmgdeieaa.Pure
