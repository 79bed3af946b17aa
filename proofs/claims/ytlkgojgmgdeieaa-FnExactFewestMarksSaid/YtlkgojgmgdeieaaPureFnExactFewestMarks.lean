/- The program's FewestMarks answers as the reference's does, for every number. -/
import Derived.Test.YtlkgojgmgdeieaaFcL
import Derived.Test.YtlkgojgmgdeieaaFcx8
import Derived.Test.YtlkgojgmgdeieaaFcx7
namespace Go.Proofs.Ytlkgojgmgdeieaa.Pure
open Go.RowKit Go.Proofs.Ytlkgojgmgdeieaa.Fc Go.Proofs.YtlkgojgmgdeieaaW.PrintWords Go.Proofs.YtlkgojgmgdeieaaW.PrintLast

theorem first_head (r : List (List Int)) : rd_L1 r 0 = r.headD [] := by
  cases r <;> rfl
theorem FewestMarks_ev (a : Int) : ∃ r : Int × Bool, Ev (fun k => spec_FewestMarks.f k a) r ∧ Ev (fun k => impl_FewestMarks.f k a) r := by
  unfold spec_FewestMarks.f impl_FewestMarks.f
  by_cases h : 1 ≤ a ∧ a ≤ 20
  · obtain ⟨r, h1, h2, h3, h4, h5⟩ := complete_ev a h
    have hp := List.length_pos_iff.2 h1
    refine ⟨(((r.headD []).length : Int), true), Ev.const_bind (l1In_eq _ _ _) (Ev.if_pos' (decide_eq_true h) (Ev.bind h4 (Ev.now _))), Ev.bind h5 (Ev.if_pos' rfl (Ev.if_pos' (by show (0 : Int) < (r.length : Int); omega) ?_))⟩
    rw [first_head]; exact Ev.now _
  · exact ⟨(0, false), Ev.const_bind (l1In_eq _ _ _) (Ev.if_neg' (by rw [decide_eq_false h]; simp) (Ev.now _)), Ev.bind (completes_none a h) (Ev.if_neg' (by simp) (Ev.now _))⟩
theorem FnExactFewestMarks : laws_FnExactFewestMarks.Pure := by
  intro a _
  obtain ⟨r, hs, hi⟩ := FewestMarks_ev a
  apply Ev.rounds
  unfold laws_FnExactFewestMarks.f
  exact Ev.bind hs (Ev.bind hi (Ev.if_pos' rfl (Ev.if_neg' (by simp) (Ev.now _))))

end Go.Proofs.Ytlkgojgmgdeieaa.Pure
