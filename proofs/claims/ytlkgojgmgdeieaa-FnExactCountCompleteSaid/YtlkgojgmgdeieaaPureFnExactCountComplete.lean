/- The program's CountComplete answers as the reference's does, for every number. -/
import Derived.Test.YtlkgojgmgdeieaaFcL
import Derived.Test.YtlkgojgmgdeieaaFcx8
namespace Go.Proofs.Ytlkgojgmgdeieaa.Pure
open Go.RowKit Go.Proofs.Ytlkgojgmgdeieaa.Fc Go.Proofs.YtlkgojgmgdeieaaW.PrintWords Go.Proofs.YtlkgojgmgdeieaaW.PrintLast

theorem CountComplete_ev (a : Int) : ∃ r : Int × Bool, Ev (fun k => spec_CountComplete.f k a) r ∧ Ev (fun k => impl_CountComplete.f k a) r := by
  unfold spec_CountComplete.f impl_CountComplete.f
  by_cases h : 1 ≤ a ∧ a ≤ 20
  · obtain ⟨r, h1, h2, h3, h4, h5⟩ := complete_ev a h
    exact ⟨((r.length : Int), true), Ev.const_bind (l1In_eq _ _ _) (Ev.if_pos' (decide_eq_true h) (Ev.bind h4 (Ev.now _))), Ev.bind h5 (Ev.now _)⟩
  · exact ⟨(0, false), Ev.const_bind (l1In_eq _ _ _) (Ev.if_neg' (by rw [decide_eq_false h]; simp) (Ev.now _)), Ev.bind (completes_none a h) (Ev.now _)⟩
theorem FnExactCountComplete : laws_FnExactCountComplete.Pure := by
  intro a _
  obtain ⟨r, hs, hi⟩ := CountComplete_ev a
  apply Ev.rounds
  unfold laws_FnExactCountComplete.f
  exact Ev.bind hs (Ev.bind hi (Ev.if_pos' rfl (Ev.if_neg' (by simp) (Ev.now _))))

end Go.Proofs.Ytlkgojgmgdeieaa.Pure
