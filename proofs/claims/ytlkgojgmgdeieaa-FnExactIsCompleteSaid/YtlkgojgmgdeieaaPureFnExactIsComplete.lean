/- The program's IsComplete answers as the reference's does, for every list. -/
import Derived.Test.YtlkgojgmgdeieaaRule1
import Derived.Test.YtlkgojgmgdeieaaSame0
import Derived.Test.YtlkgojgmgdeieaaGx9
import Derived.Test.YtlkgojgmgdeieaaGx7
import Derived.Test.YtlkgojgmgdeieaaGx8
namespace Go.Proofs.Ytlkgojgmgdeieaa.Pure
open Go.RowKit Go.Proofs.Ytlkgojgmgdeieaa.G Go.Proofs.YtlkgojgmgdeieaaW.PrintWords Go.Proofs.YtlkgojgmgdeieaaW.PrintLast

theorem IsComplete_ev (l : List Int) (hl : l.length ≤ 35184372088832) : ∃ r : Bool × Bool, Ev (fun k => spec_IsComplete.f k l) r ∧ Ev (fun k => impl_IsComplete.f k l) r := by
  unfold spec_IsComplete.f impl_IsComplete.f impl_MissingLengths.f
  cases hb : rulerB l with
  | false => exact ⟨(false, false), Ev.bind (ruGood_ev l hl) (Ev.if_neg' (by simp [hb]) (Ev.now _)), Ev.bind (Ev.bind (IsRuler_ev l hl) (Ev.if_neg' (by simp [hb]) (Ev.now _))) (Ev.if_neg' (by simp) (Ev.now _))⟩
  | true =>
    have hg := ruler_good hb
    exact ⟨(((with_ l false).length : Int) == 0, true), Ev.bind (ruGood_ev l hl) (Ev.if_pos' hb (Ev.bind (ruWith_ev l hg false) (Ev.now _))), Ev.bind (Ev.bind (IsRuler_ev l hl) (Ev.if_pos' hb (Ev.const_bind (lengths_eq l hg false) (Ev.now _)))) (Ev.if_pos' rfl (Ev.now _))⟩
theorem FnExactIsComplete : laws_FnExactIsComplete.Pure := by
  intro l _ _ _
  by_cases h : (l.length : Int) > 1048576
  · exact ⟨0, by unfold laws_FnExactIsComplete.f; rw [if_pos h]⟩
  have hl : l.length ≤ 35184372088832 := by omega
  obtain ⟨r, hs, hi⟩ := IsComplete_ev l hl
  apply Ev.rounds
  unfold laws_FnExactIsComplete.f
  refine Ev.if_neg' h (Ev.bind (toIntS_ev l hl) (Ev.bind hs (Ev.bind (toIntS_ev l hl) (Ev.bind hi (Ev.if_neg' (by simp) ?_)))))
  rw [show (r.2 != r.2) = false by simp]
  exact Ev.step (fun k => by rw [laws_FnExactIsComplete.j0, if_neg (by simp)]) (same_end l hl)

end Go.Proofs.Ytlkgojgmgdeieaa.Pure
