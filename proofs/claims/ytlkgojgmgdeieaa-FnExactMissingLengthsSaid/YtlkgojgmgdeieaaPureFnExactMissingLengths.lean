/- The program's MissingLengths answers as the reference's does, for every list. -/
import Derived.Test.YtlkgojgmgdeieaaRule1
import Derived.Test.YtlkgojgmgdeieaaMark
import Derived.Test.YtlkgojgmgdeieaaGx12
import Derived.Test.YtlkgojgmgdeieaaGx11
import Derived.Test.YtlkgojgmgdeieaaGx8
namespace Go.Proofs.Ytlkgojgmgdeieaa.Pure
open Go.RowKit Go.Proofs.Ytlkgojgmgdeieaa.G Go.Proofs.YtlkgojgmgdeieaaW.PrintWords Go.Proofs.YtlkgojgmgdeieaaW.PrintLast

theorem MissingLengths_ev (l : List Int) (hl : l.length ≤ 35184372088832) : ∃ r : List Int × Bool, Ev (fun k => spec_MissingLengths.f k l) r ∧ Ev (fun k => impl_MissingLengths.f k l) r ∧ r.1.length ≤ 1000 := by
  unfold spec_MissingLengths.f impl_MissingLengths.f
  cases hb : rulerB l with
  | false => exact ⟨([], false), Ev.bind (ruGood_ev l hl) (Ev.if_neg' (by simp [hb]) (Ev.now _)), Ev.bind (IsRuler_ev l hl) (Ev.if_neg' (by simp [hb]) (Ev.now _)), by simp⟩
  | true =>
    have hg := ruler_good hb
    refine ⟨(with_ l false, true), Ev.bind (ruGood_ev l hl) (Ev.if_pos' hb (Ev.bind (ruWith_ev l hg false) (Ev.now _))), Ev.bind (IsRuler_ev l hl) (Ev.if_pos' hb (Ev.const_bind (lengths_eq l hg false) (Ev.now _))), ?_⟩
    have := with_len l hg false
    simp only; omega
theorem FnExactMissingLengths : laws_FnExactMissingLengths.Pure := by
  intro l _ _ _
  by_cases h : (l.length : Int) > 1048576
  · exact ⟨0, by unfold laws_FnExactMissingLengths.f; rw [if_pos h]⟩
  have hl : l.length ≤ 35184372088831 := by omega
  obtain ⟨r, hs, hi, hr⟩ := MissingLengths_ev l (by omega)
  have hl' : l.length ≤ 35184372088832 := by omega
  have hr1 : r.1.length ≤ 35184372088831 := by omega
  have hr2 : r.1.length ≤ 35184372088832 := by omega
  have ne : (r.2 != r.2) = false := by simp
  apply Ev.rounds
  unfold laws_FnExactMissingLengths.f
  refine Ev.if_neg' h (Ev.bind (toIntS_ev l hl') (Ev.bind hs (Ev.bind (toIntS_ev l hl') (Ev.bind hi (Ev.bind (eqIntS_self r.1 hr2) (Ev.if_pos' rfl ?_))))))
  rw [ne]
  refine Ev.step (fun k => by rw [laws_FnExactMissingLengths.j0, if_neg (by simp)]) ?_
  refine Ev.bind (toIntS_ev l hl') (Ev.bind (eqIntS_self l hl') (Ev.if_pos' rfl (Ev.bind (mark_ev l hl) (Ev.if_neg' (by simp only; omega) (Ev.bind (eqIntS_self r.1 hr2) (Ev.if_pos' rfl ?_))))))
  rw [ne]
  refine Ev.step (fun k => by rw [laws_FnExactMissingLengths.j1, if_neg (by simp)]) ?_
  refine Ev.bind (mark_ev r.1 hr1) (Ev.bind (held_ev r.1.length hr1) (Ev.if_neg' (by omega) (Ev.if_pos' rfl (Ev.bind (toIntS_ev l hl') (Ev.bind hi (Ev.bind (eqIntS_self r.1 hr2) (Ev.if_pos' rfl ?_)))))))
  rw [ne]
  refine Ev.step (fun k => by rw [laws_FnExactMissingLengths.j2, if_neg (by simp)]) ?_
  exact Ev.bind (held_ev r.1.length hr1) (Ev.if_neg' (by omega) (Ev.if_pos' rfl (Ev.now _)))


end Go.Proofs.Ytlkgojgmgdeieaa.Pure
