/- The program's ShortestSparse answers as the reference's does, for every number. -/
import Derived.Test.YtlkgojgmgdeieaaFsL
import Derived.Test.YtlkgojgmgdeieaaFsx8
import Derived.Test.YtlkgojgmgdeieaaFsx7
namespace Go.Proofs.Ytlkgojgmgdeieaa.Pure
open Go.RowKit Go.Proofs.Ytlkgojgmgdeieaa.Fs Go.Proofs.YtlkgojgmgdeieaaW.PrintWords Go.Proofs.YtlkgojgmgdeieaaW.PrintLast

theorem ShortestSparse_ev (a : Int) : ∃ r : Int × Bool, Ev (fun k => spec_ShortestSparse.f k a) r ∧ Ev (fun k => impl_ShortestSparse.f k a) r := by
  unfold spec_ShortestSparse.f impl_ShortestSparse.f
  by_cases h : 2 ≤ a ∧ a ≤ 6
  · obtain ⟨r, ⟨h1, h2⟩, h3, h4⟩ := short_ev a h
    have w1 : wrap64 (a - 1) = ((r.length - 1 : Nat) : Int) := by rw [w64 (by omega) (by omega)]; omega
    have hl : impl_length.f r = some (rd r ((r.length - 1 : Nat) : Int)) := by
      unfold impl_length.f
      rw [(rd_last r h2).1, if_pos (by omega), if_pos (by omega)]
    refine ⟨(rd r ((r.length - 1 : Nat) : Int), true), Ev.const_bind (l1In_eq _ _ _) (Ev.if_pos' (decide_eq_true h) (Ev.bind h3 ?_)), Ev.bind h4 (Ev.if_pos' rfl (Ev.const_bind hl (Ev.now _)))⟩
    rw [w1]
    exact Ev.if_pos' (by omega) (Ev.if_pos' (by omega) (Ev.now _))
  · refine ⟨(0, false), Ev.const_bind (l1In_eq _ _ _) (Ev.if_neg' (by rw [decide_eq_false h]; simp) (Ev.now _)), ?_⟩
    have : Ev (fun k => impl_firstSparse.f k a) ([], false) := by
      unfold impl_firstSparse.f
      exact Ev.const_bind (within_eq _ _ _) (Ev.if_neg' (by rw [decide_eq_false h]; simp) (Ev.now _))
    exact Ev.bind this (Ev.if_neg' (by simp) (Ev.now _))
theorem FnExactShortestSparse : laws_FnExactShortestSparse.Pure := by
  intro a _
  obtain ⟨r, hs, hi⟩ := ShortestSparse_ev a
  apply Ev.rounds
  unfold laws_FnExactShortestSparse.f
  refine Ev.bind hs (Ev.bind hi (Ev.if_pos' rfl (Ev.if_neg' (by simp) (Ev.now _))))

end Go.Proofs.Ytlkgojgmgdeieaa.Pure
