/- The program's LeastApart answers as the reference's does, for all cards. -/
import Derived.Test.YtpekdmadmggbpaaLaL
import Derived.Test.YtpekdmadmggbpaaLax8
import Derived.Test.YtpekdmadmggbpaaLax5
import Derived.Test.YtpekdmadmggbpaaLax7
namespace Go.Proofs.Ytpekdmadmggbpaa.Pure
open Go.RowKit Go.Proofs.Ytpekdmadmggbpaa.La Go.Proofs.YtpekdmadmggbpaaW.PrintWords Go.Proofs.YtpekdmadmggbpaaW.PrintLast

theorem LeastApart_both (n : Int) (l : List (List Int)) (hl : l.length ≤ 1048576) (hr : ∀ x ∈ l, x.length ≤ 1048576) : ∃ r : Int × Bool, Ev (fun k => spec_LeastApart.f k n l) r ∧ Ev (fun k => impl_LeastApart.f k n l) r := by
  refine ⟨_, ?_, LeastApart_ev n l hr⟩
  unfold spec_LeastApart.f
  cases hc : cardsB n l with
  | false =>
    rw [if_neg (by simp)]
    exact Ev.bind (caGood_ev n l hl hr) (Ev.if_neg' (by simp [hc]) (Ev.now _))
  | true =>
    by_cases h1 : n = 1
    · rw [if_neg (by simp [h1])]
      exact Ev.bind (caGood_ev n l hl hr) (Ev.if_pos' hc (Ev.if_pos' h1 (Ev.now _)))
    · rw [if_pos ⟨rfl, h1⟩]
      exact Ev.bind (caGood_ev n l hl hr) (Ev.if_pos' hc (Ev.if_neg' h1 (Ev.bind (caLeast_ev n l hc h1 hr) (Ev.now _))))

theorem FnExactLeastApart : ∀ (n : Int) (l : List (List Int)), (Lit.int .i64 n).wf = true → l.length ≤ maxLen → (∀ x ∈ l, x.length ≤ maxLen ∧ ∀ y ∈ x, (Lit.int .i64 y).wf = true) → ∃ k, laws_FnExactLeastApart.f k n l = some true := by
  intro n l _ hmax hin
  unfold maxLen at hmax
  obtain ⟨r, h1, h2⟩ := szCards_ev n l (by omega) (fun x hx => by have := (hin x hx).1; unfold maxLen at this; omega)
  apply Ev.rounds
  unfold laws_FnExactLeastApart.f
  refine Ev.bind h1 ?_
  rcases h2 with h2 | ⟨h2, hl, hr⟩
  · exact Ev.if_pos' h2 (Ev.now _)
  · have ht := toCards_ev l hl hr n
    obtain ⟨s, hs, hi⟩ := LeastApart_both n l hl hr
    refine Ev.if_neg' h2 (Ev.bind ht (Ev.bind hs (Ev.bind ht (Ev.bind hi (Ev.if_pos' rfl ?_)))))
    rw [show (s.2 != s.2) = false by simp]
    exact Ev.step (fun k => by rw [laws_FnExactLeastApart.j0, if_neg (by simp)]) (Ev.bind ht (Ev.bind (eqCards_ev l hl hr n) (Ev.if_pos' rfl (Ev.now _))))

end Go.Proofs.Ytpekdmadmggbpaa.Pure
