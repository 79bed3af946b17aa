/- The program's AreCards answers as the reference's does, for all cards. -/
import Derived.Test.YtpekdmadmggbpaaCard0
import Derived.Test.YtpekdmadmggbpaaGx5
import Derived.Test.YtpekdmadmggbpaaGx2
namespace Go.Proofs.Ytpekdmadmggbpaa.Pure
open Go.RowKit Go.Proofs.Ytpekdmadmggbpaa.G Go.Proofs.YtpekdmadmggbpaaW.PrintWords Go.Proofs.YtpekdmadmggbpaaW.PrintLast

theorem FnExactAreCards : ∀ (n : Int) (l : List (List Int)), (Lit.int .i64 n).wf = true → l.length ≤ maxLen → (∀ x ∈ l, x.length ≤ maxLen ∧ ∀ y ∈ x, (Lit.int .i64 y).wf = true) → ∃ k, laws_FnExactAreCards.f k n l = some true := by
  intro n l _ hmax hin
  unfold maxLen at hmax
  obtain ⟨r, h1, h2⟩ := szCards_ev n l (by omega) (fun x hx => by have := (hin x hx).1; unfold maxLen at this; omega)
  apply Ev.rounds
  unfold laws_FnExactAreCards.f
  refine Ev.bind h1 ?_
  rcases h2 with h2 | ⟨h2, hl, hr⟩
  · exact Ev.if_pos' h2 (Ev.now _)
  · have ht := toCards_ev l hl hr n
    refine Ev.if_neg' h2 (Ev.bind ht (Ev.bind (a := cardsB n l) ?_ (Ev.bind ht (Ev.bind (AreCards_ev n l hr) (Ev.if_neg' (by simp) (Ev.bind ht (Ev.bind (eqCards_ev l hl hr n) (Ev.if_pos' rfl (Ev.now _)))))))))
    unfold spec_AreCards.f
    exact Ev.bind (caGood_ev n l hl hr) (Ev.now _)

end Go.Proofs.Ytpekdmadmggbpaa.Pure
