/- The program's TellsAll answers as the reference's does, for all cards. -/
import Derived.Test.YtpekdmadmggbpaaTeL
import Derived.Test.YtpekdmadmggbpaaTex8
import Derived.Test.YtpekdmadmggbpaaTex5
import Derived.Test.YtpekdmadmggbpaaTex7
namespace Go.Proofs.Ytpekdmadmggbpaa.Pure
open Go.RowKit Go.Proofs.Ytpekdmadmggbpaa.Te Go.Proofs.YtpekdmadmggbpaaW.PrintWords Go.Proofs.YtpekdmadmggbpaaW.PrintLast

theorem TellsAll_both (n : Int) (l : List (List Int)) (hl : l.length ≤ 1048576) (hr : ∀ x ∈ l, x.length ≤ 1048576) : ∃ r : Bool × Bool, Ev (fun k => spec_TellsAll.f k n l) r ∧ Ev (fun k => impl_TellsAll.f k n l) r := by
  unfold spec_TellsAll.f impl_TellsAll.f
  cases hc : cardsB n l with
  | false => exact ⟨_, Ev.bind (caGood_ev n l hl hr) (Ev.if_neg' (by simp [hc]) (Ev.now _)), Ev.bind (AreCards_ev n l hr) (Ev.if_neg' (by simp [hc]) (Ev.now _))⟩
  | true => exact ⟨_, Ev.bind (caGood_ev n l hl hr) (Ev.if_pos' hc (Ev.bind (caLeast13_ev n l hc hr) (Ev.now _))), Ev.bind (AreCards_ev n l hr) (Ev.if_pos' hc (Ev.bind (tellsAll_ev n l hc hr) (Ev.now _)))⟩

theorem FnExactTellsAll : ∀ (n : Int) (l : List (List Int)), (Lit.int .i64 n).wf = true → l.length ≤ maxLen → (∀ x ∈ l, x.length ≤ maxLen ∧ ∀ y ∈ x, (Lit.int .i64 y).wf = true) → ∃ k, laws_FnExactTellsAll.f k n l = some true := by
  intro n l _ hmax hin
  unfold maxLen at hmax
  obtain ⟨r, h1, h2⟩ := szCards_ev n l (by omega) (fun x hx => by have := (hin x hx).1; unfold maxLen at this; omega)
  apply Ev.rounds
  unfold laws_FnExactTellsAll.f
  refine Ev.bind h1 ?_
  rcases h2 with h2 | ⟨h2, hl, hr⟩
  · exact Ev.if_pos' h2 (Ev.now _)
  · have ht := toCards_ev l hl hr n
    obtain ⟨s, hs, hi⟩ := TellsAll_both n l hl hr
    refine Ev.if_neg' h2 (Ev.bind ht (Ev.bind hs (Ev.bind ht (Ev.bind hi (Ev.if_neg' (by simp) ?_)))))
    rw [show (s.2 != s.2) = false by simp]
    exact Ev.step (fun k => by rw [laws_FnExactTellsAll.j0, if_neg (by simp)]) (Ev.bind ht (Ev.bind (eqCards_ev l hl hr n) (Ev.if_pos' rfl (Ev.now _))))

end Go.Proofs.Ytpekdmadmggbpaa.Pure
