/- The program's FirstsSum answers as the reference's does, for all cards and all answers. -/
import Derived.Test.YtpekdmadmggbpaaDoorAsk0
import Derived.Test.YtpekdmadmggbpaaDoorGx7
import Derived.Test.YtpekdmadmggbpaaDoorGx3
import Derived.Test.YtpekdmadmggbpaaDoorGx5
namespace Go.Proofs.YtpekdmadmggbpaaDoor.Pure
open Go.RowKit Go.Proofs.YtpekdmadmggbpaaDoor.G Go.Proofs.YtpekdmadmggbpaaDoorW.PrintWords Go.Proofs.YtpekdmadmggbpaaDoorW.PrintLast

theorem FirstsSum_ev (n : Int) (l : List (List Int)) (hl : l.length ≤ 1048576) (hr : ∀ x ∈ l, x.length ≤ 1048576) (b : ByteArray) : ∃ r : Int × Bool, Ev (fun k => spec_FirstsSum.f k n l b) r ∧ Ev (fun k => impl_FirstsSum.f k n l b) r := by
  unfold spec_FirstsSum.f impl_FirstsSum.f
  cases hc : asksB n l b with
  | false => exact ⟨_, Ev.bind (caAsked_ev n l hl hr b) (Ev.if_neg' (by simp [hc]) (Ev.now _)), Ev.bind (areAnswers_ev n l hl hr b) (Ev.if_neg' (by simp [hc]) (Ev.now _))⟩
  | true =>
    obtain ⟨h1, h2, _⟩ := asks_facts hc
    obtain ⟨r, h3, h4⟩ := firsts_loop b l h2 (cards_facts h1).2.1 l.length 0 0 (by omega) (by omega)
    exact ⟨r, Ev.bind (caAsked_ev n l hl hr b) (Ev.if_pos' hc (Ev.bind (a := r) (by unfold spec_caFirsts.f; exact h3) (Ev.now _))), Ev.bind (areAnswers_ev n l hl hr b) (Ev.if_pos' hc h4)⟩

theorem FnExactFirstsSum : ∀ (n : Int) (l : List (List Int)) (a : ByteArray), (Lit.int .i64 n).wf = true → l.length ≤ maxLen → (∀ x ∈ l, x.length ≤ maxLen ∧ ∀ y ∈ x, (Lit.int .i64 y).wf = true) → a.size ≤ 140737488351232 → ∃ k, laws_FnExactFirstsSum.f k n l a = some true := by
  intro n l a _ hmax hin _
  unfold maxLen at hmax
  obtain ⟨r, h1, h2⟩ := szCards_ev n l (by omega) (fun x hx => by have := (hin x hx).1; unfold maxLen at this; omega)
  apply Ev.rounds
  unfold laws_FnExactFirstsSum.f
  by_cases hbig : (a.size : Int) > 1048576
  · exact Ev.if_pos' hbig (Ev.now _)
  refine Ev.if_neg' hbig (Ev.bind h1 ?_)
  rcases h2 with h2 | ⟨h2, hl, hr⟩
  · exact Ev.if_pos' h2 (Ev.now _)
  · have ht := toCards_ev l hl hr n
    obtain ⟨s, hs, hi⟩ := FirstsSum_ev n l hl hr a
    refine Ev.if_neg' h2 (Ev.bind ht (Ev.bind hs (Ev.bind ht (Ev.bind hi (Ev.if_pos' rfl ?_)))))
    rw [show (s.2 != s.2) = false by simp]
    exact Ev.step (fun k => by rw [laws_FnExactFirstsSum.j0, if_neg (by simp)]) (Ev.bind ht (Ev.bind (eqCards_ev l hl hr n) (Ev.if_pos' rfl (Ev.now _))))

end Go.Proofs.YtpekdmadmggbpaaDoor.Pure
