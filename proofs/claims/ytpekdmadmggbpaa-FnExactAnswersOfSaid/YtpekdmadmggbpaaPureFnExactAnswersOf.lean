/- The program's AnswersOf answers as the reference's does, for all cards and every number. -/
import Derived.Test.YtpekdmadmggbpaaCard0
import Derived.Test.YtpekdmadmggbpaaAnswer0
import Derived.Test.YtpekdmadmggbpaaGx8
import Derived.Test.YtpekdmadmggbpaaGx6
import Derived.Test.YtpekdmadmggbpaaGx7
namespace Go.Proofs.Ytpekdmadmggbpaa.Pure
open Go.RowKit Go.Proofs.Ytpekdmadmggbpaa.G Go.Proofs.YtpekdmadmggbpaaW.PrintWords Go.Proofs.YtpekdmadmggbpaaW.PrintLast

theorem AnswersOf_ev (n : Int) (l : List (List Int)) (hl : l.length ≤ 1048576) (hr : ∀ x ∈ l, x.length ≤ 1048576) (a : Int) : ∃ r : ByteArray × Bool, Ev (fun k => spec_AnswersOf.f k n l a) r ∧ Ev (fun k => impl_AnswersOf.f k n l a) r := by
  unfold spec_AnswersOf.f impl_AnswersOf.f
  cases hc : cardsB n l with
  | false => exact ⟨_, Ev.bind (caGood_ev n l hl hr) (Ev.if_neg' (by simp [hc]) (Ev.now _)), Ev.bind (AreCards_ev n l hr) (Ev.if_neg' (by simp [hc]) (Ev.now _))⟩
  | true =>
    obtain ⟨hn, h12, hx⟩ := cards_facts hc
    have w1 : wrap64 (n - 1) = n - 1 := w64 (by omega) (by omega)
    rw [w1]
    by_cases ha : 0 ≤ a ∧ a ≤ n - 1
    · exact ⟨(ansT l a, true), Ev.bind (caGood_ev n l hl hr) (Ev.if_pos' hc (Ev.const_bind (l1In_eq _ _ _) (Ev.if_pos' (decide_eq_true ha) (Ev.bind (caAnswers_ev n l h12 hr a) (Ev.now _))))),
        Ev.bind (AreCards_ev n l hr) (Ev.if_pos' hc (Ev.const_bind (within_eq _ _ _) (Ev.if_pos' (decide_eq_true ha) (Ev.bind (answers_ev n l h12 hr (fun x hx' => (hx x hx').1) a) (Ev.now _)))))⟩
    · exact ⟨_, Ev.bind (caGood_ev n l hl hr) (Ev.if_pos' hc (Ev.const_bind (l1In_eq _ _ _) (Ev.if_neg' (by rw [decide_eq_false ha]; simp) (Ev.now _)))),
        Ev.bind (AreCards_ev n l hr) (Ev.if_pos' hc (Ev.const_bind (within_eq _ _ _) (Ev.if_neg' (by rw [decide_eq_false ha]; simp) (Ev.now _))))⟩

theorem FnExactAnswersOf : ∀ (n : Int) (l : List (List Int)) (a : Int), (Lit.int .i64 n).wf = true → l.length ≤ maxLen → (∀ x ∈ l, x.length ≤ maxLen ∧ ∀ y ∈ x, (Lit.int .i64 y).wf = true) → (Lit.int .i64 a).wf = true → ∃ k, laws_FnExactAnswersOf.f k n l a = some true := by
  intro n l a _ hmax hin _
  unfold maxLen at hmax
  obtain ⟨r, h1, h2⟩ := szCards_ev n l (by omega) (fun x hx => by have := (hin x hx).1; unfold maxLen at this; omega)
  apply Ev.rounds
  unfold laws_FnExactAnswersOf.f
  refine Ev.bind h1 ?_
  rcases h2 with h2 | ⟨h2, hl, hr⟩
  · exact Ev.if_pos' h2 (Ev.now _)
  · have ht := toCards_ev l hl hr n
    obtain ⟨s, hs, hi⟩ := AnswersOf_ev n l hl hr a
    refine Ev.if_neg' h2 (Ev.bind ht (Ev.bind hs (Ev.bind ht (Ev.bind hi (Ev.if_pos' rfl ?_)))))
    rw [show (s.2 != s.2) = false by simp]
    exact Ev.step (fun k => by rw [laws_FnExactAnswersOf.j0, if_neg (by simp)]) (Ev.bind ht (Ev.bind (eqCards_ev l hl hr n) (Ev.if_pos' rfl (Ev.now _))))

end Go.Proofs.Ytpekdmadmggbpaa.Pure
