/- The program's LiesFound answers as the reference's does, for all cards. -/
import Derived.Test.YtpekdmadmggbpaaLfL
import Derived.Test.YtpekdmadmggbpaaLfx9
import Derived.Test.YtpekdmadmggbpaaLfx5
import Derived.Test.YtpekdmadmggbpaaLfx8
namespace Go.Proofs.Ytpekdmadmggbpaa.Pure
open Go.RowKit Go.Proofs.Ytpekdmadmggbpaa.Lf Go.Proofs.YtpekdmadmggbpaaW.PrintWords Go.Proofs.YtpekdmadmggbpaaW.PrintLast

theorem LiesFound_both (n : Int) (l : List (List Int)) (hl : l.length ≤ 1048576) (hr : ∀ x ∈ l, x.length ≤ 1048576) : ∃ r : Int × Bool, Ev (fun k => spec_LiesFound.f k n l) r ∧ Ev (fun k => impl_LiesFound.f k n l) r := by
  have hA := LeastApart_ev n l hr
  unfold impl_LiesFound.f spec_LiesFound.f
  have no : Ev (fun k => spec_LiesFound.j0 k true n l) (0, false) := Ev.one fun k => by rw [spec_LiesFound.j0, if_pos rfl]
  cases hc : cardsB n l with
  | false =>
    rw [if_neg (by simp [hc])] at hA
    exact ⟨(0, false), Ev.bind (caGood_ev n l hl hr) (Ev.if_neg' (by simp [hc]) no), Ev.bind hA (Ev.pure' fun _ => by simp [mx, wrap64])⟩
  | true =>
    by_cases h1 : n = 1
    · rw [if_neg (by simp [h1])] at hA
      refine ⟨(0, false), Ev.bind (caGood_ev n l hl hr) (Ev.if_pos' hc ?_), Ev.bind hA (Ev.pure' fun _ => by simp [mx, wrap64])⟩
      rw [show (n == 1) = true by simp [h1]]
      exact no
    · rw [if_pos ⟨hc, h1⟩] at hA
      have hb := leastP_bounds n l (cards_facts hc).2.1
      have hw : wrap64 (leastP n l - 1) = leastP n l - 1 := w64 (by omega) (by omega)
      refine ⟨_, Ev.bind (caGood_ev n l hl hr) (Ev.if_pos' hc ?_), Ev.bind hA (Ev.now _)⟩
      rw [show (n == 1) = false by simp [h1]]
      refine Ev.step (f := fun k => (spec_caLeast.f k n l).bind fun t => (spec_l1Most.f 0 (wrap64 (t - 1))).bind fun t => some (wrap64 (Int.tdiv t 2), true)) (fun k => by rw [spec_LiesFound.j0, if_neg (by simp)]) (Ev.bind (caLeast_ev n l hc h1 hr) ?_)
      rw [hw]
      have e : spec_l1Most.f 0 (leastP n l - 1) = some (mx 0 (leastP n l - 1)) := by
        unfold spec_l1Most.f mx
        split <;> split <;> first | rfl | omega | (congr 1; omega)
      refine Ev.const_bind e ?_
      have h0 : 0 ≤ mx 0 (leastP n l - 1) := by unfold mx; split <;> omega
      rw [Int.tdiv_eq_ediv_of_nonneg h0]
      exact Ev.now _

theorem FnExactLiesFound : ∀ (n : Int) (l : List (List Int)), (Lit.int .i64 n).wf = true → l.length ≤ maxLen → (∀ x ∈ l, x.length ≤ maxLen ∧ ∀ y ∈ x, (Lit.int .i64 y).wf = true) → ∃ k, laws_FnExactLiesFound.f k n l = some true := by
  intro n l _ hmax hin
  unfold maxLen at hmax
  obtain ⟨r, h1, h2⟩ := szCards_ev n l (by omega) (fun x hx => by have := (hin x hx).1; unfold maxLen at this; omega)
  apply Ev.rounds
  unfold laws_FnExactLiesFound.f
  refine Ev.bind h1 ?_
  rcases h2 with h2 | ⟨h2, hl, hr⟩
  · exact Ev.if_pos' h2 (Ev.now _)
  · have ht := toCards_ev l hl hr n
    obtain ⟨s, hs, hi⟩ := LiesFound_both n l hl hr
    refine Ev.if_neg' h2 (Ev.bind ht (Ev.bind hs (Ev.bind ht (Ev.bind hi (Ev.if_pos' rfl ?_)))))
    rw [show (s.2 != s.2) = false by simp]
    exact Ev.step (fun k => by rw [laws_FnExactLiesFound.j0, if_neg (by simp)]) (Ev.bind ht (Ev.bind (eqCards_ev l hl hr n) (Ev.if_pos' rfl (Ev.now _))))

end Go.Proofs.Ytpekdmadmggbpaa.Pure
