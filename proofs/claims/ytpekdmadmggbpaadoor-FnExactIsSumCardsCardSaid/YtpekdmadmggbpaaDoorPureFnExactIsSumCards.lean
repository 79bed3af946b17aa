/- The program's IsSumCards answers as the reference's does, for all cards. -/
import Derived.Test.YtpekdmadmggbpaaDoorAsk0
import Derived.Test.YtpekdmadmggbpaaDoorGx12
import Derived.Test.YtpekdmadmggbpaaDoorGx9
import Derived.Test.YtpekdmadmggbpaaDoorGx11
namespace Go.Proofs.YtpekdmadmggbpaaDoor.Pure
open Go.RowKit Go.Proofs.YtpekdmadmggbpaaDoor.G Go.Proofs.YtpekdmadmggbpaaDoorW.PrintWords Go.Proofs.YtpekdmadmggbpaaDoorW.PrintLast

theorem IsSum_loop (n : Int) (l : List (List Int)) (hc : cardsB n l = true) (hl : l.length ≤ 1048576) (hr : ∀ x ∈ l, x.length ≤ 1048576) (d : Nat) : ∀ i : Nat, n.toNat - i = d → (i : Int) ≤ n →
    ∃ r : Bool × Bool, Ev (fun k => spec_IsSumCards.l0 k (i : Int) n l) r ∧ Ev (fun k => impl_IsSumCards.l0 k n (i : Int) n l) r := by
  obtain ⟨hn, h12, hx⟩ := cards_facts hc
  induction d with
  | zero =>
    intro i hd hi
    exact ⟨(true, true), Ev.one fun k => by rw [spec_IsSumCards.l0, if_neg (by omega)], Ev.one fun k => by rw [impl_IsSumCards.l0, if_neg (by omega)]⟩
  | succ d ih =>
    intro i hd hi
    have hw : wrap64 ((i : Int) + 1) = ((i + 1 : Nat) : Int) := w64 (by omega) (by omega)
    obtain ⟨r, h1, h2⟩ := ih (i + 1) (by omega) (by omega)
    have ha := asks_own hc (i : Int)
    obtain ⟨s, h3, h4⟩ := firsts_loop (ansT l (i : Int)) l (ansT_size l _) h12 l.length 0 0 (by omega) (by omega)
    have f1 : Ev (fun k => spec_caFirsts.f k n l (ansT l (i : Int))) s := by unfold spec_caFirsts.f; exact h3
    have f2 : Ev (fun k => impl_FirstsSum.f k n l (ansT l (i : Int))) s := by unfold impl_FirstsSum.f; exact Ev.bind (areAnswers_ev n l hl hr _) (Ev.if_pos' ha h4)
    have A1 := caAnswers_ev n l h12 hr (i : Int)
    have A2 := answers_ev n l h12 hr (fun x hx' => (hx x hx').1) (i : Int)
    by_cases e : s.1 = (i : Int)
    · refine ⟨r, Ev.step (f := fun k => (spec_caAnswers.f k n l (i : Int)).bind fun t => (spec_caFirsts.f k n l t).bind fun bt => if bt.1 = (i : Int) then spec_IsSumCards.l0 k ((i + 1 : Nat) : Int) n l else some (false, true)) (fun k => ?_) (Ev.bind A1 (Ev.bind f1 (Ev.if_pos' e h1))), Ev.step (f := fun k => (impl_Cards_answers.f k n l (i : Int)).bind fun t => (impl_FirstsSum.f k n l t).bind fun bt => if bt.1 = (i : Int) then impl_IsSumCards.l0 k n ((i + 1 : Nat) : Int) n l else some (false, true)) (fun k => ?_) (Ev.bind A2 (Ev.bind f2 (Ev.if_pos' e h2)))⟩
      · rw [spec_IsSumCards.l0, if_pos (by omega), hw]
      · rw [impl_IsSumCards.l0, if_pos (by omega), hw]
    · refine ⟨(false, true), Ev.step (f := fun k => (spec_caAnswers.f k n l (i : Int)).bind fun t => (spec_caFirsts.f k n l t).bind fun bt => if bt.1 = (i : Int) then spec_IsSumCards.l0 k ((i + 1 : Nat) : Int) n l else some (false, true)) (fun k => ?_) (Ev.bind A1 (Ev.bind f1 (Ev.if_neg' (f := fun _ => some (false, true)) (g := fun k => spec_IsSumCards.l0 k ((i + 1 : Nat) : Int) n l) e (Ev.now _)))), Ev.step (f := fun k => (impl_Cards_answers.f k n l (i : Int)).bind fun t => (impl_FirstsSum.f k n l t).bind fun bt => if bt.1 = (i : Int) then impl_IsSumCards.l0 k n ((i + 1 : Nat) : Int) n l else some (false, true)) (fun k => ?_) (Ev.bind A2 (Ev.bind f2 (Ev.if_neg' (f := fun _ => some (false, true)) (g := fun k => impl_IsSumCards.l0 k n ((i + 1 : Nat) : Int) n l) e (Ev.now _))))⟩
      · rw [spec_IsSumCards.l0, if_pos (by omega), hw]
      · rw [impl_IsSumCards.l0, if_pos (by omega), hw]
theorem IsSumCards_ev (n : Int) (l : List (List Int)) (hl : l.length ≤ 1048576) (hr : ∀ x ∈ l, x.length ≤ 1048576) : ∃ r : Bool × Bool, Ev (fun k => spec_IsSumCards.f k n l) r ∧ Ev (fun k => impl_IsSumCards.f k n l) r := by
  unfold spec_IsSumCards.f impl_IsSumCards.f
  cases hc : cardsB n l with
  | false => exact ⟨_, Ev.bind (caGood_ev n l hl hr) (Ev.if_neg' (by simp [hc]) (Ev.now _)), Ev.bind (AreCards_ev n l hr) (Ev.if_neg' (by simp [hc]) (Ev.now _))⟩
  | true =>
    have hn := (cards_facts hc).1
    obtain ⟨r, h1, h2⟩ := IsSum_loop n l hc hl hr n.toNat 0 (by omega) (by omega)
    exact ⟨r, Ev.bind (caGood_ev n l hl hr) (Ev.if_pos' hc h1), Ev.bind (AreCards_ev n l hr) (Ev.if_pos' hc h2)⟩

theorem FnExactIsSumCards : ∀ (n : Int) (l : List (List Int)), (Lit.int .i64 n).wf = true → l.length ≤ maxLen → (∀ x ∈ l, x.length ≤ maxLen ∧ ∀ y ∈ x, (Lit.int .i64 y).wf = true) → ∃ k, laws_FnExactIsSumCards.f k n l = some true := by
  intro n l _ hmax hin
  unfold maxLen at hmax
  obtain ⟨r, h1, h2⟩ := szCards_ev n l (by omega) (fun x hx => by have := (hin x hx).1; unfold maxLen at this; omega)
  apply Ev.rounds
  unfold laws_FnExactIsSumCards.f
  refine Ev.bind h1 ?_
  rcases h2 with h2 | ⟨h2, hl, hr⟩
  · exact Ev.if_pos' h2 (Ev.now _)
  · have ht := toCards_ev l hl hr n
    obtain ⟨s, hs, hi⟩ := IsSumCards_ev n l hl hr
    refine Ev.if_neg' h2 (Ev.bind ht (Ev.bind hs (Ev.bind ht (Ev.bind hi (Ev.if_neg' (by simp) ?_)))))
    rw [show (s.2 != s.2) = false by simp]
    exact Ev.step (fun k => by rw [laws_FnExactIsSumCards.j0, if_neg (by simp)]) (Ev.bind ht (Ev.bind (eqCards_ev l hl hr n) (Ev.if_pos' rfl (Ev.now _))))

end Go.Proofs.YtpekdmadmggbpaaDoor.Pure
