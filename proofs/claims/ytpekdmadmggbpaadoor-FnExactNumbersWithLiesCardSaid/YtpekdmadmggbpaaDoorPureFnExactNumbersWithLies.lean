/- The program's NumbersWithLies answers as the reference's does, for all cards and all answers; nothing that is handed over or handed back is shared. -/
import Derived.Test.YtpekdmadmggbpaaDoorNlL
import Derived.Test.YtpekdmadmggbpaaDoorNlx11
import Derived.Test.YtpekdmadmggbpaaDoorNlx5
import Derived.Test.YtpekdmadmggbpaaDoorNlx9
namespace Go.Proofs.YtpekdmadmggbpaaDoor.Pure
open Go.RowKit Go.Proofs.YtpekdmadmggbpaaDoor.Nl Go.Proofs.YtpekdmadmggbpaaDoorW.PrintWords Go.Proofs.YtpekdmadmggbpaaDoorW.PrintLast

theorem NumbersWithLies_ev (n : Int) (l : List (List Int)) (hl : l.length ≤ 1048576) (hr : ∀ x ∈ l, x.length ≤ 1048576) (b : ByteArray) (z : Int) : ∃ r : List Int × Bool, Ev (fun k => spec_NumbersWithLies.f k n l b z) r ∧ Ev (fun k => impl_NumbersWithLies.f k n l b z) r ∧ r.1.length ≤ 1000 := by
  unfold spec_NumbersWithLies.f
  cases hq : asksB n l b with
  | false => exact ⟨([], false), Ev.bind (caAsked_ev n l hl hr b) (Ev.if_neg' (by simp [hq]) (Ev.now _)), Lies_no n l b z hq hl hr, by simp⟩
  | true =>
    obtain ⟨hc, hs, _⟩ := asks_facts hq
    have hn := (cards_facts hc).1
    have hcard := impl_cardOf.card_le (fits l b z) n.toNat
    by_cases hz : 0 ≤ z ∧ z ≤ 12
    · exact ⟨(impl_cardOf.card (fits l b z) n.toNat, true), Ev.bind (caAsked_ev n l hl hr b) (Ev.if_pos' hq (Ev.const_bind (l1In_eq _ _ _) (Ev.if_pos' (decide_eq_true hz) (Ev.bind (caWith_ev n l b z hc hr (by omega)) (Ev.now _))))), Lies_ev n l b z hq hz hl hr, by show (impl_cardOf.card (fits l b z) n.toNat).length ≤ 1000; omega⟩
    · exact ⟨([], false), Ev.bind (caAsked_ev n l hl hr b) (Ev.if_pos' hq (Ev.const_bind (l1In_eq _ _ _) (Ev.if_neg' (by rw [decide_eq_false hz]; simp) (Ev.now _)))), Lies_off n l b z hq hz hl hr, by simp⟩

theorem FnExactNumbersWithLies : ∀ (n : Int) (l : List (List Int)) (a : ByteArray) (z : Int), (Lit.int .i64 n).wf = true → l.length ≤ maxLen → (∀ x ∈ l, x.length ≤ maxLen ∧ ∀ y ∈ x, (Lit.int .i64 y).wf = true) → a.size ≤ 140737488351232 → (Lit.int .i64 z).wf = true → ∃ k, laws_FnExactNumbersWithLies.f k n l a z = some true := by
  intro n l a z _ hmax hin _ _
  unfold maxLen at hmax
  obtain ⟨r, h1, h2⟩ := szCards_ev n l (by omega) (fun x hx => by have := (hin x hx).1; unfold maxLen at this; omega)
  apply Ev.rounds
  unfold laws_FnExactNumbersWithLies.f
  by_cases hbig : (a.size : Int) > 1048576
  · exact Ev.if_pos' hbig (Ev.now _)
  refine Ev.if_neg' hbig (Ev.bind h1 ?_)
  rcases h2 with h2 | ⟨h2, hl, hr⟩
  · exact Ev.if_pos' h2 (Ev.now _)
  · have ht := toCards_ev l hl hr n
    obtain ⟨s, hs, hi, hsl⟩ := NumbersWithLies_ev n l hl hr a z
    obtain ⟨m, hm, hm0⟩ := markCards_ev n l hl hr
    have hself := eqIntS_self s.1 (by omega)
    have ne : (s.2 != s.2) = false := by simp
    refine Ev.if_neg' h2 (Ev.bind ht (Ev.bind hs (Ev.bind ht (Ev.bind hi (Ev.bind hself (Ev.if_pos' rfl ?_))))))
    rw [ne]
    refine Ev.step (fun k => by rw [laws_FnExactNumbersWithLies.j0, if_neg (by simp)]) ?_
    refine Ev.bind ht (Ev.bind (eqCards_ev l hl hr n) (Ev.if_pos' rfl (Ev.bind hm (Ev.if_neg' (show ¬ m < 0 by omega) (Ev.bind hself (Ev.if_pos' rfl ?_))))))
    rw [ne]
    refine Ev.step (fun k => by rw [laws_FnExactNumbersWithLies.j1, if_neg (by simp)]) ?_
    refine Ev.bind (mark_ev s.1 (by omega)) (Ev.bind (held_ev s.1.length (by omega)) (Ev.if_neg' (by omega) (Ev.if_pos' rfl (Ev.bind ht (Ev.bind hi (Ev.bind hself (Ev.if_pos' rfl ?_)))))))
    rw [ne]
    refine Ev.step (fun k => by rw [laws_FnExactNumbersWithLies.j2, if_neg (by simp)]) ?_
    refine Ev.bind (held_ev s.1.length (by omega)) (Ev.if_neg' (by omega) (Ev.if_pos' rfl (Ev.now _)))

end Go.Proofs.YtpekdmadmggbpaaDoor.Pure
