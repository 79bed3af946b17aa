/- The program's FewestCoins answers as the reference's does, for every list and amount. -/
import Derived.Test.YtohghfeomocnlaaCoin2
import Derived.Test.YtohghfeomocnlaaGx11
import Derived.Test.YtohghfeomocnlaaGx9
namespace Go.Proofs.Ytohghfeomocnlaa.Pure
open Go.RowKit Go.Proofs.Ytohghfeomocnlaa.G Go.Proofs.YtohghfeomocnlaaW.PrintWords Go.Proofs.YtohghfeomocnlaaW.PrintLast

def fewAns : Option Nat → Int × Bool
  | none => (0, false)
  | some n => (n, true)
theorem FnExactFewestCoins : laws_FnExactFewestCoins.Pure := by
  intro l a hl _ _ _
  by_cases h : (l.length : Int) > 1048576
  · exact ⟨0, by unfold laws_FnExactFewestCoins.f; rw [if_pos h]⟩
  have hl : l.length ≤ 35184372088832 := by omega
  obtain ⟨r, hs, hi⟩ : ∃ r, Ev (fun k => spec_FewestCoins.f k l a) r ∧ Ev (fun k => impl_FewestCoins.f k l a) r := by
    unfold spec_FewestCoins.f impl_FewestCoins.f
    have hb1 := cnAsked_ev l a hl
    have hb2 := isAmount_ev l a hl
    cases hb : (coinsB l && decide (0 ≤ a ∧ a ≤ 20000)) with
    | false =>
      rw [hb] at hb1 hb2
      exact ⟨(0, false), Ev.bind hb1 (Ev.if_neg' (by simp) (Ev.now _)), Ev.bind hb2 (Ev.if_neg' (by simp) (Ev.now _))⟩
    | true =>
      rw [hb] at hb1 hb2
      simp only [Bool.and_eq_true, decide_eq_true_eq] at hb
      obtain ⟨hco, ha⟩ := hb
      obtain ⟨m, rfl⟩ : ∃ m : Nat, a = m := ⟨a.toNat, by omega⟩
      have hc := coins_mem hco
      have hle := few_le l (fun x hx => (hc x hx).1) m
      refine ⟨fewAns (few l m), Ev.bind hb1 (Ev.if_pos' rfl (Ev.bind (cnFew_ev l hc hl m (by omega)) (Ev.if_pos' (by omega) (Ev.if_pos' (by simp [fewT_length]; omega) ?_)))),
        Ev.bind hb2 (Ev.if_pos' rfl (Ev.bind (fewStamps_ev l hc hl m (by omega)) (Ev.if_pos' (by omega) (Ev.if_pos' (by simp [fewT_length]; omega) ?_))))⟩
      · rw [tab_rd encS l m m (by omega)]
        cases few l m with
        | none => exact Ev.if_pos' (by simp [encS]) (Ev.now _)
        | some n => exact Ev.if_neg' (by simp [encS]) (Ev.now _)
      · rw [tab_rd (encP m) l m m (by omega)]
        cases hf : few l m with
        | none => exact Ev.if_pos' (by simp only [encP]; omega) (Ev.now _)
        | some n => have := hle n hf; exact Ev.if_neg' (by simp only [encP]; omega) (Ev.now _)
  apply Ev.rounds
  unfold laws_FnExactFewestCoins.f
  refine Ev.if_neg' h (Ev.bind (toIntS_ev l hl) (Ev.bind hs (Ev.bind (toIntS_ev l hl) (Ev.bind hi (Ev.if_pos' rfl ?_)))))
  rw [show (r.2 != r.2) = false by simp]
  exact Ev.step (fun k => by rw [laws_FnExactFewestCoins.j0, if_neg (by simp)]) (same_end l hl)

end Go.Proofs.Ytohghfeomocnlaa.Pure
