/- The program's CanChange answers as the reference's does, for all lists and every amount. -/
import Derived.Test.YtohghfeomocnlaaCL
import Derived.Test.YtohghfeomocnlaaCx7
import Derived.Test.YtohghfeomocnlaaCx4
namespace Go.Proofs.Ytohghfeomocnlaa.Pure
open Go.RowKit Go.Proofs.Ytohghfeomocnlaa.C Go.Proofs.YtohghfeomocnlaaW.PrintWords Go.Proofs.YtohghfeomocnlaaW.PrintLast

theorem CanChange_ev (l p : List Int) (a : Int) (hl : l.length ≤ 35184372088832) (hp : p.length ≤ 35184372088832) : ∃ r, Ev (fun k => spec_CanChange.f k l p a) r ∧ Ev (fun k => impl_CanChange.f k l p a) r := by
  unfold spec_CanChange.f impl_CanChange.f
  have hb1 := cnPurse_ev l p a hl hp
  have hb2 := isPurse_ev l p a hl hp
  cases hb : purseB l p a with
  | false =>
    rw [hb] at hb1 hb2
    exact ⟨(false, false), Ev.bind hb1 (Ev.if_neg' (by simp) (Ev.now _)), Ev.bind hb2 (Ev.if_neg' (by simp) (Ev.now _))⟩
  | true =>
    rw [hb] at hb1 hb2
    obtain ⟨h1, h2, h3, h4⟩ := purse_facts hb
    obtain ⟨m, rfl⟩ : ∃ m : Nat, a = m := ⟨a.toNat, by omega⟩
    have hlen := coins_len h1
    have hF := cnFrom_ev l p m (by omega) h3 (by omega) (coins_mem h1) h4
    refine ⟨(pays isZero l p m, true), Ev.bind hb1 (Ev.if_pos' rfl (Ev.bind hF (Ev.if_pos' (by omega) (Ev.if_pos' (by rw [tabF_length]; omega) ?_)))), Ev.bind hb2 (Ev.if_pos' rfl ?_)⟩
    · rw [rdOf_tab _ _ _ (Nat.le_refl m)]; exact Ev.now _
    · obtain ⟨ns, h⟩ := ChangeFrom_can l p m hb
      exact Ev.bind h (Ev.now _)

theorem FnExactCanChange : laws_FnExactCanChange.Pure := by
  intro a b n _ _ _ _ _ _ _
  by_cases h : (a.length : Int) > 1048576
  · exact ⟨0, by unfold laws_FnExactCanChange.f; rw [if_pos h]⟩
  by_cases h' : (b.length : Int) > 1048576
  · exact ⟨0, by unfold laws_FnExactCanChange.f; rw [if_neg h, if_pos h']⟩
  have ha : a.length ≤ 35184372088832 := by omega
  have hb : b.length ≤ 35184372088832 := by omega
  obtain ⟨r, hs, hi⟩ := CanChange_ev a b n ha hb
  apply Ev.rounds
  unfold laws_FnExactCanChange.f
  refine Ev.if_neg' h (Ev.if_neg' h' (Ev.bind (toIntS_ev a ha) (Ev.bind (toIntS_ev b hb) (Ev.bind hs (Ev.bind (toIntS_ev a ha) (Ev.bind (toIntS_ev b hb) (Ev.bind hi (Ev.if_neg' (by simp) ?_))))))))
  rw [show (r.2 != r.2) = false by simp]
  refine Ev.step (fun k => by rw [laws_FnExactCanChange.j0, if_neg (by simp)]) ?_
  exact Ev.bind (toIntS_ev a ha) (Ev.bind (eqIntS_self a ha) (Ev.if_pos' rfl (Ev.bind (toIntS_ev b hb) (Ev.bind (eqIntS_self b hb) (Ev.if_pos' rfl (Ev.now _))))))

end Go.Proofs.Ytohghfeomocnlaa.Pure
