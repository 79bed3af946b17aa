/- The program's ChangeFrom answers as the reference's does, for all lists and every amount. -/
import Derived.Test.YtohghfeomocnlaaFL
import Derived.Test.YtohghfeomocnlaaFx8
import Derived.Test.YtohghfeomocnlaaFx5
namespace Go.Proofs.Ytohghfeomocnlaa.Pure
open Go.RowKit Go.Proofs.Ytohghfeomocnlaa.F Go.Proofs.YtohghfeomocnlaaW.PrintWords Go.Proofs.YtohghfeomocnlaaW.PrintLast

theorem ChangeFrom_ev (l p : List Int) (a : Int) (hl : l.length ≤ 35184372088832) (hp : p.length ≤ 35184372088832) : ∃ r : List Int × Bool, r.1.length ≤ 8 ∧ Ev (fun k => spec_ChangeFrom.f k l p a) r ∧ Ev (fun k => impl_ChangeFrom.f k l p a) r := by
  have hb1 := cnPurse_ev l p a hl hp
  have hb2 := isPurse_ev l p a hl hp
  have no1 : Ev (fun k => spec_ChangeFrom.j0 k l p a true) (([] : List Int), false) := Ev.one fun k => by rw [spec_ChangeFrom.j0, if_pos rfl]
  cases hb : purseB l p a with
  | false =>
    rw [hb] at hb1 hb2
    unfold spec_ChangeFrom.f impl_ChangeFrom.f
    exact ⟨([], false), by simp, Ev.bind hb1 (Ev.if_neg' (by simp) no1), Ev.bind hb2 (Ev.if_neg' (by simp) (Ev.now _))⟩
  | true =>
    rw [hb] at hb1 hb2
    obtain ⟨h1, h2, h3, h4⟩ := purse_facts hb
    obtain ⟨m, rfl⟩ : ∃ m : Nat, a = m := ⟨a.toNat, by omega⟩
    have hlen := coins_len h1
    have hF := cnFrom_ev l p m (by omega) h3 (by omega) (coins_mem h1) h4
    have start : ∀ r, Ev (fun k => spec_ChangeFrom.j0 k l p (m : Int) (!pays isZero l p m)) r → Ev (fun k => spec_ChangeFrom.f k l p (m : Int)) r := fun r h => by
      unfold spec_ChangeFrom.f
      refine Ev.bind hb1 (Ev.if_pos' rfl (Ev.bind hF (Ev.if_pos' (by omega) (Ev.if_pos' (by rw [tabF_length]; omega) ?_))))
      rw [rdOf_tab _ _ _ (Nat.le_refl m)]
      exact h
    rcases ChangeFrom_both l p m hb with ⟨e, h⟩ | ⟨e, ns, g1, g2, g3⟩
    · exact ⟨([], false), by simp, start _ (by rw [e]; exact no1), h⟩
    · refine ⟨(ns, true), by simp only; omega, start _ ?_, g3⟩
      rw [e]
      refine Ev.step (fun k => ?_) g2
      rw [spec_ChangeFrom.j0, if_neg (by simp), if_pos (by omega), if_pos (by omega), Int.toNat_natCast]
theorem mark_from (l : List Int) (s : Int) (hl : l.length ≤ 35184372088831) (h0 : 0 ≤ s) (h1 : s ≤ 35184372088832) : Ev (fun k => laws_markIntS.f k l s) (s + (l.length : Int), upfrom s l.length) := by
  unfold laws_markIntS.f
  simpa using mark_loop l.length [] l s rfl (by simp; omega) h0 (by omega)

theorem FnExactChangeFrom : laws_FnExactChangeFrom.Pure := by
  intro a b n _ _ _ _ _ _ _
  by_cases h : (a.length : Int) > 1048576
  · exact ⟨0, by unfold laws_FnExactChangeFrom.f; rw [if_pos h]⟩
  by_cases h' : (b.length : Int) > 1048576
  · exact ⟨0, by unfold laws_FnExactChangeFrom.f; rw [if_neg h, if_pos h']⟩
  have ha : a.length ≤ 35184372088832 := by omega
  have hb : b.length ≤ 35184372088832 := by omega
  obtain ⟨r, hr, hs, hi⟩ := ChangeFrom_ev a b n ha hb
  have hr1 : r.1.length ≤ 35184372088831 := by omega
  have hr2 : r.1.length ≤ 35184372088832 := by omega
  have ne : (r.2 != r.2) = false := by simp
  apply Ev.rounds
  unfold laws_FnExactChangeFrom.f
  refine Ev.if_neg' h (Ev.if_neg' h' (Ev.bind (toIntS_ev a ha) (Ev.bind (toIntS_ev b hb) (Ev.bind hs (Ev.bind (toIntS_ev a ha) (Ev.bind (toIntS_ev b hb) (Ev.bind hi (Ev.bind (eqIntS_self r.1 hr2) (Ev.if_pos' rfl ?_)))))))))
  rw [ne]
  refine Ev.step (fun k => by rw [laws_FnExactChangeFrom.j0, if_neg (by simp)]) ?_
  refine Ev.bind (toIntS_ev a ha) (Ev.bind (eqIntS_self a ha) (Ev.if_pos' rfl (Ev.bind (toIntS_ev b hb) (Ev.bind (eqIntS_self b hb) (Ev.if_pos' rfl (Ev.bind (mark_ev a (by omega)) (Ev.bind (mark_from b _ (by omega) (by simp only; omega) (by simp only; omega)) (Ev.if_neg' (by simp only; omega) (Ev.bind (eqIntS_self r.1 hr2) (Ev.if_pos' rfl ?_))))))))))
  rw [ne]
  refine Ev.step (fun k => by rw [laws_FnExactChangeFrom.j1, if_neg (by simp)]) ?_
  refine Ev.bind (mark_ev r.1 hr1) (Ev.bind (held_ev r.1.length hr1) (Ev.if_neg' (by omega) (Ev.if_pos' rfl (Ev.bind (toIntS_ev a ha) (Ev.bind (toIntS_ev b hb) (Ev.bind hi (Ev.bind (eqIntS_self r.1 hr2) (Ev.if_pos' rfl ?_))))))))
  rw [ne]
  refine Ev.step (fun k => by rw [laws_FnExactChangeFrom.j2, if_neg (by simp)]) ?_
  exact Ev.bind (held_ev r.1.length hr1) (Ev.if_neg' (by omega) (Ev.if_pos' rfl (Ev.now _)))

end Go.Proofs.Ytohghfeomocnlaa.Pure
