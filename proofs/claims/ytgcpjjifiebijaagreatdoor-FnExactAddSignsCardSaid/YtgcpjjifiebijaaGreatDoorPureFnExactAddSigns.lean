/- The program's AddSigns answers as the reference's does, for every two texts. -/
import Derived.Test.YtgcpjjifiebijaaGreatDoorL
import Derived.Test.YtgcpjjifiebijaaGreatDoorGx8
import Derived.Test.YtgcpjjifiebijaaGreatDoorGx7
namespace Go.Proofs.YtgcpjjifiebijaaGreatDoor.Pure
open Go.RowKit Go.Proofs.YtgcpjjifiebijaaGreatDoor.G Go.Proofs.YtgcpjjifiebijaaGreatDoorW.PrintWords Go.Proofs.YtgcpjjifiebijaaGreatDoorW.PrintLast

theorem AddSigns_ev (a b : ByteArray) : ∃ r, Ev (fun k => spec_AddSigns.f k a b) r ∧ Ev (fun k => impl_AddSigns.f k a b) r := by
  obtain ⟨ra, a1, a2, -⟩ := number_ev a
  obtain ⟨rb, b1, b2, -⟩ := number_ev b
  unfold spec_AddSigns.f impl_AddSigns.f
  by_cases ha : ra.2 = true
  · by_cases hb : rb.2 = true
    · by_cases h : -1000000 ≤ wrap64 (ra.1 + rb.1) ∧ wrap64 (ra.1 + rb.1) ≤ 1000000
      · refine ⟨(_, true), Ev.bind a1 (Ev.bind b1 (Ev.if_pos' ha (Ev.if_pos' hb (Ev.const_bind (l1In_eq _ _ _) (Ev.if_pos' (decide_eq_true h) (Ev.bind (siBalanced_ev _ (by omega)) (Ev.now _))))))),
          Ev.bind a2 (Ev.bind b2 (Ev.if_pos' ha (Ev.if_pos' hb (Ev.bind (r := _) (a := (_, true)) ?_ (Ev.now _)))))⟩
        unfold impl_BalancedOf.f
        exact Ev.const_bind (within_eq _ _ _) (Ev.if_pos' (decide_eq_true h) (Ev.bind (balanced_ev _ (by omega)) (Ev.now _)))
      · refine ⟨(_, false), Ev.bind a1 (Ev.bind b1 (Ev.if_pos' ha (Ev.if_pos' hb (Ev.const_bind (l1In_eq _ _ _) (Ev.if_neg' (by rw [decide_eq_false h]; simp) (Ev.now _)))))),
          Ev.bind a2 (Ev.bind b2 (Ev.if_pos' ha (Ev.if_pos' hb (Ev.bind (r := _) (a := (_, false)) ?_ (Ev.now _)))))⟩
        unfold impl_BalancedOf.f
        exact Ev.const_bind (within_eq _ _ _) (Ev.if_neg' (by rw [decide_eq_false h]; simp) (Ev.now _))
    · exact ⟨_, Ev.bind a1 (Ev.bind b1 (Ev.if_pos' ha (Ev.if_neg' hb (Ev.now _)))), Ev.bind a2 (Ev.bind b2 (Ev.if_pos' ha (Ev.if_neg' hb (Ev.now _))))⟩
  · exact ⟨_, Ev.bind a1 (Ev.bind b1 (Ev.if_neg' ha (Ev.now _))), Ev.bind a2 (Ev.bind b2 (Ev.if_neg' ha (Ev.now _)))⟩
theorem FnExactAddSigns : laws_FnExactAddSigns.Pure := by
  intro a b _ _
  by_cases h : (a.size : Int) > 1048576
  · exact ⟨0, by unfold laws_FnExactAddSigns.f; rw [if_pos h]⟩
  by_cases h' : (b.size : Int) > 1048576
  · exact ⟨0, by unfold laws_FnExactAddSigns.f; rw [if_neg h, if_pos h']⟩
  obtain ⟨r, hs, hi⟩ := AddSigns_ev a b
  apply Ev.rounds
  unfold laws_FnExactAddSigns.f
  exact Ev.if_neg' h (Ev.if_neg' h' (Ev.bind hs (Ev.bind hi (Ev.if_pos' rfl (Ev.if_neg' (by simp) (Ev.now _))))))

end Go.Proofs.YtgcpjjifiebijaaGreatDoor.Pure
