/- The program's NegateSigns answers as the reference's does, for every text. -/
import Derived.Test.YtgcpjjifiebijaaGreatDoorL
import Derived.Test.YtgcpjjifiebijaaGreatDoorGx7
import Derived.Test.YtgcpjjifiebijaaGreatDoorGx2
namespace Go.Proofs.YtgcpjjifiebijaaGreatDoor.Pure
open Go.RowKit Go.Proofs.YtgcpjjifiebijaaGreatDoor.G Go.Proofs.YtgcpjjifiebijaaGreatDoorW.PrintWords Go.Proofs.YtgcpjjifiebijaaGreatDoorW.PrintLast

theorem valF_small (l : List UInt8) : ∀ x : Int, 2 * (valF x l).natAbs + 1 ≤ (2 * x.natAbs + 1) * 3 ^ l.length := by
  induction l with
  | nil => intro x; simp [valF]
  | cons u t ih =>
    intro x
    have h := ih (3 * x + wsg u)
    have hw := wsg_b u
    have h2 : 2 * (3 * x + wsg u).natAbs + 1 ≤ (2 * x.natAbs + 1) * 3 := by omega
    rw [List.length_cons, Nat.pow_succ, Nat.mul_comm (3 ^ t.length) 3, ← Nat.mul_assoc]
    exact Nat.le_trans h (Nat.mul_le_mul_right _ h2)
theorem NegateSigns_ev (b : ByteArray) : ∃ r, Ev (fun k => spec_NegateSigns.f k b) r ∧ Ev (fun k => impl_NegateSigns.f k b) r := by
  obtain ⟨r, h1, h2, hc⟩ := number_ev b
  unfold spec_NegateSigns.f impl_NegateSigns.f
  by_cases hr : r.2 = true
  · obtain ⟨c1, c13, cs, c0, cv⟩ := hc hr
    have hv := valF_small b.data.toList 0
    have hp := pow13 b.size c13
    rw [size_list, ← cv] at hv
    have hsm : r.1.natAbs ≤ 1594323 := by simp at hv; omega
    have hb := siBalanced_ev (-r.1) (by omega)
    have e : impl_negated.f b = some ⟨(balT (-r.1)).toArray⟩ := by
      have := negated_eq b.data.toList (by rw [size_list]; omega)
      rw [Array.toArray_toList] at this
      rw [balT_neg, cv, balT_val b c1 cs c0]
      exact this
    have w1 : wrap64 (-r.1) = -r.1 := w64 (by omega) (by omega)
    exact ⟨_, Ev.bind h1 (Ev.if_pos' hr (by rw [w1]; exact Ev.bind hb (Ev.now _))), Ev.bind h2 (Ev.if_pos' hr (Ev.const_bind e (Ev.now _)))⟩
  · exact ⟨_, Ev.bind h1 (Ev.if_neg' hr (Ev.now _)), Ev.bind h2 (Ev.if_neg' hr (Ev.now _))⟩
theorem FnExactNegateSigns : laws_FnExactNegateSigns.Pure := by
  intro b _
  by_cases h : (b.size : Int) > 1048576
  · exact ⟨0, by unfold laws_FnExactNegateSigns.f; rw [if_pos h]⟩
  obtain ⟨r, hs, hi⟩ := NegateSigns_ev b
  apply Ev.rounds
  unfold laws_FnExactNegateSigns.f
  exact Ev.if_neg' h (Ev.bind hs (Ev.bind hi (Ev.if_pos' rfl (Ev.if_neg' (by simp) (Ev.now _)))))

end Go.Proofs.YtgcpjjifiebijaaGreatDoor.Pure
