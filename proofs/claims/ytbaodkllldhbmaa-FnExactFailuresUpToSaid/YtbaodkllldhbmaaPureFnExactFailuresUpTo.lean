/- The program's FailuresUpTo answers as the reference's does, for every list and limit. -/
import Derived.Test.YtbaodkllldhbmaaFail0
import Derived.Test.YtbaodkllldhbmaaGx11
import Derived.Test.YtbaodkllldhbmaaGx8
import Derived.Test.YtbaodkllldhbmaaGx10
namespace Go.Proofs.Ytbaodkllldhbmaa.Pure
open Go.RowKit Go.Proofs.Ytbaodkllldhbmaa.G Go.Proofs.YtbaodkllldhbmaaW.PrintWords Go.Proofs.YtbaodkllldhbmaaW.PrintLast

theorem collect_loop (l : List Int) (m : Nat) (hm : m ≤ 2000) (d : Nat) : ∀ (v : Nat) (acc : List Int), m + 1 - v = d → v ≤ m + 1 → acc.length ≤ v →
    Ev (fun k => spec_FailuresUpTo.l0 k acc ((List.range (m + 1)).map (failB l)) (((List.range (m + 1)).map (failB l)).length : Int) (v : Int)) (acc ++ failsFrom l v d, true) := by
  have hT : ((List.range (m + 1)).map (failB l)).length = m + 1 := by simp
  induction d with
  | zero =>
    intro v acc hd hv ha
    refine Ev.one fun k => ?_
    rw [spec_FailuresUpTo.l0, if_neg (by omega)]
    simp [failsFrom]
  | succ d ih =>
    intro v acc hd hv ha
    have w1 : wrap64 ((v : Int) + 1) = ((v + 1 : Nat) : Int) := by rw [w64 (by omega) (by omega)]; rfl
    have hrd : rdOf false ((List.range (m + 1)).map (failB l)) (v : Int) = failB l v := by
      unfold rdOf
      rw [Int.toNat_natCast]
      simp [List.getD, show v < m + 1 by omega]
    rw [failsFrom_succ]
    by_cases hb : failB l v = true
    · have h := ih (v + 1) (acc ++ [(v : Int)]) (by omega) (by omega) (by simp; omega)
      rw [if_pos hb]
      rw [List.append_assoc] at h
      refine Ev.step (fun k => ?_) h
      rw [spec_FailuresUpTo.l0, if_pos (by omega), if_pos (by omega), if_pos (by omega), hrd, if_pos hb, if_pos (by omega), w1]
    · have h := ih (v + 1) acc (by omega) (by omega) (by omega)
      rw [if_neg hb]
      refine Ev.step (fun k => ?_) h
      rw [spec_FailuresUpTo.l0, if_pos (by omega), if_pos (by omega), if_pos (by omega), hrd, if_neg hb, w1]
theorem FailuresUpTo_ev (l : List Int) (a : Int) (hl : l.length ≤ 35184372088832) : ∃ r : List Int × Bool, r.1.length ≤ 2001 ∧ Ev (fun k => spec_FailuresUpTo.f k l a) r ∧ Ev (fun k => impl_FailuresUpTo.f k l a) r := by
  unfold spec_FailuresUpTo.f impl_FailuresUpTo.f
  have no1 : Ev (fun k => spec_FailuresUpTo.j0 k l a true) ([], false) := Ev.one fun k => by rw [spec_FailuresUpTo.j0, if_pos rfl]
  cases hco : coinsB l with
  | false => exact ⟨_, by simp, Ev.bind (cnGood_ev l hl) (Ev.if_neg' (by simp [hco]) no1), Ev.bind (AreCoins_ev l hl) (Ev.if_neg' (by simp [hco]) (Ev.now _))⟩
  | true =>
    by_cases ha : 0 ≤ a ∧ a ≤ 2000
    · obtain ⟨m, rfl⟩ : ∃ m : Nat, a = m := ⟨a.toNat, by omega⟩
      have hc := coins_mem hco
      have hlen := coins_len hco
      have hfl := failsFrom_length l 0 (m + 1)
      refine ⟨(failsFrom l 0 (m + 1), true), by simp only; omega, Ev.bind (cnGood_ev l hl) (Ev.if_pos' hco (Ev.const_bind (l1In_eq _ _ _) ?_)), Ev.bind (AreCoins_ev l hl) (Ev.if_pos' hco (Ev.const_bind (within_eq _ _ _) (Ev.if_pos' (decide_eq_true ha) (Ev.bind (failures_ev l hlen.2 hc m (by omega)) (Ev.now _)))))⟩
      rw [show (!decide (0 ≤ (m : Int) ∧ (m : Int) ≤ 2000)) = false by rw [decide_eq_true ha]; rfl]
      refine Ev.step (fun k => by rw [spec_FailuresUpTo.j0, if_neg (by simp)]) (Ev.bind (cnFails_ev l hlen.2 hc m (by omega)) ?_)
      simpa using collect_loop l m (by omega) (m + 1) 0 [] (by omega) (by omega) (by simp)
    · refine ⟨([], false), by simp, Ev.bind (cnGood_ev l hl) (Ev.if_pos' hco (Ev.const_bind (l1In_eq _ _ _) ?_)), Ev.bind (AreCoins_ev l hl) (Ev.if_pos' hco (Ev.const_bind (within_eq _ _ _) (Ev.if_neg' (by rw [decide_eq_false ha]; simp) (Ev.now _))))⟩
      rw [show (!decide (0 ≤ a ∧ a ≤ 2000)) = true by rw [decide_eq_false ha]; rfl]
      exact no1

theorem FnExactFailuresUpTo : laws_FnExactFailuresUpTo.Pure := by
  intro l a _ _ _ _
  by_cases h : (l.length : Int) > 1048576
  · exact ⟨0, by unfold laws_FnExactFailuresUpTo.f; rw [if_pos h]⟩
  have hl : l.length ≤ 35184372088831 := by omega
  obtain ⟨r, hr, hs, hi⟩ := FailuresUpTo_ev l a (by omega)
  have hl' : l.length ≤ 35184372088832 := by omega
  have hr1 : r.1.length ≤ 35184372088831 := by omega
  have hr2 : r.1.length ≤ 35184372088832 := by omega
  have ne : (r.2 != r.2) = false := by simp
  apply Ev.rounds
  unfold laws_FnExactFailuresUpTo.f
  refine Ev.if_neg' h (Ev.bind (toIntS_ev l hl') (Ev.bind hs (Ev.bind (toIntS_ev l hl') (Ev.bind hi (Ev.bind (eqIntS_self r.1 hr2) (Ev.if_pos' rfl ?_))))))
  rw [ne]
  refine Ev.step (fun k => by rw [laws_FnExactFailuresUpTo.j0, if_neg (by simp)]) ?_
  refine Ev.bind (toIntS_ev l hl') (Ev.bind (eqIntS_self l hl') (Ev.if_pos' rfl (Ev.bind (mark_ev l hl) (Ev.if_neg' (by simp only; omega) (Ev.bind (eqIntS_self r.1 hr2) (Ev.if_pos' rfl ?_))))))
  rw [ne]
  refine Ev.step (fun k => by rw [laws_FnExactFailuresUpTo.j1, if_neg (by simp)]) ?_
  refine Ev.bind (mark_ev r.1 hr1) (Ev.bind (held_ev r.1.length hr1) (Ev.if_neg' (by omega) (Ev.if_pos' rfl (Ev.bind (toIntS_ev l hl') (Ev.bind hi (Ev.bind (eqIntS_self r.1 hr2) (Ev.if_pos' rfl ?_)))))))
  rw [ne]
  refine Ev.step (fun k => by rw [laws_FnExactFailuresUpTo.j2, if_neg (by simp)]) ?_
  exact Ev.bind (held_ev r.1.length hr1) (Ev.if_neg' (by omega) (Ev.if_pos' rfl (Ev.now _)))


end Go.Proofs.Ytbaodkllldhbmaa.Pure
