/- The program's RunOfRuler answers as the reference's does, for every list. -/
import Derived.Test.YtlkgojgmgdeieaaRule1
import Derived.Test.YtlkgojgmgdeieaaSame0
import Derived.Test.YtlkgojgmgdeieaaGx5
import Derived.Test.YtlkgojgmgdeieaaGx3
import Derived.Test.YtlkgojgmgdeieaaGx4
namespace Go.Proofs.Ytlkgojgmgdeieaa.Pure
open Go.RowKit Go.Proofs.Ytlkgojgmgdeieaa.G Go.Proofs.YtlkgojgmgdeieaaW.PrintWords Go.Proofs.YtlkgojgmgdeieaaW.PrintLast

theorem times_zero (l : List Int) (h : Good l) (n : Int) (h1 : lastOf l < n) : times l n = 0 := by
  unfold times
  have hla := h.last
  have : (sp l).count n = 0 := by
    rw [List.count_eq_zero]
    intro hm
    have := sp_range (lastOf l) hla.2 l h.up (fun x hx => ⟨(h.mem x hx).1, h.le_last x hx⟩) n hm
    omega
  rw [this]; rfl
theorem Run_loop (l : List Int) (h : Good l) (T : List Int) (hlen : (T.length : Int) = lastOf l + 1) (htm : ∀ n : Int, 0 ≤ n → n ≤ lastOf l → rd T n = times l n) (d : Nat) : ∀ n : Nat, (lastOf l).toNat - n = d → n ≤ (lastOf l).toNat →
    Ev (fun k => spec_RunOfRuler.l0 k (n : Int) T (T.length : Int) ((n + 1 : Nat) : Int)) (impl_RunOfRuler.l0 (impl_lengths.M.ms l) (60 - n) (n : Int), true) := by
  have hla := h.last
  induction d with
  | zero =>
    intro n hd hn
    have e : impl_RunOfRuler.l0 (impl_lengths.M.ms l) (60 - n) (n : Int) = (n : Int) := by
      cases hq : 60 - n with
      | zero => rfl
      | succ q =>
        rw [impl_RunOfRuler.l0, if_pos (by omega), if_neg]
        rw [ms_times l h _ (by omega) (by omega), times_zero l h _ (by omega)]
        omega
    rw [e]
    exact Ev.one fun k => by rw [spec_RunOfRuler.l0, if_neg (by omega)]
  | succ d ih =>
    intro n hd hn
    have e60 : 60 - n = (60 - (n + 1)) + 1 := by omega
    have hms : rd (impl_lengths.M.ms l) ((n : Int) + 1) = times l ((n : Int) + 1) := ms_times l h _ (by omega) (by omega)
    have hT : rd T ((n + 1 : Nat) : Int) = times l ((n : Int) + 1) := htm _ (by omega) (by omega)
    have h0 : 0 ≤ times l ((n : Int) + 1) := by unfold times; omega
    rw [e60, impl_RunOfRuler.l0, if_pos (by omega), hms]
    by_cases hz : times l ((n : Int) + 1) = 0
    · rw [if_neg (by omega)]
      exact Ev.one fun k => by rw [spec_RunOfRuler.l0, if_pos (by omega), if_pos (by omega), if_pos (by omega), if_pos (by omega), hT, if_pos hz]
    · rw [if_pos (by omega)]
      refine Ev.step (fun k => ?_) (ih (n + 1) (by omega) (by omega))
      rw [spec_RunOfRuler.l0, if_pos (by omega), if_pos (by omega), if_pos (by omega), if_pos (by omega), hT, if_neg hz, w64 (by omega) (by omega)]
      rfl
theorem RunOfRuler_ev (l : List Int) (hl : l.length ≤ 35184372088832) : ∃ r : Int × Bool, Ev (fun k => spec_RunOfRuler.f k l) r ∧ Ev (fun k => impl_RunOfRuler.f k l) r := by
  unfold spec_RunOfRuler.f impl_RunOfRuler.f
  cases hb : rulerB l with
  | false => exact ⟨(0, false), Ev.bind (ruGood_ev l hl) (Ev.if_neg' (by simp [hb]) (Ev.now _)), Ev.bind (IsRuler_ev l hl) (Ev.if_neg' (by simp [hb]) (Ev.now _))⟩
  | true =>
    have hg := ruler_good hb
    have hla := hg.last
    obtain ⟨T, hT, hlen, htm⟩ := ruTimes_ev l hg
    refine ⟨(impl_RunOfRuler.l0 (impl_lengths.M.ms l) 60 0, true), Ev.bind (ruGood_ev l hl) (Ev.if_pos' hb (Ev.bind hT ?_)), Ev.bind (IsRuler_ev l hl) (Ev.if_pos' hb ?_)⟩
    · refine Ev.step (fun k => ?_) (Run_loop l hg T hlen htm _ 0 rfl (by omega))
      rw [spec_RunOfRuler.l0, if_pos (by omega), if_pos (by omega), if_pos (by omega), if_neg (by omega), w64 (by omega) (by omega)]
      rfl
    · rw [if_pos (show impl_RunOfRuler.M.fit l from good_fit l hg)]
      exact Ev.now _
theorem FnExactRunOfRuler : laws_FnExactRunOfRuler.Pure := by
  intro l _ _ _
  by_cases h : (l.length : Int) > 1048576
  · exact ⟨0, by unfold laws_FnExactRunOfRuler.f; rw [if_pos h]⟩
  have hl : l.length ≤ 35184372088832 := by omega
  obtain ⟨r, hs, hi⟩ := RunOfRuler_ev l hl
  apply Ev.rounds
  unfold laws_FnExactRunOfRuler.f
  refine Ev.if_neg' h (Ev.bind (toIntS_ev l hl) (Ev.bind hs (Ev.bind (toIntS_ev l hl) (Ev.bind hi (Ev.if_pos' rfl ?_)))))
  rw [show (r.2 != r.2) = false by simp]
  exact Ev.step (fun k => by rw [laws_FnExactRunOfRuler.j0, if_neg (by simp)]) (same_end l hl)

end Go.Proofs.Ytlkgojgmgdeieaa.Pure
