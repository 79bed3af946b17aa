/- The program's BestBoth answers as the reference's does, for every list. -/
import Derived.Test.YtobcoaafbekhaaaGkL
import Derived.Test.YtobcoaafbekhaaaGkx8
import Derived.Test.YtobcoaafbekhaaaGkx4
import Derived.Test.YtobcoaafbekhaaaGkx7
namespace Go.Proofs.Ytobcoaafbekhaaa.Pure
open Go.RowKit Go.Proofs.Ytobcoaafbekhaaa.Gk Go.Proofs.YtobcoaafbekhaaaW.PrintWords Go.Proofs.YtobcoaafbekhaaaW.PrintLast

theorem BestBoth_ev (l : List Int) (hl : l.length ≤ 35184372088832) : ∃ r, Ev (fun k => spec_BestBoth.f k l) r ∧ Ev (fun k => impl_BestBoth.f k l) r := by
  unfold spec_BestBoth.f impl_BestBoth.f
  cases hsm : smallB l with
  | false => exact ⟨(0, false), Ev.bind (siSmall_ev l hl) (Ev.if_neg' (by simp [hsm]) (Ev.now _)), Ev.bind (areTogether_ev l hl) (Ev.if_neg' (by simp [hsm]) (Ev.now _))⟩
  | true =>
    have hp : piecesB l = true := by unfold smallB at hsm; rw [Bool.and_eq_true] at hsm; exact hsm.1
    have hs := pieces_sum hp
    have hb := pieces_mem hp
    obtain ⟨S, hS⟩ : ∃ S : Nat, l.sum = S := ⟨l.sum.toNat, by omega⟩
    obtain ⟨h1, h2⟩ := runs_ev l hp S hS
    have hps := piSum_ev l hl (fun x hx => by have := hb x hx; omega) (by omega)
    have htot := total_ev l hl (fun x hx => by have := hb x hx; omega) (by omega)
    rw [hS] at hps htot
    have hle := runV_le (W l.reverse) S 0
    generalize runV (W l.reverse) S 0 = R at *
    have w1 : wrap64 (wrap64 (2 * (S : Int)) + 1) = 2 * (S : Int) + 1 := by rw [w64 (x := 2 * (S : Int)) (by omega) (by omega), w64 (by omega) (by omega)]
    by_cases h20 : (l.length : Int) = 20
    · exact ⟨(0, false), Ev.bind (siSmall_ev l hl) (Ev.if_pos' hsm (Ev.if_pos' h20 (Ev.now _))), Ev.bind (areTogether_ev l hl) (Ev.if_pos' hsm (Ev.if_pos' h20 (Ev.now _)))⟩
    · by_cases he : R = S
      · subst he
        by_cases hbig : 2 * (R : Int) + 1 > 10000
        · exact ⟨(0, false), Ev.bind (siSmall_ev l hl) (Ev.if_pos' hsm (Ev.if_neg' h20 (Ev.bind h1 (Ev.bind hps (Ev.if_pos' rfl (Ev.bind h1 (Ev.if_pos' (by rw [w1]; exact hbig) (Ev.now _)))))))), Ev.bind (areTogether_ev l hl) (Ev.if_pos' hsm (Ev.if_neg' h20 (Ev.bind h2 (Ev.bind htot (Ev.if_neg' (by omega) (Ev.bind htot (Ev.if_pos' (by rw [w1]; exact hbig) (Ev.now _))))))))⟩
        · exact ⟨(wrap64 (wrap64 (2 * (R : Int)) + 1), true), Ev.bind (siSmall_ev l hl) (Ev.if_pos' hsm (Ev.if_neg' h20 (Ev.bind h1 (Ev.bind hps (Ev.if_pos' rfl (Ev.bind h1 (Ev.if_neg' (by rw [w1]; exact hbig) (Ev.bind h1 (Ev.now _))))))))), Ev.bind (areTogether_ev l hl) (Ev.if_pos' hsm (Ev.if_neg' h20 (Ev.bind h2 (Ev.bind htot (Ev.if_neg' (by omega) (Ev.bind htot (Ev.if_neg' (by rw [w1]; exact hbig) (Ev.bind htot (Ev.now _)))))))))⟩
      · exact ⟨(0, false), Ev.bind (siSmall_ev l hl) (Ev.if_pos' hsm (Ev.if_neg' h20 (Ev.bind h1 (Ev.bind hps (Ev.if_neg' (by omega) (Ev.now _)))))), Ev.bind (areTogether_ev l hl) (Ev.if_pos' hsm (Ev.if_neg' h20 (Ev.bind h2 (Ev.bind htot (Ev.if_pos' (by omega) (Ev.now _))))))⟩

theorem FnExactBestBoth : laws_FnExactBestBoth.Pure := by
  intro l _ _ _
  by_cases h : (l.length : Int) > 1048576
  · exact ⟨0, by unfold laws_FnExactBestBoth.f; rw [if_pos h]⟩
  have hl : l.length ≤ 35184372088832 := by omega
  obtain ⟨r, hs, hi⟩ := BestBoth_ev l hl
  apply Ev.rounds
  unfold laws_FnExactBestBoth.f
  refine Ev.if_neg' h (Ev.bind (toIntS_ev l hl) (Ev.bind hs (Ev.bind (toIntS_ev l hl) (Ev.bind hi (Ev.if_pos' rfl ?_)))))
  rw [show (r.2 != r.2) = false by simp]
  exact Ev.step (fun k => by rw [laws_FnExactBestBoth.j0, if_neg (by simp)]) (Ev.bind (toIntS_ev l hl) (Ev.bind (eqIntS_self l hl) (Ev.if_pos' rfl (Ev.now _))))

end Go.Proofs.Ytobcoaafbekhaaa.Pure
