/- The program's RunBoth answers as the reference's does, for every list. -/
import Derived.Test.YtobcoaafbekhaaaGjL
import Derived.Test.YtobcoaafbekhaaaGjx7
import Derived.Test.YtobcoaafbekhaaaGjx4
namespace Go.Proofs.Ytobcoaafbekhaaa.Pure
open Go.RowKit Go.Proofs.Ytobcoaafbekhaaa.Gj Go.Proofs.YtobcoaafbekhaaaW.PrintWords Go.Proofs.YtobcoaafbekhaaaW.PrintLast

theorem RunBoth_ev (l : List Int) (hl : l.length ≤ 35184372088832) : ∃ r, Ev (fun k => spec_RunBoth.f k l) r ∧ Ev (fun k => impl_RunBoth.f k l) r := by
  unfold spec_RunBoth.f impl_RunBoth.f
  cases hsm : smallB l with
  | false => exact ⟨(0, false), Ev.bind (siSmall_ev l hl) (Ev.if_neg' (by simp [hsm]) (Ev.now _)), Ev.bind (areTogether_ev l hl) (Ev.if_neg' (by simp [hsm]) (Ev.now _))⟩
  | true =>
    have hp : piecesB l = true := by unfold smallB at hsm; rw [Bool.and_eq_true] at hsm; exact hsm.1
    have hs := pieces_sum hp
    obtain ⟨S, hS⟩ : ∃ S : Nat, l.sum = S := ⟨l.sum.toNat, by omega⟩
    obtain ⟨h1, h2⟩ := runs_ev l hp S hS
    exact ⟨((runV (W l.reverse) S 0 : Int), true), Ev.bind (siSmall_ev l hl) (Ev.if_pos' hsm (Ev.bind h1 (Ev.now _))), Ev.bind (areTogether_ev l hl) (Ev.if_pos' hsm (Ev.bind h2 (Ev.now _)))⟩

theorem FnExactRunBoth : laws_FnExactRunBoth.Pure := by
  intro l _ _ _
  by_cases h : (l.length : Int) > 1048576
  · exact ⟨0, by unfold laws_FnExactRunBoth.f; rw [if_pos h]⟩
  have hl : l.length ≤ 35184372088832 := by omega
  obtain ⟨r, hs, hi⟩ := RunBoth_ev l hl
  apply Ev.rounds
  unfold laws_FnExactRunBoth.f
  refine Ev.if_neg' h (Ev.bind (toIntS_ev l hl) (Ev.bind hs (Ev.bind (toIntS_ev l hl) (Ev.bind hi (Ev.if_pos' rfl ?_)))))
  rw [show (r.2 != r.2) = false by simp]
  exact Ev.step (fun k => by rw [laws_FnExactRunBoth.j0, if_neg (by simp)]) (Ev.bind (toIntS_ev l hl) (Ev.bind (eqIntS_self l hl) (Ev.if_pos' rfl (Ev.now _))))

end Go.Proofs.Ytobcoaafbekhaaa.Pure
