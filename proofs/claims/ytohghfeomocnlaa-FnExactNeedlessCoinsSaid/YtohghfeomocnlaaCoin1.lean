/- Plain lemmas: coins and an amount, by the program and by the reference. -/
import Derived.Test.YtohghfeomocnlaaCoin0
import Derived.Test.YtohghfeomocnlaaGx5
import Derived.Test.YtohghfeomocnlaaGx3
namespace Go.Proofs.Ytohghfeomocnlaa.Pure
open Go.RowKit Go.Proofs.Ytohghfeomocnlaa.G Go.Proofs.YtohghfeomocnlaaW.PrintWords Go.Proofs.YtohghfeomocnlaaW.PrintLast

theorem cnAsked_ev (l : List Int) (a : Int) (hl : l.length ≤ 35184372088832) : Ev (fun k => spec_cnAsked.f k l a) (coinsB l && decide (0 ≤ a ∧ a ≤ 20000)) := by
  unfold spec_cnAsked.f
  refine Ev.bind (cnGood_ev l hl) ?_
  cases h : coinsB l with
  | true => exact Ev.if_pos' rfl (Ev.const_bind (l1In_eq _ _ _) (Ev.now _))
  | false => exact Ev.if_neg' (by simp) (Ev.now _)
theorem isAmount_ev (l : List Int) (a : Int) (hl : l.length ≤ 35184372088832) : Ev (fun k => impl_isAmount.f k l a) (coinsB l && decide (0 ≤ a ∧ a ≤ 20000)) := by
  unfold impl_isAmount.f
  refine Ev.bind (AreCoins_ev l hl) ?_
  cases h : coinsB l with
  | true => exact Ev.if_pos' rfl (Ev.const_bind (within_eq _ _ _) (Ev.now _))
  | false => exact Ev.if_neg' (by simp) (Ev.now _)
/-- The rest of a law without a slice among its results: the argument is as it was. -/
theorem same_end (l : List Int) (hl : l.length ≤ 35184372088832) : Ev (fun k => (laws_toIntS.f k l).bind fun t => (laws_eqIntS.f k l t).bind fun u => if u = true then some true else some false) true :=
  Ev.bind (toIntS_ev l hl) (Ev.bind (eqIntS_self l hl) (Ev.if_pos' rfl (Ev.now _)))

end Go.Proofs.Ytohghfeomocnlaa.Pure
