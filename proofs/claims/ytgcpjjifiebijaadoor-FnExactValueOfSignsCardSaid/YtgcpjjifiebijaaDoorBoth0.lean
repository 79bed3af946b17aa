/- Plain lemmas: few pieces. -/
import Derived.Test.YtgcpjjifiebijaaDoorWithin0
import Derived.Test.YtgcpjjifiebijaaDoorPiece0
import Derived.Test.YtgcpjjifiebijaaDoorGx4
import Derived.Test.YtgcpjjifiebijaaDoorGx6
namespace Go.Proofs.YtgcpjjifiebijaaDoor.Pure
open Go.RowKit Go.Proofs.YtgcpjjifiebijaaDoor.G Go.Proofs.YtgcpjjifiebijaaDoorW.PrintWords Go.Proofs.YtgcpjjifiebijaaDoorW.PrintLast

def fewB (l : List Int) : Bool := piecesB l && decide ((l.length : Int) ≤ 12)
theorem siFew_ev (l : List Int) (hl : l.length ≤ 35184372088832) : Ev (fun k => spec_siFew.f k l) (fewB l) := by
  unfold spec_siFew.f fewB
  refine Ev.bind (piGood_ev l hl) ?_
  cases h : piecesB l with
  | true => exact Ev.if_pos' rfl (Ev.now _)
  | false => exact Ev.if_neg' (by simp) (Ev.now _)
theorem isBoth_ev (l : List Int) (n : Int) (hl : l.length ≤ 35184372088832) : Ev (fun k => impl_isBoth.f k l n) (fewB l && decide (0 ≤ n ∧ n ≤ 1000000)) := by
  unfold impl_isBoth.f fewB
  refine Ev.bind (ArePieces_ev l hl) ?_
  cases h : piecesB l with
  | false => exact Ev.if_neg' (by simp) (Ev.now _)
  | true =>
    refine Ev.if_pos' rfl ?_
    by_cases h2 : (l.length : Int) ≤ 12
    · rw [decide_eq_true h2]; exact Ev.if_pos' h2 (Ev.const_bind (within_eq _ _ _) (Ev.now _))
    · rw [decide_eq_false h2]; exact Ev.if_neg' h2 (Ev.now _)
theorem few_pieces {l : List Int} (h : fewB l = true) : piecesB l = true ∧ l.length ≤ 12 := by
  unfold fewB at h
  rw [Bool.and_eq_true, decide_eq_true_eq] at h
  exact ⟨h.1, by omega⟩
/-- The rest of a law without a slice among its results: the argument is as it was. -/
theorem same_rest (l : List Int) (hl : l.length ≤ 35184372088832) : Ev (fun k => (laws_toIntS.f k l).bind fun t => (laws_eqIntS.f k l t).bind fun u => if u = true then some true else some false) true :=
  Ev.bind (toIntS_ev l hl) (Ev.bind (eqIntS_self l hl) (Ev.if_pos' rfl (Ev.now _)))

end Go.Proofs.YtgcpjjifiebijaaDoor.Pure
