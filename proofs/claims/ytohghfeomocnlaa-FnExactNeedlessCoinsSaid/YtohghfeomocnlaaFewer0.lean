/- Plain lemmas: the fewest coins for perhaps no kinds at all; copies of lists. -/
import Derived.Test.YtohghfeomocnlaaCoin2
import Derived.Test.YtohghfeomocnlaaGx17
import Derived.Test.YtohghfeomocnlaaGx16
namespace Go.Proofs.Ytohghfeomocnlaa.Pure
open Go.RowKit Go.Proofs.Ytohghfeomocnlaa.G Go.Proofs.YtohghfeomocnlaaW.PrintWords Go.Proofs.YtohghfeomocnlaaW.PrintLast

theorem l1Own_eq (l : List Int) (hl : l.length ≤ 1000000) : spec_l1Own.f l = some l := by
  unfold spec_l1Own.f
  simp; omega
theorem fewer_loop (m : Nat) (hm : m ≤ 2000000) (d : Nat) : ∀ v : Nat, m - v = d → v ≤ m →
    Ev (fun k => spec_cnFewer.l0 k (m : Int) ((fewT [] v).map encS ++ List.replicate (m - v) 0) ((v + 1 : Nat) : Int)) ((fewT [] m).map encS) := by
  induction d with
  | zero =>
    intro v hd hv
    have : v = m := by omega
    subst this
    refine Ev.one fun k => ?_
    rw [spec_cnFewer.l0, if_neg (by omega)]
    simp
  | succ d ih =>
    intro v hd hv
    have hlen := fewT_length [] v
    have hml : ((fewT [] v).map encS).length = v + 1 := by simp [hlen]
    have h := ih (v + 1) (by omega) (by omega)
    have e : ((fewT [] v).map encS ++ List.replicate (m - v) 0).set ((v + 1 : Nat) : Int).toNat (-1) = (fewT [] (v + 1)).map encS ++ List.replicate (m - (v + 1)) 0 := by
      rw [show m - v = (m - (v + 1)) + 1 by omega, List.replicate_succ, Int.toNat_natCast]
      have h1 := set_at ((fewT [] v).map encS) 0 (-1) (List.replicate (m - (v + 1)) 0)
      rw [hml] at h1
      rw [h1, fewT]
      simp [best, encS]
    rw [← e] at h
    refine Ev.step (fun k => ?_) h
    rw [spec_cnFewer.l0, if_pos (by omega), if_pos (by omega), if_pos (by simp [hlen]; omega), w64 (by omega) (by omega)]
    rfl
theorem cnFewer_ev (cs : List Int) (hc : ∀ x ∈ cs, 1 ≤ x ∧ x ≤ 1000) (hl : cs.length ≤ 35184372088832) (m : Nat) (hm : m ≤ 2000000) : Ev (fun k => spec_cnFewer.f k cs (m : Int)) ((fewT cs m).map encS) := by
  unfold spec_cnFewer.f
  cases cs with
  | nil =>
    have e : wrap64 ((m : Int) + 1) = ((m + 1 : Nat) : Int) := by rw [w64 (by omega) (by omega)]; rfl
    refine Ev.if_neg' (by simp) (Ev.if_pos' (by omega) (Ev.if_pos' (by omega) ?_))
    rw [e, Int.toNat_natCast, List.replicate_succ]
    exact fewer_loop m hm m 0 (by omega) (by omega)
  | cons c t => exact Ev.if_pos' (by simp only [List.length_cons]; omega) (Ev.bind (cnFew_ev (c :: t) hc hl m hm) (Ev.now _))

end Go.Proofs.Ytohghfeomocnlaa.Pure
