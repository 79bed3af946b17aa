/- The program's DropMark answers as the reference's does, for every list and place. -/
import Derived.Test.YtlkgojgmgdeieaaDrop0
import Derived.Test.YtlkgojgmgdeieaaMark
import Derived.Test.YtlkgojgmgdeieaaGx15
import Derived.Test.YtlkgojgmgdeieaaGx13
import Derived.Test.YtlkgojgmgdeieaaGx14
namespace Go.Proofs.Ytlkgojgmgdeieaa.Pure
open Go.RowKit Go.Proofs.Ytlkgojgmgdeieaa.G Go.Proofs.YtlkgojgmgdeieaaW.PrintWords Go.Proofs.YtlkgojgmgdeieaaW.PrintLast

theorem DropMark_ev (l : List Int) (a : Int) (hl : l.length ≤ 35184372088832) : ∃ r : List Int × Bool, Ev (fun k => spec_DropMark.f k l a) r ∧ Ev (fun k => impl_DropMark.f k l a) r ∧ r.1.length ≤ 1000 := by
  obtain ⟨t, ht, hq⟩ := Index_ev l a hl
  unfold spec_DropMark.f impl_DropMark.f
  cases hb : innerB l a with
  | false => exact ⟨([], false), Ev.bind (ruInner_ev l a hl) (Ev.if_neg' (by simp [hb]) (Ev.now _)), Ev.bind ht (Ev.bind (isInner_ev l a hl) (Ev.if_neg' (by simp [hb]) (Ev.now _))), by simp⟩
  | true =>
    have hr : rulerB l = true := by simp only [innerB, Bool.and_eq_true] at hb; exact hb.1
    have h61 := ruler_len hr
    rcases hq with ⟨rfl, hn⟩ | ⟨q, rfl, hql, he⟩
    · exact ⟨([], false), Ev.bind (ruInner_ev l a hl) (Ev.if_pos' hb (Ev.bind (l1Has_ev l a hl) (Ev.if_neg' (by simp [hn]) (Ev.now _)))), Ev.bind ht (Ev.bind (isInner_ev l a hl) (Ev.if_pos' hb (Ev.if_pos' (by omega) (Ev.now _)))), by simp⟩
    · have hm : a ∈ l := by rw [← he]; exact List.getElem_mem _
      refine ⟨(dropped l a, true), Ev.bind (ruInner_ev l a hl) (Ev.if_pos' hb (Ev.bind (l1Has_ev l a hl) (Ev.if_pos' (by simp [hm]) (Ev.bind (ruDrop_ev l a (by omega)) (Ev.now _))))),
        Ev.bind ht (Ev.bind (isInner_ev l a hl) (Ev.if_pos' hb (Ev.if_neg' (by omega) (Ev.const_bind (without_eq l q hql (by omega)) ?_)))), ?_⟩
      · rw [erase_eq a l (rises_pairwise l (ruler_rises hr)) q hql he]; exact Ev.now _
      · have : (dropped l a).length ≤ l.length := List.length_filter_le _ _
        simp only; omega
theorem FnExactDropMark : laws_FnExactDropMark.Pure := by
  intro l a _ _ _ _
  by_cases h : (l.length : Int) > 1048576
  · exact ⟨0, by unfold laws_FnExactDropMark.f; rw [if_pos h]⟩
  have hl : l.length ≤ 35184372088831 := by omega
  obtain ⟨r, hs, hi, hr⟩ := DropMark_ev l a (by omega)
  have hl' : l.length ≤ 35184372088832 := by omega
  have hr1 : r.1.length ≤ 35184372088831 := by omega
  have hr2 : r.1.length ≤ 35184372088832 := by omega
  have ne : (r.2 != r.2) = false := by simp
  apply Ev.rounds
  unfold laws_FnExactDropMark.f
  refine Ev.if_neg' h (Ev.bind (toIntS_ev l hl') (Ev.bind hs (Ev.bind (toIntS_ev l hl') (Ev.bind hi (Ev.bind (eqIntS_self r.1 hr2) (Ev.if_pos' rfl ?_))))))
  rw [ne]
  refine Ev.step (fun k => by rw [laws_FnExactDropMark.j0, if_neg (by simp)]) ?_
  refine Ev.bind (toIntS_ev l hl') (Ev.bind (eqIntS_self l hl') (Ev.if_pos' rfl (Ev.bind (mark_ev l hl) (Ev.if_neg' (by simp only; omega) (Ev.bind (eqIntS_self r.1 hr2) (Ev.if_pos' rfl ?_))))))
  rw [ne]
  refine Ev.step (fun k => by rw [laws_FnExactDropMark.j1, if_neg (by simp)]) ?_
  refine Ev.bind (mark_ev r.1 hr1) (Ev.bind (held_ev r.1.length hr1) (Ev.if_neg' (by omega) (Ev.if_pos' rfl (Ev.bind (toIntS_ev l hl') (Ev.bind hi (Ev.bind (eqIntS_self r.1 hr2) (Ev.if_pos' rfl ?_)))))))
  rw [ne]
  refine Ev.step (fun k => by rw [laws_FnExactDropMark.j2, if_neg (by simp)]) ?_
  exact Ev.bind (held_ev r.1.length hr1) (Ev.if_neg' (by omega) (Ev.if_pos' rfl (Ev.now _)))


end Go.Proofs.Ytlkgojgmgdeieaa.Pure
