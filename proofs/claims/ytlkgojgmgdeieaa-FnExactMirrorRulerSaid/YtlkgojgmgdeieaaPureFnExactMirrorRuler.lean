/- The program's MirrorRuler answers as the reference's does, for every list. -/
import Derived.Test.YtlkgojgmgdeieaaRule0
import Derived.Test.YtlkgojgmgdeieaaMark
import Derived.Test.YtlkgojgmgdeieaaGx8
import Derived.Test.YtlkgojgmgdeieaaGx6
import Derived.Test.YtlkgojgmgdeieaaGx7
namespace Go.Proofs.Ytlkgojgmgdeieaa.Pure
open Go.RowKit Go.Proofs.Ytlkgojgmgdeieaa.G Go.Proofs.YtlkgojgmgdeieaaW.PrintWords Go.Proofs.YtlkgojgmgdeieaaW.PrintLast

/-- The list read from behind, each mark told from the last. -/
def mirror (l : List Int) : List Int := l.reverse.map (fun m => wrap64 (lastOf l - m))
theorem Mirror_loop (l : List Int) (hl : l.length ≤ 1000) (hp : 1 ≤ l.length) (i : Nat) : ∀ (acc : List Int), i ≤ l.length → acc.length ≤ 1000 →  acc.length + i ≤ 1000 →
    Ev (fun k => spec_MirrorRuler.l0 k l acc ((l.length - 1 : Nat) : Int) ((i : Int) - 1)) (acc ++ (l.take i).reverse.map (fun m => wrap64 (lastOf l - m)), true) := by
  induction i with
  | zero =>
    intro acc hi ha hai
    refine Ev.one fun k => ?_
    rw [spec_MirrorRuler.l0, if_neg (by omega)]
    simp
  | succ i ih =>
    intro acc hi ha hai
    have hil : i < l.length := by omega
    have e0 : (((i + 1 : Nat) : Int) - 1) = (i : Int) := by omega
    have e1 : rd l ((l.length - 1 : Nat) : Int) = lastOf l := rfl
    have h := ih (acc ++ [wrap64 (lastOf l - l[i])]) (by omega) (by simp; omega) (by simp; omega)
    rw [List.take_succ_eq_append_getElem hil, List.reverse_append, List.reverse_singleton, List.singleton_append, List.map_cons, e0]
    rw [List.append_assoc, List.singleton_append] at h
    refine Ev.step (fun k => ?_) h
    rw [spec_MirrorRuler.l0, if_pos (by omega), if_pos (by omega), if_pos (by omega), if_pos (by omega), if_pos (by omega), if_pos (by omega), e1, rd_eq l i hil, w64 (x := (i : Int) - 1) (by omega) (by omega)]
theorem MirrorRuler_ev (l : List Int) (hl : l.length ≤ 35184372088832) : ∃ r : List Int × Bool, Ev (fun k => spec_MirrorRuler.f k l) r ∧ Ev (fun k => impl_MirrorRuler.f k l) r ∧ r.1.length ≤ 1000 := by
  unfold spec_MirrorRuler.f impl_MirrorRuler.f
  cases hb : rulerB l with
  | false => exact ⟨([], false), Ev.bind (ruGood_ev l hl) (Ev.if_neg' (by simp [hb]) (Ev.now _)), Ev.bind (IsRuler_ev l hl) (Ev.if_neg' (by simp [hb]) (Ev.now _)), by simp⟩
  | true =>
    have h2 := ruler_two hb
    have h61 := ruler_len hb
    have e1 : wrap64 ((l.length : Int) - 1) = ((l.length - 1 : Nat) : Int) := by rw [w64 (by omega) (by omega)]; omega
    rw [e1]
    refine ⟨(mirror l, true), Ev.bind (ruGood_ev l hl) (Ev.if_pos' hb ?_), Ev.bind (IsRuler_ev l hl) (Ev.if_pos' hb ?_), ?_⟩
    · have := Mirror_loop l (by omega) (by omega) l.length [] (by omega) (by simp) (by simp; omega)
      rw [List.take_length, List.nil_append] at this
      have e : ((l.length - 1 : Nat) : Int) = (l.length : Int) - 1 := by omega
      rw [e] at this ⊢
      exact this
    · rw [if_pos ⟨by omega, by omega⟩]
      have e : impl_MirrorRuler.last l = lastOf l := by
        unfold impl_MirrorRuler.last
        have e : ((l.length - 1 : Nat) : Int) = (l.length : Int) - 1 := by omega
        rw [← e]; rfl
      rw [e]
      exact Ev.now _
    · simp only [mirror, List.length_map, List.length_reverse]; omega
theorem FnExactMirrorRuler : laws_FnExactMirrorRuler.Pure := by
  intro l _ _ _
  by_cases h : (l.length : Int) > 1048576
  · exact ⟨0, by unfold laws_FnExactMirrorRuler.f; rw [if_pos h]⟩
  have hl : l.length ≤ 35184372088831 := by omega
  obtain ⟨r, hs, hi, hr⟩ := MirrorRuler_ev l (by omega)
  have hl' : l.length ≤ 35184372088832 := by omega
  have hr1 : r.1.length ≤ 35184372088831 := by omega
  have hr2 : r.1.length ≤ 35184372088832 := by omega
  have ne : (r.2 != r.2) = false := by simp
  apply Ev.rounds
  unfold laws_FnExactMirrorRuler.f
  refine Ev.if_neg' h (Ev.bind (toIntS_ev l hl') (Ev.bind hs (Ev.bind (toIntS_ev l hl') (Ev.bind hi (Ev.bind (eqIntS_self r.1 hr2) (Ev.if_pos' rfl ?_))))))
  rw [ne]
  refine Ev.step (fun k => by rw [laws_FnExactMirrorRuler.j0, if_neg (by simp)]) ?_
  refine Ev.bind (toIntS_ev l hl') (Ev.bind (eqIntS_self l hl') (Ev.if_pos' rfl (Ev.bind (mark_ev l hl) (Ev.if_neg' (by simp only; omega) (Ev.bind (eqIntS_self r.1 hr2) (Ev.if_pos' rfl ?_))))))
  rw [ne]
  refine Ev.step (fun k => by rw [laws_FnExactMirrorRuler.j1, if_neg (by simp)]) ?_
  refine Ev.bind (mark_ev r.1 hr1) (Ev.bind (held_ev r.1.length hr1) (Ev.if_neg' (by omega) (Ev.if_pos' rfl (Ev.bind (toIntS_ev l hl') (Ev.bind hi (Ev.bind (eqIntS_self r.1 hr2) (Ev.if_pos' rfl ?_)))))))
  rw [ne]
  refine Ev.step (fun k => by rw [laws_FnExactMirrorRuler.j2, if_neg (by simp)]) ?_
  exact Ev.bind (held_ev r.1.length hr1) (Ev.if_neg' (by omega) (Ev.if_pos' rfl (Ev.now _)))


end Go.Proofs.Ytlkgojgmgdeieaa.Pure
