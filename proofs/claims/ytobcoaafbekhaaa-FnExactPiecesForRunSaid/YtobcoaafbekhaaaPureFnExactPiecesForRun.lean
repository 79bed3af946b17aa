/- The program's PiecesForRun answers as the reference's does, for every number. -/
import Derived.Test.YtobcoaafbekhaaaSum0
import Derived.Test.YtobcoaafbekhaaaMark
import Derived.Test.YtobcoaafbekhaaaGx3
import Derived.Test.YtobcoaafbekhaaaGx1
namespace Go.Proofs.Ytobcoaafbekhaaa.Pure
open Go.RowKit Go.Proofs.Ytobcoaafbekhaaa.G Go.Proofs.YtobcoaafbekhaaaW.PrintWords Go.Proofs.YtobcoaafbekhaaaW.PrintLast

theorem pieces_same : ∀ k, ∀ a b c, spec_PiecesForRun.l0 k a b c = impl_PiecesForRun.l0 k a b c
  | 0 => fun _ _ _ => by rw [spec_PiecesForRun.l0, impl_PiecesForRun.l0]
  | k + 1 => fun a b c => by rw [spec_PiecesForRun.l0, impl_PiecesForRun.l0]; simp only [pieces_same k, total_eq]
/-- So many pieces, and the next one. -/
theorem pieces_tot (run : Int) (hr : run ≤ 9841) (d : Nat) : ∀ (l : List Int) (p : Int), l.length + d = 9 → (∀ x ∈ l, 0 ≤ x) → 2 * l.sum + 1 = p → p = 3 ^ l.length →
    ∃ r : List Int × Bool, r.1.length ≤ 9 ∧ Ev (fun k => spec_PiecesForRun.l0 k run l p) r := by
  induction d with
  | zero =>
    intro l p hl hb hp h3
    have h9 : l.length = 9 := by omega
    rw [h9] at h3
    have h3' : p = 19683 := h3
    refine ⟨(l, true), by simp; omega, Ev.step (f := fun k => (spec_piSum.f k l).bind fun t => if t < run then (if l.length < 17592186044416 then spec_PiecesForRun.l0 k run (l ++ [p]) (wrap64 (p * 3)) else none) else some (l, true)) (fun k => by rw [spec_PiecesForRun.l0]) ?_⟩
    exact Ev.bind (piSum_ev l (by omega) hb (by omega)) (Ev.if_neg' (by omega) (Ev.now _))
  | succ d ih =>
    intro l p hl hb hp h3
    have hpb : p ≤ 19683 := by
      rw [h3]
      have : (3 : Int) ^ l.length ≤ 3 ^ 9 := by
        have h9 : l.length ≤ 9 := by omega
        have : (3 : Nat) ^ l.length ≤ 3 ^ 9 := Nat.pow_le_pow_right (by omega) h9
        exact_mod_cast this
      simpa using this
    have hp0 : 0 ≤ l.sum := sum_nonneg l hb
    by_cases hlt : l.sum < run
    · obtain ⟨r, hr1, hr2⟩ := ih (l ++ [p]) (p * 3) (by simp; omega) (by intro x hx; rcases List.mem_append.1 hx with h | h; exact hb x h; rw [List.mem_singleton.1 h]; omega) (by simp; omega) (by rw [h3]; simp [Int.pow_succ])
      refine ⟨r, hr1, Ev.step (f := fun k => (spec_piSum.f k l).bind fun t => if t < run then (if l.length < 17592186044416 then spec_PiecesForRun.l0 k run (l ++ [p]) (wrap64 (p * 3)) else none) else some (l, true)) (fun k => by rw [spec_PiecesForRun.l0]) ?_⟩
      rw [w64 (x := p * 3) (by omega) (by omega)]
      exact Ev.bind (piSum_ev l (by omega) hb (by omega)) (Ev.if_pos' hlt (Ev.if_pos' (by omega) hr2))
    · refine ⟨(l, true), by simp; omega, Ev.step (f := fun k => (spec_piSum.f k l).bind fun t => if t < run then (if l.length < 17592186044416 then spec_PiecesForRun.l0 k run (l ++ [p]) (wrap64 (p * 3)) else none) else some (l, true)) (fun k => by rw [spec_PiecesForRun.l0]) ?_⟩
      exact Ev.bind (piSum_ev l (by omega) hb (by omega)) (Ev.if_neg' hlt (Ev.now _))
theorem PiecesForRun_ev (a : Int) : ∃ r : List Int × Bool, r.1.length ≤ 9 ∧ Ev (fun k => spec_PiecesForRun.f k a) r ∧ Ev (fun k => impl_PiecesForRun.f k a) r := by
  unfold spec_PiecesForRun.f impl_PiecesForRun.f
  by_cases h : 0 ≤ a ∧ a ≤ 9841
  · obtain ⟨r, h1, h2⟩ := pieces_tot a h.2 9 [] 1 rfl (by simp) rfl rfl
    refine ⟨r, h1, Ev.const_bind (l1In_eq _ _ _) (Ev.if_pos' (decide_eq_true h) h2), Ev.const_bind (within_eq _ _ _) (Ev.if_pos' (decide_eq_true h) ?_)⟩
    exact Ev.congr (fun k => (pieces_same k a [] 1).symm) h2
  · exact ⟨([], false), by simp, Ev.const_bind (l1In_eq _ _ _) (Ev.if_neg' (by rw [decide_eq_false h]; simp) (Ev.now _)), Ev.const_bind (within_eq _ _ _) (Ev.if_neg' (by rw [decide_eq_false h]; simp) (Ev.now _))⟩

theorem FnExactPiecesForRun : laws_FnExactPiecesForRun.Pure := by
  intro a _
  obtain ⟨r, hlen, hs, hi⟩ := PiecesForRun_ev a
  apply Ev.rounds
  unfold laws_FnExactPiecesForRun.f
  refine Ev.bind hs (Ev.bind hi (Ev.bind (eqIntS_self r.1 (by omega)) (Ev.if_pos' rfl ?_)))
  rw [show (r.2 != r.2) = false by simp]
  have hm := mark_ev r.1 (by omega)
  have hh := held_ev r.1.length (by omega)
  refine Ev.step (fun k => by rw [laws_FnExactPiecesForRun.j0, if_neg (by simp)]) ?_
  refine Ev.bind hm (Ev.bind hh (Ev.if_neg' (by omega) (Ev.if_pos' rfl (Ev.bind hi (Ev.bind (eqIntS_self r.1 (by omega)) (Ev.if_pos' rfl ?_))))))
  rw [show (r.2 != r.2) = false by simp]
  refine Ev.step (fun k => by rw [laws_FnExactPiecesForRun.j1, if_neg (by simp)]) ?_
  exact Ev.bind hh (Ev.if_neg' (by omega) (Ev.if_pos' rfl (Ev.now _)))

end Go.Proofs.Ytobcoaafbekhaaa.Pure
