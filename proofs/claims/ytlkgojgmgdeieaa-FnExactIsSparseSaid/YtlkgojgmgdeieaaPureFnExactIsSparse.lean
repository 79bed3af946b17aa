/- The program's IsSparse answers as the reference's does, for every list. -/
import Derived.Test.YtlkgojgmgdeieaaRule1
import Derived.Test.YtlkgojgmgdeieaaSame0
import Derived.Test.YtlkgojgmgdeieaaGx9
import Derived.Test.YtlkgojgmgdeieaaGx7
import Derived.Test.YtlkgojgmgdeieaaGx8
namespace Go.Proofs.Ytlkgojgmgdeieaa.Pure
open Go.RowKit Go.Proofs.Ytlkgojgmgdeieaa.G Go.Proofs.YtlkgojgmgdeieaaW.PrintWords Go.Proofs.YtlkgojgmgdeieaaW.PrintLast

theorem times_zero (l : List Int) (h : Good l) (n : Int) (h1 : lastOf l < n) : times l n = 0 := by
  unfold times
  have hla := h.last
  have : (sp l).count n = 0 := by
    rw [List.count_eq_zero]
    intro hm
    have := sp_range (lastOf l) hla.2 l h.up (fun x hx => ⟨(h.mem x hx).1, h.le_last x hx⟩) n hm
    omega
  rw [this]; rfl
theorem foldl_max_le (b : Int) : ∀ (zs : List Int) (a : Int), zs.foldl max a ≤ b ↔ a ≤ b ∧ ∀ x ∈ zs, x ≤ b
  | [], a => by simp
  | z :: t, a => by
    rw [List.foldl_cons, foldl_max_le b t]
    simp only [List.mem_cons, forall_eq_or_imp]
    constructor
    · rintro ⟨h1, h2⟩; exact ⟨by omega, by omega, h2⟩
    · rintro ⟨h1, h2, h3⟩; exact ⟨by omega, h3⟩
theorem maxOf_le (b : Int) (zs : List Int) (h : 0 < zs.length) : Lib.maxOf zs ≤ b ↔ ∀ x ∈ zs, x ≤ b := by
  unfold Lib.maxOf
  rw [foldl_max_le]
  cases zs with
  | nil => simp at h
  | cons z t => simp
/-- All values of a table, by their places. -/
theorem all_rd (b : Int) (T : List Int) : (∀ x ∈ T, x ≤ b) ↔ ∀ n : Int, 0 ≤ n → n < T.length → rd T n ≤ b := by
  constructor
  · intro h n h0 h1
    obtain ⟨i, rfl⟩ : ∃ i : Nat, n = i := ⟨n.toNat, by omega⟩
    rw [rd_eq T i (by omega)]
    exact h _ (List.getElem_mem _)
  · intro h x hx
    obtain ⟨i, hi, rfl⟩ := List.mem_iff_getElem.1 hx
    rw [← rd_eq T i hi]
    exact h i (by omega) (by omega)
theorem ruSparse_loop (T : List Int) (hT : T.length ≤ 61) (d : Nat) : ∀ i : Nat, T.length - i = d → i ≤ T.length →
    Ev (fun k => spec_ruSparse.l0 k T (T.length : Int) (i : Int)) ((T.drop i).all (fun x => decide (x ≤ 1))) := by
  induction d with
  | zero =>
    intro i hd hi
    rw [List.drop_of_length_le (by omega)]
    exact Ev.one fun k => by rw [spec_ruSparse.l0, if_neg (by omega)]; rfl
  | succ d ih =>
    intro i hd hi
    have hil : i < T.length := by omega
    rw [List.drop_eq_getElem_cons hil, List.all_cons]
    by_cases h : T[i] > 1
    · rw [decide_eq_false (by omega), Bool.false_and]
      exact Ev.one fun k => by rw [spec_ruSparse.l0, if_pos (by omega), if_pos (by omega), if_pos (by omega), if_pos (by rw [rd_eq T i hil]; exact h)]
    · rw [decide_eq_true (by omega), Bool.true_and]
      refine Ev.step (fun k => ?_) (ih (i + 1) (by omega) (by omega))
      rw [spec_ruSparse.l0, if_pos (by omega), if_pos (by omega), if_pos (by omega), if_neg (by rw [rd_eq T i hil]; exact h), w64 (by omega) (by omega)]; rfl
/-- No length is measured twice. -/
def sparseB (l : List Int) : Bool := decide (Lib.maxOf (impl_lengths.M.ms l) ≤ 1)
theorem isSparse_eq (l : List Int) (h : Good l) : impl_isSparse.f l = some (sparseB l) := by
  unfold impl_isSparse.f
  rw [if_pos (show impl_isSparse.M.fit l from good_fit l h)]
  rfl
theorem ruSparse_ev (l : List Int) (h : Good l) : Ev (fun k => spec_ruSparse.f k l) (sparseB l) := by
  obtain ⟨T, hT, hlen, htm⟩ := ruTimes_ev l h
  have hla := h.last
  unfold spec_ruSparse.f
  refine Ev.bind hT ?_
  have e : sparseB l = (T.drop 0).all (fun x => decide (x ≤ 1)) := by
    unfold sparseB
    rw [Bool.eq_iff_iff, decide_eq_true_iff, List.all_eq_true, List.drop_zero]
    simp only [decide_eq_true_eq]
    rw [maxOf_le 1 _ (by rw [show (impl_lengths.M.ms l).length = 61 from impl_lengths.M.rows_length l _]; omega), all_rd, all_rd, show (impl_lengths.M.ms l).length = 61 from impl_lengths.M.rows_length l _]
    constructor
    · intro hh n h0 h1
      have := hh n h0 (by omega)
      rw [ms_times l h n h0 (by omega)] at this
      rw [htm n h0 (by omega)]; exact this
    · intro hh n h0 h1
      rw [ms_times l h n h0 (by omega)]
      by_cases hn : n ≤ lastOf l
      · have := hh n h0 (by omega)
        rw [htm n h0 hn] at this; exact this
      · rw [times_zero l h n (by omega)]; omega
  rw [e]
  exact ruSparse_loop T (by omega) T.length 0 (by omega) (by omega)
theorem IsSparse_ev (l : List Int) (hl : l.length ≤ 35184372088832) : ∃ r : Bool × Bool, Ev (fun k => spec_IsSparse.f k l) r ∧ Ev (fun k => impl_IsSparse.f k l) r := by
  unfold spec_IsSparse.f impl_IsSparse.f
  cases hb : rulerB l with
  | false => exact ⟨(false, false), Ev.bind (ruGood_ev l hl) (Ev.if_neg' (by simp [hb]) (Ev.now _)), Ev.bind (IsRuler_ev l hl) (Ev.if_neg' (by simp [hb]) (Ev.now _))⟩
  | true =>
    have hg := ruler_good hb
    exact ⟨(sparseB l, true), Ev.bind (ruGood_ev l hl) (Ev.if_pos' hb (Ev.bind (ruSparse_ev l hg) (Ev.now _))), Ev.bind (IsRuler_ev l hl) (Ev.if_pos' hb (Ev.const_bind (isSparse_eq l hg) (Ev.now _)))⟩
theorem FnExactIsSparse : laws_FnExactIsSparse.Pure := by
  intro l _ _ _
  by_cases h : (l.length : Int) > 1048576
  · exact ⟨0, by unfold laws_FnExactIsSparse.f; rw [if_pos h]⟩
  have hl : l.length ≤ 35184372088832 := by omega
  obtain ⟨r, hs, hi⟩ := IsSparse_ev l hl
  apply Ev.rounds
  unfold laws_FnExactIsSparse.f
  refine Ev.if_neg' h (Ev.bind (toIntS_ev l hl) (Ev.bind hs (Ev.bind (toIntS_ev l hl) (Ev.bind hi (Ev.if_neg' (by simp) ?_)))))
  rw [show (r.2 != r.2) = false by simp]
  exact Ev.step (fun k => by rw [laws_FnExactIsSparse.j0, if_neg (by simp)]) (same_end l hl)

end Go.Proofs.Ytlkgojgmgdeieaa.Pure
