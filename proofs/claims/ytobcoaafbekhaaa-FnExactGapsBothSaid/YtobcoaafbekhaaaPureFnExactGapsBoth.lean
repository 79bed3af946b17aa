/- The program's GapsBoth answers as the reference's does, for every list. -/
import Derived.Test.YtobcoaafbekhaaaIL
import Derived.Test.YtobcoaafbekhaaaIx9
import Derived.Test.YtobcoaafbekhaaaIx5
import Derived.Test.YtobcoaafbekhaaaIx8
namespace Go.Proofs.Ytobcoaafbekhaaa.Pure
open Go.RowKit Go.Proofs.Ytobcoaafbekhaaa.I Go.Proofs.YtobcoaafbekhaaaW.PrintWords Go.Proofs.YtobcoaafbekhaaaW.PrintLast

/-- The numbers below n that are no values. -/
def gapV (f : Int → Nat) (n : Nat) : List Int := ((List.range n).filter fun j : Nat => decide (f (j : Int) = 0)).map fun j : Nat => (j : Int)
theorem gapV_succ (f : Int → Nat) (n : Nat) : gapV f (n + 1) = if f (n : Int) = 0 then gapV f n ++ [(n : Int)] else gapV f n := by
  unfold gapV
  rw [List.range_succ, List.filter_append, List.map_append]
  by_cases h : f (n : Int) = 0 <;> simp [h]
theorem gapV_le (f : Int → Nat) (n : Nat) : (gapV f n).length ≤ n := by
  unfold gapV
  have := List.length_filter_le (fun j : Nat => decide (f (j : Int) = 0)) (List.range n)
  simpa using this
theorem gapV_mono (f : Int → Nat) (n : Nat) : ∀ m, (gapV f n).length ≤ (gapV f (n + m)).length := by
  intro m
  induction m with
  | zero => exact Nat.le_refl _
  | succ m ih =>
    rw [← Nat.add_assoc, gapV_succ]
    split
    · simp; omega
    · exact ih
def gapAns (L : List Int) : List Int × Bool := if L.length ≤ 1000 then (L, true) else ([], false)
theorem spec_gap (f : Int → Nat) (S : Nat) (hS : S ≤ 200000) (d : Nat) : ∀ i : Nat, S + 1 - i = d → i ≤ S + 1 →
    Ev (fun k => spec_GapsBoth.l0 k (gapV f i) (half (fun v => (f v : Int)) S) ((S + 1 : Nat) : Int) (i : Int)) (gapAns (gapV f (S + 1))) := by
  induction d with
  | zero =>
    intro i hd hi
    obtain rfl : i = S + 1 := by omega
    refine Ev.one fun k => ?_
    rw [spec_GapsBoth.l0, if_neg (by omega)]
    unfold gapAns
    by_cases h : (gapV f (S + 1)).length ≤ 1000
    · rw [if_neg (by omega), if_pos h]
    · rw [if_pos (by omega), if_neg h]
  | succ d ih =>
    intro i hd hi
    have h := ih (i + 1) (by omega) (by omega)
    have hle := gapV_le f i
    rw [gapV_succ] at h
    refine Ev.step (fun k => ?_) h
    rw [spec_GapsBoth.l0, if_pos (by omega), if_pos (by omega), if_pos (by rw [half_length]; omega), rd_half _ _ _ (by omega), w64 (x := (i : Int) + 1) (by omega) (by omega)]
    by_cases hp : f (i : Int) = 0
    · rw [if_pos (by omega), if_pos (by omega), if_pos hp]; rfl
    · rw [if_neg (by omega), if_neg hp]; rfl
theorem impl_gap (f : Int → Nat) (S : Nat) (hS : S ≤ 200000) (d : Nat) : ∀ i : Nat, S + 1 - i = d → i ≤ S + 1 → (gapV f i).length ≤ 1000 →
    Ev (fun k => impl_missing.l0 k (gapV f i) (half (fun v => decide (0 < f v)) S) ((S + 1 : Nat) : Int) (i : Int)) (gapAns (gapV f (S + 1))) := by
  induction d with
  | zero =>
    intro i hd hi hg
    obtain rfl : i = S + 1 := by omega
    refine Ev.one fun k => ?_
    rw [impl_missing.l0, if_neg (by omega)]
    unfold gapAns
    rw [if_pos hg]
  | succ d ih =>
    intro i hd hi hg
    have h := ih (i + 1) (by omega) (by omega)
    have hle := gapV_le f i
    have hmono := gapV_mono f (i + 1) (S + 1 - (i + 1))
    rw [show i + 1 + (S + 1 - (i + 1)) = S + 1 by omega] at hmono
    rw [gapV_succ] at h hmono
    have pre : ∀ k, impl_missing.l0 (k + 1) (gapV f i) (half (fun v => decide (0 < f v)) S) ((S + 1 : Nat) : Int) (i : Int) = if 0 < f (i : Int) then impl_missing.l0 k (gapV f i) (half (fun v => decide (0 < f v)) S) ((S + 1 : Nat) : Int) ((i + 1 : Nat) : Int)
        else if ((gapV f i).length : Int) = 1000 then some ([], false) else if (gapV f i).length < 17592186044416 then impl_missing.l0 k (gapV f i ++ [(i : Int)]) (half (fun v => decide (0 < f v)) S) ((S + 1 : Nat) : Int) ((i + 1 : Nat) : Int) else none := fun k => by
      rw [impl_missing.l0, if_pos (by omega), if_pos (by omega), if_pos (by rw [half_length]; omega), rdOf_half _ _ _ (by omega), w64 (x := (i : Int) + 1) (by omega) (by omega)]
      by_cases hp : 0 < f (i : Int)
      · rw [if_pos (decide_eq_true hp), if_pos hp]; rfl
      · rw [if_neg (by simpa using hp), if_neg hp]; rfl
    by_cases hp : 0 < f (i : Int)
    · rw [if_neg (by omega)] at h
      exact Ev.step (fun k => by rw [pre, if_pos hp]) (h hg)
    · rw [if_pos (by omega)] at h hmono
      rw [List.length_append, List.length_singleton] at hmono
      by_cases hk : (gapV f i).length = 1000
      · refine Ev.one fun k => ?_
        rw [pre, if_neg hp, if_pos (by omega)]
        unfold gapAns
        rw [if_neg (by omega)]
      · exact Ev.step (fun k => by rw [pre, if_neg hp, if_neg (by omega), if_pos (by omega)]) (h (by simp; omega))
theorem GapsBoth_ev (l : List Int) (hl : l.length ≤ 35184372088832) : ∃ r : List Int × Bool, r.1.length ≤ 1000 ∧ Ev (fun k => spec_GapsBoth.f k l) r ∧ Ev (fun k => impl_GapsBoth.f k l) r := by
  unfold spec_GapsBoth.f impl_GapsBoth.f
  have hb2 := isBoth_ev l 0 hl
  cases hf : fewB l with
  | false =>
    rw [hf] at hb2
    exact ⟨([], false), by simp, Ev.bind (siFew_ev l hl) (Ev.if_neg' (by simp [hf]) (Ev.now _)), Ev.bind hb2 (Ev.if_neg' (by simp) (Ev.now _))⟩
  | true =>
    rw [hf] at hb2
    obtain ⟨hp, h12⟩ := few_pieces hf
    have hs := pieces_sum hp
    have hb := pieces_mem hp
    have hw := siWays_ev l hp
    have hr := reachable_ev l hp
    obtain ⟨S, hS⟩ : ∃ S : Nat, l.sum = S := ⟨l.sum.toNat, by omega⟩
    rw [hS, Int.toNat_natCast] at hw hr
    have hps := piSum_ev l hl (fun x hx => by have := hb x hx; omega) (by omega)
    rw [hS] at hps
    refine ⟨gapAns (gapV (W l.reverse) (S + 1)), by unfold gapAns; split <;> simp; omega, Ev.bind (siFew_ev l hl) (Ev.if_pos' hf (Ev.bind hps (Ev.bind hw (Ev.if_pos' (by omega) (Ev.if_pos' (by rw [tabI_length]; omega) (Ev.some_bind ?_)))))), Ev.bind hb2 (Ev.if_pos' (by simp) (Ev.bind hr (Ev.bind (a := gapAns (gapV (W l.reverse) (S + 1))) ?_ (Ev.now _))))⟩
    · rw [Int.toNat_natCast, tabI_drop, half_length]
      exact spec_gap (W l.reverse) S (by omega) (S + 1) 0 (by omega) (by omega)
    · unfold impl_missing.f
      rw [half_length]
      exact impl_gap (W l.reverse) S (by omega) (S + 1) 0 (by omega) (by omega) (by simp [gapV])

theorem FnExactGapsBoth : laws_FnExactGapsBoth.Pure := by
  intro l _ _ _
  by_cases h : (l.length : Int) > 1048576
  · exact ⟨0, by unfold laws_FnExactGapsBoth.f; rw [if_pos h]⟩
  have hl : l.length ≤ 35184372088831 := by omega
  obtain ⟨r, hr, hs, hi⟩ := GapsBoth_ev l (by omega)
  have hl' : l.length ≤ 35184372088832 := by omega
  have hr1 : r.1.length ≤ 35184372088831 := by omega
  have hr2 : r.1.length ≤ 35184372088832 := by omega
  have ne : (r.2 != r.2) = false := by simp
  apply Ev.rounds
  unfold laws_FnExactGapsBoth.f
  refine Ev.if_neg' h (Ev.bind (toIntS_ev l hl') (Ev.bind hs (Ev.bind (toIntS_ev l hl') (Ev.bind hi (Ev.bind (eqIntS_self r.1 hr2) (Ev.if_pos' rfl ?_))))))
  rw [ne]
  refine Ev.step (fun k => by rw [laws_FnExactGapsBoth.j0, if_neg (by simp)]) ?_
  refine Ev.bind (toIntS_ev l hl') (Ev.bind (eqIntS_self l hl') (Ev.if_pos' rfl (Ev.bind (mark_ev l hl) (Ev.if_neg' (by simp only; omega) (Ev.bind (eqIntS_self r.1 hr2) (Ev.if_pos' rfl ?_))))))
  rw [ne]
  refine Ev.step (fun k => by rw [laws_FnExactGapsBoth.j1, if_neg (by simp)]) ?_
  refine Ev.bind (mark_ev r.1 hr1) (Ev.bind (held_ev r.1.length hr1) (Ev.if_neg' (by omega) (Ev.if_pos' rfl (Ev.bind (toIntS_ev l hl') (Ev.bind hi (Ev.bind (eqIntS_self r.1 hr2) (Ev.if_pos' rfl ?_)))))))
  rw [ne]
  refine Ev.step (fun k => by rw [laws_FnExactGapsBoth.j2, if_neg (by simp)]) ?_
  exact Ev.bind (held_ev r.1.length hr1) (Ev.if_neg' (by omega) (Ev.if_pos' rfl (Ev.now _)))


end Go.Proofs.Ytobcoaafbekhaaa.Pure
