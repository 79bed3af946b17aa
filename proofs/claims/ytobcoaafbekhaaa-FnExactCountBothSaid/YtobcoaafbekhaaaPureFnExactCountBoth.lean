/- The program's CountBoth answers as the reference's does, for every list. -/
import Derived.Test.YtobcoaafbekhaaaGhL
import Derived.Test.YtobcoaafbekhaaaGhx7
import Derived.Test.YtobcoaafbekhaaaGhx4
namespace Go.Proofs.Ytobcoaafbekhaaa.Pure
open Go.RowKit Go.Proofs.Ytobcoaafbekhaaa.Gh Go.Proofs.YtobcoaafbekhaaaW.PrintWords Go.Proofs.YtobcoaafbekhaaaW.PrintLast

/-- How many of the values below n there are. -/
def cntV (f : Int → Nat) (n : Nat) : Nat := ((List.range n).filter fun j : Nat => decide (0 < f (j : Int))).length
theorem cntV_succ (f : Int → Nat) (n : Nat) : cntV f (n + 1) = cntV f n + if 0 < f (n : Int) then 1 else 0 := by
  unfold cntV
  rw [List.range_succ, List.filter_append, List.length_append]
  by_cases h : 0 < f (n : Int) <;> simp [h]
theorem cntV_le (f : Int → Nat) (n : Nat) : cntV f n ≤ n := by
  unfold cntV
  have := List.length_filter_le (fun j : Nat => decide (0 < f (j : Int))) (List.range n)
  simpa using this
theorem spec_cnt (f : Int → Nat) (S : Nat) (hS : S ≤ 200000) (d : Nat) : ∀ i : Nat, S + 1 - i = d → i ≤ S + 1 →
    Ev (fun k => spec_CountBoth.l0 k (cntV f i : Int) (half (fun v => (f v : Int)) S) ((S + 1 : Nat) : Int) (i : Int)) ((cntV f (S + 1) : Int), true) := by
  induction d with
  | zero =>
    intro i hd hi
    obtain rfl : i = S + 1 := by omega
    exact Ev.one fun k => by rw [spec_CountBoth.l0, if_neg (by omega)]
  | succ d ih =>
    intro i hd hi
    have h := ih (i + 1) (by omega) (by omega)
    have hle := cntV_le f i
    rw [cntV_succ] at h
    refine Ev.step (fun k => ?_) h
    rw [spec_CountBoth.l0, if_pos (by omega), if_pos (by omega), if_pos (by rw [half_length]; omega), rd_half _ _ _ (by omega), w64 (x := (i : Int) + 1) (by omega) (by omega), w64 (x := (cntV f i : Int) + 1) (by omega) (by omega)]
    by_cases hp : 0 < f (i : Int)
    · rw [if_pos (by omega), if_pos hp]; rfl
    · rw [if_neg (by omega), if_neg hp]; rfl
theorem impl_cnt (f : Int → Nat) (S : Nat) (hS : S ≤ 200000) (d : Nat) : ∀ i : Nat, S + 1 - i = d → i ≤ S + 1 →
    Ev (fun k => impl_CountBoth.l0 k (cntV f i : Int) (half (fun v => decide (0 < f v)) S) ((S + 1 : Nat) : Int) (i : Int)) ((cntV f (S + 1) : Int), true) := by
  induction d with
  | zero =>
    intro i hd hi
    obtain rfl : i = S + 1 := by omega
    exact Ev.one fun k => by rw [impl_CountBoth.l0, if_neg (by omega)]
  | succ d ih =>
    intro i hd hi
    have h := ih (i + 1) (by omega) (by omega)
    have hle := cntV_le f i
    rw [cntV_succ] at h
    refine Ev.step (fun k => ?_) h
    rw [impl_CountBoth.l0, if_pos (by omega), if_pos (by omega), if_pos (by rw [half_length]; omega), rdOf_half _ _ _ (by omega), w64 (x := (i : Int) + 1) (by omega) (by omega), w64 (x := (cntV f i : Int) + 1) (by omega) (by omega)]
    by_cases hp : 0 < f (i : Int)
    · rw [if_pos (decide_eq_true hp), if_pos hp]; rfl
    · rw [if_neg (by simpa using hp), if_neg hp]; rfl
theorem CountBoth_ev (l : List Int) (hl : l.length ≤ 35184372088832) : ∃ r, Ev (fun k => spec_CountBoth.f k l) r ∧ Ev (fun k => impl_CountBoth.f k l) r := by
  unfold spec_CountBoth.f impl_CountBoth.f
  have hb2 := isBoth_ev l 0 hl
  cases hf : fewB l with
  | false =>
    rw [hf] at hb2
    exact ⟨(0, false), Ev.bind (siFew_ev l hl) (Ev.if_neg' (by simp [hf]) (Ev.now _)), Ev.bind hb2 (Ev.if_neg' (by simp) (Ev.now _))⟩
  | true =>
    rw [hf] at hb2
    obtain ⟨hp, h12⟩ := few_pieces hf
    have hs := pieces_sum hp
    have hb := pieces_mem hp
    have hw := siWays_ev l hp
    have hr := reachable_ev l hp
    obtain ⟨S, hS⟩ : ∃ S : Nat, l.sum = S := ⟨l.sum.toNat, by omega⟩
    rw [hS, Int.toNat_natCast] at hw hr
    have hps := piSum_ev l hl (fun x hx => by have := hb x hx; omega) (by omega)
    rw [hS] at hps
    refine ⟨((cntV (W l.reverse) (S + 1) : Int), true), Ev.bind (siFew_ev l hl) (Ev.if_pos' hf (Ev.bind hw (Ev.bind hps (Ev.if_pos' (by omega) (Ev.if_pos' (by rw [tabI_length]; omega) (Ev.some_bind ?_)))))), Ev.bind hb2 (Ev.if_pos' (by simp) (Ev.bind hr ?_))⟩
    · rw [Int.toNat_natCast, tabI_drop, half_length]
      exact spec_cnt (W l.reverse) S (by omega) (S + 1) 0 (by omega) (by omega)
    · rw [half_length]
      exact impl_cnt (W l.reverse) S (by omega) (S + 1) 0 (by omega) (by omega)

theorem FnExactCountBoth : laws_FnExactCountBoth.Pure := by
  intro l _ _ _
  by_cases h : (l.length : Int) > 1048576
  · exact ⟨0, by unfold laws_FnExactCountBoth.f; rw [if_pos h]⟩
  have hl : l.length ≤ 35184372088832 := by omega
  obtain ⟨r, hs, hi⟩ := CountBoth_ev l hl
  apply Ev.rounds
  unfold laws_FnExactCountBoth.f
  refine Ev.if_neg' h (Ev.bind (toIntS_ev l hl) (Ev.bind hs (Ev.bind (toIntS_ev l hl) (Ev.bind hi (Ev.if_pos' rfl ?_)))))
  rw [show (r.2 != r.2) = false by simp]
  exact Ev.step (fun k => by rw [laws_FnExactCountBoth.j0, if_neg (by simp)]) (same_rest l hl)

end Go.Proofs.Ytobcoaafbekhaaa.Pure
