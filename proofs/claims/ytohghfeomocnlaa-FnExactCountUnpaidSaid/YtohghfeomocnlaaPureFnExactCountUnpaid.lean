/- The program's CountUnpaid answers as the reference's does, for every list. -/
import Derived.Test.YtohghfeomocnlaaDL
import Derived.Test.YtohghfeomocnlaaDx7
import Derived.Test.YtohghfeomocnlaaDx4
namespace Go.Proofs.Ytohghfeomocnlaa.Pure
open Go.RowKit Go.Proofs.Ytohghfeomocnlaa.D Go.Proofs.YtohghfeomocnlaaW.PrintWords Go.Proofs.YtohghfeomocnlaaW.PrintLast

def sumR (f : Nat → Nat) (n : Nat) : Nat := ((List.range n).map f).sum
theorem sumR_succ (f : Nat → Nat) (n : Nat) : sumR f (n + 1) = sumR f n + f n := by
  unfold sumR
  rw [List.range_succ, List.map_append, List.sum_append]
  simp
def cntR (p : Nat → Bool) (n : Nat) : Nat := ((List.range n).filter p).length
theorem cntR_succ (p : Nat → Bool) (n : Nat) : cntR p (n + 1) = cntR p n + if p n = true then 1 else 0 := by
  unfold cntR
  rw [List.range_succ, List.filter_append, List.length_append]
  cases h : p n <;> simp [h]
theorem sum_min (g : Nat → Nat) (q n : Nat) : sumR (fun r => min (q + 1) (g r)) n = sumR (fun r => min q (g r)) n + cntR (fun r => decide (q < g r)) n := by
  induction n with
  | zero => rfl
  | succ n ih =>
    rw [sumR_succ, sumR_succ, cntR_succ, ih]
    by_cases h : q < g n
    · rw [if_pos (by simpa using h), Nat.min_eq_left (by omega), Nat.min_eq_left (by omega)]; omega
    · rw [if_neg (by simpa using h), Nat.min_eq_right (by omega), Nat.min_eq_right (by omega)]; omega
theorem sumR_congr (f g : Nat → Nat) (n : Nat) (h : ∀ r, r < n → f r = g r) : sumR f n = sumR g n := by
  unfold sumR
  congr 1
  exact List.map_congr_left fun r hr => h r (List.mem_range.1 hr)
section
variable (l : List Int) (m : Nat) (hm : 0 < m) (L : List Int) (f : Nat → Nat) (h : Least l m L f)
include hm h
theorem cnt_block (q : Nat) : ∀ j, j ≤ m → cntR (unp l) (m * q + j) = cntR (unp l) (m * q) + cntR (fun r => decide (q < f r / m)) j := by
  intro j
  induction j with
  | zero => intro _; rfl
  | succ j ih =>
    intro hj
    rw [← Nat.add_assoc, cntR_succ, cntR_succ, ih (by omega)]
    have e : (unp l (m * q + j) = true) ↔ (decide (q < f j / m) = true) := by
      rw [h.unp_iff, decide_eq_true_eq]
      have e1 : (m * q + j) % m = j := by rw [Nat.add_comm, Nat.add_mul_mod_self_left, Nat.mod_eq_of_lt (by omega)]
      rw [e1]
      have e2 := Nat.mod_add_div (f j) m
      rw [h.res j (by omega)] at e2
      constructor
      · intro hlt
        have h3 : m * q < m * (f j / m) := by omega
        exact Nat.lt_of_mul_lt_mul_left h3
      · intro hlt
        have := Nat.mul_le_mul_left m hlt
        rw [Nat.mul_succ] at this
        omega
    by_cases hu : unp l (m * q + j) = true
    · rw [if_pos hu, if_pos (e.1 hu)]; omega
    · rw [if_neg hu, if_neg (fun hh => hu (e.2 hh))]; omega
theorem cnt_all (q : Nat) : cntR (unp l) (m * q) = sumR (fun r => min q (f r / m)) m := by
  induction q with
  | zero =>
    rw [Nat.mul_zero]
    have : ∀ n, sumR (fun r => min 0 (f r / m)) n = 0 := fun n => by
      induction n with
      | zero => rfl
      | succ n ih => rw [sumR_succ, ih]; simp
    rw [this]; rfl
  | succ q ih =>
    rw [Nat.mul_succ, cnt_block l m hm L f h q m (Nat.le_refl _), ih, sum_min]
theorem cnt_total : cntR (unp l) (m * top l + 1) = sumR (fun r => f r / m) m := by
  rw [cntR_succ, cnt_all l m hm L f h, if_neg (by
    rw [h.unp_iff]
    have e : m * top l % m = 0 := Nat.mul_mod_right m (top l)
    rw [e]
    have h1 := h.small 0 hm
    have h2 := Nat.mul_le_mul_right (top l) (show m - 1 ≤ m by omega)
    omega)]
  refine sumR_congr _ _ _ fun r hr => ?_
  have h1 := h.small r hr
  have h2 : f r / m ≤ top l := by
    have h3 := Nat.mul_le_mul_right (top l) (show m - 1 ≤ m by omega)
    have h4 : f r / m ≤ m * top l / m := Nat.div_le_div_right (by omega)
    rw [Nat.mul_div_cancel_left _ hm] at h4
    exact h4
  exact Nat.min_eq_right h2
end
theorem sum_loop (l : List Int) (h0 : 0 < l.length) (m : Nat) (hm : 0 < m) (hm2 : m ≤ 1000) (hc0 : rd l 0 = (m : Int)) (L : List Int) (f : Nat → Nat) (hL : L.length = m) (hv : ∀ r, r < m → L.getD r 0 = (f r : Int)) (hf : ∀ r, r < m → f r ≤ 1000000) (d : Nat) : ∀ i : Nat, m - i = d → i ≤ m → (sumR (fun r => f r / m) i : Int) ≤ 1000000 * i →
    Ev (fun k => impl_CountUnpaid.l0 k l true ((sumR (fun r => f r / m) i : Nat) : Int) L (m : Int) (i : Int)) (((sumR (fun r => f r / m) m : Nat) : Int), true) := by
  induction d with
  | zero =>
    intro i hd hi hs
    obtain rfl : i = m := by omega
    exact Ev.one fun k => by rw [impl_CountUnpaid.l0, if_neg (by omega)]
  | succ d ih =>
    intro i hd hi hs
    have hfi := hf i (by omega)
    have hdiv : f i / m ≤ 1000000 := Nat.le_trans (Nat.div_le_self _ _) hfi
    have hs1 : (sumR (fun r => f r / m) (i + 1) : Int) = (sumR (fun r => f r / m) i : Int) + ((f i / m : Nat) : Int) := by rw [sumR_succ]; push_cast; rfl
    have h := ih (i + 1) (by omega) (by omega) (by rw [hs1]; push_cast at hs ⊢; omega)
    refine Ev.step (fun k => ?_) h
    have e1 : Int.tdiv (f i : Int) (m : Int) = ((f i / m : Nat) : Int) := by rw [Int.tdiv_eq_ediv_of_nonneg (by omega)]; rfl
    rw [impl_CountUnpaid.l0, rd_nat, hv i (by omega), hc0, e1, w64 (x := ((f i / m : Nat) : Int)) (by omega) (by omega), w64 (x := (sumR (fun r => f r / m) i : Int) + ((f i / m : Nat) : Int)) (by omega) (by omega), w64 (x := (i : Int) + 1) (by omega) (by omega), hs1]
    clear e1 hs1
    rw [if_pos (by omega), if_pos (by omega), if_pos (by omega), if_pos (by omega), if_neg (by omega)]
    rfl
theorem CountUnpaid_ev (l : List Int) (hl : l.length ≤ 35184372088832) : ∃ r, Ev (fun k => spec_CountUnpaid.f k l) r ∧ Ev (fun k => impl_CountUnpaid.f k l) r := by
  unfold spec_CountUnpaid.f impl_CountUnpaid.f
  have no : Ev (fun k => impl_CountUnpaid.l0 k l false 0 [] (([] : List Int).length : Int) 0) (0, false) := Ev.one fun k => by rw [impl_CountUnpaid.l0, if_neg (by simp)]
  rcases residues_ev l hl with ⟨h1, h2⟩ | ⟨h1, h2, h3⟩ | ⟨h1, h2, L, h3, h4, h5⟩
  · exact ⟨(0, false), Ev.bind (cnGood_ev l hl) (Ev.if_neg' (by simp [h1]) (Ev.now _)), Ev.bind h2 no⟩
  · exact ⟨(0, false), Ev.bind (cnGood_ev l hl) (Ev.if_pos' h1 (Ev.bind (cnCommon_ev l hl (coins_mem h1)) (Ev.if_neg' (by omega) (Ev.now _)))), Ev.bind h3 no⟩
  · have hc := coins_mem h1
    have hlen := coins_len h1
    have hb0 := hc l[0] (List.getElem_mem (by omega))
    have e0 : l.getD 0 0 = l[0] := by simp [List.getD, show 0 < l.length by omega]
    have hU := cnUnpaid_ev l h1
    rw [e0] at h3 h4 hU
    obtain ⟨m, hm⟩ : ∃ m : Nat, l[0] = m := ⟨l[0].toNat, by omega⟩
    rw [hm, Int.toNat_natCast] at h3 h4 hU
    have hml : (m : Int) ∈ l := by rw [← hm]; exact List.getElem_mem _
    have hmb := hc _ hml
    obtain ⟨f, hf⟩ := least_of l h1 m hml h2 L h3 h4
    have hl1 := hc (l.getD (l.length - 1) 0) (by simp [List.getD, show l.length - 1 < l.length by omega])
    have ht : top l ≤ 1000 := by unfold top; omega
    have hmul : (m - 1) * top l ≤ 1000 * 1000 := Nat.mul_le_mul (by omega) ht
    have hcnt := cnt_total l m (by omega) L f hf
    refine ⟨(((sumR (fun r => f r / m) m : Nat) : Int), true), Ev.bind (cnGood_ev l hl) (Ev.if_pos' h1 (Ev.bind (cnCommon_ev l hl hc) (Ev.if_pos' (by omega) (Ev.bind hU ?_)))), Ev.bind h5 ?_⟩
    · have e : (unpL l (m * top l + 1)).length = cntR (unp l) (m * top l + 1) := by unfold unpL cntR; rw [List.length_map]
      rw [e, hcnt]
      exact Ev.now _
    · have hc0 : rd l 0 = (m : Int) := by rw [show (0 : Int) = ((0 : Nat) : Int) by rfl, rd_eq l 0 (by omega), hm]
      have := sum_loop l (by omega) m (by omega) (by omega) hc0 L f hf.len hf.val (fun r hr => by have := hf.small r hr; omega) m 0 (by omega) (by omega) (by simp [sumR])
      rw [hf.len]
      exact this

theorem FnExactCountUnpaid : laws_FnExactCountUnpaid.Pure := by
  intro l _ _ _
  by_cases h : (l.length : Int) > 1048576
  · exact ⟨0, by unfold laws_FnExactCountUnpaid.f; rw [if_pos h]⟩
  have hl : l.length ≤ 35184372088832 := by omega
  obtain ⟨r, hs, hi⟩ := CountUnpaid_ev l hl
  apply Ev.rounds
  unfold laws_FnExactCountUnpaid.f
  refine Ev.if_neg' h (Ev.bind (toIntS_ev l hl) (Ev.bind hs (Ev.bind (toIntS_ev l hl) (Ev.bind hi (Ev.if_pos' rfl ?_)))))
  rw [show (r.2 != r.2) = false by simp]
  exact Ev.step (fun k => by rw [laws_FnExactCountUnpaid.j0, if_neg (by simp)]) (same_end l hl)

end Go.Proofs.Ytohghfeomocnlaa.Pure
