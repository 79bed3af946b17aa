/- Plain lemmas: greedy change, by the program and by the reference; its sum; sums of lists. -/
import Derived.Test.YtbaodkllldhbmaaCoin2
import Derived.Test.YtbaodkllldhbmaaSum0
import Derived.Test.YtbaodkllldhbmaaMark
import Derived.Test.YtbaodkllldhbmaaGx3
import Derived.Test.YtbaodkllldhbmaaGx1
import Derived.Test.YtbaodkllldhbmaaGx2
namespace Go.Proofs.Ytbaodkllldhbmaa.Pure
open Go.RowKit Go.Proofs.Ytbaodkllldhbmaa.G Go.Proofs.YtbaodkllldhbmaaW.PrintWords Go.Proofs.YtbaodkllldhbmaaW.PrintLast

theorem greedy_eq (l : List Int) (a : Int) (hl : l.length ≤ 1000000) (hc : ∀ x ∈ l, 1 ≤ x ∧ x ≤ 1000) : impl_greedy.f l a = some ((gr l a).1, decide ((gr l a).2 = 0)) := by
  unfold impl_greedy.f
  rw [if_pos hl, if_pos (fun x hx => by have := hc x hx; omega)]
theorem cnGreedy_loop (l : List Int) (a : Int) (hl : l.length ≤ 1000000) (hc : ∀ x ∈ l, 1 ≤ x ∧ x ≤ 1000) (i : Nat) : i ≤ l.length →
    Ev (fun k => spec_cnGreedy.l0 k l (gr (l.drop i) a).2 (List.replicate i 0 ++ (gr (l.drop i) a).1) ((i : Int) - 1)) ((gr l a).1, decide ((gr l a).2 = 0)) := by
  induction i with
  | zero =>
    intro _
    refine Ev.one fun k => ?_
    rw [spec_cnGreedy.l0, if_neg (by omega)]
    simp [Bool.beq_eq_decide_eq]
  | succ i ih =>
    intro hi
    have hil : i < l.length := by omega
    have h := ih (by omega)
    have hci := hc l[i] (List.getElem_mem hil)
    have hg : gr (l.drop i) a = (wrap64 (Int.tdiv (gr (l.drop (i + 1)) a).2 l[i]) :: (gr (l.drop (i + 1)) a).1, Int.tmod (gr (l.drop (i + 1)) a).2 l[i]) := by
      rw [List.drop_eq_getElem_cons hil]; rfl
    have e1 : (((i + 1 : Nat) : Int) - 1) = (i : Int) := by omega
    have e2 : (List.replicate (i + 1) (0 : Int) ++ (gr (l.drop (i + 1)) a).1) = List.replicate i 0 ++ 0 :: (gr (l.drop (i + 1)) a).1 := by rw [List.replicate_succ', List.append_assoc]; rfl
    have hlen : (List.replicate i (0 : Int) ++ 0 :: (gr (l.drop (i + 1)) a).1).length = l.length := by simp [gr_length]; omega
    have e3 : ∀ y : Int, (List.replicate i (0 : Int) ++ 0 :: (gr (l.drop (i + 1)) a).1).set (i : Int).toNat y = List.replicate i 0 ++ y :: (gr (l.drop (i + 1)) a).1 := fun y => by
      simp
    rw [hg] at h
    rw [e1, e2]
    refine Ev.step (fun k => ?_) h
    rw [spec_cnGreedy.l0, if_pos (by omega), if_pos (by omega), if_pos (by omega), rd_eq l i hil, if_neg (by omega), if_pos (by omega), e3, w64 (x := (i : Int) - 1) (by omega) (by omega)]
theorem cnGreedy_ev (l : List Int) (a : Int) (hl : l.length ≤ 1000000) (hc : ∀ x ∈ l, 1 ≤ x ∧ x ≤ 1000) : Ev (fun k => spec_cnGreedy.f k l a) ((gr l a).1, decide ((gr l a).2 = 0)) := by
  unfold spec_cnGreedy.f
  refine Ev.if_pos' (by omega) (Ev.if_pos' (by omega) ?_)
  have h := cnGreedy_loop l a hl hc l.length (by omega)
  rw [List.drop_of_length_le (by omega)] at h
  rw [w64 (by omega) (by omega)]
  simpa [gr] using h
/-- What greedy change takes is no more than there is. -/
theorem gr_sum (l : List Int) (a : Int) (ha : 0 ≤ a) (ha' : a ≤ 4611686018427387904) (hc : ∀ x ∈ l, 1 ≤ x) : (∀ x ∈ (gr l a).1, 0 ≤ x) ∧ 0 ≤ (gr l a).2 ∧ (gr l a).1.sum + (gr l a).2 ≤ a := by
  induction l with
  | nil => simp [gr, ha]
  | cons c t ih =>
    obtain ⟨h1, h2, h3⟩ := ih (fun x hx => hc x (List.mem_cons_of_mem _ hx))
    have hc1 := hc c List.mem_cons_self
    have hs := sum_nonneg _ h1
    have hq0 : 0 ≤ Int.tdiv (gr t a).2 c := Int.tdiv_nonneg h2 (by omega)
    have hm0 : 0 ≤ Int.tmod (gr t a).2 c := Int.tmod_nonneg _ h2
    have hd : c * Int.tdiv (gr t a).2 c + Int.tmod (gr t a).2 c = (gr t a).2 := Int.mul_tdiv_add_tmod _ _
    have hle : Int.tdiv (gr t a).2 c ≤ c * Int.tdiv (gr t a).2 c := by
      have := Int.mul_le_mul_of_nonneg_right hc1 hq0
      simpa using this
    have hw : wrap64 (Int.tdiv (gr t a).2 c) = Int.tdiv (gr t a).2 c := w64 (by omega) (by omega)
    refine ⟨fun x hx => ?_, hm0, ?_⟩
    · rcases List.mem_cons.1 hx with h | h
      · rw [h, hw]; exact hq0
      · exact h1 x h
    · show (wrap64 (Int.tdiv (gr t a).2 c) :: (gr t a).1).sum + Int.tmod (gr t a).2 c ≤ a
      rw [List.sum_cons, hw]
      omega
theorem GreedyChange_ev (l : List Int) (a : Int) (hl : l.length ≤ 35184372088832) : ∃ r : List Int × Bool, r.1.length ≤ 8 ∧ (∀ x ∈ r.1, 0 ≤ x) ∧ r.1.sum ≤ 20000 ∧ (r.2 = false → r.1 = []) ∧ Ev (fun k => spec_GreedyChange.f k l a) r ∧ Ev (fun k => impl_GreedyChange.f k l a) r := by
  unfold spec_GreedyChange.f impl_GreedyChange.f
  have hb1 := cnAsked_ev l a hl
  have hb2 := isAmount_ev l a hl
  cases hb : (coinsB l && decide (0 ≤ a ∧ a ≤ 20000)) with
  | false =>
    rw [hb] at hb1 hb2
    exact ⟨([], false), by simp, by simp, by simp, by simp, Ev.bind hb1 (Ev.if_neg' (by simp) (Ev.now _)), Ev.bind hb2 (Ev.if_neg' (by simp) (Ev.now _))⟩
  | true =>
    rw [hb] at hb1 hb2
    simp only [Bool.and_eq_true, decide_eq_true_eq] at hb
    obtain ⟨hco, ha⟩ := hb
    have hc := coins_mem hco
    have hlen := coins_len hco
    obtain ⟨g1, g2, g3⟩ := gr_sum l a ha.1 (by omega) (fun x hx => (hc x hx).1)
    by_cases h0 : (gr l a).2 = 0
    · exact ⟨((gr l a).1, true), by simp [gr_length]; omega, g1, by simp only; omega, by simp, Ev.bind hb1 (Ev.if_pos' rfl (Ev.bind (cnGreedy_ev l a (by omega) hc) (Ev.if_pos' (decide_eq_true h0) (Ev.now _)))),
        Ev.bind hb2 (Ev.if_pos' rfl (Ev.const_bind (greedy_eq l a (by omega) hc) (Ev.if_pos' (decide_eq_true h0) (Ev.now _))))⟩
    · exact ⟨([], false), by simp, by simp, by simp, by simp, Ev.bind hb1 (Ev.if_pos' rfl (Ev.bind (cnGreedy_ev l a (by omega) hc) (Ev.if_neg' (by simp [h0]) (Ev.now _)))),
        Ev.bind hb2 (Ev.if_pos' rfl (Ev.const_bind (greedy_eq l a (by omega) hc) (Ev.if_neg' (by simp [h0]) (Ev.now _))))⟩

end Go.Proofs.Ytbaodkllldhbmaa.Pure
