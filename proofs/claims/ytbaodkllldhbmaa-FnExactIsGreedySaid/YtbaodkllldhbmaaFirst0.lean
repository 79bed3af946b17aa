/- The first failure, by the program and by the reference. -/
import Derived.Test.YtbaodkllldhbmaaFail0
import Derived.Test.YtbaodkllldhbmaaGx12
namespace Go.Proofs.Ytbaodkllldhbmaa.Pure
open Go.RowKit Go.Proofs.Ytbaodkllldhbmaa.G Go.Proofs.YtbaodkllldhbmaaW.PrintWords Go.Proofs.YtbaodkllldhbmaaW.PrintLast

/-- The first failure from v on among d amounts. -/
def firstF (l : List Int) : Nat → Nat → Int × Bool
  | _, 0 => (0, false)
  | v, d + 1 => if failB l v = true then ((v : Int), true) else firstF l (v + 1) d
theorem firstF_none (l : List Int) (d : Nat) : ∀ v, (∀ u, v ≤ u → u < v + d → failB l u = false) → firstF l v d = (0, false) := by
  induction d with
  | zero => intro v _; rfl
  | succ d ih =>
    intro v h
    rw [firstF, if_neg (by rw [h v (by omega) (by omega)]; simp)]
    exact ih (v + 1) (fun u h1 h2 => h u (by omega) (by omega))
theorem firstF_some (l : List Int) (d : Nat) : ∀ v x, v ≤ x → x < v + d → failB l x = true → (∀ u, v ≤ u → u < x → failB l u = false) → firstF l v d = ((x : Int), true) := by
  induction d with
  | zero => intro v x h1 h2; omega
  | succ d ih =>
    intro v x h1 h2 h3 h4
    by_cases e : v = x
    · subst e; rw [firstF, if_pos h3]
    · rw [firstF, if_neg (by rw [h4 v (by omega) (by omega)]; simp)]
      exact ih (v + 1) x (by omega) (by omega) h3 (fun u h5 h6 => h4 u (by omega) h6)
theorem firstF_list (l : List Int) (d : Nat) : ∀ v, (failsFrom l v d = [] ∧ firstF l v d = (0, false)) ∨ ∃ x t, failsFrom l v d = x :: t ∧ firstF l v d = (x, true) := by
  induction d with
  | zero => intro v; exact .inl ⟨rfl, rfl⟩
  | succ d ih =>
    intro v
    rw [failsFrom_succ, firstF]
    by_cases h : failB l v = true
    · rw [if_pos h, if_pos h]; exact .inr ⟨_, _, rfl, rfl⟩
    · rw [if_neg h, if_neg h]; exact ih (v + 1)
theorem least_fail (l : List Int) (v : Nat) : failB l v = true → ∃ x, x ≤ v ∧ failB l x = true ∧ ∀ u, u < x → failB l u = false := by
  induction v using Nat.strongRecOn with
  | ind v ih =>
    intro h
    by_cases hex : ∃ u, u < v ∧ failB l u = true
    · obtain ⟨u, h1, h2⟩ := hex
      obtain ⟨x, h3, h4⟩ := ih u h1 h2
      exact ⟨x, by omega, h4⟩
    · exact ⟨v, by omega, h, fun u hu => Bool.eq_false_iff.2 (fun hh => hex ⟨u, hu, hh⟩)⟩
theorem rises_last (l : List Int) (h : risesB l = true) : ∀ (i j : Nat) (hj : j < l.length) (hij : i < j), l[i]'(by omega) < l[j] := by
  induction l with
  | nil => intro i j hj; simp at hj
  | cons a t ih =>
    obtain ⟨h1, h2⟩ := rises_head a t h
    intro i j hj hij
    cases j with
    | zero => omega
    | succ j =>
      cases i with
      | zero => exact h2 _ (List.getElem_mem _)
      | succ i => simpa using ih h1 i j (by simpa using hj) (by omega)
theorem bound_ev (l : List Int) (hco : coinsB l = true) : ∃ b : Nat, spec_cnBound.f l = some (b : Int) ∧ b ≤ 2000000 ∧ firstF l 0 (b + 1) = firstF l 0 2001 := by
  have hc := coins_mem hco
  have hlen := coins_len hco
  have hr : risesB l = true := by simp [coinsB] at hco; exact hco.2.2
  by_cases h1 : l.length = 1
  · obtain ⟨c, rfl⟩ : ∃ c, l = [c] := by
      match l, h1 with
      | [c], _ => exact ⟨c, rfl⟩
    have hcc := hc c List.mem_cons_self
    refine ⟨c.toNat, ?_, by omega, ?_⟩
    · unfold spec_cnBound.f
      rw [if_pos (by simp), if_pos (by simp)]
      show some c = some _
      congr 1; omega
    · rw [firstF_none _ _ _ (fun u _ hu => fail_one c hcc u (by omega)), firstF_none _ _ _ (fun u _ hu => fail_one c hcc u (by omega))]
  · have hn1 : wrap64 ((l.length : Int) - 1) = ((l.length - 1 : Nat) : Int) := by rw [w64 (by omega) (by omega)]; omega
    have hn2 : wrap64 ((l.length : Int) - 2) = ((l.length - 2 : Nat) : Int) := by rw [w64 (by omega) (by omega)]; omega
    have b1 := hc l[l.length - 1] (List.getElem_mem (by omega))
    have b2 := hc l[l.length - 2] (List.getElem_mem (by omega))
    have htop : ∀ x ∈ l, x ≤ l[l.length - 1] := fun x hx => by
      obtain ⟨i, hi, rfl⟩ := List.getElem_of_mem hx
      by_cases e : i = l.length - 1
      · subst e; omega
      · have := rises_last l hr i (l.length - 1) (by omega) (by omega); omega
    have hp0 : 0 ≤ l[l.length - 1] * l[l.length - 2] := Int.mul_nonneg (by omega) (by omega)
    have hp1 : l[l.length - 1] * l[l.length - 2] ≤ 1000 * 1000 := Int.mul_le_mul b1.2 b2.2 (by omega) (by omega)
    obtain ⟨b, hb, hb0, hb1, hb2⟩ : ∃ b : Int, spec_cnBound.f l = some b ∧ 0 ≤ b ∧ b ≤ 2000000 ∧ 2 * l[l.length - 1] ≤ b := by
      unfold spec_cnBound.f
      rw [if_neg (by omega), hn1, hn2, if_pos (by omega), if_pos (by omega), if_pos (by omega), if_pos (by omega), rd_eq l (l.length - 1) (by omega), rd_eq l (l.length - 2) (by omega), w64 (by omega) (by omega), w64 (by omega) (by omega)]
      unfold spec_l1Most.f
      by_cases hg : l[l.length - 1] * l[l.length - 2] > 2 * l[l.length - 1]
      · rw [if_pos hg]; exact ⟨_, rfl, by omega, by omega, by omega⟩
      · rw [if_neg hg]; exact ⟨_, rfl, by omega, by omega, by omega⟩
    refine ⟨b.toNat, by rw [hb]; congr 1; omega, by omega, ?_⟩
    by_cases hex : ∃ v : Nat, v ≤ 3000000 ∧ failB l v = true
    · obtain ⟨v, hv, hf⟩ := hex
      obtain ⟨u, hu1, hu2, hu3⟩ := fail_bound l hr hc l[l.length - 1] (List.getElem_mem (by omega)) htop v (by omega) hf
      obtain ⟨x, hx1, hx2, hx3⟩ := least_fail l u hu3
      rw [firstF_some l _ 0 x (by omega) (by omega) hx2 (fun u _ hu => hx3 u hu), firstF_some l _ 0 x (by omega) (by omega) hx2 (fun u _ hu => hx3 u hu)]
    · have hno : ∀ u : Nat, u ≤ 3000000 → failB l u = false := fun u hu => Bool.eq_false_iff.2 (fun hh => hex ⟨u, hu, hh⟩)
      rw [firstF_none l _ 0 (fun u _ hu => hno u (by omega)), firstF_none l _ 0 (fun u _ hu => hno u (by omega))]
theorem first_loop (l : List Int) (m : Nat) (hm : m ≤ 2000000) (d : Nat) : ∀ v : Nat, m + 1 - v = d → v ≤ m + 1 →
    Ev (fun k => spec_FirstFailure.l0 k ((List.range (m + 1)).map (failB l)) (((List.range (m + 1)).map (failB l)).length : Int) (v : Int)) (firstF l v d) := by
  have hT : ((List.range (m + 1)).map (failB l)).length = m + 1 := by simp
  induction d with
  | zero =>
    intro v hd hv
    exact Ev.one fun k => by rw [spec_FirstFailure.l0, if_neg (by omega)]; rfl
  | succ d ih =>
    intro v hd hv
    have w1 : wrap64 ((v : Int) + 1) = ((v + 1 : Nat) : Int) := by rw [w64 (by omega) (by omega)]; rfl
    have hrd : rdOf false ((List.range (m + 1)).map (failB l)) (v : Int) = failB l v := by
      unfold rdOf
      rw [Int.toNat_natCast]
      simp [List.getD, show v < m + 1 by omega]
    rw [firstF]
    by_cases hb : failB l v = true
    · rw [if_pos hb]
      exact Ev.one fun k => by rw [spec_FirstFailure.l0, if_pos (by omega), if_pos (by omega), if_pos (by omega), hrd, if_pos hb]
    · rw [if_neg hb]
      refine Ev.step (fun k => ?_) (ih (v + 1) (by omega) (by omega))
      rw [spec_FirstFailure.l0, if_pos (by omega), if_pos (by omega), if_pos (by omega), hrd, if_neg hb, w1]
theorem FirstFailure_ev (l : List Int) (hl : l.length ≤ 35184372088832) : ∃ r : Int × Bool, Ev (fun k => spec_FirstFailure.f k l) r ∧ Ev (fun k => impl_FirstFailure.f k l) r := by
  unfold spec_FirstFailure.f impl_FirstFailure.f
  cases hco : coinsB l with
  | false => exact ⟨_, Ev.bind (cnGood_ev l hl) (Ev.if_neg' (by simp [hco]) (Ev.now _)), Ev.bind (AreCoins_ev l hl) (Ev.if_neg' (by simp [hco]) (Ev.now _))⟩
  | true =>
    have hc := coins_mem hco
    have hlen := coins_len hco
    obtain ⟨b, hb, hb1, hb2⟩ := bound_ev l hco
    have h2 := failures_ev l hlen.2 hc 2000 (by omega)
    refine ⟨firstF l 0 2001, Ev.bind (cnGood_ev l hl) (Ev.if_pos' hco (Ev.const_bind hb (Ev.bind (cnFails_ev l hlen.2 hc b hb1) ?_))), Ev.bind (AreCoins_ev l hl) (Ev.if_pos' hco (Ev.bind h2 ?_))⟩
    · rw [← hb2]
      exact first_loop l b hb1 (b + 1) 0 (by omega) (by omega)
    · rcases firstF_list l 2001 0 with ⟨h3, h4⟩ | ⟨x, t, h3, h4⟩
      · rw [h3, h4]; exact Ev.if_pos' (by simp) (Ev.now _)
      · rw [h3, h4]; exact Ev.if_neg' (by simp only [List.length_cons]; omega) (Ev.if_pos' (by simp only [List.length_cons]; omega) (Ev.now _))

end Go.Proofs.Ytbaodkllldhbmaa.Pure
