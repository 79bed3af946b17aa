/- The law of the first failure: if greedy change fails for any amount, it fails for one that is less than twice the greatest coin. -/
import Derived.Test.YtbaodkllldhbmaaGreedy0
namespace Go.Proofs.Ytbaodkllldhbmaa.Pure
open Go.RowKit Go.Proofs.Ytbaodkllldhbmaa.G Go.Proofs.YtbaodkllldhbmaaW.PrintWords Go.Proofs.YtbaodkllldhbmaaW.PrintLast

theorem best_acc (T : List (Option Nat)) (v : Nat) (cs : List Int) : ∀ a, (∃ n, best T v cs (some a) = some n ∧ n ≤ a) := by
  induction cs with
  | nil => intro a; exact ⟨a, rfl, by omega⟩
  | cons c cs ih =>
    intro a
    rw [best]
    by_cases hc : c ≤ (v : Int)
    · rw [if_pos hc]
      cases T.getD (v - c.toNat) none with
      | none => exact ih a
      | some b =>
        by_cases hb : b + 1 < a
        · obtain ⟨n, h1, h2⟩ := ih (b + 1)
          exact ⟨n, by simpa [omin, hb] using h1, by omega⟩
        · obtain ⟨n, h1, h2⟩ := ih a
          exact ⟨n, by simpa [omin, hb] using h1, h2⟩
    · rw [if_neg hc]; exact ih a
theorem best_lower (T : List (Option Nat)) (v : Nat) (cs : List Int) : ∀ acc c m, c ∈ cs → c ≤ (v : Int) → T.getD (v - c.toNat) none = some m → ∃ n, best T v cs acc = some n ∧ n ≤ m + 1 := by
  induction cs with
  | nil => intro acc c m h; simp at h
  | cons d cs ih =>
    intro acc c m hc hcv hm
    rw [best]
    rcases List.mem_cons.1 hc with rfl | h
    · rw [if_pos hcv, hm]
      have hx : ∃ x, omin acc (Option.map (· + 1) (some m)) = some x ∧ x ≤ m + 1 := by
        cases acc with
        | none => exact ⟨m + 1, rfl, by omega⟩
        | some a =>
          by_cases hb : m + 1 < a
          · exact ⟨m + 1, by simp [omin, hb], by omega⟩
          · exact ⟨a, by simp [omin, hb], by omega⟩
      obtain ⟨x, hx1, hx2⟩ := hx
      rw [hx1]
      obtain ⟨n, h1, h2⟩ := best_acc T v cs x
      exact ⟨n, h1, by omega⟩
    · exact ih _ c m h hcv hm
theorem best_from (T : List (Option Nat)) (v : Nat) (cs : List Int) : ∀ acc n, best T v cs acc = some n → acc = some n ∨ ∃ c m, c ∈ cs ∧ c ≤ (v : Int) ∧ T.getD (v - c.toNat) none = some m ∧ n = m + 1 := by
  induction cs with
  | nil => intro acc n h; exact .inl h
  | cons c cs ih =>
    intro acc n h
    rw [best] at h
    rcases ih _ n h with h1 | ⟨d, m, hd, h1, h2, h3⟩
    · by_cases hc : c ≤ (v : Int)
      · rw [if_pos hc] at h1
        cases hT : T.getD (v - c.toNat) none with
        | none => rw [hT] at h1; cases acc with
          | none => simp [omin] at h1
          | some a => exact .inl (by simpa [omin] using h1)
        | some b =>
          rw [hT] at h1
          cases acc with
          | none => exact .inr ⟨c, b, List.mem_cons_self, hc, hT, by simpa [omin] using h1.symm⟩
          | some a =>
            by_cases hb : b + 1 < a
            · exact .inr ⟨c, b, List.mem_cons_self, hc, hT, by simpa [omin, hb] using h1.symm⟩
            · exact .inl (by simpa [omin, hb] using h1)
      · rw [if_neg hc] at h1; exact .inl h1
    · exact .inr ⟨d, m, List.mem_cons_of_mem _ hd, h1, h2, h3⟩
section
variable (l : List Int) (hc : ∀ x ∈ l, 1 ≤ x ∧ x ≤ 1000)
include hc
/-- One coin more is change for what is that much more. -/
theorem few_add (c : Int) (hm : c ∈ l) (v m : Nat) (h : few l v = some m) : ∃ n, few l (v + c.toNat) = some n ∧ n ≤ m + 1 := by
  have hb := hc c hm
  obtain ⟨w, hw⟩ : ∃ w, v + c.toNat = w + 1 := ⟨v + c.toNat - 1, by omega⟩
  rw [hw, few_succ]
  refine best_lower _ _ l none c m hm (by omega) ?_
  rw [show w + 1 - c.toNat = v by omega, fewT_get l w v (by omega)]
  exact h
/-- What has change has a coin in it. -/
theorem few_sub (v n : Nat) (h : few l v = some n) (hv : 0 < v) : ∃ c m, c ∈ l ∧ c.toNat ≤ v ∧ few l (v - c.toNat) = some m ∧ n = m + 1 := by
  obtain ⟨w, rfl⟩ : ∃ w, v = w + 1 := ⟨v - 1, by omega⟩
  rw [few_succ] at h
  rcases best_from _ _ l none n h with h1 | ⟨c, m, h1, h2, h3, h4⟩
  · cases h1
  · have hb := hc c h1
    rw [fewT_get l w _ (by omega)] at h3
    exact ⟨c, m, h1, by omega, h3, h4⟩
end

theorem rises_head (a : Int) (t : List Int) : risesB (a :: t) = true → risesB t = true ∧ ∀ x ∈ t, a < x := by
  induction t generalizing a with
  | nil => intro _; exact ⟨rfl, fun x hx => by simp at hx⟩
  | cons b t ih =>
    intro h
    rw [risesB, Bool.and_eq_true, decide_eq_true_eq] at h
    obtain ⟨h1, h2⟩ := h
    obtain ⟨_, h3⟩ := ih b h2
    exact ⟨h2, fun x hx => by
      rcases List.mem_cons.1 hx with rfl | hx
      · exact h1
      · have := h3 x hx; omega⟩
/-- Coins that are all greater are not taken. -/
theorem gr_small (l : List Int) (v : Int) (h0 : 0 ≤ v) (hx : ∀ x ∈ l, v < x) : gr l v = (List.replicate l.length 0, v) := by
  induction l with
  | nil => rfl
  | cons c t ih =>
    have hcv := hx c List.mem_cons_self
    rw [gr, ih (fun x hx' => hx x (List.mem_cons_of_mem _ hx'))]
    have e1 : Int.tdiv v c = 0 := Int.tdiv_eq_zero_of_lt h0 hcv
    have e2 : Int.tmod v c = v := Int.tmod_eq_of_lt h0 hcv
    simp only [e1, e2]
    rw [show wrap64 0 = 0 from w64 (by omega) (by omega), List.length_cons, List.replicate_succ]
theorem tdiv_sub (v c : Int) (hc : 1 ≤ c) (h : c ≤ v) : Int.tdiv v c = Int.tdiv (v - c) c + 1 ∧ Int.tmod v c = Int.tmod (v - c) c := by
  rw [Int.tdiv_eq_ediv_of_nonneg (by omega), Int.tdiv_eq_ediv_of_nonneg (by omega), Int.tmod_eq_emod_of_nonneg (by omega), Int.tmod_eq_emod_of_nonneg (by omega)]
  have e : v = (v - c) + 1 * c := by omega
  constructor
  · rw [e, Int.add_mul_ediv_right _ _ (by omega)]
    congr 2
    omega
  · rw [e, Int.add_mul_emod_self_right]
    congr 1
    omega
/-- Greedy change begins with the greatest coin that fits. -/
theorem gr_step (l : List Int) (hr : risesB l = true) (hc : ∀ x ∈ l, 1 ≤ x ∧ x ≤ 1000) (v : Int) (hv : v ≤ 4611686018427387904) (c : Int) (hm : c ∈ l) (hcv : c ≤ v) (hg : ∀ x ∈ l, x ≤ v → x ≤ c) :
    (gr l v).2 = (gr l (v - c)).2 ∧ (gr l v).1.sum = (gr l (v - c)).1.sum + 1 := by
  induction l with
  | nil => simp at hm
  | cons a t ih =>
    obtain ⟨hr1, hr2⟩ := rises_head a t hr
    have hct : ∀ x ∈ t, 1 ≤ x ∧ x ≤ 1000 := fun x hx => hc x (List.mem_cons_of_mem _ hx)
    rcases List.mem_cons.1 hm with rfl | hm'
    · have ht : ∀ x ∈ t, v < x := fun x hx => by
        apply Classical.byContradiction; intro hn
        have h1 := hg x (List.mem_cons_of_mem _ hx) (by omega)
        have h2 := hr2 x hx
        omega
      have hc1 := hc c List.mem_cons_self
      obtain ⟨e1, e2⟩ := tdiv_sub v c hc1.1 hcv
      rw [gr, gr, gr_small t v (by omega) ht, gr_small t (v - c) (by omega) (fun x hx => by have := ht x hx; omega)]
      have hq : 0 ≤ Int.tdiv (v - c) c := Int.tdiv_nonneg (by omega) (by omega)
      have hq2 : Int.tdiv v c ≤ v := Int.tdiv_le_self _ (by omega)
      refine ⟨e2, ?_⟩
      simp only [List.sum_cons]
      rw [w64 (by omega) (by omega), w64 (by omega) (by omega), e1]
      omega
    · obtain ⟨h1, h2⟩ := ih hr1 hct hm' (fun x hx h => hg x (List.mem_cons_of_mem _ hx) h)
      rw [gr, gr, h1]
      refine ⟨rfl, ?_⟩
      simp only [List.sum_cons, h2]
      omega
/-- Does greedy change fail for an amount, though there is change? -/
def failB (l : List Int) (v : Nat) : Bool :=
  match few l v with
  | none => false
  | some n => !decide ((gr l v).2 = 0) || decide ((gr l v).1.sum > n)
theorem failB_iff (l : List Int) (v : Nat) : failB l v = true ↔ ∃ n, few l v = some n ∧ ((gr l v).2 ≠ 0 ∨ (gr l v).1.sum > n) := by
  unfold failB
  cases few l v with
  | none => simp
  | some n => simp
theorem gr_zero (l : List Int) (hc : ∀ x ∈ l, 1 ≤ x ∧ x ≤ 1000) : gr l 0 = (List.replicate l.length 0, 0) :=
  gr_small l 0 (by omega) (fun x hx => by have := hc x hx; omega)
theorem greatest (l : List Int) (v : Int) (h : ∃ c ∈ l, c ≤ v) : ∃ c ∈ l, c ≤ v ∧ ∀ x ∈ l, x ≤ v → x ≤ c := by
  induction l with
  | nil => obtain ⟨c, hc, _⟩ := h; simp at hc
  | cons a t ih =>
    by_cases ht : ∃ c ∈ t, c ≤ v
    · obtain ⟨c, h1, h2, h3⟩ := ih ht
      by_cases ha : a ≤ v ∧ c < a
      · exact ⟨a, List.mem_cons_self, ha.1, fun x hx hv => by
          rcases List.mem_cons.1 hx with rfl | hx
          · omega
          · have := h3 x hx hv; omega⟩
      · exact ⟨c, List.mem_cons_of_mem _ h1, h2, fun x hx hv => by
          rcases List.mem_cons.1 hx with rfl | hx
          · omega
          · exact h3 x hx hv⟩
    · obtain ⟨c, hc, hv⟩ := h
      rcases List.mem_cons.1 hc with rfl | hc
      · exact ⟨c, List.mem_cons_self, hv, fun x hx hxv => by
          rcases List.mem_cons.1 hx with rfl | hx
          · omega
          · exact absurd ⟨x, hx, hxv⟩ ht⟩
      · exact absurd ⟨c, hc, hv⟩ ht
section
variable (l : List Int) (hr : risesB l = true) (hc : ∀ x ∈ l, 1 ≤ x ∧ x ≤ 1000)
include hr hc
/-- Greedy change is change. -/
theorem few_le_gr (v : Nat) : (v : Int) ≤ 4611686018427387904 → (gr l v).2 = 0 → ∃ m : Nat, few l v = some m ∧ (m : Int) ≤ (gr l v).1.sum := by
  induction v using Nat.strongRecOn with
  | ind v ih =>
    intro hv h0
    by_cases hz : v = 0
    · subst hz
      refine ⟨0, rfl, ?_⟩
      have := gr_zero l hc
      simp only [Int.natCast_zero, this]
      exact sum_nonneg _ (fun x hx => by simp at hx; omega)
    · have hex : ∃ c ∈ l, c ≤ (v : Int) := by
        apply Classical.byContradiction; intro hn
        have := gr_small l v (by omega) (fun x hx => by
          apply Classical.byContradiction; intro h; exact hn ⟨x, hx, by omega⟩)
        rw [this] at h0
        simp only at h0
        omega
      obtain ⟨c, h1, h2, h3⟩ := greatest l v hex
      have hb := hc c h1
      obtain ⟨g1, g2⟩ := gr_step l hr hc v hv c h1 h2 h3
      have e : (v : Int) - c = ((v - c.toNat : Nat) : Int) := by omega
      rw [e] at g1 g2
      obtain ⟨m, hm1, hm2⟩ := ih (v - c.toNat) (by omega) (by omega) (by rw [← g1]; exact h0)
      obtain ⟨n, hn1, hn2⟩ := few_add l hc c h1 _ m hm1
      rw [show v - c.toNat + c.toNat = v by omega] at hn1
      exact ⟨n, hn1, by omega⟩
/-- If the greatest coin that fits is part of the fewest coins, what is left without it fails, too. -/
theorem fail_down (v : Nat) (hv : (v : Int) ≤ 4611686018427387904) (c : Int) (h1 : c ∈ l) (h2 : c ≤ (v : Int)) (h3 : ∀ x ∈ l, x ≤ (v : Int) → x ≤ c) (n m : Nat) (hn : few l v = some n) (hm : few l (v - c.toNat) = some m) (hnm : n ≤ m + 1 ∧ m + 1 ≤ n) (hf : failB l v = true) :
    failB l (v - c.toNat) = true := by
  have hb := hc c h1
  obtain ⟨n', e1, e2⟩ := (failB_iff l v).1 hf
  rw [hn] at e1; cases e1
  obtain ⟨g1, g2⟩ := gr_step l hr hc v hv c h1 h2 h3
  have e : (v : Int) - c = ((v - c.toNat : Nat) : Int) := by omega
  rw [e] at g1 g2
  refine (failB_iff l _).2 ⟨m, hm, ?_⟩
  rcases e2 with h | h
  · exact .inl (by rw [← g1]; exact h)
  · exact .inr (by omega)
/-- From a failure at twice the greatest coin, or beyond, one comes to a lesser one. -/
theorem fail_less (top : Int) (ht : top ∈ l) (htop : ∀ x ∈ l, x ≤ top) (v : Nat) (hv : (v : Int) ≤ 4611686018427387904) (hbig : 2 * top ≤ (v : Int)) (hf : failB l v = true) : ∃ u, u < v ∧ failB l u = true := by
  have hb := hc top ht
  obtain ⟨n, hn, hbad⟩ := (failB_iff l v).1 hf
  obtain ⟨c, m, h1, h2, h3, h4⟩ := few_sub l hc v n hn (by omega)
  have hcb := hc c h1
  have hct := htop c h1
  -- the greatest coin is part of some fewest coins, or what is left without c fails
  by_cases hs : failB l (v - c.toNat) = true
  · exact ⟨v - c.toNat, by omega, hs⟩
  · have hg0 : (gr l ((v - c.toNat : Nat) : Int)).2 = 0 ∧ (gr l ((v - c.toNat : Nat) : Int)).1.sum ≤ m := by
      constructor
      · apply Classical.byContradiction; intro hh; exact hs ((failB_iff l _).2 ⟨m, h3, .inl hh⟩)
      · apply Classical.byContradiction; intro hh; exact hs ((failB_iff l _).2 ⟨m, h3, .inr (by omega)⟩)
    obtain ⟨g1, g2⟩ := gr_step l hr hc ((v - c.toNat : Nat) : Int) (by omega) top ht (by omega) (fun x hx _ => htop x hx)
    have e : ((v - c.toNat : Nat) : Int) - top = ((v - c.toNat - top.toNat : Nat) : Int) := by omega
    rw [e] at g1 g2
    obtain ⟨p, hp1, hp2⟩ := few_le_gr l hr hc (v - c.toNat - top.toNat) (by omega) (by rw [← g1]; exact hg0.1)
    obtain ⟨q, hq1, hq2⟩ := few_add l hc c h1 _ p hp1
    rw [show v - c.toNat - top.toNat + c.toNat = v - top.toNat by omega] at hq1
    obtain ⟨n', hn1, hn2⟩ := few_add l hc top ht _ q hq1
    rw [show v - top.toNat + top.toNat = v by omega, hn] at hn1
    cases hn1
    exact ⟨v - top.toNat, by omega, fail_down l hr hc v hv top ht (by omega) (fun x hx _ => htop x hx) n q hn hq1 (by omega) hf⟩
theorem fail_bound (top : Int) (ht : top ∈ l) (htop : ∀ x ∈ l, x ≤ top) (v : Nat) : (v : Int) ≤ 4611686018427387904 → failB l v = true → ∃ u : Nat, (u : Int) < 2 * top ∧ u ≤ v ∧ failB l u = true := by
  induction v using Nat.strongRecOn with
  | ind v ih =>
    intro hv hf
    by_cases hb : 2 * top ≤ (v : Int)
    · obtain ⟨u, h1, h2⟩ := fail_less l hr hc top ht htop v hv hb hf
      obtain ⟨x, h3, h4, h5⟩ := ih u h1 (by omega) h2
      exact ⟨x, h3, by omega, h5⟩
    · exact ⟨v, by omega, by omega, hf⟩
end
/-- One coin alone never fails. -/
theorem fail_one (c : Int) (hc : 1 ≤ c ∧ c ≤ 1000) (v : Nat) : (v : Int) ≤ 4611686018427387904 → failB [c] v = false := by
  have hcs : ∀ x ∈ [c], 1 ≤ x ∧ x ≤ 1000 := fun x hx => by rw [List.mem_singleton.1 hx]; exact hc
  induction v using Nat.strongRecOn with
  | ind v ih =>
    intro hv
    apply Bool.eq_false_iff.2
    intro hf
    obtain ⟨n, hn, hbad⟩ := (failB_iff [c] v).1 hf
    by_cases hz : v = 0
    · subst hz
      rw [few_zero] at hn; cases hn
      have := gr_zero [c] hcs
      simp only [Int.natCast_zero] at hbad
      rw [this] at hbad
      simp at hbad
    · obtain ⟨d, m, h1, h2, h3, h4⟩ := few_sub [c] hcs v n hn (by omega)
      obtain rfl := List.mem_singleton.1 h1
      have := fail_down [d] rfl hcs v hv d h1 (by omega) (fun x hx _ => by rw [List.mem_singleton.1 hx]; omega) n m hn h3 (by omega) hf
      rw [ih (v - d.toNat) (by omega) (by omega)] at this
      cases this

end Go.Proofs.Ytbaodkllldhbmaa.Pure
