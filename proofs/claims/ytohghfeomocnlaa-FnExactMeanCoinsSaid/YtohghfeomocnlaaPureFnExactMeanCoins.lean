/- The program's MeanCoins answers as the reference's does, for every list and limit. -/
import Derived.Test.YtohghfeomocnlaaCoin2
import Derived.Test.YtohghfeomocnlaaGcd0
import Derived.Test.YtohghfeomocnlaaSum1
import Derived.Test.YtohghfeomocnlaaGx14
import Derived.Test.YtohghfeomocnlaaGx12
import Derived.Test.YtohghfeomocnlaaGx13
namespace Go.Proofs.Ytohghfeomocnlaa.Pure
open Go.RowKit Go.Proofs.Ytohghfeomocnlaa.G Go.Proofs.YtohghfeomocnlaaW.PrintWords Go.Proofs.YtohghfeomocnlaaW.PrintLast

def meanAns (s m : Nat) : Int × Int × Bool := (wrap64 (Int.tdiv (s : Int) ((Nat.gcd s m : Nat) : Int)), wrap64 (Int.tdiv (m : Int) ((Nat.gcd s m : Nat) : Int)), true)
theorem mean_gcd (x1 x7 : Int) (b : Nat) : ∀ a : Nat, Nat.gcd a b ≠ 0 →
    Ev (fun k => spec_MeanCoins.l1 k x1 x7 (a : Int) (b : Int)) (wrap64 (Int.tdiv x7 ((Nat.gcd a b : Nat) : Int)), wrap64 (Int.tdiv x1 ((Nat.gcd a b : Nat) : Int)), true) := by
  induction b using Nat.strongRecOn with
  | ind b ih =>
    intro a hg
    by_cases hb : b = 0
    · subst hb
      rw [Nat.gcd_zero_right] at hg ⊢
      exact Ev.one fun k => by rw [spec_MeanCoins.l1, if_neg (by omega), if_neg (by omega)]
    · rw [gcd_step] at hg ⊢
      refine Ev.step (fun k => ?_) (ih (a % b) (Nat.mod_lt _ (by omega)) b hg)
      rw [spec_MeanCoins.l1, if_pos (by omega), if_neg (by omega), tmod_nat]
theorem mean_loop (T : List (Option Nat)) (m : Nat) (hT : T.length ≤ 2001) (hb : ∀ i n, T.getD i none = some n → n ≤ i) (d : Nat) : ∀ (i : Nat) (s : Int), T.length - i = d → i ≤ T.length → 0 ≤ s → s ≤ 2001 * i →
    (none ∈ T.drop i → Ev (fun k => spec_MeanCoins.l0 k (m : Int) s (T.map encS) ((T.map encS).length : Int) (i : Int)) (0, 0, false)) ∧
    (none ∉ T.drop i → ∀ r, Ev (fun k => spec_MeanCoins.l1 k (m : Int) (s + ((T.drop i).map encS).sum) (s + ((T.drop i).map encS).sum) (m : Int)) r → Ev (fun k => spec_MeanCoins.l0 k (m : Int) s (T.map encS) ((T.map encS).length : Int) (i : Int)) r) := by
  induction d with
  | zero =>
    intro i s hd hi h0 hs
    rw [List.drop_of_length_le (by omega)]
    refine ⟨fun h => by simp at h, fun _ r h => ?_⟩
    refine Ev.step (fun k => ?_) h
    rw [spec_MeanCoins.l0, if_neg (by simp; omega)]
    simp
  | succ d ih =>
    intro i s hd hi h0 hs
    have hil : i < T.length := by omega
    have hlen : (T.map encS).length = T.length := by simp
    have hg : rd (T.map encS) (i : Int) = encS T[i] := by rw [rd_eq _ i (by omega)]; simp
    rw [List.drop_eq_getElem_cons hil]
    cases hti : T[i] with
    | none =>
      refine ⟨fun _ => ?_, fun h => absurd List.mem_cons_self h⟩
      refine Ev.one fun k => ?_
      rw [spec_MeanCoins.l0, if_pos (by omega), if_pos (by omega), if_pos (by omega), hg, hti, if_pos (by simp [encS])]
    | some n =>
      have hn := hb i n (by simp [List.getD, hil, hti])
      have step : ∀ k, spec_MeanCoins.l0 (k + 1) (m : Int) s (T.map encS) ((T.map encS).length : Int) (i : Int) = spec_MeanCoins.l0 k (m : Int) (s + n) (T.map encS) ((T.map encS).length : Int) ((i + 1 : Nat) : Int) := fun k => by
        rw [spec_MeanCoins.l0, if_pos (by omega), if_pos (by omega), if_pos (by omega), hg, hti, if_neg (by simp [encS])]
        simp only [encS]
        rw [w64 (by omega) (by omega), w64 (by omega) (by omega)]
        rfl
      obtain ⟨h1, h2⟩ := ih (i + 1) (s + n) (by omega) (by omega) (by omega) (by omega)
      refine ⟨fun h => Ev.step step (h1 (by simpa using h)), fun h r hr => Ev.step step (h2 (by simpa using h) r ?_)⟩
      have e : s + (n : Int) + (List.map encS (T.drop (i + 1))).sum = s + (List.map encS (some n :: T.drop (i + 1))).sum := by simp [encS, Int.add_assoc]
      rw [e]; exact hr
theorem enc_same (m : Nat) (T : List (Option Nat)) (h : none ∉ T) : T.map encS = T.map (encP m) := by
  refine List.map_congr_left fun x hx => ?_
  cases x with
  | none => exact absurd hx h
  | some n => rfl
theorem sum_nat (T : List (Option Nat)) (h : none ∉ T) : ∃ s : Nat, (T.map encS).sum = s := by
  induction T with
  | nil => exact ⟨0, rfl⟩
  | cons x t ih =>
    obtain ⟨s, hs⟩ := ih (fun hh => h (List.mem_cons_of_mem _ hh))
    cases x with
    | none => exact absurd List.mem_cons_self h
    | some a => exact ⟨a + s, by simp [hs, encS]⟩

theorem MeanCoins_ev (l : List Int) (a : Int) (hl : l.length ≤ 35184372088832) : ∃ r, Ev (fun k => spec_MeanCoins.f k l a) r ∧ Ev (fun k => impl_MeanCoins.f k l a) r := by
  unfold spec_MeanCoins.f impl_MeanCoins.f
  have no1 : Ev (fun k => spec_MeanCoins.j0 k l a true) (0, 0, false) := Ev.one fun k => by rw [spec_MeanCoins.j0, if_pos rfl]
  have no2 : Ev (fun k => impl_MeanCoins.j0 k l a true) (0, 0, false) := Ev.one fun k => by rw [impl_MeanCoins.j0, if_pos rfl]
  cases hco : coinsB l with
  | false => exact ⟨_, Ev.bind (cnGood_ev l hl) (Ev.if_neg' (by simp [hco]) no1), Ev.bind (AreCoins_ev l hl) (Ev.if_neg' (by simp [hco]) no2)⟩
  | true =>
    by_cases ha : 1 ≤ a ∧ a ≤ 2000
    · have e : (!decide (1 ≤ a ∧ a ≤ 2000)) = false := by rw [decide_eq_true ha]; rfl
      obtain ⟨m, rfl⟩ : ∃ m : Nat, a = m := ⟨a.toNat, by omega⟩
      have hc := coins_mem hco
      have hle : ∀ i n, (fewT l m).getD i none = some n → n ≤ i := fun i n => fewT_le l (fun x hx => (hc x hx).1) m i n
      have hlen := fewT_length l m
      have hS := cnFew_ev l hc hl m (by omega)
      have hP := fewStamps_ev l hc hl m (by omega)
      obtain ⟨h1, h2⟩ := mean_loop (fewT l m) m (by omega) hle (fewT l m).length 0 0 (by omega) (by omega) (by omega) (by omega)
      rw [List.drop_zero] at h1 h2
      obtain ⟨M, hM1, hM2, hM3⟩ := max_ev ((fewT l m).map (encP m)) (by simp; omega) (by simp; omega)
      by_cases hn : none ∈ fewT l m
      · have hbig : M > (m : Int) := by
          have := hM3 (encP m none) (List.mem_map.2 ⟨none, hn, rfl⟩)
          simp only [encP] at this; omega
        refine ⟨(0, 0, false), Ev.bind (cnGood_ev l hl) (Ev.if_pos' hco (Ev.const_bind (l1In_eq _ _ _) ?_)), Ev.bind (AreCoins_ev l hl) (Ev.if_pos' hco (Ev.const_bind (within_eq _ _ _) ?_))⟩
        · rw [e]
          exact Ev.step (fun k => by rw [spec_MeanCoins.j0, if_neg (by simp)]) (Ev.bind hS (h1 hn))
        · rw [e]
          exact Ev.step (fun k => by rw [impl_MeanCoins.j0, if_neg (by simp)]) (Ev.bind hP (Ev.bind hM1 (Ev.if_pos' hbig (Ev.now _))))
      · have hsmall : ¬ M > (m : Int) := by
          obtain ⟨o, ho, rfl⟩ := List.mem_map.1 hM2
          cases o with
          | none => exact absurd ho hn
          | some n =>
            obtain ⟨i, hi, he⟩ := List.getElem_of_mem ho
            have := hle i n (by simp [List.getD, hi, he])
            simp only [encP]; omega
        obtain ⟨s, hs⟩ := sum_nat (fewT l m) hn
        have hg : Nat.gcd s m ≠ 0 := fun h => by have := Nat.gcd_eq_zero_iff.1 h; omega
        have hb0 : ∀ x ∈ (fewT l m).map (encP m), 0 ≤ x := fun x hx => by
          obtain ⟨o, _, rfl⟩ := List.mem_map.1 hx
          cases o <;> simp only [encP] <;> omega
        have hb1 : ∀ x ∈ (fewT l m).map (encP m), x ≤ 2001 := fun x hx => by have := hM3 x hx; omega
        have hss : ((fewT l m).map (encP m)).sum = s := by rw [← enc_same m _ hn]; exact hs
        have hsb := sum_le 2001 _ hb1
        have hlen2 : ((fewT l m).map (encP m)).length = m + 1 := by simp [hlen]
        have ht := total_ev ((fewT l m).map (encP m)) (by omega) hb0 (by rw [hss] at hsb ⊢; rw [hlen2] at hsb; omega)
        rw [hss] at ht
        refine ⟨meanAns s m, Ev.bind (cnGood_ev l hl) (Ev.if_pos' hco (Ev.const_bind (l1In_eq _ _ _) ?_)), Ev.bind (AreCoins_ev l hl) (Ev.if_pos' hco (Ev.const_bind (within_eq _ _ _) ?_))⟩
        · rw [e]
          refine Ev.step (fun k => by rw [spec_MeanCoins.j0, if_neg (by simp)]) (Ev.bind hS (h2 hn _ ?_))
          rw [hs, Int.zero_add]
          exact mean_gcd (m : Int) (s : Int) m s hg
        · rw [e]
          refine Ev.step (fun k => by rw [impl_MeanCoins.j0, if_neg (by simp)]) (Ev.bind hP (Ev.bind hM1 (Ev.if_neg' hsmall (Ev.bind ht (Ev.bind (gcd_ev s m) (Ev.bind ht (Ev.if_neg' (show ¬ ((Nat.gcd s m : Nat) : Int) = 0 by omega) (Ev.now _))))))))
    · have e : (!decide (1 ≤ a ∧ a ≤ 2000)) = true := by rw [decide_eq_false ha]; rfl
      refine ⟨(0, 0, false), Ev.bind (cnGood_ev l hl) (Ev.if_pos' hco (Ev.const_bind (l1In_eq _ _ _) ?_)), Ev.bind (AreCoins_ev l hl) (Ev.if_pos' hco (Ev.const_bind (within_eq _ _ _) ?_))⟩
      · rw [e]; exact no1
      · rw [e]; exact no2

theorem FnExactMeanCoins : laws_FnExactMeanCoins.Pure := by
  intro l a _ _ _ _
  by_cases h : (l.length : Int) > 1048576
  · exact ⟨0, by unfold laws_FnExactMeanCoins.f; rw [if_pos h]⟩
  have hl : l.length ≤ 35184372088832 := by omega
  obtain ⟨r, hs, hi⟩ := MeanCoins_ev l a hl
  apply Ev.rounds
  unfold laws_FnExactMeanCoins.f
  refine Ev.if_neg' h (Ev.bind (toIntS_ev l hl) (Ev.bind hs (Ev.bind (toIntS_ev l hl) (Ev.bind hi (Ev.if_pos' rfl (Ev.if_pos' rfl ?_))))))
  rw [show (r.2.2 != r.2.2) = false by simp]
  exact Ev.step (fun k => by rw [laws_FnExactMeanCoins.j0, if_neg (by simp)]) (same_end l hl)

end Go.Proofs.Ytohghfeomocnlaa.Pure
