/- The program's BestChange answers as the reference's does, for every list and amount. -/
import Derived.Test.YtohghfeomocnlaaBL
import Derived.Test.YtohghfeomocnlaaBx10
import Derived.Test.YtohghfeomocnlaaBx5
import Derived.Test.YtohghfeomocnlaaBx9
import Derived.Test.YtohghfeomocnlaaBx8
namespace Go.Proofs.Ytohghfeomocnlaa.Pure
open Go.RowKit Go.Proofs.Ytohghfeomocnlaa.B Go.Proofs.YtohghfeomocnlaaW.PrintWords Go.Proofs.YtohghfeomocnlaaW.PrintLast

/-- The tables of the kinds from 0, 1, .., i - 1 on. -/
def tabs (l : List Int) (m i : Nat) : List (List Int) := (List.range i).map fun j => (fewT (l.drop j) m).map (encP m)
theorem tabs_succ (l : List Int) (m i : Nat) : tabs l m (i + 1) = tabs l m i ++ [(fewT (l.drop i) m).map (encP m)] := rangeMap_succ _ _
theorem tabs_length (l : List Int) (m i : Nat) : (tabs l m i).length = i := by simp [tabs]
theorem tabs_rd (l : List Int) (m n j : Nat) (h : j < n) : rd_L1 (tabs l m n) (j : Int) = (fewT (l.drop j) m).map (encP m) := by
  simp [rd_L1, tabs, List.getD, List.getElem?_range h]
theorem set_at' {α : Type} (A : List α) (x y : α) (B : List α) (i : Nat) (h : A.length = i) : (A ++ x :: B).set i y = A ++ y :: B := by
  subst h; simp
section
variable (l : List Int) (hl : l.length ≤ 8) (hc : ∀ x ∈ l, 1 ≤ x ∧ x ≤ 1000)
include hl hc
theorem best_tabs (m : Nat) (hm : m ≤ 20000) (r : List Int × Bool) (h : Ev (fun k => impl_BestChange.l1 k (m : Int) (tabs l m (l.length + 1)) [] l (l.length : Int) 0) r) (d : Nat) : ∀ i : Nat, l.length - i = d → i ≤ l.length →
    Ev (fun k => impl_BestChange.l0 k l (m : Int) (tabs l m i ++ List.replicate (l.length + 1 - i) []) (l.length : Int) (i : Int)) r := by
  induction d with
  | zero =>
    intro i hd hi
    obtain rfl : i = l.length := by omega
    refine Ev.step (f := fun k => (impl_fewStamps.f k [] (m : Int)).bind fun t => impl_BestChange.l1 k (m : Int) (tabs l m l.length ++ [t]) [] l (l.length : Int) 0) (fun k => ?_) ?_
    · rw [impl_BestChange.l0, if_neg (by omega)]
      congr 1
      funext t
      rw [if_pos (by omega), if_pos (by simp [tabs_length]; omega), Int.toNat_natCast, show l.length + 1 - l.length = 0 + 1 by omega, List.replicate_succ, set_at' _ _ _ _ _ (tabs_length l m l.length)]
      rfl
    · refine Ev.bind (fewStamps_ev [] (fun x hx => by simp at hx) (by simp) m (by omega)) ?_
      rw [tabs_succ, List.drop_of_length_le (Nat.le_refl _)] at h
      exact h
  | succ d ih =>
    intro i hd hi
    have h1 := ih (i + 1) (by omega) (by omega)
    refine Ev.step (f := fun k => (impl_fewStamps.f k (l.drop i) (m : Int)).bind fun t => impl_BestChange.l0 k l (m : Int) (tabs l m i ++ t :: List.replicate (l.length + 1 - (i + 1)) []) (l.length : Int) ((i + 1 : Nat) : Int)) (fun k => ?_) ?_
    · rw [impl_BestChange.l0, if_pos (by omega), if_pos (by omega), if_pos (by omega), Int.toNat_natCast]
      congr 1
      funext t
      rw [if_pos (by simp [tabs_length]; omega), show l.length + 1 - i = (l.length + 1 - (i + 1)) + 1 by omega, List.replicate_succ, set_at' _ _ _ _ _ (tabs_length l m i), w64 (by omega) (by omega)]
      rfl
    · refine Ev.bind (fewStamps_ev (l.drop i) (fun x hx => hc x (List.mem_of_mem_drop hx)) (by simp; omega) m (by omega)) ?_
      rw [tabs_succ, List.append_assoc] at h1
      exact h1
omit hl hc in
theorem best_spec_in (x33 : List Int) (x34 : Int) (t : List Int) (c : Int) (hcc : 1 ≤ c ∧ c ≤ 1000) (m v N n0 : Nat) (hm : m ≤ 20000) (hv : v ≤ m) (hN : n0 ≤ N) (hNv : N ≤ v) (hn : n0 * c.toNat ≤ v) (h0 : few t (v - n0 * c.toNat) = some (N - n0)) (hj : ∀ j, j < n0 → few t (v - j * c.toNat) ≠ some (N - j))
    (A B : List Int) (hA : A.length ≤ 8) (r : List Int × Bool) (h : Ev (fun k => spec_BestChange.l0 k l ((v - n0 * c.toNat : Nat) : Int) (A ++ (n0 : Int) :: B) ((N - n0 : Nat) : Int) x33 x34 ((A.length + 1 : Nat) : Int)) r) (d : Nat) : ∀ n, n0 - n = d → n ≤ n0 →
    Ev (fun k => spec_BestChange.l1 k l ((v - n * c.toNat : Nat) : Int) (A ++ (n : Int) :: B) ((N - n : Nat) : Int) (A.length : Int) c ((fewT t m).map encS) x33 x34 (A.length : Int)) r := by
  induction d with
  | zero =>
    intro n hd hnn
    obtain rfl : n = n0 := by omega
    refine Ev.step (fun k => ?_) h
    rw [spec_BestChange.l1, if_pos (by omega), if_pos (by simp [fewT_length]; omega), tab_rd encS t m _ (by omega), h0, if_neg (by simp [encS]), if_pos (by simp [encS]), w64 (by omega) (by omega)]
    rfl
  | succ d ih =>
    intro n hd hnn
    have hm1 := Nat.mul_le_mul_right c.toNat (show n + 1 ≤ n0 by omega)
    have h1 := ih (n + 1) (by omega) (by omega)
    have hne := hj n (by omega)
    have e0 : (n + 1) * c.toNat = n * c.toNat + c.toNat := by rw [Nat.add_mul, Nat.one_mul]
    have e1 : wrap64 (((v - n * c.toNat : Nat) : Int) - c) = ((v - (n + 1) * c.toNat : Nat) : Int) := by rw [w64 (by omega) (by omega)]; omega
    have e2 : wrap64 (((N - n : Nat) : Int) - 1) = ((N - (n + 1) : Nat) : Int) := by rw [w64 (by omega) (by omega)]; omega
    have e3 : (A ++ (n : Int) :: B).set (A.length : Int).toNat (wrap64 (rd (A ++ (n : Int) :: B) (A.length : Int) + 1)) = A ++ ((n + 1 : Nat) : Int) :: B := by
      rw [rd_app_at, Int.toNat_natCast, set_at' _ _ _ _ _ rfl, w64 (by omega) (by omega)]
      rfl
    refine Ev.step (fun k => ?_) h1
    rw [spec_BestChange.l1, if_pos (by omega), if_pos (by simp [fewT_length]; omega), tab_rd encS t m _ (by omega), e1, e2, e3]
    cases hf : few t (v - n * c.toNat) with
    | none => rw [if_pos (by simp [encS]), if_pos (by omega), if_pos (by simp; omega)]
    | some q =>
      have : q ≠ N - n := fun e => hne (by rw [hf, e])
      rw [if_neg (by simp [encS]), if_neg (by simp only [encS]; omega), if_pos (by omega), if_pos (by simp; omega)]
theorem best_impl_in (i : Nat) (hi : i < l.length) (m v N n0 : Nat) (hm : m ≤ 20000) (hv : v ≤ m) (hN : n0 ≤ N) (hNv : N ≤ v) (hfw : few (l.drop i) v = some N) (hn : n0 * l[i].toNat ≤ v) (h0 : few (l.drop (i + 1)) (v - n0 * l[i].toNat) = some (N - n0)) (hj : ∀ j, j < n0 → few (l.drop (i + 1)) (v - j * l[i].toNat) ≠ some (N - j))
    (A : List Int) (hA : A.length ≤ 8) (r : List Int × Bool) (h : Ev (fun k => impl_BestChange.l1 k ((v - n0 * l[i].toNat : Nat) : Int) (tabs l m (l.length + 1)) (A ++ [(n0 : Int)]) l (l.length : Int) ((i + 1 : Nat) : Int)) r) (d : Nat) : ∀ n, n0 - n = d → n ≤ n0 →
    Ev (fun k => impl_BestChange.l2 k (v : Int) (tabs l m (l.length + 1)) A (i : Int) l[i] (n : Int) l (l.length : Int) (i : Int)) r := by
  have hci := hc l[i] (List.getElem_mem hi)
  have hct : ∀ x ∈ l.drop (i + 1), 1 ≤ x := fun x hx => (hc x (List.mem_of_mem_drop hx)).1
  have w1 : wrap64 ((i : Int) + 1) = ((i + 1 : Nat) : Int) := by rw [w64 (by omega) (by omega)]; rfl
  have hT1 := tabs_rd l m (l.length + 1) (i + 1) (by omega)
  have hT0 := tabs_rd l m (l.length + 1) i (by omega)
  have hr0 : rd ((fewT (l.drop i) m).map (encP m)) (v : Int) = N := by rw [tab_rd (encP m) _ m v hv, hfw]; rfl
  obtain ⟨c, hcn⟩ : ∃ c : Nat, l[i] = c := ⟨l[i].toNat, by omega⟩
  simp only [hcn, Int.toNat_natCast] at *
  have pre : ∀ n k, n ≤ n0 → impl_BestChange.l2 (k + 1) (v : Int) (tabs l m (l.length + 1)) A (i : Int) (c : Int) (n : Int) l (l.length : Int) (i : Int) =
      if wrap64 ((n : Int) + encP m (few (l.drop (i + 1)) (v - n * c))) = (N : Int) then (if encP m (few (l.drop (i + 1)) (v - n * c)) > ((v - n * c : Nat) : Int) then impl_BestChange.l2 k (v : Int) (tabs l m (l.length + 1)) A (i : Int) (c : Int) ((n + 1 : Nat) : Int) l (l.length : Int) (i : Int)
        else impl_BestChange.l1 k ((v - n * c : Nat) : Int) (tabs l m (l.length + 1)) (A ++ [(n : Int)]) l (l.length : Int) ((i + 1 : Nat) : Int))
      else impl_BestChange.l2 k (v : Int) (tabs l m (l.length + 1)) A (i : Int) (c : Int) ((n + 1 : Nat) : Int) l (l.length : Int) (i : Int) := fun n k hnn => by
    have hm1 := Nat.mul_le_mul_right c hnn
    have hm2 : (n : Int) * (c : Int) = ((n * c : Nat) : Int) := by push_cast; rfl
    have w2 : wrap64 ((v : Int) - wrap64 ((n : Int) * (c : Int))) = ((v - n * c : Nat) : Int) := by rw [hm2, w64 (x := ((n * c : Nat) : Int)) (by omega) (by omega), w64 (by omega) (by omega)]; omega
    have hn0 : n0 ≤ 20000 := by omega
    have w3 : wrap64 ((n : Int) + 1) = ((n + 1 : Nat) : Int) := by rw [w64 (by omega) (by omega)]; rfl
    have hlt := tabs_length l m (l.length + 1)
    have hl1 : ((fewT (l.drop (i + 1)) m).map (encP m)).length = m + 1 := by simp [fewT_length]
    have hl2 : ((fewT (l.drop i) m).map (encP m)).length = m + 1 := by simp [fewT_length]
    rw [impl_BestChange.l2, w1, w2, w3, hT1, hT0, tab_rd (encP m) _ m _ (by omega), hr0, hlt, hl1, hl2]
    clear w1 w2 w3 hT1 hT0 hr0 hlt hl1 hl2 hm2
    rw [if_pos (by omega), if_pos (by omega), if_pos (by omega), if_pos (by omega), if_pos (by omega), if_pos (by omega), if_pos (by omega), if_pos (by omega), if_pos (show A.length < 17592186044416 by omega)]
  induction d with
  | zero =>
    intro n hd hnn
    obtain rfl : n = n0 := by omega
    refine Ev.step (fun k => ?_) h
    have := few_le (l.drop (i + 1)) hct _ _ h0
    rw [pre n k hnn, h0, if_pos (by simp only [encP]; rw [w64 (by omega) (by omega)]; omega), if_neg (by simp only [encP]; omega)]
  | succ d ih =>
    intro n hd hnn
    have hne := hj n (by omega)
    refine Ev.step (fun k => ?_) (ih (n + 1) (by omega) (by omega))
    rw [pre n k hnn]
    cases hf : few (l.drop (i + 1)) (v - n * c) with
    | none =>
      by_cases he : wrap64 ((n : Int) + encP m none) = (N : Int)
      · rw [if_pos he, if_pos (by simp only [encP]; omega)]
      · rw [if_neg he]
    | some q =>
      have := few_le (l.drop (i + 1)) hct _ _ hf
      have hq : q ≠ N - n := fun e => hne (by rw [hf, e])
      rw [if_neg (by simp only [encP]; rw [w64 (by omega) (by omega)]; omega)]
theorem best_out (m : Nat) (hm : m ≤ 20000) (d : Nat) : ∀ (i : Nat) (A : List Int) (v N : Nat), l.length - i = d → A.length = i → i ≤ l.length → v ≤ m → few (l.drop i) v = some N →
    ∃ ns : List Int, ns.length = l.length - i ∧ Ev (fun k => spec_BestChange.l0 k l (v : Int) (A ++ List.replicate (l.length - i) 0) (N : Int) l (l.length : Int) (i : Int)) (A ++ ns, true) ∧
      Ev (fun k => impl_BestChange.l1 k (v : Int) (tabs l m (l.length + 1)) A l (l.length : Int) (i : Int)) (A ++ ns, true) := by
  induction d with
  | zero =>
    intro i A v N hd hA hi hv hf
    refine ⟨[], by simp; omega, Ev.one fun k => ?_, Ev.one fun k => ?_⟩
    · rw [spec_BestChange.l0, if_neg (by omega), show l.length - i = 0 by omega]
      rfl
    · rw [impl_BestChange.l1, if_neg (by omega)]
      simp
  | succ d ih =>
    intro i A v N hd hA hi hv hf
    have hil : i < l.length := by omega
    have hci := hc l[i] (List.getElem_mem hil)
    have hcd : ∀ x ∈ l.drop i, 1 ≤ x ∧ x ≤ 1000 := fun x hx => hc x (List.mem_of_mem_drop hx)
    have hle := few_le (l.drop i) (fun x hx => (hcd x hx).1) v N hf
    have ed := List.drop_eq_getElem_cons hil
    have w1 : wrap64 ((i : Int) + 1) = ((i + 1 : Nat) : Int) := by rw [w64 (by omega) (by omega)]; rfl
    obtain ⟨n0, h1, h2, h3, h4⟩ := few_first l[i] (l.drop (i + 1)) (by rw [← ed]; exact hcd) v N (by rw [← ed]; exact hf)
    obtain ⟨ns, g1, g2, g3⟩ := ih (i + 1) (A ++ [(n0 : Int)]) (v - n0 * l[i].toNat) (N - n0) (by omega) (by simp; omega) (by omega) (by omega) h3
    refine ⟨(n0 : Int) :: ns, by simp; omega, ?_, ?_⟩
    · subst hA
      have g2' : Ev (fun k => spec_BestChange.l0 k l ((v - n0 * l[A.length].toNat : Nat) : Int) (A ++ (n0 : Int) :: List.replicate (l.length - (A.length + 1)) 0) ((N - n0 : Nat) : Int) l (l.length : Int) ((A.length + 1 : Nat) : Int)) (A ++ (n0 : Int) :: ns, true) := by simpa using g2
      have h5 := best_spec_in l l (l.length : Int) (l.drop (A.length + 1)) l[A.length] hci v v N n0 (by omega) (by omega) h1 hle h2 h3 h4 A _ (by omega) _ g2' n0 0 (by omega) (by omega)
      refine Ev.step (f := fun k => (spec_cnFewer.f k (l.drop (A.length + 1)) (v : Int)).bind fun t => spec_BestChange.l1 k l (v : Int) (A ++ List.replicate (l.length - A.length) 0) (N : Int) (A.length : Int) l[A.length] t l (l.length : Int) (A.length : Int)) (fun k => ?_) ?_
      · rw [spec_BestChange.l0, if_pos (by omega), if_pos (by omega), if_pos (by omega), w1, if_pos (by omega), if_pos (by omega), Int.toNat_natCast, rd_eq l _ hil]
      · refine Ev.bind (cnFewer_ev (l.drop (A.length + 1)) (fun x hx => hc x (List.mem_of_mem_drop hx)) (by simp; omega) v (by omega)) ?_
        rw [show l.length - A.length = (l.length - (A.length + 1)) + 1 by omega, List.replicate_succ]
        simpa using h5
    · have h5 := best_impl_in l hl hc i hil m v N n0 hm hv h1 hle hf h2 h3 h4 A (by omega) (A ++ (n0 : Int) :: ns, true) (by simpa using g3) n0 0 (by omega) (by omega)
      refine Ev.step (fun k => ?_) h5
      rw [impl_BestChange.l1, if_pos (by omega), if_pos (by omega), if_pos (by omega), rd_eq l _ hil]
      rfl
end
theorem BestChange_ev (l : List Int) (a : Int) (hl : l.length ≤ 35184372088832) : ∃ r : List Int × Bool, r.1.length ≤ 8 ∧ Ev (fun k => spec_BestChange.f k l a) r ∧ Ev (fun k => impl_BestChange.f k l a) r := by
  unfold spec_BestChange.f impl_BestChange.f impl_FewestCoins.f
  have hb1 := cnAsked_ev l a hl
  have hb2 := isAmount_ev l a hl
  have no1 : Ev (fun k => spec_BestChange.j0 k l a true) (([] : List Int), false) := Ev.one fun k => by rw [spec_BestChange.j0, if_pos rfl]
  cases hb : (coinsB l && decide (0 ≤ a ∧ a ≤ 20000)) with
  | false =>
    rw [hb] at hb1 hb2
    exact ⟨([], false), by simp, Ev.bind hb1 (Ev.if_neg' (by simp) no1), Ev.bind (Ev.bind hb2 (Ev.if_neg' (by simp) (Ev.now (0, false)))) (Ev.if_neg' (by simp) (Ev.now _))⟩
  | true =>
    rw [hb] at hb1 hb2
    simp only [Bool.and_eq_true, decide_eq_true_eq] at hb
    obtain ⟨hco, ha⟩ := hb
    obtain ⟨m, rfl⟩ : ∃ m : Nat, a = m := ⟨a.toNat, by omega⟩
    have hc := coins_mem hco
    have hlen := coins_len hco
    have hle := few_le l (fun x hx => (hc x hx).1) m
    have hS := cnFew_ev l hc hl m (by omega)
    have hP := fewStamps_ev l hc hl m (by omega)
    cases hf : few l m with
    | none =>
      refine ⟨([], false), by simp, Ev.bind hb1 (Ev.if_pos' rfl (Ev.bind hS (Ev.if_pos' (by omega) (Ev.if_pos' (by simp [fewT_length]; omega) ?_)))), Ev.bind (a := ((0 : Int), false)) (Ev.bind hb2 (Ev.if_pos' rfl (Ev.bind hP (Ev.if_pos' (by omega) (Ev.if_pos' (by simp [fewT_length]; omega) ?_))))) (Ev.if_neg' (by simp) (Ev.now _))⟩
      · rw [tab_rd encS l m m (by omega), hf]; exact no1
      · rw [tab_rd (encP m) l m m (by omega), hf]; exact Ev.if_pos' (by simp only [encP]; omega) (Ev.now _)
    | some N =>
      have := hle N hf
      obtain ⟨ns, g1, g2, g3⟩ := best_out l hlen.2 hc m (by omega) l.length 0 [] m N (by omega) rfl (by omega) (by omega) (by simpa using hf)
      refine ⟨(ns, true), by simp only; omega, Ev.bind hb1 (Ev.if_pos' rfl (Ev.bind hS (Ev.if_pos' (by omega) (Ev.if_pos' (by simp [fewT_length]; omega) ?_)))), Ev.bind (a := ((N : Int), true)) (Ev.bind hb2 (Ev.if_pos' rfl (Ev.bind hP (Ev.if_pos' (by omega) (Ev.if_pos' (by simp [fewT_length]; omega) ?_))))) (Ev.if_pos' rfl ?_)⟩
      · rw [tab_rd encS l m m (by omega), hf, show decide (encS (some N) < 0) = false from decide_eq_false (by simp only [encS]; omega)]
        refine Ev.step (f := fun k => (spec_cnFew.f k l (m : Int)).bind fun t => (if 0 ≤ (m : Int) then (if (m : Int) < (t.length : Int) then spec_BestChange.l0 k l (m : Int) (List.replicate l.length 0) (rd t (m : Int)) l (l.length : Int) 0 else none) else none)) (fun k => ?_) ?_
        · rw [spec_BestChange.j0, if_neg (by simp), if_pos (by omega), if_pos (by omega), Int.toNat_natCast]
        · refine Ev.bind hS (Ev.if_pos' (by omega) (Ev.if_pos' (by simp [fewT_length]; omega) ?_))
          rw [tab_rd encS l m m (by omega), hf]
          simpa [encS] using g2
      · rw [tab_rd (encP m) l m m (by omega), hf]; exact Ev.if_neg' (by simp only [encP]; omega) (Ev.now _)
      · have w1 : wrap64 ((l.length : Int) + 1) = ((l.length + 1 : Nat) : Int) := by rw [w64 (by omega) (by omega)]; rfl
        rw [w1]
        refine Ev.if_pos' (by omega) (Ev.if_pos' (by omega) ?_)
        have := best_tabs l hlen.2 hc m (by omega) (ns, true) (by simpa using g3) l.length 0 (by omega) (by omega)
        simpa [tabs] using this

theorem FnExactBestChange : laws_FnExactBestChange.Pure := by
  intro l a _ _ _ _
  by_cases h : (l.length : Int) > 1048576
  · exact ⟨0, by unfold laws_FnExactBestChange.f; rw [if_pos h]⟩
  have hl : l.length ≤ 35184372088831 := by omega
  obtain ⟨r, hr, hs, hi⟩ := BestChange_ev l a (by omega)
  have hl' : l.length ≤ 35184372088832 := by omega
  have hr1 : r.1.length ≤ 35184372088831 := by omega
  have hr2 : r.1.length ≤ 35184372088832 := by omega
  have ne : (r.2 != r.2) = false := by simp
  apply Ev.rounds
  unfold laws_FnExactBestChange.f
  refine Ev.if_neg' h (Ev.bind (toIntS_ev l hl') (Ev.bind hs (Ev.bind (toIntS_ev l hl') (Ev.bind hi (Ev.bind (eqIntS_self r.1 hr2) (Ev.if_pos' rfl ?_))))))
  rw [ne]
  refine Ev.step (fun k => by rw [laws_FnExactBestChange.j0, if_neg (by simp)]) ?_
  refine Ev.bind (toIntS_ev l hl') (Ev.bind (eqIntS_self l hl') (Ev.if_pos' rfl (Ev.bind (mark_ev l hl) (Ev.if_neg' (by simp only; omega) (Ev.bind (eqIntS_self r.1 hr2) (Ev.if_pos' rfl ?_))))))
  rw [ne]
  refine Ev.step (fun k => by rw [laws_FnExactBestChange.j1, if_neg (by simp)]) ?_
  refine Ev.bind (mark_ev r.1 hr1) (Ev.bind (held_ev r.1.length hr1) (Ev.if_neg' (by omega) (Ev.if_pos' rfl (Ev.bind (toIntS_ev l hl') (Ev.bind hi (Ev.bind (eqIntS_self r.1 hr2) (Ev.if_pos' rfl ?_)))))))
  rw [ne]
  refine Ev.step (fun k => by rw [laws_FnExactBestChange.j2, if_neg (by simp)]) ?_
  exact Ev.bind (held_ev r.1.length hr1) (Ev.if_neg' (by omega) (Ev.if_pos' rfl (Ev.now _)))


end Go.Proofs.Ytohghfeomocnlaa.Pure
