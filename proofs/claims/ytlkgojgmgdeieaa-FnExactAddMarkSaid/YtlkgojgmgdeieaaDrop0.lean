/- Plain lemmas: a list without one of its marks, by the program and by the reference. -/
import Derived.Test.YtlkgojgmgdeieaaRule0
import Derived.Test.YtlkgojgmgdeieaaGx15
import Derived.Test.YtlkgojgmgdeieaaGx16
namespace Go.Proofs.Ytlkgojgmgdeieaa.Pure
open Go.RowKit Go.Proofs.Ytlkgojgmgdeieaa.G Go.Proofs.YtlkgojgmgdeieaaW.PrintWords Go.Proofs.YtlkgojgmgdeieaaW.PrintLast

theorem Index_loop (l : List Int) (a : Int) (hl : l.length ≤ 35184372088832) (d : Nat) : ∀ i : Nat, l.length - i = d → i ≤ l.length →
    ∃ r : Int, Ev (fun k => slices_Index_int_int.l0 k l a (l.length : Int) (i : Int)) r ∧ ((r = -1 ∧ a ∉ l.drop i) ∨ ∃ q : Nat, r = (q : Int) ∧ ∃ h : q < l.length, l[q] = a) := by
  induction d with
  | zero =>
    intro i hd hi
    refine ⟨-1, Ev.one fun k => by rw [slices_Index_int_int.l0, if_neg (by omega)], .inl ⟨rfl, ?_⟩⟩
    rw [List.drop_of_length_le (by omega)]; simp
  | succ d ih =>
    intro i hd hi
    have hil : i < l.length := by omega
    by_cases h : a = l[i]
    · exact ⟨(i : Int), Ev.one fun k => by rw [slices_Index_int_int.l0, if_pos (by omega), if_pos (by omega), if_pos (by omega), if_pos (by rw [rd_eq l i hil]; exact h)], .inr ⟨i, rfl, hil, h.symm⟩⟩
    · obtain ⟨r, hr, hq⟩ := ih (i + 1) (by omega) (by omega)
      refine ⟨r, Ev.step (fun k => ?_) hr, ?_⟩
      · rw [slices_Index_int_int.l0, if_pos (by omega), if_pos (by omega), if_pos (by omega), if_neg (by rw [rd_eq l i hil]; exact h), w64 (by omega) (by omega)]; rfl
      · rcases hq with ⟨h1, h2⟩ | h1
        · refine .inl ⟨h1, ?_⟩
          rw [List.drop_eq_getElem_cons hil]
          intro hm
          rcases List.mem_cons.1 hm with e | e
          · exact h e
          · exact h2 e
        · exact .inr h1
theorem Index_ev (l : List Int) (a : Int) (hl : l.length ≤ 35184372088832) :
    ∃ r : Int, Ev (fun k => slices_Index_int_int.f k l a) r ∧ ((r = -1 ∧ a ∉ l) ∨ ∃ q : Nat, r = (q : Int) ∧ ∃ h : q < l.length, l[q] = a) := by
  unfold slices_Index_int_int.f
  exact Index_loop l a hl l.length 0 (by omega) (by omega)
theorem l1Has_loop (l : List Int) (a : Int) (hl : l.length ≤ 35184372088832) (d : Nat) : ∀ i : Nat, l.length - i = d → i ≤ l.length →
    Ev (fun k => spec_l1Has.l0 k a l (l.length : Int) (i : Int)) (decide (a ∈ l.drop i)) := by
  induction d with
  | zero =>
    intro i hd hi
    rw [List.drop_of_length_le (by omega)]
    exact Ev.one fun k => by rw [spec_l1Has.l0, if_neg (by omega)]; rfl
  | succ d ih =>
    intro i hd hi
    have hil : i < l.length := by omega
    have hm : a ∈ l.drop i ↔ (l[i] = a ∨ a ∈ l.drop (i + 1)) := by
      rw [List.drop_eq_getElem_cons hil, List.mem_cons, eq_comm]
    by_cases h : l[i] = a
    · rw [decide_eq_true (hm.2 (.inl h))]
      exact Ev.one fun k => by rw [spec_l1Has.l0, if_pos (by omega), if_pos (by omega), if_pos (by omega), if_pos (by rw [rd_eq l i hil]; exact h)]
    · have e : decide (a ∈ l.drop i) = decide (a ∈ l.drop (i + 1)) := by
        simp only [hm, h, false_or]
      rw [e]
      refine Ev.step (fun k => ?_) (ih (i + 1) (by omega) (by omega))
      rw [spec_l1Has.l0, if_pos (by omega), if_pos (by omega), if_pos (by omega), if_neg (by rw [rd_eq l i hil]; exact h), w64 (by omega) (by omega)]; rfl
theorem l1Has_ev (l : List Int) (a : Int) (hl : l.length ≤ 35184372088832) : Ev (fun k => spec_l1Has.f k l a) (decide (a ∈ l)) := by
  unfold spec_l1Has.f
  simpa using l1Has_loop l a hl l.length 0 (by omega) (by omega)
/-- The list without a mark. -/
def dropped (l : List Int) (a : Int) : List Int := l.filter (fun x => !decide (x = a))
theorem ruDrop_loop (l : List Int) (a : Int) (hl : l.length ≤ 1000000) (d : Nat) : ∀ (i : Nat) (acc : List Int), l.length - i = d → i ≤ l.length → acc.length ≤ i →
    Ev (fun k => spec_ruDrop.l0 k a acc l (l.length : Int) (i : Int)) (acc ++ dropped (l.drop i) a) := by
  induction d with
  | zero =>
    intro i acc hd hi ha
    rw [List.drop_of_length_le (by omega)]
    exact Ev.one fun k => by rw [spec_ruDrop.l0, if_neg (by omega)]; simp [dropped]
  | succ d ih =>
    intro i acc hd hi ha
    have hil : i < l.length := by omega
    rw [List.drop_eq_getElem_cons hil]
    by_cases h : l[i] = a
    · have e : dropped (l[i] :: l.drop (i + 1)) a = dropped (l.drop (i + 1)) a := by
        unfold dropped; rw [List.filter_cons, if_neg (by simp [h])]
      rw [e]
      refine Ev.step (fun k => ?_) (ih (i + 1) acc (by omega) (by omega) (by omega))
      rw [spec_ruDrop.l0, if_pos (by omega), if_pos (by omega), if_pos (by omega), if_pos (by rw [rd_eq l i hil]; exact h), w64 (by omega) (by omega)]; rfl
    · have e : acc ++ dropped (l[i] :: l.drop (i + 1)) a = (acc ++ [l[i]]) ++ dropped (l.drop (i + 1)) a := by
        unfold dropped; rw [List.filter_cons, if_pos (by simp [h])]; simp
      rw [e]
      refine Ev.step (fun k => ?_) (ih (i + 1) (acc ++ [l[i]]) (by omega) (by omega) (by simp; omega))
      rw [spec_ruDrop.l0, if_pos (by omega), if_pos (by omega), if_pos (by omega), if_neg (by rw [rd_eq l i hil]; exact h), if_pos (by omega), rd_eq l i hil, w64 (by omega) (by omega)]; rfl
theorem ruDrop_ev (l : List Int) (a : Int) (hl : l.length ≤ 1000000) : Ev (fun k => spec_ruDrop.f k l a) (dropped l a) := by
  unfold spec_ruDrop.f
  have := ruDrop_loop l a hl l.length 0 [] (by omega) (by omega) (by simp)
  rwa [List.drop_zero, List.nil_append] at this
theorem erase_eq (a : Int) : ∀ (l : List Int), l.Pairwise (· < ·) → ∀ (q : Nat) (h : q < l.length), l[q] = a → l.eraseIdx q = dropped l a
  | [], _, q, h, _ => absurd h (by simp)
  | x :: t, hp, 0, _, he => by
    have he : x = a := he
    subst he
    rw [List.eraseIdx_cons_zero, dropped, List.filter_cons, if_neg (by simp)]
    symm
    rw [List.filter_eq_self]
    intro y hy
    have := (List.pairwise_cons.1 hp).1 y hy
    have hne : ¬ y = x := by omega
    simp [hne]
  | x :: t, hp, q + 1, h, he => by
    have hq : q < t.length := by simpa using h
    have he : t[q] = a := he
    have := (List.pairwise_cons.1 hp).1 t[q] (List.getElem_mem _)
    have hne : ¬ x = a := by omega
    rw [List.eraseIdx_cons_succ, erase_eq a t (List.pairwise_cons.1 hp).2 q hq he, dropped, dropped, List.filter_cons, if_pos (by simp [hne])]
theorem without_eq (l : List Int) (q : Nat) (h : q < l.length) (hl : l.length ≤ 1000000) : impl_without.f l (q : Int) = some (l.eraseIdx q) := by
  unfold impl_without.f
  rw [if_pos ⟨hl, by omega, by omega⟩, Int.toNat_natCast]

end Go.Proofs.Ytlkgojgmgdeieaa.Pure
