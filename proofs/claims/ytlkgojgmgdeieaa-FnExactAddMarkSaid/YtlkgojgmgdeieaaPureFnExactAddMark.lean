/- The program's AddMark answers as the reference's does, for every list and place. -/
import Derived.Test.YtlkgojgmgdeieaaDrop0
import Derived.Test.YtlkgojgmgdeieaaMark
import Derived.Test.YtlkgojgmgdeieaaGx32
import Derived.Test.YtlkgojgmgdeieaaGx23
import Derived.Test.YtlkgojgmgdeieaaGx31
namespace Go.Proofs.Ytlkgojgmgdeieaa.Pure
open Go.RowKit Go.Proofs.Ytlkgojgmgdeieaa.G Go.Proofs.YtlkgojgmgdeieaaW.PrintWords Go.Proofs.YtlkgojgmgdeieaaW.PrintLast

def sorted (l : List Int) (a : Int) : List Int := (l ++ [a]).mergeSort (fun x y => decide (x ≤ y))
theorem put_eq (l : List Int) (a : Int) (i : Nat) (hp : l.Pairwise (· < ·)) (h1 : ∀ x ∈ l.take i, x < a) (h2 : ∀ x ∈ l.drop i, a < x) : l.take i ++ [a] ++ l.drop i = sorted l a := by
  have hs := List.pairwise_mergeSort (le := fun x y : Int => decide (x ≤ y)) (fun a b c h1 h2 => by simp at *; omega) (fun a b => by simp; omega) (l ++ [a])
  have hperm : (sorted l a).Perm (l ++ [a]) := List.mergeSort_perm _ _
  refine List.Perm.eq_of_pairwise (le := fun x y : Int => x ≤ y) (fun x y _ _ h1 h2 => by omega) ?_ (hs.imp (fun h => of_decide_eq_true h)) ?_
  · have hp' : (l.take i ++ l.drop i).Pairwise (· < ·) := by rw [List.take_append_drop]; exact hp
    obtain ⟨p1, p2, _⟩ := List.pairwise_append.1 hp'
    rw [List.append_assoc, List.pairwise_append]
    refine ⟨p1.imp (fun h => Int.le_of_lt h), ?_, ?_⟩
    · rw [List.singleton_append, List.pairwise_cons]
      exact ⟨fun x hx => Int.le_of_lt (h2 x hx), p2.imp (fun h => Int.le_of_lt h)⟩
    · intro x hx y hy
      have := h1 x hx
      rcases List.mem_append.1 hy with hy | hy
      · have : y = a := by simpa using hy
        omega
      · have := h2 y hy; omega
  · refine List.Perm.trans ?_ hperm.symm
    rw [List.append_assoc, List.singleton_append]
    refine List.perm_middle.trans ?_
    rw [List.take_append_drop]
    exact (List.perm_append_singleton a l).symm
theorem Put_loop (l : List Int) (a : Int) (hl : l.length ≤ 1000) (hp : l.Pairwise (· < ·)) (hn : a ∉ l) (d : Nat) : ∀ i : Nat, l.length - i = d → i ≤ l.length → (∀ x ∈ l.take i, x < a) →
    Ev (fun k => spec_l1Put.l0 k l a (i : Int)) (sorted l a) := by
  have big : ∀ i : Nat, (([] : List Int).length + (l.take i).length < 17592186044416) ∧ ((([] : List Int) ++ l.take i).length < 17592186044416) ∧ ((([] : List Int) ++ l.take i ++ [a]).length + (l.drop i).length < 17592186044416) := by
    intro i
    simp only [List.length_nil, List.nil_append, List.length_append, List.length_take, List.length_drop, List.length_singleton]
    omega
  induction d with
  | zero =>
    intro i hd hi ht
    obtain ⟨b1, b2, b3⟩ := big i
    refine Ev.one fun k => ?_
    rw [spec_l1Put.l0, if_neg (by omega)]
    simp only [Option.bind_some, Int.toNat_natCast]
    rw [if_pos (by omega), if_pos (by omega), if_pos b1, if_pos b2, if_pos b3]
    have := put_eq l a i hp ht (fun x hx => by rw [List.drop_of_length_le (by omega)] at hx; simp at hx)
    rw [List.nil_append, this]
  | succ d ih =>
    intro i hd hi ht
    obtain ⟨b1, b2, b3⟩ := big i
    have hil : i < l.length := by omega
    have hne : ¬ l[i] = a := fun e => hn (by rw [← e]; exact List.getElem_mem _)
    by_cases h : l[i] < a
    · refine Ev.step (fun k => ?_) (ih (i + 1) (by omega) (by omega) (fun x hx => ?_))
      · rw [spec_l1Put.l0, if_pos (by omega), if_pos (by omega), if_pos (by rw [rd_eq l i hil]; exact h), w64 (by omega) (by omega)]; rfl
      · rw [List.take_succ_eq_append_getElem hil] at hx
        rcases List.mem_append.1 hx with hx | hx
        · exact ht x hx
        · have : x = l[i] := by simpa using hx
          omega
    · refine Ev.one fun k => ?_
      rw [spec_l1Put.l0, if_pos (by omega), if_pos (by omega), if_neg (by rw [rd_eq l i hil]; exact h), if_neg (by rw [rd_eq l i hil]; exact hne)]
      simp only [Option.bind_some, Int.toNat_natCast]
      rw [if_pos (by omega), if_pos b1, if_pos b2, if_pos b3]
      have := put_eq l a i hp ht (fun x hx => by
        rw [List.drop_eq_getElem_cons hil] at hx
        rcases List.mem_cons.1 hx with rfl | hx
        · omega
        · obtain ⟨q, hq, rfl⟩ := List.mem_iff_getElem.1 hx
          rw [List.length_drop] at hq
          rw [List.getElem_drop]
          have := List.pairwise_iff_getElem.1 hp i (i + 1 + q) hil (by omega) (by omega)
          omega)
      rw [List.nil_append, this]
theorem Contains_ev (l : List Int) (a : Int) (hl : l.length ≤ 35184372088832) : Ev (fun k => slices_Contains_int_int.f k l a) (decide (a ∈ l)) := by
  obtain ⟨t, ht, hq⟩ := Index_ev l a hl
  unfold slices_Contains_int_int.f
  refine Ev.bind ht ?_
  have e : decide (a ∈ l) = decide (t ≥ 0) := by
    rw [decide_eq_decide]
    rcases hq with ⟨rfl, hn⟩ | ⟨q, rfl, hql, he⟩
    · constructor
      · intro h; exact absurd h hn
      · intro h; omega
    · constructor
      · intro _; omega
      · intro _; rw [← he]; exact List.getElem_mem _
  rw [e]; exact Ev.now _
theorem AddMark_ev (l : List Int) (a : Int) (hl : l.length ≤ 35184372088832) : ∃ r : List Int × Bool, Ev (fun k => spec_AddMark.f k l a) r ∧ Ev (fun k => impl_AddMark.f k l a) r ∧ r.1.length ≤ 1000 := by
  unfold spec_AddMark.f impl_AddMark.f
  cases hb : innerB l a with
  | false => exact ⟨([], false), Ev.bind (ruInner_ev l a hl) (Ev.if_neg' (by simp [hb]) (Ev.now _)), Ev.bind (isInner_ev l a hl) (Ev.if_neg' (by simp [hb]) (Ev.now _)), by simp⟩
  | true =>
    have hr : rulerB l = true := by simp only [innerB, Bool.and_eq_true] at hb; exact hb.1
    have h61 := ruler_len hr
    have h2 := ruler_two hr
    by_cases hm : a ∈ l
    · exact ⟨([], false), Ev.bind (ruInner_ev l a hl) (Ev.if_pos' hb (Ev.bind (l1Has_ev l a hl) (Ev.if_pos' (by simp [hm]) (Ev.now _)))), Ev.bind (isInner_ev l a hl) (Ev.if_pos' hb (Ev.bind (Contains_ev l a hl) (Ev.if_pos' (by simp [hm]) (Ev.now _)))), by simp⟩
    · refine ⟨(sorted l a, true), Ev.bind (ruInner_ev l a hl) (Ev.if_pos' hb (Ev.bind (l1Has_ev l a hl) (Ev.if_neg' (by simp [hm]) (Ev.bind (?_ : Ev (fun k => spec_l1Put.f k l a) (sorted l a)) (Ev.now _))))),
        Ev.bind (isInner_ev l a hl) (Ev.if_pos' hb (Ev.bind (Contains_ev l a hl) (Ev.if_neg' (by simp [hm]) ?_))), ?_⟩
      · unfold spec_l1Put.f
        exact Put_loop l a (by omega) (rises_pairwise l (ruler_rises hr)) hm l.length 0 (by omega) (by omega) (by simp)
      · rw [if_pos ⟨by omega, by omega⟩]; exact Ev.now _
      · simp only [sorted, List.length_mergeSort, List.length_append, List.length_singleton]; omega
theorem FnExactAddMark : laws_FnExactAddMark.Pure := by
  intro l a _ _ _ _
  by_cases h : (l.length : Int) > 1048576
  · exact ⟨0, by unfold laws_FnExactAddMark.f; rw [if_pos h]⟩
  have hl : l.length ≤ 35184372088831 := by omega
  obtain ⟨r, hs, hi, hr⟩ := AddMark_ev l a (by omega)
  have hl' : l.length ≤ 35184372088832 := by omega
  have hr1 : r.1.length ≤ 35184372088831 := by omega
  have hr2 : r.1.length ≤ 35184372088832 := by omega
  have ne : (r.2 != r.2) = false := by simp
  apply Ev.rounds
  unfold laws_FnExactAddMark.f
  refine Ev.if_neg' h (Ev.bind (toIntS_ev l hl') (Ev.bind hs (Ev.bind (toIntS_ev l hl') (Ev.bind hi (Ev.bind (eqIntS_self r.1 hr2) (Ev.if_pos' rfl ?_))))))
  rw [ne]
  refine Ev.step (fun k => by rw [laws_FnExactAddMark.j0, if_neg (by simp)]) ?_
  refine Ev.bind (toIntS_ev l hl') (Ev.bind (eqIntS_self l hl') (Ev.if_pos' rfl (Ev.bind (mark_ev l hl) (Ev.if_neg' (by simp only; omega) (Ev.bind (eqIntS_self r.1 hr2) (Ev.if_pos' rfl ?_))))))
  rw [ne]
  refine Ev.step (fun k => by rw [laws_FnExactAddMark.j1, if_neg (by simp)]) ?_
  refine Ev.bind (mark_ev r.1 hr1) (Ev.bind (held_ev r.1.length hr1) (Ev.if_neg' (by omega) (Ev.if_pos' rfl (Ev.bind (toIntS_ev l hl') (Ev.bind hi (Ev.bind (eqIntS_self r.1 hr2) (Ev.if_pos' rfl ?_)))))))
  rw [ne]
  refine Ev.step (fun k => by rw [laws_FnExactAddMark.j2, if_neg (by simp)]) ?_
  exact Ev.bind (held_ev r.1.length hr1) (Ev.if_neg' (by omega) (Ev.if_pos' rfl (Ev.now _)))


end Go.Proofs.Ytlkgojgmgdeieaa.Pure
