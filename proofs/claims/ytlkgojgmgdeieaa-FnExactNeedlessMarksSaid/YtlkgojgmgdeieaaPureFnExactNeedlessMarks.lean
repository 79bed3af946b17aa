/- The program's NeedlessMarks answers as the reference's does, for every list. -/
import Derived.Test.YtlkgojgmgdeieaaDrop0
import Derived.Test.YtlkgojgmgdeieaaRule1
import Derived.Test.YtlkgojgmgdeieaaMark
import Derived.Test.YtlkgojgmgdeieaaGx22
import Derived.Test.YtlkgojgmgdeieaaGx20
import Derived.Test.YtlkgojgmgdeieaaGx21
namespace Go.Proofs.Ytlkgojgmgdeieaa.Pure
open Go.RowKit Go.Proofs.Ytlkgojgmgdeieaa.G Go.Proofs.YtlkgojgmgdeieaaW.PrintWords Go.Proofs.YtlkgojgmgdeieaaW.PrintLast

theorem Equal_loop (a b : List Int) (hab : a.length = b.length) (hl : a.length ≤ 35184372088832) (d : Nat) : ∀ (i : Nat), a.length - i = d → i ≤ a.length →
    Ev (fun k => slices_Equal_int_int.l0 k a b (a.length : Int) (i : Int)) (decide (a.drop i = b.drop i)) := by
  induction d with
  | zero =>
    intro i hd hi
    refine Ev.one fun k => ?_
    rw [slices_Equal_int_int.l0, if_neg (by omega), List.drop_of_length_le (by omega), List.drop_of_length_le (by omega)]
    simp
  | succ d ih =>
    intro i hd hi
    have hi' : i < a.length := by omega
    have h := ih (i + 1) (by omega) (by omega)
    have hib : i < b.length := by omega
    rw [List.drop_eq_getElem_cons hi', List.drop_eq_getElem_cons hib]
    by_cases he : a[i] = b[i]
    · refine Ev.step (fun k => ?_) (by simp only [he, List.cons.injEq, true_and]; exact h)
      rw [slices_Equal_int_int.l0, if_pos (by omega), if_pos (by omega), if_pos (by omega), if_pos (by omega), if_pos (by rw [rd_eq a i hi', rd_eq b i hib, he]), w64 (by omega) (by omega)]
      rfl
    · refine Ev.one fun k => ?_
      rw [slices_Equal_int_int.l0, if_pos (by omega), if_pos (by omega), if_pos (by omega), if_pos (by omega), if_neg (by rw [rd_eq a i hi', rd_eq b i hib]; exact he)]
      rw [decide_eq_false (fun e => he (List.cons.inj e).1)]
theorem Equal_ev (a b : List Int) (hl : a.length ≤ 35184372088832) : Ev (fun k => slices_Equal_int_int.f k a b) (decide (a = b)) := by
  unfold slices_Equal_int_int.f
  by_cases h : a.length = b.length
  · refine Ev.if_pos' (by omega) ?_
    simpa using Equal_loop a b h hl a.length 0 (by omega) (by omega)
  · refine Ev.if_neg' (by omega) ?_
    rw [decide_eq_false (fun e => h (by rw [e]))]
    exact Ev.now _
theorem Same_loop (a b : List Int) (hab : a.length = b.length) (hl : a.length ≤ 35184372088832) (d : Nat) : ∀ (i : Nat), a.length - i = d → i ≤ a.length →
    Ev (fun k => spec_l1Same.l0 k a b (a.length : Int) (i : Int)) (decide (a.drop i = b.drop i)) := by
  induction d with
  | zero =>
    intro i hd hi
    refine Ev.one fun k => ?_
    rw [spec_l1Same.l0, if_neg (by omega), List.drop_of_length_le (by omega), List.drop_of_length_le (by omega)]
    simp
  | succ d ih =>
    intro i hd hi
    have hi' : i < a.length := by omega
    have h := ih (i + 1) (by omega) (by omega)
    have hib : i < b.length := by omega
    rw [List.drop_eq_getElem_cons hi', List.drop_eq_getElem_cons hib]
    by_cases he : a[i] = b[i]
    · refine Ev.step (fun k => ?_) (by simp only [he, List.cons.injEq, true_and]; exact h)
      rw [spec_l1Same.l0, if_pos (by omega), if_pos (by omega), if_pos (by omega), if_pos (by omega), if_pos (by rw [rd_eq a i hi', rd_eq b i hib, he]), w64 (by omega) (by omega)]
      rfl
    · refine Ev.one fun k => ?_
      rw [spec_l1Same.l0, if_pos (by omega), if_pos (by omega), if_pos (by omega), if_pos (by omega), if_neg (by rw [rd_eq a i hi', rd_eq b i hib]; exact he)]
      rw [decide_eq_false (fun e => he (List.cons.inj e).1)]
theorem Same_ev (a b : List Int) (hl : a.length ≤ 35184372088832) : Ev (fun k => spec_l1Same.f k a b) (decide (a = b)) := by
  unfold spec_l1Same.f
  by_cases h : a.length = b.length
  · refine Ev.if_pos' (by omega) ?_
    simpa using Same_loop a b h hl a.length 0 (by omega) (by omega)
  · refine Ev.if_neg' (by omega) ?_
    rw [decide_eq_false (fun e => h (by rw [e]))]
    exact Ev.now _
/-- A ruler without a mark between its ends. -/
theorem good_dropped (l : List Int) (h : Good l) (q : Nat) (h1 : 1 ≤ q) (h2 : q + 1 < l.length) : Good (dropped l l[q]) := by
  refine ⟨?_, h.up.filter _, fun x hx => h.mem x (List.mem_filter.1 hx).1⟩
  have hm : l[0] ∈ dropped l l[q] := by
    unfold dropped
    rw [List.mem_filter]
    refine ⟨List.getElem_mem _, ?_⟩
    have := List.pairwise_iff_getElem.1 h.up 0 q (by omega) (by omega) (by omega)
    have hne : ¬ l[0] = l[q] := by omega
    simp [hne]
  exact List.length_pos_of_mem hm
/-- Is a mark needless. -/
def needless (l : List Int) (m : Int) : Bool := decide (with_ (dropped l m) true = with_ l true)
def inner (l : List Int) : List Int := (l.take (l.length - 1)).drop 1
theorem inner_length (l : List Int) : (inner l).length = l.length - 1 - 1 := by unfold inner; rw [List.length_drop, List.length_take]; omega
theorem inner_get (l : List Int) (i : Nat) (h : i < (inner l).length) : (inner l)[i] = l[i + 1]'(by rw [inner_length] at h; omega) := by
  have h1 : i + 1 < l.length := by rw [inner_length] at h; omega
  have e : (inner l)[i]? = l[i + 1]? := by
    unfold inner
    rw [List.getElem?_drop, List.getElem?_take, if_pos (by rw [inner_length] at h; omega), Nat.add_comm]
  rw [List.getElem?_eq_getElem h, List.getElem?_eq_getElem h1] at e
  exact Option.some.inj e
theorem implN_loop (l : List Int) (h : Good l) (hl2 : 2 ≤ l.length) (d : Nat) : ∀ (i : Nat) (acc : List Int), l.length - 1 - i = d → 1 ≤ i → i ≤ l.length - 1 → acc.length ≤ i →
    Ev (fun k => impl_NeedlessMarks.l0 k l acc (i : Int)) (acc ++ ((inner l).drop (i - 1)).filter (needless l), true) := by
  have hl := h.len
  have e1 : wrap64 ((l.length : Int) - 1) = ((l.length - 1 : Nat) : Int) := by rw [w64 (by omega) (by omega)]; omega
  induction d with
  | zero =>
    intro i acc hd h1 hi ha
    refine Ev.one fun k => ?_
    rw [impl_NeedlessMarks.l0, e1, if_neg (by omega), List.drop_of_length_le (by rw [inner_length]; omega)]
    simp
  | succ d ih =>
    intro i acc hd h1 hi ha
    have hil : i < l.length := by omega
    have hii : i - 1 < (inner l).length := by rw [inner_length]; omega
    have hg := good_dropped l h i h1 (by omega)
    have er : (inner l)[i - 1] = l[i] := by rw [inner_get]; congr 1; omega
    rw [List.drop_eq_getElem_cons hii, er, show i - 1 + 1 = i + 1 - 1 by omega, List.filter_cons]
    have ew : impl_without.f l (i : Int) = some (dropped l l[i]) := by rw [without_eq l i hil (by omega), erase_eq l[i] l h.up i hil rfl]
    have hq := Equal_ev (with_ (dropped l l[i]) true) (with_ l true) (by have := with_len _ hg true; omega)
    cases hn : needless l l[i] with
    | true =>
      rw [if_pos rfl]
      have h' := ih (i + 1) (acc ++ [l[i]]) (by omega) (by omega) (by omega) (by simp; omega)
      rw [List.append_assoc, List.singleton_append] at h'
      refine Ev.step (fun k => by rw [impl_NeedlessMarks.l0, e1, if_pos (by omega), ew, Option.bind_some, lengths_eq _ hg, Option.bind_some, lengths_eq _ h, Option.bind_some]) ?_
      refine Ev.bind hq (Ev.if_pos' (by exact hn) (Ev.if_pos' (by omega) (Ev.if_pos' (by omega) (Ev.if_pos' (by omega) ?_))))
      rw [rd_eq l i hil, w64 (by omega) (by omega)]
      exact h'
    | false =>
      rw [if_neg (by simp)]
      have h' := ih (i + 1) acc (by omega) (by omega) (by omega) (by omega)
      refine Ev.step (fun k => by rw [impl_NeedlessMarks.l0, e1, if_pos (by omega), ew, Option.bind_some, lengths_eq _ hg, Option.bind_some, lengths_eq _ h, Option.bind_some]) ?_
      refine Ev.bind hq (Ev.if_neg' (by rw [show decide (with_ (dropped l l[i]) true = with_ l true) = false from hn]; simp) ?_)
      rw [w64 (by omega) (by omega)]
      exact h'
theorem specN_loop (l : List Int) (h : Good l) (hl2 : 2 ≤ l.length) (d : Nat) : ∀ (i : Nat) (acc : List Int), (inner l).length - i = d → i ≤ (inner l).length → acc.length ≤ i →
    Ev (fun k => spec_NeedlessMarks.l0 k l acc (inner l) ((inner l).length : Int) (i : Int)) (acc ++ ((inner l).drop i).filter (needless l), true) := by
  have hl := h.len
  have hil := inner_length l
  induction d with
  | zero =>
    intro i acc hd hi ha
    refine Ev.one fun k => ?_
    rw [spec_NeedlessMarks.l0, if_neg (by omega), List.drop_of_length_le (by omega)]
    simp
  | succ d ih =>
    intro i acc hd hi ha
    have hii : i < (inner l).length := by omega
    have er : (inner l)[i] = l[i + 1]'(by omega) := inner_get l i hii
    have hg := good_dropped l h (i + 1) (by omega) (by omega)
    rw [List.drop_eq_getElem_cons hii, List.filter_cons]
    have hq := Same_ev (with_ (dropped l (inner l)[i]) true) (with_ l true) (by rw [er]; have := with_len _ hg true; omega)
    have hd1 := ruDrop_ev l (inner l)[i] (by omega)
    have hw1 := ruWith_ev (dropped l (inner l)[i]) (by rw [er]; exact hg) true
    have hw2 := ruWith_ev l h true
    cases hn : needless l (inner l)[i] with
    | true =>
      rw [if_pos rfl]
      have h' := ih (i + 1) (acc ++ [(inner l)[i]]) (by omega) (by omega) (by simp; omega)
      rw [List.append_assoc, List.singleton_append] at h'
      refine Ev.step (fun k => by rw [spec_NeedlessMarks.l0, if_pos (by omega), if_pos (by omega), if_pos (by omega), rd_eq (inner l) i hii]) ?_
      refine Ev.bind hd1 (Ev.bind hw1 (Ev.bind hw2 (Ev.bind hq (Ev.if_pos' (by exact hn) (Ev.if_pos' (by omega) ?_)))))
      rw [w64 (by omega) (by omega)]
      exact h'
    | false =>
      rw [if_neg (by simp)]
      have h' := ih (i + 1) acc (by omega) (by omega) (by omega)
      refine Ev.step (fun k => by rw [spec_NeedlessMarks.l0, if_pos (by omega), if_pos (by omega), if_pos (by omega), rd_eq (inner l) i hii]) ?_
      refine Ev.bind hd1 (Ev.bind hw1 (Ev.bind hw2 (Ev.bind hq (Ev.if_neg' (by rw [show decide (with_ (dropped l (inner l)[i]) true = with_ l true) = false from hn]; simp) ?_))))
      rw [w64 (by omega) (by omega)]
      exact h'
theorem NeedlessMarks_ev (l : List Int) (hl : l.length ≤ 35184372088832) : ∃ r : List Int × Bool, Ev (fun k => spec_NeedlessMarks.f k l) r ∧ Ev (fun k => impl_NeedlessMarks.f k l) r ∧ r.1.length ≤ 1000 := by
  unfold spec_NeedlessMarks.f impl_NeedlessMarks.f
  cases hb : rulerB l with
  | false => exact ⟨([], false), Ev.bind (ruGood_ev l hl) (Ev.if_neg' (by simp [hb]) (Ev.now _)), Ev.bind (IsRuler_ev l hl) (Ev.if_neg' (by simp [hb]) (Ev.now _)), by simp⟩
  | true =>
    have hg := ruler_good hb
    have h2 := ruler_two hb
    have h61 := hg.len
    have e1 : wrap64 ((l.length : Int) - 1) = ((l.length - 1 : Nat) : Int) := by rw [w64 (by omega) (by omega)]; omega
    rw [e1, Int.toNat_natCast]
    refine ⟨((inner l).filter (needless l), true), Ev.bind (ruGood_ev l hl) (Ev.if_pos' hb (Ev.if_pos' (by omega) (Ev.if_pos' (by omega) ?_))), Ev.bind (IsRuler_ev l hl) (Ev.if_pos' hb ?_), ?_⟩
    · have := specN_loop l hg h2 (inner l).length 0 [] (by omega) (by omega) (by simp)
      rw [List.drop_zero, List.nil_append] at this
      exact this
    · have := implN_loop l hg h2 (l.length - 1 - 1) 1 [] (by omega) (by omega) (by omega) (by simp)
      rw [Nat.sub_self, List.drop_zero, List.nil_append] at this
      exact this
    · have : ((inner l).filter (needless l)).length ≤ (inner l).length := List.length_filter_le _ _
      have := inner_length l
      simp only; omega
theorem FnExactNeedlessMarks : laws_FnExactNeedlessMarks.Pure := by
  intro l _ _ _
  by_cases h : (l.length : Int) > 1048576
  · exact ⟨0, by unfold laws_FnExactNeedlessMarks.f; rw [if_pos h]⟩
  have hl : l.length ≤ 35184372088831 := by omega
  obtain ⟨r, hs, hi, hr⟩ := NeedlessMarks_ev l (by omega)
  have hl' : l.length ≤ 35184372088832 := by omega
  have hr1 : r.1.length ≤ 35184372088831 := by omega
  have hr2 : r.1.length ≤ 35184372088832 := by omega
  have ne : (r.2 != r.2) = false := by simp
  apply Ev.rounds
  unfold laws_FnExactNeedlessMarks.f
  refine Ev.if_neg' h (Ev.bind (toIntS_ev l hl') (Ev.bind hs (Ev.bind (toIntS_ev l hl') (Ev.bind hi (Ev.bind (eqIntS_self r.1 hr2) (Ev.if_pos' rfl ?_))))))
  rw [ne]
  refine Ev.step (fun k => by rw [laws_FnExactNeedlessMarks.j0, if_neg (by simp)]) ?_
  refine Ev.bind (toIntS_ev l hl') (Ev.bind (eqIntS_self l hl') (Ev.if_pos' rfl (Ev.bind (mark_ev l hl) (Ev.if_neg' (by simp only; omega) (Ev.bind (eqIntS_self r.1 hr2) (Ev.if_pos' rfl ?_))))))
  rw [ne]
  refine Ev.step (fun k => by rw [laws_FnExactNeedlessMarks.j1, if_neg (by simp)]) ?_
  refine Ev.bind (mark_ev r.1 hr1) (Ev.bind (held_ev r.1.length hr1) (Ev.if_neg' (by omega) (Ev.if_pos' rfl (Ev.bind (toIntS_ev l hl') (Ev.bind hi (Ev.bind (eqIntS_self r.1 hr2) (Ev.if_pos' rfl ?_)))))))
  rw [ne]
  refine Ev.step (fun k => by rw [laws_FnExactNeedlessMarks.j2, if_neg (by simp)]) ?_
  exact Ev.bind (held_ev r.1.length hr1) (Ev.if_neg' (by omega) (Ev.if_pos' rfl (Ev.now _)))


end Go.Proofs.Ytlkgojgmgdeieaa.Pure
