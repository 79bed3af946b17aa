/- Plain lemmas: which lists are rulers, by the program and by the reference. -/
import Derived.Test.YtlkgojgmgdeieaaDoorBase
import Derived.Test.YtlkgojgmgdeieaaDoorGx1
import Derived.Test.YtlkgojgmgdeieaaDoorGx3
namespace Go.Proofs.YtlkgojgmgdeieaaDoor.Pure
open Go.RowKit Go.Proofs.YtlkgojgmgdeieaaDoor.G Go.Proofs.YtlkgojgmgdeieaaDoorW.PrintWords Go.Proofs.YtlkgojgmgdeieaaDoorW.PrintLast

def risesB : List Int → Bool
  | a :: b :: t => decide (a < b) && risesB (b :: t)
  | _ => true
def inB (lo hi : Int) (l : List Int) : Bool := l.all fun x => decide (lo ≤ x) && decide (x ≤ hi)

theorem drop_two (l : List Int) (i : Nat) (h1 : 1 ≤ i) (h : i < l.length) : l.drop (i - 1) = l[i - 1] :: l[i] :: l.drop (i + 1) := by
  rw [List.drop_eq_getElem_cons (by omega : i - 1 < l.length), show i - 1 + 1 = i by omega, List.drop_eq_getElem_cons h]
theorem rises_short (l : List Int) (i : Nat) (h : l.length ≤ i) : risesB (l.drop (i - 1)) = true := by
  have hs : (l.drop (i - 1)).length ≤ 1 := by rw [List.length_drop]; omega
  match l.drop (i - 1), hs with
  | [], _ => rfl
  | [a], _ => rfl

theorem inB_cons (lo hi a : Int) (t : List Int) : inB lo hi (a :: t) = (decide (lo ≤ a ∧ a ≤ hi) && inB lo hi t) := by simp [inB]
theorem rises_loop (l : List Int) (hl : l.length ≤ 35184372088832) (d : Nat) : ∀ (i : Nat), 1 ≤ i → l.length - i = d → i ≤ 35184372088833 →
    Ev (fun k => impl_rises.l0 k l (i : Int)) (risesB (l.drop (i - 1))) := by
  induction d with
  | zero =>
    intro i h1 hd hi
    rw [rises_short l i (by omega)]
    exact Ev.one fun k => by rw [impl_rises.l0, if_neg (by omega)]
  | succ d ih =>
    intro i h1 hd hi
    have hil : i < l.length := by omega
    have e1 : wrap64 ((i : Int) - 1) = ((i - 1 : Nat) : Int) := by rw [w64 (by omega) (by omega)]; omega
    rw [drop_two l i h1 hil, risesB]
    by_cases hc : l[i - 1] < l[i]
    · have h := ih (i + 1) (by omega) (by omega) (by omega)
      rw [show i + 1 - 1 = i by omega, List.drop_eq_getElem_cons hil] at h
      rw [decide_eq_true hc, Bool.true_and]
      refine Ev.step (f := fun k => impl_rises.l0 k l ((i + 1 : Nat) : Int)) (fun k => ?_) h
      rw [impl_rises.l0, if_pos (by omega), e1, if_pos (by omega), if_pos (by omega), if_pos (by omega), rd_eq l i hil, rd_eq l (i - 1) (by omega), if_neg (by omega), w64 (by omega) (by omega)]
      rfl
    · rw [decide_eq_false hc, Bool.false_and]
      refine Ev.one fun k => ?_
      rw [impl_rises.l0, if_pos (by omega), e1, if_pos (by omega), if_pos (by omega), if_pos (by omega), rd_eq l i hil, rd_eq l (i - 1) (by omega), if_pos (by omega)]
theorem rises_ev (l : List Int) (hl : l.length ≤ 35184372088832) : Ev (fun k => impl_rises.f k l) (risesB l) := by
  unfold impl_rises.f
  exact rises_loop l hl (l.length - 1) 1 (by omega) rfl (by omega)

theorem l1Rising_loop (l : List Int) (lo hi : Int) (hl : l.length ≤ 35184372088832) (d : Nat) : ∀ (i : Nat), 1 ≤ i → l.length - i = d → i ≤ 35184372088833 →
    Ev (fun k => spec_l1Rising.l0 k l lo hi l (l.length : Int) (i : Int)) (inB lo hi (l.drop i) && risesB (l.drop (i - 1))) := by
  induction d with
  | zero =>
    intro i h1 hd hi
    rw [rises_short l i (by omega), List.drop_of_length_le (by omega)]
    exact Ev.one fun k => by rw [spec_l1Rising.l0, if_neg (by omega)]; rfl
  | succ d ih =>
    intro i h1 hd hi'
    have hil : i < l.length := by omega
    have e1 : wrap64 ((i : Int) - 1) = ((i - 1 : Nat) : Int) := by rw [w64 (by omega) (by omega)]; omega
    rw [drop_two l i h1 hil, risesB, List.drop_eq_getElem_cons hil]
    rw [inB_cons]
    by_cases hb : lo ≤ l[i] ∧ l[i] ≤ hi
    · rw [decide_eq_true hb, Bool.true_and]
      by_cases hc : l[i - 1] < l[i]
      · have h := ih (i + 1) (by omega) (by omega) (by omega)
        rw [show i + 1 - 1 = i by omega, List.drop_eq_getElem_cons hil] at h
        rw [decide_eq_true hc, Bool.true_and]
        refine Ev.step (f := fun k => spec_l1Rising.l0 k l lo hi l (l.length : Int) ((i + 1 : Nat) : Int)) (fun k => ?_) h
        rw [spec_l1Rising.l0, if_pos (by omega), if_pos (by omega), if_pos (by omega), rd_eq l i hil, l1In_eq, decide_eq_true hb, Option.bind_some, if_pos rfl, if_pos (by omega), e1, if_pos (by omega), if_pos (by omega), rd_eq l (i - 1) (by omega), if_neg (by omega), w64 (by omega) (by omega)]
        rfl
      · rw [decide_eq_false hc, Bool.false_and, Bool.and_false]
        refine Ev.one fun k => ?_
        rw [spec_l1Rising.l0, if_pos (by omega), if_pos (by omega), if_pos (by omega), rd_eq l i hil, l1In_eq, decide_eq_true hb, Option.bind_some, if_pos rfl, if_pos (by omega), e1, if_pos (by omega), if_pos (by omega), rd_eq l (i - 1) (by omega), if_pos (by omega)]
    · rw [decide_eq_false hb, Bool.false_and, Bool.false_and]
      refine Ev.one fun k => ?_
      rw [spec_l1Rising.l0, if_pos (by omega), if_pos (by omega), if_pos (by omega), rd_eq l i hil, l1In_eq, decide_eq_false hb, Option.bind_some, if_neg (by simp)]
theorem l1Rising_ev (l : List Int) (lo hi : Int) (hl : l.length ≤ 35184372088832) : Ev (fun k => spec_l1Rising.f k l lo hi) (inB lo hi l && risesB l) := by
  unfold spec_l1Rising.f
  cases l with
  | nil => exact Ev.one fun k => by rw [spec_l1Rising.l0, if_neg (by simp)]; rfl
  | cons a t =>
    have hil : 0 < (a :: t).length := by simp
    have h := l1Rising_loop (a :: t) lo hi hl ((a :: t).length - 1) 1 (by omega) rfl (by omega)
    rw [inB_cons]
    by_cases hb : lo ≤ a ∧ a ≤ hi
    · rw [decide_eq_true hb, Bool.true_and]
      refine Ev.step (f := fun k => spec_l1Rising.l0 k (a :: t) lo hi (a :: t) ((a :: t).length : Int) ((1 : Nat) : Int)) (fun k => ?_) h
      rw [spec_l1Rising.l0, if_pos (by omega), if_pos (by omega), if_pos (by omega), show rd (a :: t) 0 = a from rfl, l1In_eq, decide_eq_true hb, Option.bind_some, if_pos rfl, if_neg (by omega), w64 (by omega) (by omega)]
      rfl
    · rw [decide_eq_false hb, Bool.false_and, Bool.false_and]
      refine Ev.one fun k => ?_
      rw [spec_l1Rising.l0, if_pos (by omega), if_pos (by omega), if_pos (by omega), show rd (a :: t) 0 = a from rfl, l1In_eq, decide_eq_false hb, Option.bind_some, if_neg (by simp)]
def rulerB (l : List Int) : Bool := decide (2 ≤ l.length) && ((inB 0 60 l && risesB l) && (l.getD 0 0 == 0))
theorem ruGood_ev (l : List Int) (hl : l.length ≤ 35184372088832) : Ev (fun k => spec_ruGood.f k l) (rulerB l) := by
  unfold spec_ruGood.f rulerB
  by_cases h2 : 2 ≤ l.length
  · rw [decide_eq_true h2, Bool.true_and]
    refine Ev.if_pos' (by omega) (Ev.bind (l1Rising_ev l 0 60 hl) ?_)
    cases hb : (inB 0 60 l && risesB l) with
    | true => refine Ev.if_pos' rfl (Ev.if_pos' (by omega) ?_); exact Ev.now _
    | false => refine Ev.if_neg' (by simp) ?_; exact Ev.now _
  · rw [decide_eq_false h2, Bool.false_and]
    exact Ev.if_neg' (by omega) (Ev.now _)
/-- A list that rises lies between its first and its last. -/
theorem rises_in (hi : Int) : ∀ (l : List Int), risesB l = true → ∀ (a : Int) (t : List Int), l = a :: t → (∀ b, l.getLast? = some b → b ≤ hi) → ∀ x ∈ l, a ≤ x ∧ x ≤ hi
  | [], _, _, _, h, _ => by cases h
  | [y], _, a, t, h, hb => by
    obtain ⟨rfl, rfl⟩ := List.cons.inj h
    intro x hx
    obtain rfl : x = y := by simpa using hx
    exact ⟨Int.le_refl _, hb x rfl⟩
  | y :: z :: t', hr, a, t, h, hb => by
    obtain ⟨rfl, rfl⟩ := List.cons.inj h
    rw [risesB, Bool.and_eq_true] at hr
    have hyz := of_decide_eq_true hr.1
    have ih := rises_in hi (z :: t') hr.2 z t' rfl (fun b hb' => hb b (by rw [List.getLast?_cons_cons]; exact hb'))
    intro x hx
    rcases List.mem_cons.1 hx with rfl | hx
    · have := ih z (by simp); exact ⟨Int.le_refl _, by omega⟩
    · have := ih x hx; exact ⟨by omega, this.2⟩
theorem last_get (l : List Int) (h : 0 < l.length) : l.getLast? = some (l.getD (l.length - 1) 0) := by
  rw [List.getLast?_eq_getElem?, List.getElem?_eq_getElem (by omega), List.getD_eq_getElem?_getD, List.getElem?_eq_getElem (by omega)]; rfl
theorem ruler_mem {l : List Int} (h : rulerB l = true) : ∀ x ∈ l, 0 ≤ x ∧ x ≤ 60 := by
  simp only [rulerB, inB, Bool.and_eq_true, List.all_eq_true, decide_eq_true_eq] at h
  exact h.2.1.1
theorem ruler_rises {l : List Int} (h : rulerB l = true) : risesB l = true := by
  simp only [rulerB, Bool.and_eq_true] at h; exact h.2.1.2
theorem ruler_two {l : List Int} (h : rulerB l = true) : 2 ≤ l.length := by
  simp only [rulerB, Bool.and_eq_true, decide_eq_true_eq] at h; exact h.1
theorem ruler_first {l : List Int} (h : rulerB l = true) : l.getD 0 0 = 0 := by
  simp only [rulerB, Bool.and_eq_true, beq_iff_eq] at h; exact h.2.2
theorem rises_pairwise : ∀ (l : List Int), risesB l = true → l.Pairwise (· < ·)
  | [], _ => .nil
  | [_], _ => List.pairwise_singleton _ _
  | a :: b :: t, h => by
    rw [risesB, Bool.and_eq_true] at h
    have hab := of_decide_eq_true h.1
    have ih := rises_pairwise (b :: t) h.2
    refine List.pairwise_cons.2 ⟨fun x hx => ?_, ih⟩
    rcases List.mem_cons.1 hx with rfl | hx
    · exact hab
    · exact Int.lt_trans hab ((List.pairwise_cons.1 ih).1 x hx)
/-- Whole numbers that rise from a to b are b - a + 1 at most. -/
theorem rises_count : ∀ (l : List Int) (lo hi : Int), l.Pairwise (· < ·) → (∀ x ∈ l, lo ≤ x ∧ x ≤ hi) → l = [] ∨ (l.length : Int) ≤ hi - lo + 1
  | [], _, _, _, _ => .inl rfl
  | a :: t, lo, hi, hp, hm => by
    right
    have ha := hm a (by simp)
    rcases rises_count t (a + 1) hi (List.pairwise_cons.1 hp).2 (fun x hx => ⟨by have := (List.pairwise_cons.1 hp).1 x hx; omega, (hm x (by simp [hx])).2⟩) with rfl | h
    · simp; omega
    · simp only [List.length_cons]; omega
theorem ruler_len {l : List Int} (h : rulerB l = true) : l.length ≤ 61 := by
  rcases rises_count l 0 60 (rises_pairwise l (ruler_rises h)) (ruler_mem h) with rfl | h
  · simp
  · omega
theorem IsRuler_ev (l : List Int) (hl : l.length ≤ 35184372088832) : Ev (fun k => impl_IsRuler.f k l) (rulerB l) := by
  unfold impl_IsRuler.f
  by_cases h2 : 2 ≤ l.length
  · have e1 : wrap64 ((l.length : Int) - 1) = ((l.length - 1 : Nat) : Int) := by rw [w64 (by omega) (by omega)]; omega
    rw [e1]
    refine Ev.if_pos' (by omega) (Ev.if_pos' (by omega) ?_)
    by_cases h0 : rd l 0 = 0
    · have h0' : l.getD 0 0 = 0 := h0
      refine Ev.if_pos' h0 (Ev.if_pos' (by omega) (Ev.if_pos' (by omega) ?_))
      by_cases hh : rd l ((l.length - 1 : Nat) : Int) ≤ 60
      · refine Ev.if_pos' hh ?_
        have : rulerB l = risesB l := by
          unfold rulerB
          rw [decide_eq_true h2, h0']
          cases hr : risesB l with
          | false => simp
          | true =>
            have : inB 0 60 l = true := by
              cases l with
              | nil => rfl
              | cons a t =>
                have ha : a = 0 := h0'
                have := rises_in 60 (a :: t) hr a t rfl (fun b hb => by rw [last_get _ (by simp)] at hb; rw [rd_nat] at hh; have := Option.some.inj hb; omega)
                unfold inB
                rw [List.all_eq_true]
                intro x hx
                have := this x hx
                rw [Bool.and_eq_true, decide_eq_true_eq, decide_eq_true_eq]
                omega
            rw [this]; rfl
        rw [this]
        exact Ev.bind (rises_ev l hl) (Ev.now _)
      · refine Ev.if_neg' hh ?_
        have : rulerB l = false := by
          cases hb : rulerB l with
          | false => rfl
          | true =>
            exfalso; apply hh
            rw [rd_eq l (l.length - 1) (by omega)]
            exact (ruler_mem hb _ (List.getElem_mem _)).2
        rw [this]; exact Ev.now _
    · refine Ev.if_neg' h0 ?_
      have : rulerB l = false := by
        cases hb : rulerB l with
        | false => rfl
        | true => exact absurd (ruler_first hb) h0
      rw [this]; exact Ev.now _
  · refine Ev.if_neg' (by omega) ?_
    rw [rulerB, decide_eq_false h2, Bool.false_and]; exact Ev.now _

end Go.Proofs.YtlkgojgmgdeieaaDoor.Pure
