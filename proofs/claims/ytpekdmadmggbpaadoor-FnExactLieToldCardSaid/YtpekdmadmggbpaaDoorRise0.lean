/- Plain lemmas: lists that rise, and lie between bounds, by the program and by the reference. -/
import Derived.Test.YtpekdmadmggbpaaDoorBase
import Derived.Test.YtpekdmadmggbpaaDoorGx1
import Derived.Test.YtpekdmadmggbpaaDoorGx4
namespace Go.Proofs.YtpekdmadmggbpaaDoor.Pure
open Go.RowKit Go.Proofs.YtpekdmadmggbpaaDoor.G Go.Proofs.YtpekdmadmggbpaaDoorW.PrintWords Go.Proofs.YtpekdmadmggbpaaDoorW.PrintLast

def risesB : List Int → Bool
  | a :: b :: t => decide (a < b) && risesB (b :: t)
  | _ => true
def inB (lo hi : Int) (l : List Int) : Bool := l.all fun x => decide (lo ≤ x) && decide (x ≤ hi)

theorem drop_two (l : List Int) (i : Nat) (h1 : 1 ≤ i) (h : i < l.length) : l.drop (i - 1) = l[i - 1] :: l[i] :: l.drop (i + 1) := by
  rw [List.drop_eq_getElem_cons (by omega : i - 1 < l.length), show i - 1 + 1 = i by omega, List.drop_eq_getElem_cons h]
theorem rises_short (l : List Int) (i : Nat) (h : l.length ≤ i) : risesB (l.drop (i - 1)) = true := by
  have hs : (l.drop (i - 1)).length ≤ 1 := by rw [List.length_drop]; omega
  match l.drop (i - 1), hs with
  | [], _ => rfl
  | [a], _ => rfl

theorem inB_cons (lo hi a : Int) (t : List Int) : inB lo hi (a :: t) = (decide (lo ≤ a ∧ a ≤ hi) && inB lo hi t) := by simp [inB]
theorem rises_loop (l : List Int) (hl : l.length ≤ 35184372088832) (d : Nat) : ∀ (i : Nat), 1 ≤ i → l.length - i = d → i ≤ 35184372088833 →
    Ev (fun k => impl_rises.l0 k l (i : Int)) (risesB (l.drop (i - 1))) := by
  induction d with
  | zero =>
    intro i h1 hd hi
    rw [rises_short l i (by omega)]
    exact Ev.one fun k => by rw [impl_rises.l0, if_neg (by omega)]
  | succ d ih =>
    intro i h1 hd hi
    have hil : i < l.length := by omega
    have e1 : wrap64 ((i : Int) - 1) = ((i - 1 : Nat) : Int) := by rw [w64 (by omega) (by omega)]; omega
    rw [drop_two l i h1 hil, risesB]
    by_cases hc : l[i - 1] < l[i]
    · have h := ih (i + 1) (by omega) (by omega) (by omega)
      rw [show i + 1 - 1 = i by omega, List.drop_eq_getElem_cons hil] at h
      rw [decide_eq_true hc, Bool.true_and]
      refine Ev.step (f := fun k => impl_rises.l0 k l ((i + 1 : Nat) : Int)) (fun k => ?_) h
      rw [impl_rises.l0, if_pos (by omega), e1, if_pos (by omega), if_pos (by omega), if_pos (by omega), rd_eq l i hil, rd_eq l (i - 1) (by omega), if_neg (by omega), w64 (by omega) (by omega)]
      rfl
    · rw [decide_eq_false hc, Bool.false_and]
      refine Ev.one fun k => ?_
      rw [impl_rises.l0, if_pos (by omega), e1, if_pos (by omega), if_pos (by omega), if_pos (by omega), rd_eq l i hil, rd_eq l (i - 1) (by omega), if_pos (by omega)]
theorem rises_ev (l : List Int) (hl : l.length ≤ 35184372088832) : Ev (fun k => impl_rises.f k l) (risesB l) := by
  unfold impl_rises.f
  exact rises_loop l hl (l.length - 1) 1 (by omega) rfl (by omega)

theorem l1Rising_loop (l : List Int) (lo hi : Int) (hl : l.length ≤ 35184372088832) (d : Nat) : ∀ (i : Nat), 1 ≤ i → l.length - i = d → i ≤ 35184372088833 →
    Ev (fun k => spec_l1Rising.l0 k l lo hi l (l.length : Int) (i : Int)) (inB lo hi (l.drop i) && risesB (l.drop (i - 1))) := by
  induction d with
  | zero =>
    intro i h1 hd hi
    rw [rises_short l i (by omega), List.drop_of_length_le (by omega)]
    exact Ev.one fun k => by rw [spec_l1Rising.l0, if_neg (by omega)]; rfl
  | succ d ih =>
    intro i h1 hd hi'
    have hil : i < l.length := by omega
    have e1 : wrap64 ((i : Int) - 1) = ((i - 1 : Nat) : Int) := by rw [w64 (by omega) (by omega)]; omega
    rw [drop_two l i h1 hil, risesB, List.drop_eq_getElem_cons hil]
    rw [inB_cons]
    by_cases hb : lo ≤ l[i] ∧ l[i] ≤ hi
    · rw [decide_eq_true hb, Bool.true_and]
      by_cases hc : l[i - 1] < l[i]
      · have h := ih (i + 1) (by omega) (by omega) (by omega)
        rw [show i + 1 - 1 = i by omega, List.drop_eq_getElem_cons hil] at h
        rw [decide_eq_true hc, Bool.true_and]
        refine Ev.step (f := fun k => spec_l1Rising.l0 k l lo hi l (l.length : Int) ((i + 1 : Nat) : Int)) (fun k => ?_) h
        rw [spec_l1Rising.l0, if_pos (by omega), if_pos (by omega), if_pos (by omega), rd_eq l i hil, l1In_eq, decide_eq_true hb, Option.bind_some, if_pos rfl, if_pos (by omega), e1, if_pos (by omega), if_pos (by omega), rd_eq l (i - 1) (by omega), if_neg (by omega), w64 (by omega) (by omega)]
        rfl
      · rw [decide_eq_false hc, Bool.false_and, Bool.and_false]
        refine Ev.one fun k => ?_
        rw [spec_l1Rising.l0, if_pos (by omega), if_pos (by omega), if_pos (by omega), rd_eq l i hil, l1In_eq, decide_eq_true hb, Option.bind_some, if_pos rfl, if_pos (by omega), e1, if_pos (by omega), if_pos (by omega), rd_eq l (i - 1) (by omega), if_pos (by omega)]
    · rw [decide_eq_false hb, Bool.false_and, Bool.false_and]
      refine Ev.one fun k => ?_
      rw [spec_l1Rising.l0, if_pos (by omega), if_pos (by omega), if_pos (by omega), rd_eq l i hil, l1In_eq, decide_eq_false hb, Option.bind_some, if_neg (by simp)]
theorem l1Rising_ev (l : List Int) (lo hi : Int) (hl : l.length ≤ 35184372088832) : Ev (fun k => spec_l1Rising.f k l lo hi) (inB lo hi l && risesB l) := by
  unfold spec_l1Rising.f
  cases l with
  | nil => exact Ev.one fun k => by rw [spec_l1Rising.l0, if_neg (by simp)]; rfl
  | cons a t =>
    have hil : 0 < (a :: t).length := by simp
    have h := l1Rising_loop (a :: t) lo hi hl ((a :: t).length - 1) 1 (by omega) rfl (by omega)
    rw [inB_cons]
    by_cases hb : lo ≤ a ∧ a ≤ hi
    · rw [decide_eq_true hb, Bool.true_and]
      refine Ev.step (f := fun k => spec_l1Rising.l0 k (a :: t) lo hi (a :: t) ((a :: t).length : Int) ((1 : Nat) : Int)) (fun k => ?_) h
      rw [spec_l1Rising.l0, if_pos (by omega), if_pos (by omega), if_pos (by omega), show rd (a :: t) 0 = a from rfl, l1In_eq, decide_eq_true hb, Option.bind_some, if_pos rfl, if_neg (by omega), w64 (by omega) (by omega)]
      rfl
    · rw [decide_eq_false hb, Bool.false_and, Bool.false_and]
      refine Ev.one fun k => ?_
      rw [spec_l1Rising.l0, if_pos (by omega), if_pos (by omega), if_pos (by omega), show rd (a :: t) 0 = a from rfl, l1In_eq, decide_eq_false hb, Option.bind_some, if_neg (by simp)]
theorem areWithin_eq (l : List Int) (lo hi : Int) (hl : l.length ≤ 35184372088832) : impl_areWithin.f l lo hi = some (inB lo hi l) := by
  unfold impl_areWithin.f
  rw [if_pos (by omega)]
  rfl
theorem rises_pairwise : ∀ (l : List Int), risesB l = true → l.Pairwise (· < ·)
  | [], _ => .nil
  | [_], _ => List.pairwise_singleton _ _
  | a :: b :: t, h => by
    rw [risesB, Bool.and_eq_true] at h
    have hab := of_decide_eq_true h.1
    have ih := rises_pairwise (b :: t) h.2
    refine List.pairwise_cons.2 ⟨fun x hx => ?_, ih⟩
    rcases List.mem_cons.1 hx with rfl | hx
    · exact hab
    · exact Int.lt_trans hab ((List.pairwise_cons.1 ih).1 x hx)

end Go.Proofs.YtpekdmadmggbpaaDoor.Pure
