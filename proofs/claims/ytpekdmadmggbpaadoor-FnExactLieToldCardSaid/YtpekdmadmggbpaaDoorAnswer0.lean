/- Plain lemmas: the answers of a number, by the reference and by the program. -/
import Derived.Test.YtpekdmadmggbpaaDoorRise0
import Derived.Test.YtpekdmadmggbpaaDoorBSearch
import Derived.Test.YtpekdmadmggbpaaDoorGx8
import Derived.Test.YtpekdmadmggbpaaDoorGx10
namespace Go.Proofs.YtpekdmadmggbpaaDoor.Pure
open Go.RowKit Go.Proofs.YtpekdmadmggbpaaDoor.G Go.Proofs.YtpekdmadmggbpaaDoorW.PrintWords Go.Proofs.YtpekdmadmggbpaaDoorW.PrintLast

theorem rises_incr (x : List Int) (h : risesB x = true) : Incr x := by
  intro i j hij hj
  have hp := List.pairwise_iff_getElem.1 (rises_pairwise x h) i j (by omega) hj hij
  simpa [List.getD, hj, show i < x.length by omega] using hp
theorem has_loop (a : Int) (x : List Int) (hx : x.length ≤ 35184372088832) (d : Nat) : ∀ i : Nat, x.length - i = d → i ≤ x.length →
    Ev (fun k => spec_l1Has.l0 k a x (x.length : Int) (i : Int)) (decide (a ∈ x.drop i)) := by
  induction d with
  | zero =>
    intro i hd hi
    rw [List.drop_of_length_le (by omega)]
    exact Ev.one fun k => by rw [spec_l1Has.l0, if_neg (by omega)]; simp
  | succ d ih =>
    intro i hd hi
    have hil : i < x.length := by omega
    rw [List.drop_eq_getElem_cons hil]
    by_cases e : x[i] = a
    · refine Ev.one fun k => ?_
      rw [spec_l1Has.l0, if_pos (by omega), if_pos (by omega), if_pos (by omega), rd_eq x i hil, if_pos e]
      simp [e]
    · have e2 : decide (a ∈ x[i] :: x.drop (i + 1)) = decide (a ∈ x.drop (i + 1)) := by
        refine decide_eq_decide.2 ⟨fun h => ?_, fun h => List.mem_cons_of_mem _ h⟩
        rcases List.mem_cons.1 h with h | h
        · exact absurd h.symm e
        · exact h
      rw [e2]
      refine Ev.step (fun k => ?_) (ih (i + 1) (by omega) (by omega))
      rw [spec_l1Has.l0, if_pos (by omega), if_pos (by omega), if_pos (by omega), rd_eq x i hil, if_neg e, w64 (by omega) (by omega)]
      rfl
theorem l1Has_ev (a : Int) (x : List Int) (hx : x.length ≤ 35184372088832) : Ev (fun k => spec_l1Has.f k x a) (decide (a ∈ x)) := by
  unfold spec_l1Has.f
  exact has_loop a x hx x.length 0 (by omega) (by omega)
/-- 121 for a card that holds the number, 110 for one that does not. -/
def ansL (l : List (List Int)) (a : Int) : List Int := l.map fun x => if a ∈ x then 121 else 110
def ansT (l : List (List Int)) (a : Int) : ByteArray := strOfNums (ansL l a)
theorem str_app (A B : List Int) : strOfNums A ++ strOfNums B = strOfNums (A ++ B) := by
  unfold strOfNums
  apply ByteArray.ext
  rw [ByteArray.data_append]
  simp
theorem str_size (A : List Int) : (strOfNums A).size = A.length := by
  unfold strOfNums
  show (A.map _).toArray.size = _
  simp
theorem rd_L2_at' (l : List (List Int)) (i : Nat) (h : i < l.length) : rd_L1 l (i : Int) = l[i] := by simp [rd_L1, List.getD, h]
section
variable (n : Int) (l : List (List Int)) (h12 : l.length ≤ 12) (hr : ∀ x ∈ l, x.length ≤ 1048576)
include h12 hr
theorem spec_ans (a : Int) (d : Nat) : ∀ i : Nat, l.length - i = d → i ≤ l.length →
    Ev (fun k => spec_caAnswers.l0 k a (strOfNums (ansL (l.take i) a)) l (l.length : Int) (i : Int)) (ansT l a) := by
  induction d with
  | zero =>
    intro i hd hi
    refine Ev.one fun k => ?_
    rw [spec_caAnswers.l0, if_neg (by omega), List.take_of_length_le (by omega)]
    rfl
  | succ d ih =>
    intro i hd hi
    have hil : i < l.length := by omega
    have h := ih (i + 1) (by omega) (by omega)
    have hx := hr l[i] (List.getElem_mem hil)
    have hlen : (ansL (l.take i) a).length = i := by unfold ansL; simp; omega
    have e0 : ansL (l.take (i + 1)) a = ansL (l.take i) a ++ [if a ∈ l[i] then 121 else 110] := by unfold ansL; rw [List.take_succ_eq_append_getElem hil, List.map_append]; rfl
    rw [e0, ← str_app] at h
    refine Ev.step (f := fun k => (spec_l1Has.f k l[i] a).bind fun t166 => (if t166 = true then (if (strOfNums (ansL (l.take i) a)).size + 1 ≤ 9223372036854775807 then (spec_caAnswers.l0 k a (strOfNums (ansL (l.take i) a) ++ (⟨#[121]⟩ : ByteArray)) l (l.length : Int) ((i + 1 : Nat) : Int)) else (none)) else (if (strOfNums (ansL (l.take i) a)).size + 1 ≤ 9223372036854775807 then (spec_caAnswers.l0 k a (strOfNums (ansL (l.take i) a) ++ (⟨#[110]⟩ : ByteArray)) l (l.length : Int) ((i + 1 : Nat) : Int)) else (none)))) (fun k => ?_) (Ev.bind (l1Has_ev a l[i] (by omega)) ?_)
    · rw [spec_caAnswers.l0, if_pos (by omega), if_pos (by omega), if_pos (by omega), rd_L2_at' l i hil, w64 (x := (i : Int) + 1) (by omega) (by omega)]
      rfl
    · by_cases hm : a ∈ l[i]
      · rw [if_pos hm] at h
        exact Ev.if_pos' (decide_eq_true hm) (Ev.if_pos' (by rw [str_size]; omega) h)
      · rw [if_neg hm] at h
        exact Ev.if_neg' (by simpa using hm) (Ev.if_pos' (by rw [str_size]; omega) h)
theorem caAnswers_ev (a : Int) : Ev (fun k => spec_caAnswers.f k n l a) (ansT l a) := by
  unfold spec_caAnswers.f
  exact spec_ans l h12 hr a l.length 0 (by omega) (by omega)
theorem impl_ans (hri : ∀ x ∈ l, risesB x = true) (a : Int) (d : Nat) : ∀ i : Nat, l.length - i = d → i ≤ l.length →
    Ev (fun k => impl_Cards_answers.l0 k a (ansL (l.take i) a) l (l.length : Int) (i : Int)) (ansT l a) := by
  induction d with
  | zero =>
    intro i hd hi
    refine Ev.one fun k => ?_
    rw [impl_Cards_answers.l0, if_neg (by omega), List.take_of_length_le (by omega)]
    rfl
  | succ d ih =>
    intro i hd hi
    have hil : i < l.length := by omega
    have h := ih (i + 1) (by omega) (by omega)
    have hx := hr l[i] (List.getElem_mem hil)
    have hlen : (ansL (l.take i) a).length = i := by unfold ansL; simp; omega
    have e0 : ansL (l.take (i + 1)) a = ansL (l.take i) a ++ [if a ∈ l[i] then 121 else 110] := by unfold ansL; rw [List.take_succ_eq_append_getElem hil, List.map_append]; rfl
    rw [e0] at h
    obtain ⟨p, hp⟩ := search_ev l[i] (rises_incr _ (hri _ (List.getElem_mem hil))) (by omega) a
    refine Ev.step (f := fun k => (slices_BinarySearch_int_int.f k l[i] a).bind fun bt184 => (if bt184.2 = true then (if (ansL (l.take i) a).length < 140737488355328 then (impl_Cards_answers.l0 k a (ansL (l.take i) a ++ [121]) l (l.length : Int) ((i + 1 : Nat) : Int)) else (none)) else (if (ansL (l.take i) a).length < 140737488355328 then (impl_Cards_answers.l0 k a (ansL (l.take i) a ++ [110]) l (l.length : Int) ((i + 1 : Nat) : Int)) else (none)))) (fun k => ?_) (Ev.bind hp ?_)
    · rw [impl_Cards_answers.l0, if_pos (by omega), if_pos (by omega), if_pos (by omega), rd_L2_at' l i hil, w64 (x := (i : Int) + 1) (by omega) (by omega)]
      rfl
    · by_cases hm : a ∈ l[i]
      · rw [if_pos hm] at h
        exact Ev.if_pos' (decide_eq_true hm) (Ev.if_pos' (by omega) h)
      · rw [if_neg hm] at h
        exact Ev.if_neg' (by simpa using hm) (Ev.if_pos' (by omega) h)
theorem answers_ev (hri : ∀ x ∈ l, risesB x = true) (a : Int) : Ev (fun k => impl_Cards_answers.f k n l a) (ansT l a) := by
  unfold impl_Cards_answers.f
  exact impl_ans l h12 hr hri a l.length 0 (by omega) (by omega)
end

end Go.Proofs.YtpekdmadmggbpaaDoor.Pure
