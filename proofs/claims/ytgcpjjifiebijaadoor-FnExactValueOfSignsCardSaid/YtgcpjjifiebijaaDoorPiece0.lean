/- Plain lemmas: which lists are pieces, by the program and by the reference; the tables of ways; searching an increasing list. -/
import Derived.Test.YtgcpjjifiebijaaDoorSumN
import Derived.Test.YtgcpjjifiebijaaDoorGx4
import Derived.Test.YtgcpjjifiebijaaDoorGx6
import Derived.Test.YtgcpjjifiebijaaDoorGx5
import Derived.Test.YtgcpjjifiebijaaDoorGx3
namespace Go.Proofs.YtgcpjjifiebijaaDoor.Pure
open Go.RowKit Go.Proofs.YtgcpjjifiebijaaDoor.G Go.Proofs.YtgcpjjifiebijaaDoorW.PrintWords Go.Proofs.YtgcpjjifiebijaaDoorW.PrintLast

def inB (lo hi : Int) (l : List Int) : Bool := l.all fun x => decide (lo ≤ x) && decide (x ≤ hi)
theorem inB_cons (lo hi a : Int) (t : List Int) : inB lo hi (a :: t) = (decide (lo ≤ a ∧ a ≤ hi) && inB lo hi t) := by simp [inB]
theorem areWithin_eq (l : List Int) (lo hi : Int) (hl : l.length ≤ 35184372088832) : impl_areWithin.f l lo hi = some (inB lo hi l) := by
  unfold impl_areWithin.f
  rw [if_pos (by omega)]
  rfl
theorem l1All_loop (l : List Int) (lo hi : Int) (hl : l.length ≤ 35184372088832) (d : Nat) : ∀ i : Nat, l.length - i = d → i ≤ l.length →
    Ev (fun k => spec_l1All.l0 k lo hi l (l.length : Int) (i : Int)) (inB lo hi (l.drop i)) := by
  induction d with
  | zero =>
    intro i hd hi'
    rw [List.drop_of_length_le (by omega)]
    exact Ev.one fun k => by rw [spec_l1All.l0, if_neg (by omega)]; rfl
  | succ d ih =>
    intro i hd hi'
    have hil : i < l.length := by omega
    rw [List.drop_eq_getElem_cons hil, inB_cons]
    by_cases hb : lo ≤ l[i] ∧ l[i] ≤ hi
    · rw [decide_eq_true hb, Bool.true_and]
      refine Ev.step (fun k => ?_) (ih (i + 1) (by omega) (by omega))
      rw [spec_l1All.l0, if_pos (by omega), if_pos (by omega), if_pos (by omega), rd_eq l i hil, l1In_eq, decide_eq_true hb, Option.bind_some, if_pos rfl, w64 (by omega) (by omega)]
      rfl
    · rw [decide_eq_false hb, Bool.false_and]
      refine Ev.one fun k => ?_
      rw [spec_l1All.l0, if_pos (by omega), if_pos (by omega), if_pos (by omega), rd_eq l i hil, l1In_eq, decide_eq_false hb, Option.bind_some, if_neg (by simp)]
theorem l1All_ev (l : List Int) (lo hi : Int) (hl : l.length ≤ 35184372088832) : Ev (fun k => spec_l1All.f k l lo hi) (inB lo hi l) := by
  unfold spec_l1All.f
  exact l1All_loop l lo hi hl l.length 0 (by omega) (by omega)

def Asc (l : List Int) (j : Nat) : Prop := l.getD j 0 ≤ l.getD (j + 1) 0
instance (l : List Int) (j : Nat) : Decidable (Asc l j) := by unfold Asc; infer_instance
def sortB (l : List Int) : Bool := decide (∀ j, j < l.length - 1 → Asc l j)

theorem piGood_loop (l : List Int) (hl : l.length ≤ 35184372088832) (d : Nat) : ∀ i : Nat, l.length - i = d → 1 ≤ i → i ≤ 35184372088833 →
    Ev (fun k => spec_piGood.l0 k l (i : Int)) (decide (∀ j, j < l.length - 1 → i - 1 ≤ j → Asc l j)) := by
  induction d with
  | zero =>
    intro i hd h1 hi
    rw [decide_eq_true (fun j hj hj' => by omega)]
    exact Ev.one fun k => by rw [spec_piGood.l0, if_neg (by omega)]
  | succ d ih =>
    intro i hd h1 hi
    have hil : i < l.length := by omega
    have e1 : wrap64 ((i : Int) - 1) = ((i - 1 : Nat) : Int) := by rw [w64 (by omega) (by omega)]; omega
    by_cases hc : l.getD (i - 1) 0 ≤ l.getD i 0
    · have h := ih (i + 1) (by omega) (by omega) (by omega)
      have e : decide (∀ j, j < l.length - 1 → i + 1 - 1 ≤ j → Asc l j) = decide (∀ j, j < l.length - 1 → i - 1 ≤ j → Asc l j) := by
        refine decide_eq_decide.2 ⟨fun h j hj hj' => ?_, fun h j hj hj' => h j hj (by omega)⟩
        by_cases ej : j = i - 1
        · subst ej; unfold Asc; rw [show i - 1 + 1 = i by omega]; exact hc
        · exact h j hj (by omega)
      rw [e] at h
      refine Ev.step (fun k => ?_) h
      rw [spec_piGood.l0, if_pos (by omega), e1, if_pos (by omega), if_pos (by omega), if_pos (by omega), rd_nat, rd_nat, if_neg (by omega), w64 (by omega) (by omega)]
      rfl
    · rw [decide_eq_false (fun h => hc (by have := h (i - 1) (by omega) (by omega); unfold Asc at this; rwa [show i - 1 + 1 = i by omega] at this))]
      refine Ev.one fun k => ?_
      rw [spec_piGood.l0, if_pos (by omega), e1, if_pos (by omega), if_pos (by omega), if_pos (by omega), rd_nat, rd_nat, if_pos (by omega)]
def piecesB (l : List Int) : Bool := decide (l.length ≤ 20) && (inB 1 10000 l && sortB l)
theorem piGood_ev (l : List Int) (hl : l.length ≤ 35184372088832) : Ev (fun k => spec_piGood.f k l) (piecesB l) := by
  unfold spec_piGood.f piecesB
  by_cases h : l.length ≤ 20
  · rw [decide_eq_true h, Bool.true_and]
    refine Ev.if_neg' (by omega) (Ev.bind (l1All_ev l 1 10000 hl) ?_)
    cases inB 1 10000 l with
    | false => exact Ev.one fun k => by rw [spec_piGood.j0, if_pos (by simp)]; rfl
    | true =>
      refine Ev.step (fun k => by rw [spec_piGood.j0, if_neg (by simp)]) ?_
      have := piGood_loop l hl (l.length - 1) 1 rfl (by omega) (by omega)
      simpa [sortB] using this
  · rw [decide_eq_false h, Bool.false_and]
    refine Ev.if_pos' (by omega) ?_
    exact Ev.one fun k => by rw [spec_piGood.j0, if_pos (by simp)]
theorem less_eq (a b : Int) : cmp_Less_int.f a b = some (decide (a < b)) := by
  unfold cmp_Less_int.f cmp_isNaN_int.f
  simp
theorem sorted_loop (l : List Int) (hl : l.length ≤ 35184372088832) (i : Nat) : i ≤ l.length - 1 →
    Ev (fun k => slices_IsSorted_int_int.l0 k l (i : Int)) (decide (∀ j, j < i → Asc l j)) := by
  induction i with
  | zero =>
    intro _
    rw [decide_eq_true (fun j hj => by omega)]
    exact Ev.one fun k => by rw [slices_IsSorted_int_int.l0, if_neg (by omega)]
  | succ i ih =>
    intro hi
    have e1 : wrap64 (((i + 1 : Nat) : Int) - 1) = (i : Int) := by rw [w64 (by omega) (by omega)]; omega
    by_cases hc : Asc l i
    · have e : decide (∀ j, j < i → Asc l j) = decide (∀ j, j < i + 1 → Asc l j) := by
        refine decide_eq_decide.2 ⟨fun h j hj => ?_, fun h j hj => h j (by omega)⟩
        by_cases ej : j = i
        · rw [ej]; exact hc
        · exact h j (by omega)
      have h := ih (by omega)
      rw [e] at h
      refine Ev.step (fun k => ?_) h
      unfold Asc at hc
      rw [slices_IsSorted_int_int.l0, if_pos (by omega), if_pos (by omega), if_pos (by omega), e1, if_pos (by omega), if_pos (by omega), less_eq, rd_nat, rd_nat, decide_eq_false (by omega), Option.bind_some, if_neg (by simp)]
    · rw [decide_eq_false (fun h => hc (h i (by omega)))]
      refine Ev.one fun k => ?_
      unfold Asc at hc
      rw [slices_IsSorted_int_int.l0, if_pos (by omega), if_pos (by omega), if_pos (by omega), e1, if_pos (by omega), if_pos (by omega), less_eq, rd_nat, rd_nat, decide_eq_true (by omega), Option.bind_some, if_pos rfl]
theorem sorted_ev (l : List Int) (hl : l.length ≤ 35184372088832) : Ev (fun k => slices_IsSorted_int_int.f k l) (sortB l) := by
  unfold slices_IsSorted_int_int.f sortB
  cases l with
  | nil => exact Ev.one fun k => by rw [slices_IsSorted_int_int.l0, if_neg (by rw [w64 (by simp) (by simp)]; simp)]; rfl
  | cons a t =>
    have e : wrap64 (((a :: t).length : Int) - 1) = (((a :: t).length - 1 : Nat) : Int) := by rw [w64 (by omega) (by omega)]; simp
    rw [e]
    exact sorted_loop (a :: t) hl ((a :: t).length - 1) (by omega)
theorem ArePieces_ev (l : List Int) (hl : l.length ≤ 35184372088832) : Ev (fun k => impl_ArePieces.f k l) (piecesB l) := by
  unfold impl_ArePieces.f piecesB
  by_cases h : l.length ≤ 20
  · rw [decide_eq_true h, Bool.true_and]
    refine Ev.if_pos' (by omega) (Ev.const_bind (areWithin_eq l 1 10000 hl) ?_)
    cases inB 1 10000 l with
    | false => exact Ev.if_neg' (by simp) (Ev.now _)
    | true => exact Ev.if_pos' rfl (Ev.bind (sorted_ev l hl) (Ev.now _))
  · rw [decide_eq_false h, Bool.false_and]
    exact Ev.if_neg' (by omega) (Ev.now _)
theorem pieces_len {l : List Int} (h : piecesB l = true) : l.length ≤ 20 := by simp [piecesB] at h; exact h.1
theorem pieces_mem {l : List Int} (h : piecesB l = true) : ∀ x ∈ l, 1 ≤ x ∧ x ≤ 10000 := by
  simp [piecesB, inB] at h; exact h.2.1
theorem pieces_sum {l : List Int} (h : piecesB l = true) : 0 ≤ l.sum ∧ l.sum ≤ 200000 := by
  have h1 := pieces_mem h
  have h2 := pieces_len h
  have h3 := sum_nonneg l (fun x hx => by have := h1 x hx; omega)
  have h4 := sum_le 10000 l (fun x hx => (h1 x hx).2)
  omega

end Go.Proofs.YtgcpjjifiebijaaDoor.Pure
