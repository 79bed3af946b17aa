/- Plain lemmas: the sum of a list, by the program and by the reference. -/
import Derived.Test.YtbaodkllldhbmaaBase
import Derived.Test.YtbaodkllldhbmaaGx6
namespace Go.Proofs.Ytbaodkllldhbmaa.Pure
open Go.RowKit Go.Proofs.Ytbaodkllldhbmaa.G Go.Proofs.YtbaodkllldhbmaaW.PrintWords Go.Proofs.YtbaodkllldhbmaaW.PrintLast

theorem sum_nonneg (l : List Int) (hb : ∀ x ∈ l, 0 ≤ x) : 0 ≤ l.sum := by
  induction l with
  | nil => simp
  | cons a t ih => have := hb a List.mem_cons_self; have := ih (fun x hx => hb x (List.mem_cons_of_mem _ hx)); simp only [List.sum_cons]; omega
theorem sum_le (M : Int) (l : List Int) (hb : ∀ x ∈ l, x ≤ M) : l.sum ≤ M * l.length := by
  induction l with
  | nil => simp
  | cons a t ih =>
    have h1 := hb a List.mem_cons_self
    have h2 := ih (fun x hx => hb x (List.mem_cons_of_mem _ hx))
    have e : M * ((a :: t).length : Int) = M * (t.length : Int) + M := by rw [List.length_cons]; push_cast; rw [Int.mul_add, Int.mul_one]
    rw [List.sum_cons, e]
    omega
theorem piSum_loop (l : List Int) (hl : l.length ≤ 35184372088832) (hb : ∀ x ∈ l, 0 ≤ x) (hs : l.sum ≤ 9223372036854775807) (d : Nat) : ∀ i : Nat, l.length - i = d → i ≤ l.length →
    Ev (fun k => spec_piSum.l0 k (l.take i).sum l (l.length : Int) (i : Int)) l.sum := by
  induction d with
  | zero =>
    intro i hd hi
    refine Ev.one fun k => ?_
    rw [spec_piSum.l0, if_neg (by omega), List.take_of_length_le (by omega)]
  | succ d ih =>
    intro i hd hi
    have hil : i < l.length := by omega
    have e : (l.take (i + 1)).sum = (l.take i).sum + l[i] := by rw [List.take_succ_eq_append_getElem hil, List.sum_append]; simp
    have h1 := sum_nonneg (l.take i) (fun x hx => hb x (List.mem_of_mem_take hx))
    have h2 := sum_nonneg (l.drop (i + 1)) (fun x hx => hb x (List.mem_of_mem_drop hx))
    have h3 : (l.take (i + 1)).sum + (l.drop (i + 1)).sum = l.sum := by rw [← List.sum_append, List.take_append_drop]
    have h4 := hb l[i] (List.getElem_mem hil)
    refine Ev.step (fun k => ?_) (ih (i + 1) (by omega) (by omega))
    rw [spec_piSum.l0, if_pos (by omega), if_pos (by omega), if_pos (by omega), rd_eq l i hil, w64 (by omega) (by omega), w64 (by omega) (by omega), e]
    rfl
theorem piSum_ev (l : List Int) (hl : l.length ≤ 35184372088832) (hb : ∀ x ∈ l, 0 ≤ x) (hs : l.sum ≤ 9223372036854775807) : Ev (fun k => spec_piSum.f k l) l.sum := by
  unfold spec_piSum.f
  exact piSum_loop l hl hb hs l.length 0 (by omega) (by omega)
theorem sum_same : ∀ k, ∀ a b c d, spec_piSum.l0 k a b c d = impl_total.l0 k a b c d
  | 0 => fun _ _ _ _ => by rw [spec_piSum.l0, impl_total.l0]
  | k + 1 => fun a b c d => by rw [spec_piSum.l0, impl_total.l0]; simp only [sum_same k]
theorem total_eq (k : Nat) (l : List Int) : impl_total.f k l = spec_piSum.f k l := by
  unfold impl_total.f spec_piSum.f
  rw [sum_same]
theorem total_ev (l : List Int) (hl : l.length ≤ 35184372088832) (hb : ∀ x ∈ l, 0 ≤ x) (hs : l.sum ≤ 9223372036854775807) : Ev (fun k => impl_total.f k l) l.sum :=
  Ev.congr (fun k => total_eq k l) (piSum_ev l hl hb hs)

end Go.Proofs.Ytbaodkllldhbmaa.Pure
