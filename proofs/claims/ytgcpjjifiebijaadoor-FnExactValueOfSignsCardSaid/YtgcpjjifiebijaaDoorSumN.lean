/- Plain lemmas: bounds of a sum. -/
import Derived.Test.YtgcpjjifiebijaaDoorBase
namespace Go.Proofs.YtgcpjjifiebijaaDoor.Pure
open Go.RowKit Go.Proofs.YtgcpjjifiebijaaDoor.G Go.Proofs.YtgcpjjifiebijaaDoorW.PrintWords Go.Proofs.YtgcpjjifiebijaaDoorW.PrintLast

theorem sum_nonneg (l : List Int) (hb : ∀ x ∈ l, 0 ≤ x) : 0 ≤ l.sum := by
  induction l with
  | nil => simp
  | cons a t ih => have := hb a List.mem_cons_self; have := ih (fun x hx => hb x (List.mem_cons_of_mem _ hx)); simp only [List.sum_cons]; omega
theorem sum_le (M : Int) (l : List Int) (hb : ∀ x ∈ l, x ≤ M) : l.sum ≤ M * l.length := by
  induction l with
  | nil => simp
  | cons a t ih =>
    have h1 := hb a List.mem_cons_self
    have h2 := ih (fun x hx => hb x (List.mem_cons_of_mem _ hx))
    have e : M * ((a :: t).length : Int) = M * (t.length : Int) + M := by rw [List.length_cons]; push_cast; rw [Int.mul_add, Int.mul_one]
    rw [List.sum_cons, e]
    omega

end Go.Proofs.YtgcpjjifiebijaaDoor.Pure
