/- Plain lemma: the program's test of a number between bounds. -/
import Derived.Test.YtgcpjjifiebijaaDoorBase
import Derived.Test.YtgcpjjifiebijaaDoorGx2
namespace Go.Proofs.YtgcpjjifiebijaaDoor.Pure
open Go.RowKit Go.Proofs.YtgcpjjifiebijaaDoor.G Go.Proofs.YtgcpjjifiebijaaDoorW.PrintWords Go.Proofs.YtgcpjjifiebijaaDoorW.PrintLast

theorem within_eq (a b c : Int) : impl_within.f a b c = some (decide (b ≤ a ∧ a ≤ c)) := by
  unfold impl_within.f
  by_cases h : b ≤ a <;> simp [h]


end Go.Proofs.YtgcpjjifiebijaaDoor.Pure
