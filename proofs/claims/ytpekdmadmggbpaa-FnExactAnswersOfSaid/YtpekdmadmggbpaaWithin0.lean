/- Plain lemma: the program's test of a number between bounds. -/
import Derived.Test.YtpekdmadmggbpaaBase
import Derived.Test.YtpekdmadmggbpaaGx3
namespace Go.Proofs.Ytpekdmadmggbpaa.Pure
open Go.RowKit Go.Proofs.Ytpekdmadmggbpaa.G Go.Proofs.YtpekdmadmggbpaaW.PrintWords Go.Proofs.YtpekdmadmggbpaaW.PrintLast

theorem within_eq (a b c : Int) : impl_within.f a b c = some (decide (b ≤ a ∧ a ≤ c)) := by
  unfold impl_within.f
  by_cases h : b ≤ a <;> simp [h]


end Go.Proofs.Ytpekdmadmggbpaa.Pure
