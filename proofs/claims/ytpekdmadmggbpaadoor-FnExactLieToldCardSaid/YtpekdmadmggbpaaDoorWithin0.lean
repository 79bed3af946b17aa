/- Plain lemma: the program's test of a number between bounds. -/
import Derived.Test.YtpekdmadmggbpaaDoorBase
import Derived.Test.YtpekdmadmggbpaaDoorGx4
namespace Go.Proofs.YtpekdmadmggbpaaDoor.Pure
open Go.RowKit Go.Proofs.YtpekdmadmggbpaaDoor.G Go.Proofs.YtpekdmadmggbpaaDoorW.PrintWords Go.Proofs.YtpekdmadmggbpaaDoorW.PrintLast

theorem within_eq (a b c : Int) : impl_within.f a b c = some (decide (b ≤ a ∧ a ≤ c)) := by
  unfold impl_within.f
  by_cases h : b ≤ a <;> simp [h]


end Go.Proofs.YtpekdmadmggbpaaDoor.Pure
