/- The program's FewestCardsFor answers as the reference's does, for every number. -/
import Derived.Test.YtobcoaafbekhaaaBase
import Derived.Test.YtobcoaafbekhaaaGx20
import Derived.Test.YtobcoaafbekhaaaGx18
import Derived.Test.YtobcoaafbekhaaaGx19
namespace Go.Proofs.Ytobcoaafbekhaaa.Pure
open Go.RowKit Go.Proofs.Ytobcoaafbekhaaa.G Go.Proofs.YtobcoaafbekhaaaW.PrintWords Go.Proofs.YtobcoaafbekhaaaW.PrintLast

def okAt (n : Nat) : Bool := laws_FnExactFewestCardsFor.f 12 ((n : Int) + 1) == some true
theorem all_ok : ∀ n : Fin 128, okAt n.1 = true := by decide +kernel

theorem FnExactFewestCardsFor : laws_FnExactFewestCardsFor.Pure := by
  intro a _
  by_cases h : 1 ≤ a ∧ a ≤ 128
  · have := all_ok ⟨(a - 1).toNat, by omega⟩
    refine ⟨12, ?_⟩
    have e : (((a - 1).toNat : Nat) : Int) + 1 = a := by omega
    simpa only [okAt, e, beq_iff_eq] using this
  · refine ⟨0, ?_⟩
    unfold laws_FnExactFewestCardsFor.f spec_FewestCardsFor.f impl_FewestCardsFor.f
    rw [l1In_eq, within_eq, decide_eq_false h]
    rfl

end Go.Proofs.Ytobcoaafbekhaaa.Pure
