/- The plain law of BinaryCards: 128 numbers, counted out; behind them both programs say no. -/
import Derived.Test.YtpekdmadmggbpaaBcBinA
import Derived.Test.YtpekdmadmggbpaaBcBinB
import Derived.Test.YtpekdmadmggbpaaBcBinC
namespace Go.Proofs.Ytpekdmadmggbpaa.Pure
open Go.RowKit Go.Proofs.Ytpekdmadmggbpaa.Bc
set_option linter.unusedVariables false
theorem FnExactBinaryCards : laws_FnExactBinaryCards.Pure := by
  intro a0 _
  by_cases h : 1 ≤ a0 ∧ a0 ≤ 128
  · have h1 : binaryOk 140 a0 = true := by
      by_cases c1 : a0 < 89
      · exact binaryOk_A a0 h.1 c1
      by_cases c2 : a0 < 113
      · exact binaryOk_B a0 (by omega) c2
      exact binaryOk_C a0 (by omega) (by omega)
    obtain ⟨n, L, b, m, L2, r⟩ := binaryOk_of h1
    exact ⟨140, n, L, b, m, L2, r⟩
  · refine ⟨3, 0, [], false, 1, [], ?_, ?_, by decide +kernel, by decide +kernel, by decide +kernel, by decide⟩
    · have hf : spec_l1In.f a0 1 128 = some false := by
        unfold spec_l1In.f
        by_cases h1 : a0 ≥ 1
        · rw [if_pos h1, decide_eq_false (by omega)]
        · rw [if_neg h1]
      unfold spec_BinaryCards.f
      rw [hf]; rfl
    · have hf : impl_within.f a0 1 128 = some false := by
        unfold impl_within.f
        by_cases h1 : 1 ≤ a0
        · rw [if_pos h1, decide_eq_false (by omega)]
        · rw [if_neg h1]
      unfold impl_BinaryCards.f
      rw [hf]; rfl
end Go.Proofs.Ytpekdmadmggbpaa.Pure
