/- The plain law of CheckedCards: 127 numbers, counted out; elsewhere both programs say no. -/
import Derived.Test.YtpekdmadmggbpaaCcCheA
import Derived.Test.YtpekdmadmggbpaaCcCheB
import Derived.Test.YtpekdmadmggbpaaCcCheC
import Derived.Test.YtpekdmadmggbpaaCcCheD
import Derived.Test.YtpekdmadmggbpaaCcCheE
import Derived.Test.YtpekdmadmggbpaaCcCheF
import Derived.Test.YtpekdmadmggbpaaCcCheG
import Derived.Test.YtpekdmadmggbpaaCcCheH
namespace Go.Proofs.Ytpekdmadmggbpaa.Pure
open Go.RowKit Go.Proofs.Ytpekdmadmggbpaa.Cc
set_option linter.unusedVariables false
theorem FnExactCheckedCards : laws_FnExactCheckedCards.Pure := by
  intro a0 _
  by_cases h : 2 ≤ a0 ∧ a0 ≤ 128
  · have h1 : checkedOk 5000 a0 = true := by
      by_cases cA : a0 < 65
      · exact checkedOk_A a0 (by omega) cA
      by_cases cB : a0 < 81
      · exact checkedOk_B a0 (by omega) cB
      by_cases cC : a0 < 93
      · exact checkedOk_C a0 (by omega) cC
      by_cases cD : a0 < 102
      · exact checkedOk_D a0 (by omega) cD
      by_cases cE : a0 < 110
      · exact checkedOk_E a0 (by omega) cE
      by_cases cF : a0 < 117
      · exact checkedOk_F a0 (by omega) cF
      by_cases cG : a0 < 123
      · exact checkedOk_G a0 (by omega) cG
      exact checkedOk_H a0 (by omega) (by omega)
    obtain ⟨n, L, b, m, L2, r⟩ := checkedOk_of h1
    exact ⟨5000, n, L, b, m, L2, r⟩
  · refine ⟨3, 0, [], false, 1, [], ?_, ?_, by decide +kernel, by decide +kernel, by decide +kernel, by decide⟩
    · have hf : spec_l1In.f a0 2 128 = some false := by
        unfold spec_l1In.f
        by_cases h1 : a0 ≥ 2
        · rw [if_pos h1, decide_eq_false (by omega)]
        · rw [if_neg h1]
      unfold spec_CheckedCards.f
      rw [hf]; rfl
    · unfold impl_CheckedCards.f
      by_cases h2 : a0 < 2
      · rw [if_pos h2]
      · rw [if_neg h2]
        have hf : impl_within.f a0 1 128 = some false := by
          unfold impl_within.f
          rw [if_pos (by omega), decide_eq_false (by omega)]
        have hb : impl_BinaryCards.f 3 a0 = some (0, [], false) := by
          unfold impl_BinaryCards.f
          rw [hf]; rfl
        rw [hb]; rfl
end Go.Proofs.Ytpekdmadmggbpaa.Pure
