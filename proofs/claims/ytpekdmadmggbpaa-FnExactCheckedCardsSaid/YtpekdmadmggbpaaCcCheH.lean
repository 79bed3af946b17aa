/- The plain law of CheckedCards: 128 numbers, counted out; behind them both programs say no. -/
import Derived.Test.YtpekdmadmggbpaaCcCheOk
namespace Go.Proofs.Ytpekdmadmggbpaa.Pure
open Go.RowKit Go.Proofs.Ytpekdmadmggbpaa.Cc
set_option linter.unusedVariables false
set_option maxRecDepth 1000000 in
theorem checkedOk_123 : (List.range 1).all (fun i => checkedOk 5000 ((123 : Int) + (i : Int))) = true := by decide +kernel
set_option maxRecDepth 1000000 in
theorem checkedOk_124 : (List.range 1).all (fun i => checkedOk 5000 ((124 : Int) + (i : Int))) = true := by decide +kernel
set_option maxRecDepth 1000000 in
theorem checkedOk_125 : (List.range 1).all (fun i => checkedOk 5000 ((125 : Int) + (i : Int))) = true := by decide +kernel
set_option maxRecDepth 1000000 in
theorem checkedOk_126 : (List.range 1).all (fun i => checkedOk 5000 ((126 : Int) + (i : Int))) = true := by decide +kernel
set_option maxRecDepth 1000000 in
theorem checkedOk_127 : (List.range 1).all (fun i => checkedOk 5000 ((127 : Int) + (i : Int))) = true := by decide +kernel
set_option maxRecDepth 1000000 in
theorem checkedOk_128 : (List.range 1).all (fun i => checkedOk 5000 ((128 : Int) + (i : Int))) = true := by decide +kernel
theorem checkedOk_H (a : Int) (h0 : 123 ≤ a) (h1 : a < 129) : checkedOk 5000 a = true := by
  by_cases h123 : a < 124
  · exact checkedOk_use checkedOk_123 (by omega) (by omega)
  by_cases h124 : a < 125
  · exact checkedOk_use checkedOk_124 (by omega) (by omega)
  by_cases h125 : a < 126
  · exact checkedOk_use checkedOk_125 (by omega) (by omega)
  by_cases h126 : a < 127
  · exact checkedOk_use checkedOk_126 (by omega) (by omega)
  by_cases h127 : a < 128
  · exact checkedOk_use checkedOk_127 (by omega) (by omega)
  exact checkedOk_use checkedOk_128 (by omega) (by omega)
end Go.Proofs.Ytpekdmadmggbpaa.Pure
