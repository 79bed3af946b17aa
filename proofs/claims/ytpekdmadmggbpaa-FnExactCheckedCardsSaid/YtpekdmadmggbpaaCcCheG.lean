/- The plain law of CheckedCards: 128 numbers, counted out; behind them both programs say no. -/
import Derived.Test.YtpekdmadmggbpaaCcCheOk
namespace Go.Proofs.Ytpekdmadmggbpaa.Pure
open Go.RowKit Go.Proofs.Ytpekdmadmggbpaa.Cc
set_option linter.unusedVariables false
set_option maxRecDepth 1000000 in
theorem checkedOk_117 : (List.range 1).all (fun i => checkedOk 5000 ((117 : Int) + (i : Int))) = true := by decide +kernel
set_option maxRecDepth 1000000 in
theorem checkedOk_118 : (List.range 1).all (fun i => checkedOk 5000 ((118 : Int) + (i : Int))) = true := by decide +kernel
set_option maxRecDepth 1000000 in
theorem checkedOk_119 : (List.range 1).all (fun i => checkedOk 5000 ((119 : Int) + (i : Int))) = true := by decide +kernel
set_option maxRecDepth 1000000 in
theorem checkedOk_120 : (List.range 1).all (fun i => checkedOk 5000 ((120 : Int) + (i : Int))) = true := by decide +kernel
set_option maxRecDepth 1000000 in
theorem checkedOk_121 : (List.range 1).all (fun i => checkedOk 5000 ((121 : Int) + (i : Int))) = true := by decide +kernel
set_option maxRecDepth 1000000 in
theorem checkedOk_122 : (List.range 1).all (fun i => checkedOk 5000 ((122 : Int) + (i : Int))) = true := by decide +kernel
theorem checkedOk_G (a : Int) (h0 : 117 ≤ a) (h1 : a < 123) : checkedOk 5000 a = true := by
  by_cases h117 : a < 118
  · exact checkedOk_use checkedOk_117 (by omega) (by omega)
  by_cases h118 : a < 119
  · exact checkedOk_use checkedOk_118 (by omega) (by omega)
  by_cases h119 : a < 120
  · exact checkedOk_use checkedOk_119 (by omega) (by omega)
  by_cases h120 : a < 121
  · exact checkedOk_use checkedOk_120 (by omega) (by omega)
  by_cases h121 : a < 122
  · exact checkedOk_use checkedOk_121 (by omega) (by omega)
  exact checkedOk_use checkedOk_122 (by omega) (by omega)
end Go.Proofs.Ytpekdmadmggbpaa.Pure
