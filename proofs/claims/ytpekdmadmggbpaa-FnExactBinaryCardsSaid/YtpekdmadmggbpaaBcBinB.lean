/- The plain law of BinaryCards: 128 numbers, counted out; behind them both programs say no. -/
import Derived.Test.YtpekdmadmggbpaaBcBinOk
namespace Go.Proofs.Ytpekdmadmggbpaa.Pure
open Go.RowKit Go.Proofs.Ytpekdmadmggbpaa.Bc
set_option linter.unusedVariables false
set_option maxRecDepth 1000000 in
theorem binaryOk_89 : (List.range 4).all (fun i => binaryOk 140 ((89 : Int) + (i : Int))) = true := by decide +kernel
set_option maxRecDepth 1000000 in
theorem binaryOk_93 : (List.range 4).all (fun i => binaryOk 140 ((93 : Int) + (i : Int))) = true := by decide +kernel
set_option maxRecDepth 1000000 in
theorem binaryOk_97 : (List.range 4).all (fun i => binaryOk 140 ((97 : Int) + (i : Int))) = true := by decide +kernel
set_option maxRecDepth 1000000 in
theorem binaryOk_101 : (List.range 4).all (fun i => binaryOk 140 ((101 : Int) + (i : Int))) = true := by decide +kernel
set_option maxRecDepth 1000000 in
theorem binaryOk_105 : (List.range 4).all (fun i => binaryOk 140 ((105 : Int) + (i : Int))) = true := by decide +kernel
set_option maxRecDepth 1000000 in
theorem binaryOk_109 : (List.range 4).all (fun i => binaryOk 140 ((109 : Int) + (i : Int))) = true := by decide +kernel
theorem binaryOk_B (a : Int) (h0 : 89 ≤ a) (h1 : a < 113) : binaryOk 140 a = true := by
  by_cases h89 : a < 93
  · exact binaryOk_use binaryOk_89 (by omega) (by omega)
  by_cases h93 : a < 97
  · exact binaryOk_use binaryOk_93 (by omega) (by omega)
  by_cases h97 : a < 101
  · exact binaryOk_use binaryOk_97 (by omega) (by omega)
  by_cases h101 : a < 105
  · exact binaryOk_use binaryOk_101 (by omega) (by omega)
  by_cases h105 : a < 109
  · exact binaryOk_use binaryOk_105 (by omega) (by omega)
  exact binaryOk_use binaryOk_109 (by omega) (by omega)
end Go.Proofs.Ytpekdmadmggbpaa.Pure
