/- The plain law of BinaryCards: 128 numbers, counted out; behind them both programs say no. -/
import Derived.Test.YtpekdmadmggbpaaBcBinOk
namespace Go.Proofs.Ytpekdmadmggbpaa.Pure
open Go.RowKit Go.Proofs.Ytpekdmadmggbpaa.Bc
set_option linter.unusedVariables false
set_option maxRecDepth 1000000 in
theorem binaryOk_113 : (List.range 4).all (fun i => binaryOk 140 ((113 : Int) + (i : Int))) = true := by decide +kernel
set_option maxRecDepth 1000000 in
theorem binaryOk_117 : (List.range 4).all (fun i => binaryOk 140 ((117 : Int) + (i : Int))) = true := by decide +kernel
set_option maxRecDepth 1000000 in
theorem binaryOk_121 : (List.range 4).all (fun i => binaryOk 140 ((121 : Int) + (i : Int))) = true := by decide +kernel
set_option maxRecDepth 1000000 in
theorem binaryOk_125 : (List.range 4).all (fun i => binaryOk 140 ((125 : Int) + (i : Int))) = true := by decide +kernel
theorem binaryOk_C (a : Int) (h0 : 113 ≤ a) (h1 : a < 129) : binaryOk 140 a = true := by
  by_cases h113 : a < 117
  · exact binaryOk_use binaryOk_113 (by omega) (by omega)
  by_cases h117 : a < 121
  · exact binaryOk_use binaryOk_117 (by omega) (by omega)
  by_cases h121 : a < 125
  · exact binaryOk_use binaryOk_121 (by omega) (by omega)
  exact binaryOk_use binaryOk_125 (by omega) (by omega)
end Go.Proofs.Ytpekdmadmggbpaa.Pure
