/- The plain law of CheckedCards: 128 numbers, counted out; behind them both programs say no. -/
import Derived.Test.YtpekdmadmggbpaaCcCheOk
namespace Go.Proofs.Ytpekdmadmggbpaa.Pure
open Go.RowKit Go.Proofs.Ytpekdmadmggbpaa.Cc
set_option linter.unusedVariables false
set_option maxRecDepth 1000000 in
theorem checkedOk_110 : (List.range 1).all (fun i => checkedOk 5000 ((110 : Int) + (i : Int))) = true := by decide +kernel
set_option maxRecDepth 1000000 in
theorem checkedOk_111 : (List.range 1).all (fun i => checkedOk 5000 ((111 : Int) + (i : Int))) = true := by decide +kernel
set_option maxRecDepth 1000000 in
theorem checkedOk_112 : (List.range 1).all (fun i => checkedOk 5000 ((112 : Int) + (i : Int))) = true := by decide +kernel
set_option maxRecDepth 1000000 in
theorem checkedOk_113 : (List.range 1).all (fun i => checkedOk 5000 ((113 : Int) + (i : Int))) = true := by decide +kernel
set_option maxRecDepth 1000000 in
theorem checkedOk_114 : (List.range 1).all (fun i => checkedOk 5000 ((114 : Int) + (i : Int))) = true := by decide +kernel
set_option maxRecDepth 1000000 in
theorem checkedOk_115 : (List.range 1).all (fun i => checkedOk 5000 ((115 : Int) + (i : Int))) = true := by decide +kernel
set_option maxRecDepth 1000000 in
theorem checkedOk_116 : (List.range 1).all (fun i => checkedOk 5000 ((116 : Int) + (i : Int))) = true := by decide +kernel
theorem checkedOk_F (a : Int) (h0 : 110 ≤ a) (h1 : a < 117) : checkedOk 5000 a = true := by
  by_cases h110 : a < 111
  · exact checkedOk_use checkedOk_110 (by omega) (by omega)
  by_cases h111 : a < 112
  · exact checkedOk_use checkedOk_111 (by omega) (by omega)
  by_cases h112 : a < 113
  · exact checkedOk_use checkedOk_112 (by omega) (by omega)
  by_cases h113 : a < 114
  · exact checkedOk_use checkedOk_113 (by omega) (by omega)
  by_cases h114 : a < 115
  · exact checkedOk_use checkedOk_114 (by omega) (by omega)
  by_cases h115 : a < 116
  · exact checkedOk_use checkedOk_115 (by omega) (by omega)
  exact checkedOk_use checkedOk_116 (by omega) (by omega)
end Go.Proofs.Ytpekdmadmggbpaa.Pure
