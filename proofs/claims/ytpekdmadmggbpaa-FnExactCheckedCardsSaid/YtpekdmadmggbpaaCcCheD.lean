/- The plain law of CheckedCards: 128 numbers, counted out; behind them both programs say no. -/
import Derived.Test.YtpekdmadmggbpaaCcCheOk
namespace Go.Proofs.Ytpekdmadmggbpaa.Pure
open Go.RowKit Go.Proofs.Ytpekdmadmggbpaa.Cc
set_option linter.unusedVariables false
set_option maxRecDepth 1000000 in
theorem checkedOk_93 : (List.range 1).all (fun i => checkedOk 5000 ((93 : Int) + (i : Int))) = true := by decide +kernel
set_option maxRecDepth 1000000 in
theorem checkedOk_94 : (List.range 1).all (fun i => checkedOk 5000 ((94 : Int) + (i : Int))) = true := by decide +kernel
set_option maxRecDepth 1000000 in
theorem checkedOk_95 : (List.range 1).all (fun i => checkedOk 5000 ((95 : Int) + (i : Int))) = true := by decide +kernel
set_option maxRecDepth 1000000 in
theorem checkedOk_96 : (List.range 1).all (fun i => checkedOk 5000 ((96 : Int) + (i : Int))) = true := by decide +kernel
set_option maxRecDepth 1000000 in
theorem checkedOk_97 : (List.range 1).all (fun i => checkedOk 5000 ((97 : Int) + (i : Int))) = true := by decide +kernel
set_option maxRecDepth 1000000 in
theorem checkedOk_98 : (List.range 1).all (fun i => checkedOk 5000 ((98 : Int) + (i : Int))) = true := by decide +kernel
set_option maxRecDepth 1000000 in
theorem checkedOk_99 : (List.range 1).all (fun i => checkedOk 5000 ((99 : Int) + (i : Int))) = true := by decide +kernel
set_option maxRecDepth 1000000 in
theorem checkedOk_100 : (List.range 1).all (fun i => checkedOk 5000 ((100 : Int) + (i : Int))) = true := by decide +kernel
set_option maxRecDepth 1000000 in
theorem checkedOk_101 : (List.range 1).all (fun i => checkedOk 5000 ((101 : Int) + (i : Int))) = true := by decide +kernel
theorem checkedOk_D (a : Int) (h0 : 93 ≤ a) (h1 : a < 102) : checkedOk 5000 a = true := by
  by_cases h93 : a < 94
  · exact checkedOk_use checkedOk_93 (by omega) (by omega)
  by_cases h94 : a < 95
  · exact checkedOk_use checkedOk_94 (by omega) (by omega)
  by_cases h95 : a < 96
  · exact checkedOk_use checkedOk_95 (by omega) (by omega)
  by_cases h96 : a < 97
  · exact checkedOk_use checkedOk_96 (by omega) (by omega)
  by_cases h97 : a < 98
  · exact checkedOk_use checkedOk_97 (by omega) (by omega)
  by_cases h98 : a < 99
  · exact checkedOk_use checkedOk_98 (by omega) (by omega)
  by_cases h99 : a < 100
  · exact checkedOk_use checkedOk_99 (by omega) (by omega)
  by_cases h100 : a < 101
  · exact checkedOk_use checkedOk_100 (by omega) (by omega)
  exact checkedOk_use checkedOk_101 (by omega) (by omega)
end Go.Proofs.Ytpekdmadmggbpaa.Pure
