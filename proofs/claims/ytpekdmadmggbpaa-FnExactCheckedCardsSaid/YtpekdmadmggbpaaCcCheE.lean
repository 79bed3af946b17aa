/- The plain law of CheckedCards: 128 numbers, counted out; behind them both programs say no. -/
import Derived.Test.YtpekdmadmggbpaaCcCheOk
namespace Go.Proofs.Ytpekdmadmggbpaa.Pure
open Go.RowKit Go.Proofs.Ytpekdmadmggbpaa.Cc
set_option linter.unusedVariables false
set_option maxRecDepth 1000000 in
theorem checkedOk_102 : (List.range 1).all (fun i => checkedOk 5000 ((102 : Int) + (i : Int))) = true := by decide +kernel
set_option maxRecDepth 1000000 in
theorem checkedOk_103 : (List.range 1).all (fun i => checkedOk 5000 ((103 : Int) + (i : Int))) = true := by decide +kernel
set_option maxRecDepth 1000000 in
theorem checkedOk_104 : (List.range 1).all (fun i => checkedOk 5000 ((104 : Int) + (i : Int))) = true := by decide +kernel
set_option maxRecDepth 1000000 in
theorem checkedOk_105 : (List.range 1).all (fun i => checkedOk 5000 ((105 : Int) + (i : Int))) = true := by decide +kernel
set_option maxRecDepth 1000000 in
theorem checkedOk_106 : (List.range 1).all (fun i => checkedOk 5000 ((106 : Int) + (i : Int))) = true := by decide +kernel
set_option maxRecDepth 1000000 in
theorem checkedOk_107 : (List.range 1).all (fun i => checkedOk 5000 ((107 : Int) + (i : Int))) = true := by decide +kernel
set_option maxRecDepth 1000000 in
theorem checkedOk_108 : (List.range 1).all (fun i => checkedOk 5000 ((108 : Int) + (i : Int))) = true := by decide +kernel
set_option maxRecDepth 1000000 in
theorem checkedOk_109 : (List.range 1).all (fun i => checkedOk 5000 ((109 : Int) + (i : Int))) = true := by decide +kernel
theorem checkedOk_E (a : Int) (h0 : 102 ≤ a) (h1 : a < 110) : checkedOk 5000 a = true := by
  by_cases h102 : a < 103
  · exact checkedOk_use checkedOk_102 (by omega) (by omega)
  by_cases h103 : a < 104
  · exact checkedOk_use checkedOk_103 (by omega) (by omega)
  by_cases h104 : a < 105
  · exact checkedOk_use checkedOk_104 (by omega) (by omega)
  by_cases h105 : a < 106
  · exact checkedOk_use checkedOk_105 (by omega) (by omega)
  by_cases h106 : a < 107
  · exact checkedOk_use checkedOk_106 (by omega) (by omega)
  by_cases h107 : a < 108
  · exact checkedOk_use checkedOk_107 (by omega) (by omega)
  by_cases h108 : a < 109
  · exact checkedOk_use checkedOk_108 (by omega) (by omega)
  exact checkedOk_use checkedOk_109 (by omega) (by omega)
end Go.Proofs.Ytpekdmadmggbpaa.Pure
