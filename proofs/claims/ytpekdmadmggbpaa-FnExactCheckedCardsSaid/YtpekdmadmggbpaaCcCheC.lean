/- The plain law of CheckedCards: 128 numbers, counted out; behind them both programs say no. -/
import Derived.Test.YtpekdmadmggbpaaCcCheOk
namespace Go.Proofs.Ytpekdmadmggbpaa.Pure
open Go.RowKit Go.Proofs.Ytpekdmadmggbpaa.Cc
set_option linter.unusedVariables false
set_option maxRecDepth 1000000 in
theorem checkedOk_81 : (List.range 1).all (fun i => checkedOk 5000 ((81 : Int) + (i : Int))) = true := by decide +kernel
set_option maxRecDepth 1000000 in
theorem checkedOk_82 : (List.range 1).all (fun i => checkedOk 5000 ((82 : Int) + (i : Int))) = true := by decide +kernel
set_option maxRecDepth 1000000 in
theorem checkedOk_83 : (List.range 1).all (fun i => checkedOk 5000 ((83 : Int) + (i : Int))) = true := by decide +kernel
set_option maxRecDepth 1000000 in
theorem checkedOk_84 : (List.range 1).all (fun i => checkedOk 5000 ((84 : Int) + (i : Int))) = true := by decide +kernel
set_option maxRecDepth 1000000 in
theorem checkedOk_85 : (List.range 1).all (fun i => checkedOk 5000 ((85 : Int) + (i : Int))) = true := by decide +kernel
set_option maxRecDepth 1000000 in
theorem checkedOk_86 : (List.range 1).all (fun i => checkedOk 5000 ((86 : Int) + (i : Int))) = true := by decide +kernel
set_option maxRecDepth 1000000 in
theorem checkedOk_87 : (List.range 1).all (fun i => checkedOk 5000 ((87 : Int) + (i : Int))) = true := by decide +kernel
set_option maxRecDepth 1000000 in
theorem checkedOk_88 : (List.range 1).all (fun i => checkedOk 5000 ((88 : Int) + (i : Int))) = true := by decide +kernel
set_option maxRecDepth 1000000 in
theorem checkedOk_89 : (List.range 1).all (fun i => checkedOk 5000 ((89 : Int) + (i : Int))) = true := by decide +kernel
set_option maxRecDepth 1000000 in
theorem checkedOk_90 : (List.range 1).all (fun i => checkedOk 5000 ((90 : Int) + (i : Int))) = true := by decide +kernel
set_option maxRecDepth 1000000 in
theorem checkedOk_91 : (List.range 1).all (fun i => checkedOk 5000 ((91 : Int) + (i : Int))) = true := by decide +kernel
set_option maxRecDepth 1000000 in
theorem checkedOk_92 : (List.range 1).all (fun i => checkedOk 5000 ((92 : Int) + (i : Int))) = true := by decide +kernel
theorem checkedOk_C (a : Int) (h0 : 81 ≤ a) (h1 : a < 93) : checkedOk 5000 a = true := by
  by_cases h81 : a < 82
  · exact checkedOk_use checkedOk_81 (by omega) (by omega)
  by_cases h82 : a < 83
  · exact checkedOk_use checkedOk_82 (by omega) (by omega)
  by_cases h83 : a < 84
  · exact checkedOk_use checkedOk_83 (by omega) (by omega)
  by_cases h84 : a < 85
  · exact checkedOk_use checkedOk_84 (by omega) (by omega)
  by_cases h85 : a < 86
  · exact checkedOk_use checkedOk_85 (by omega) (by omega)
  by_cases h86 : a < 87
  · exact checkedOk_use checkedOk_86 (by omega) (by omega)
  by_cases h87 : a < 88
  · exact checkedOk_use checkedOk_87 (by omega) (by omega)
  by_cases h88 : a < 89
  · exact checkedOk_use checkedOk_88 (by omega) (by omega)
  by_cases h89 : a < 90
  · exact checkedOk_use checkedOk_89 (by omega) (by omega)
  by_cases h90 : a < 91
  · exact checkedOk_use checkedOk_90 (by omega) (by omega)
  by_cases h91 : a < 92
  · exact checkedOk_use checkedOk_91 (by omega) (by omega)
  exact checkedOk_use checkedOk_92 (by omega) (by omega)
end Go.Proofs.Ytpekdmadmggbpaa.Pure
