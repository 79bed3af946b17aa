/- The plain law of CheckedCards: 128 numbers, counted out; behind them both programs say no. -/
import Derived.Test.YtpekdmadmggbpaaCcCheOk
namespace Go.Proofs.Ytpekdmadmggbpaa.Pure
open Go.RowKit Go.Proofs.Ytpekdmadmggbpaa.Cc
set_option linter.unusedVariables false
set_option maxRecDepth 1000000 in
theorem checkedOk_65 : (List.range 1).all (fun i => checkedOk 5000 ((65 : Int) + (i : Int))) = true := by decide +kernel
set_option maxRecDepth 1000000 in
theorem checkedOk_66 : (List.range 1).all (fun i => checkedOk 5000 ((66 : Int) + (i : Int))) = true := by decide +kernel
set_option maxRecDepth 1000000 in
theorem checkedOk_67 : (List.range 1).all (fun i => checkedOk 5000 ((67 : Int) + (i : Int))) = true := by decide +kernel
set_option maxRecDepth 1000000 in
theorem checkedOk_68 : (List.range 1).all (fun i => checkedOk 5000 ((68 : Int) + (i : Int))) = true := by decide +kernel
set_option maxRecDepth 1000000 in
theorem checkedOk_69 : (List.range 1).all (fun i => checkedOk 5000 ((69 : Int) + (i : Int))) = true := by decide +kernel
set_option maxRecDepth 1000000 in
theorem checkedOk_70 : (List.range 1).all (fun i => checkedOk 5000 ((70 : Int) + (i : Int))) = true := by decide +kernel
set_option maxRecDepth 1000000 in
theorem checkedOk_71 : (List.range 1).all (fun i => checkedOk 5000 ((71 : Int) + (i : Int))) = true := by decide +kernel
set_option maxRecDepth 1000000 in
theorem checkedOk_72 : (List.range 1).all (fun i => checkedOk 5000 ((72 : Int) + (i : Int))) = true := by decide +kernel
set_option maxRecDepth 1000000 in
theorem checkedOk_73 : (List.range 1).all (fun i => checkedOk 5000 ((73 : Int) + (i : Int))) = true := by decide +kernel
set_option maxRecDepth 1000000 in
theorem checkedOk_74 : (List.range 1).all (fun i => checkedOk 5000 ((74 : Int) + (i : Int))) = true := by decide +kernel
set_option maxRecDepth 1000000 in
theorem checkedOk_75 : (List.range 1).all (fun i => checkedOk 5000 ((75 : Int) + (i : Int))) = true := by decide +kernel
set_option maxRecDepth 1000000 in
theorem checkedOk_76 : (List.range 1).all (fun i => checkedOk 5000 ((76 : Int) + (i : Int))) = true := by decide +kernel
set_option maxRecDepth 1000000 in
theorem checkedOk_77 : (List.range 1).all (fun i => checkedOk 5000 ((77 : Int) + (i : Int))) = true := by decide +kernel
set_option maxRecDepth 1000000 in
theorem checkedOk_78 : (List.range 1).all (fun i => checkedOk 5000 ((78 : Int) + (i : Int))) = true := by decide +kernel
set_option maxRecDepth 1000000 in
theorem checkedOk_79 : (List.range 1).all (fun i => checkedOk 5000 ((79 : Int) + (i : Int))) = true := by decide +kernel
set_option maxRecDepth 1000000 in
theorem checkedOk_80 : (List.range 1).all (fun i => checkedOk 5000 ((80 : Int) + (i : Int))) = true := by decide +kernel
theorem checkedOk_B (a : Int) (h0 : 65 ≤ a) (h1 : a < 81) : checkedOk 5000 a = true := by
  by_cases h65 : a < 66
  · exact checkedOk_use checkedOk_65 (by omega) (by omega)
  by_cases h66 : a < 67
  · exact checkedOk_use checkedOk_66 (by omega) (by omega)
  by_cases h67 : a < 68
  · exact checkedOk_use checkedOk_67 (by omega) (by omega)
  by_cases h68 : a < 69
  · exact checkedOk_use checkedOk_68 (by omega) (by omega)
  by_cases h69 : a < 70
  · exact checkedOk_use checkedOk_69 (by omega) (by omega)
  by_cases h70 : a < 71
  · exact checkedOk_use checkedOk_70 (by omega) (by omega)
  by_cases h71 : a < 72
  · exact checkedOk_use checkedOk_71 (by omega) (by omega)
  by_cases h72 : a < 73
  · exact checkedOk_use checkedOk_72 (by omega) (by omega)
  by_cases h73 : a < 74
  · exact checkedOk_use checkedOk_73 (by omega) (by omega)
  by_cases h74 : a < 75
  · exact checkedOk_use checkedOk_74 (by omega) (by omega)
  by_cases h75 : a < 76
  · exact checkedOk_use checkedOk_75 (by omega) (by omega)
  by_cases h76 : a < 77
  · exact checkedOk_use checkedOk_76 (by omega) (by omega)
  by_cases h77 : a < 78
  · exact checkedOk_use checkedOk_77 (by omega) (by omega)
  by_cases h78 : a < 79
  · exact checkedOk_use checkedOk_78 (by omega) (by omega)
  by_cases h79 : a < 80
  · exact checkedOk_use checkedOk_79 (by omega) (by omega)
  exact checkedOk_use checkedOk_80 (by omega) (by omega)
end Go.Proofs.Ytpekdmadmggbpaa.Pure
