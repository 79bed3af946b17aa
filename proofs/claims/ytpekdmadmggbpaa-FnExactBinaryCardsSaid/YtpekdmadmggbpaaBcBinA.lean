/- The plain law of BinaryCards: 128 numbers, counted out; behind them both programs say no. -/
import Derived.Test.YtpekdmadmggbpaaBcBinOk
namespace Go.Proofs.Ytpekdmadmggbpaa.Pure
open Go.RowKit Go.Proofs.Ytpekdmadmggbpaa.Bc
set_option linter.unusedVariables false
set_option maxRecDepth 1000000 in
theorem binaryOk_1 : (List.range 4).all (fun i => binaryOk 140 ((1 : Int) + (i : Int))) = true := by decide +kernel
set_option maxRecDepth 1000000 in
theorem binaryOk_5 : (List.range 4).all (fun i => binaryOk 140 ((5 : Int) + (i : Int))) = true := by decide +kernel
set_option maxRecDepth 1000000 in
theorem binaryOk_9 : (List.range 4).all (fun i => binaryOk 140 ((9 : Int) + (i : Int))) = true := by decide +kernel
set_option maxRecDepth 1000000 in
theorem binaryOk_13 : (List.range 4).all (fun i => binaryOk 140 ((13 : Int) + (i : Int))) = true := by decide +kernel
set_option maxRecDepth 1000000 in
theorem binaryOk_17 : (List.range 4).all (fun i => binaryOk 140 ((17 : Int) + (i : Int))) = true := by decide +kernel
set_option maxRecDepth 1000000 in
theorem binaryOk_21 : (List.range 4).all (fun i => binaryOk 140 ((21 : Int) + (i : Int))) = true := by decide +kernel
set_option maxRecDepth 1000000 in
theorem binaryOk_25 : (List.range 4).all (fun i => binaryOk 140 ((25 : Int) + (i : Int))) = true := by decide +kernel
set_option maxRecDepth 1000000 in
theorem binaryOk_29 : (List.range 4).all (fun i => binaryOk 140 ((29 : Int) + (i : Int))) = true := by decide +kernel
set_option maxRecDepth 1000000 in
theorem binaryOk_33 : (List.range 4).all (fun i => binaryOk 140 ((33 : Int) + (i : Int))) = true := by decide +kernel
set_option maxRecDepth 1000000 in
theorem binaryOk_37 : (List.range 4).all (fun i => binaryOk 140 ((37 : Int) + (i : Int))) = true := by decide +kernel
set_option maxRecDepth 1000000 in
theorem binaryOk_41 : (List.range 4).all (fun i => binaryOk 140 ((41 : Int) + (i : Int))) = true := by decide +kernel
set_option maxRecDepth 1000000 in
theorem binaryOk_45 : (List.range 4).all (fun i => binaryOk 140 ((45 : Int) + (i : Int))) = true := by decide +kernel
set_option maxRecDepth 1000000 in
theorem binaryOk_49 : (List.range 4).all (fun i => binaryOk 140 ((49 : Int) + (i : Int))) = true := by decide +kernel
set_option maxRecDepth 1000000 in
theorem binaryOk_53 : (List.range 4).all (fun i => binaryOk 140 ((53 : Int) + (i : Int))) = true := by decide +kernel
set_option maxRecDepth 1000000 in
theorem binaryOk_57 : (List.range 4).all (fun i => binaryOk 140 ((57 : Int) + (i : Int))) = true := by decide +kernel
set_option maxRecDepth 1000000 in
theorem binaryOk_61 : (List.range 4).all (fun i => binaryOk 140 ((61 : Int) + (i : Int))) = true := by decide +kernel
set_option maxRecDepth 1000000 in
theorem binaryOk_65 : (List.range 4).all (fun i => binaryOk 140 ((65 : Int) + (i : Int))) = true := by decide +kernel
set_option maxRecDepth 1000000 in
theorem binaryOk_69 : (List.range 4).all (fun i => binaryOk 140 ((69 : Int) + (i : Int))) = true := by decide +kernel
set_option maxRecDepth 1000000 in
theorem binaryOk_73 : (List.range 4).all (fun i => binaryOk 140 ((73 : Int) + (i : Int))) = true := by decide +kernel
set_option maxRecDepth 1000000 in
theorem binaryOk_77 : (List.range 4).all (fun i => binaryOk 140 ((77 : Int) + (i : Int))) = true := by decide +kernel
set_option maxRecDepth 1000000 in
theorem binaryOk_81 : (List.range 4).all (fun i => binaryOk 140 ((81 : Int) + (i : Int))) = true := by decide +kernel
set_option maxRecDepth 1000000 in
theorem binaryOk_85 : (List.range 4).all (fun i => binaryOk 140 ((85 : Int) + (i : Int))) = true := by decide +kernel
theorem binaryOk_A (a : Int) (h0 : 1 ≤ a) (h1 : a < 89) : binaryOk 140 a = true := by
  by_cases h1 : a < 5
  · exact binaryOk_use binaryOk_1 (by omega) (by omega)
  by_cases h5 : a < 9
  · exact binaryOk_use binaryOk_5 (by omega) (by omega)
  by_cases h9 : a < 13
  · exact binaryOk_use binaryOk_9 (by omega) (by omega)
  by_cases h13 : a < 17
  · exact binaryOk_use binaryOk_13 (by omega) (by omega)
  by_cases h17 : a < 21
  · exact binaryOk_use binaryOk_17 (by omega) (by omega)
  by_cases h21 : a < 25
  · exact binaryOk_use binaryOk_21 (by omega) (by omega)
  by_cases h25 : a < 29
  · exact binaryOk_use binaryOk_25 (by omega) (by omega)
  by_cases h29 : a < 33
  · exact binaryOk_use binaryOk_29 (by omega) (by omega)
  by_cases h33 : a < 37
  · exact binaryOk_use binaryOk_33 (by omega) (by omega)
  by_cases h37 : a < 41
  · exact binaryOk_use binaryOk_37 (by omega) (by omega)
  by_cases h41 : a < 45
  · exact binaryOk_use binaryOk_41 (by omega) (by omega)
  by_cases h45 : a < 49
  · exact binaryOk_use binaryOk_45 (by omega) (by omega)
  by_cases h49 : a < 53
  · exact binaryOk_use binaryOk_49 (by omega) (by omega)
  by_cases h53 : a < 57
  · exact binaryOk_use binaryOk_53 (by omega) (by omega)
  by_cases h57 : a < 61
  · exact binaryOk_use binaryOk_57 (by omega) (by omega)
  by_cases h61 : a < 65
  · exact binaryOk_use binaryOk_61 (by omega) (by omega)
  by_cases h65 : a < 69
  · exact binaryOk_use binaryOk_65 (by omega) (by omega)
  by_cases h69 : a < 73
  · exact binaryOk_use binaryOk_69 (by omega) (by omega)
  by_cases h73 : a < 77
  · exact binaryOk_use binaryOk_73 (by omega) (by omega)
  by_cases h77 : a < 81
  · exact binaryOk_use binaryOk_77 (by omega) (by omega)
  by_cases h81 : a < 85
  · exact binaryOk_use binaryOk_81 (by omega) (by omega)
  exact binaryOk_use binaryOk_85 (by omega) (by omega)
end Go.Proofs.Ytpekdmadmggbpaa.Pure
