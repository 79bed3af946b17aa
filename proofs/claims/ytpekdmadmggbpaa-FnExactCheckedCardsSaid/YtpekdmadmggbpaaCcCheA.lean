/- The plain law of CheckedCards: 128 numbers, counted out; behind them both programs say no. -/
import Derived.Test.YtpekdmadmggbpaaCcCheOk
namespace Go.Proofs.Ytpekdmadmggbpaa.Pure
open Go.RowKit Go.Proofs.Ytpekdmadmggbpaa.Cc
set_option linter.unusedVariables false
set_option maxRecDepth 1000000 in
theorem checkedOk_2 : (List.range 1).all (fun i => checkedOk 5000 ((2 : Int) + (i : Int))) = true := by decide +kernel
set_option maxRecDepth 1000000 in
theorem checkedOk_3 : (List.range 1).all (fun i => checkedOk 5000 ((3 : Int) + (i : Int))) = true := by decide +kernel
set_option maxRecDepth 1000000 in
theorem checkedOk_4 : (List.range 1).all (fun i => checkedOk 5000 ((4 : Int) + (i : Int))) = true := by decide +kernel
set_option maxRecDepth 1000000 in
theorem checkedOk_5 : (List.range 1).all (fun i => checkedOk 5000 ((5 : Int) + (i : Int))) = true := by decide +kernel
set_option maxRecDepth 1000000 in
theorem checkedOk_6 : (List.range 1).all (fun i => checkedOk 5000 ((6 : Int) + (i : Int))) = true := by decide +kernel
set_option maxRecDepth 1000000 in
theorem checkedOk_7 : (List.range 1).all (fun i => checkedOk 5000 ((7 : Int) + (i : Int))) = true := by decide +kernel
set_option maxRecDepth 1000000 in
theorem checkedOk_8 : (List.range 1).all (fun i => checkedOk 5000 ((8 : Int) + (i : Int))) = true := by decide +kernel
set_option maxRecDepth 1000000 in
theorem checkedOk_9 : (List.range 1).all (fun i => checkedOk 5000 ((9 : Int) + (i : Int))) = true := by decide +kernel
set_option maxRecDepth 1000000 in
theorem checkedOk_10 : (List.range 1).all (fun i => checkedOk 5000 ((10 : Int) + (i : Int))) = true := by decide +kernel
set_option maxRecDepth 1000000 in
theorem checkedOk_11 : (List.range 1).all (fun i => checkedOk 5000 ((11 : Int) + (i : Int))) = true := by decide +kernel
set_option maxRecDepth 1000000 in
theorem checkedOk_12 : (List.range 1).all (fun i => checkedOk 5000 ((12 : Int) + (i : Int))) = true := by decide +kernel
set_option maxRecDepth 1000000 in
theorem checkedOk_13 : (List.range 1).all (fun i => checkedOk 5000 ((13 : Int) + (i : Int))) = true := by decide +kernel
set_option maxRecDepth 1000000 in
theorem checkedOk_14 : (List.range 1).all (fun i => checkedOk 5000 ((14 : Int) + (i : Int))) = true := by decide +kernel
set_option maxRecDepth 1000000 in
theorem checkedOk_15 : (List.range 1).all (fun i => checkedOk 5000 ((15 : Int) + (i : Int))) = true := by decide +kernel
set_option maxRecDepth 1000000 in
theorem checkedOk_16 : (List.range 1).all (fun i => checkedOk 5000 ((16 : Int) + (i : Int))) = true := by decide +kernel
set_option maxRecDepth 1000000 in
theorem checkedOk_17 : (List.range 1).all (fun i => checkedOk 5000 ((17 : Int) + (i : Int))) = true := by decide +kernel
set_option maxRecDepth 1000000 in
theorem checkedOk_18 : (List.range 1).all (fun i => checkedOk 5000 ((18 : Int) + (i : Int))) = true := by decide +kernel
set_option maxRecDepth 1000000 in
theorem checkedOk_19 : (List.range 1).all (fun i => checkedOk 5000 ((19 : Int) + (i : Int))) = true := by decide +kernel
set_option maxRecDepth 1000000 in
theorem checkedOk_20 : (List.range 1).all (fun i => checkedOk 5000 ((20 : Int) + (i : Int))) = true := by decide +kernel
set_option maxRecDepth 1000000 in
theorem checkedOk_21 : (List.range 1).all (fun i => checkedOk 5000 ((21 : Int) + (i : Int))) = true := by decide +kernel
set_option maxRecDepth 1000000 in
theorem checkedOk_22 : (List.range 1).all (fun i => checkedOk 5000 ((22 : Int) + (i : Int))) = true := by decide +kernel
set_option maxRecDepth 1000000 in
theorem checkedOk_23 : (List.range 1).all (fun i => checkedOk 5000 ((23 : Int) + (i : Int))) = true := by decide +kernel
set_option maxRecDepth 1000000 in
theorem checkedOk_24 : (List.range 1).all (fun i => checkedOk 5000 ((24 : Int) + (i : Int))) = true := by decide +kernel
set_option maxRecDepth 1000000 in
theorem checkedOk_25 : (List.range 1).all (fun i => checkedOk 5000 ((25 : Int) + (i : Int))) = true := by decide +kernel
set_option maxRecDepth 1000000 in
theorem checkedOk_26 : (List.range 1).all (fun i => checkedOk 5000 ((26 : Int) + (i : Int))) = true := by decide +kernel
set_option maxRecDepth 1000000 in
theorem checkedOk_27 : (List.range 1).all (fun i => checkedOk 5000 ((27 : Int) + (i : Int))) = true := by decide +kernel
set_option maxRecDepth 1000000 in
theorem checkedOk_28 : (List.range 1).all (fun i => checkedOk 5000 ((28 : Int) + (i : Int))) = true := by decide +kernel
set_option maxRecDepth 1000000 in
theorem checkedOk_29 : (List.range 1).all (fun i => checkedOk 5000 ((29 : Int) + (i : Int))) = true := by decide +kernel
set_option maxRecDepth 1000000 in
theorem checkedOk_30 : (List.range 1).all (fun i => checkedOk 5000 ((30 : Int) + (i : Int))) = true := by decide +kernel
set_option maxRecDepth 1000000 in
theorem checkedOk_31 : (List.range 1).all (fun i => checkedOk 5000 ((31 : Int) + (i : Int))) = true := by decide +kernel
set_option maxRecDepth 1000000 in
theorem checkedOk_32 : (List.range 1).all (fun i => checkedOk 5000 ((32 : Int) + (i : Int))) = true := by decide +kernel
set_option maxRecDepth 1000000 in
theorem checkedOk_33 : (List.range 1).all (fun i => checkedOk 5000 ((33 : Int) + (i : Int))) = true := by decide +kernel
set_option maxRecDepth 1000000 in
theorem checkedOk_34 : (List.range 1).all (fun i => checkedOk 5000 ((34 : Int) + (i : Int))) = true := by decide +kernel
set_option maxRecDepth 1000000 in
theorem checkedOk_35 : (List.range 1).all (fun i => checkedOk 5000 ((35 : Int) + (i : Int))) = true := by decide +kernel
set_option maxRecDepth 1000000 in
theorem checkedOk_36 : (List.range 1).all (fun i => checkedOk 5000 ((36 : Int) + (i : Int))) = true := by decide +kernel
set_option maxRecDepth 1000000 in
theorem checkedOk_37 : (List.range 1).all (fun i => checkedOk 5000 ((37 : Int) + (i : Int))) = true := by decide +kernel
set_option maxRecDepth 1000000 in
theorem checkedOk_38 : (List.range 1).all (fun i => checkedOk 5000 ((38 : Int) + (i : Int))) = true := by decide +kernel
set_option maxRecDepth 1000000 in
theorem checkedOk_39 : (List.range 1).all (fun i => checkedOk 5000 ((39 : Int) + (i : Int))) = true := by decide +kernel
set_option maxRecDepth 1000000 in
theorem checkedOk_40 : (List.range 1).all (fun i => checkedOk 5000 ((40 : Int) + (i : Int))) = true := by decide +kernel
set_option maxRecDepth 1000000 in
theorem checkedOk_41 : (List.range 1).all (fun i => checkedOk 5000 ((41 : Int) + (i : Int))) = true := by decide +kernel
set_option maxRecDepth 1000000 in
theorem checkedOk_42 : (List.range 1).all (fun i => checkedOk 5000 ((42 : Int) + (i : Int))) = true := by decide +kernel
set_option maxRecDepth 1000000 in
theorem checkedOk_43 : (List.range 1).all (fun i => checkedOk 5000 ((43 : Int) + (i : Int))) = true := by decide +kernel
set_option maxRecDepth 1000000 in
theorem checkedOk_44 : (List.range 1).all (fun i => checkedOk 5000 ((44 : Int) + (i : Int))) = true := by decide +kernel
set_option maxRecDepth 1000000 in
theorem checkedOk_45 : (List.range 1).all (fun i => checkedOk 5000 ((45 : Int) + (i : Int))) = true := by decide +kernel
set_option maxRecDepth 1000000 in
theorem checkedOk_46 : (List.range 1).all (fun i => checkedOk 5000 ((46 : Int) + (i : Int))) = true := by decide +kernel
set_option maxRecDepth 1000000 in
theorem checkedOk_47 : (List.range 1).all (fun i => checkedOk 5000 ((47 : Int) + (i : Int))) = true := by decide +kernel
set_option maxRecDepth 1000000 in
theorem checkedOk_48 : (List.range 1).all (fun i => checkedOk 5000 ((48 : Int) + (i : Int))) = true := by decide +kernel
set_option maxRecDepth 1000000 in
theorem checkedOk_49 : (List.range 1).all (fun i => checkedOk 5000 ((49 : Int) + (i : Int))) = true := by decide +kernel
set_option maxRecDepth 1000000 in
theorem checkedOk_50 : (List.range 1).all (fun i => checkedOk 5000 ((50 : Int) + (i : Int))) = true := by decide +kernel
set_option maxRecDepth 1000000 in
theorem checkedOk_51 : (List.range 1).all (fun i => checkedOk 5000 ((51 : Int) + (i : Int))) = true := by decide +kernel
set_option maxRecDepth 1000000 in
theorem checkedOk_52 : (List.range 1).all (fun i => checkedOk 5000 ((52 : Int) + (i : Int))) = true := by decide +kernel
set_option maxRecDepth 1000000 in
theorem checkedOk_53 : (List.range 1).all (fun i => checkedOk 5000 ((53 : Int) + (i : Int))) = true := by decide +kernel
set_option maxRecDepth 1000000 in
theorem checkedOk_54 : (List.range 1).all (fun i => checkedOk 5000 ((54 : Int) + (i : Int))) = true := by decide +kernel
set_option maxRecDepth 1000000 in
theorem checkedOk_55 : (List.range 1).all (fun i => checkedOk 5000 ((55 : Int) + (i : Int))) = true := by decide +kernel
set_option maxRecDepth 1000000 in
theorem checkedOk_56 : (List.range 1).all (fun i => checkedOk 5000 ((56 : Int) + (i : Int))) = true := by decide +kernel
set_option maxRecDepth 1000000 in
theorem checkedOk_57 : (List.range 1).all (fun i => checkedOk 5000 ((57 : Int) + (i : Int))) = true := by decide +kernel
set_option maxRecDepth 1000000 in
theorem checkedOk_58 : (List.range 1).all (fun i => checkedOk 5000 ((58 : Int) + (i : Int))) = true := by decide +kernel
set_option maxRecDepth 1000000 in
theorem checkedOk_59 : (List.range 1).all (fun i => checkedOk 5000 ((59 : Int) + (i : Int))) = true := by decide +kernel
set_option maxRecDepth 1000000 in
theorem checkedOk_60 : (List.range 1).all (fun i => checkedOk 5000 ((60 : Int) + (i : Int))) = true := by decide +kernel
set_option maxRecDepth 1000000 in
theorem checkedOk_61 : (List.range 1).all (fun i => checkedOk 5000 ((61 : Int) + (i : Int))) = true := by decide +kernel
set_option maxRecDepth 1000000 in
theorem checkedOk_62 : (List.range 1).all (fun i => checkedOk 5000 ((62 : Int) + (i : Int))) = true := by decide +kernel
set_option maxRecDepth 1000000 in
theorem checkedOk_63 : (List.range 1).all (fun i => checkedOk 5000 ((63 : Int) + (i : Int))) = true := by decide +kernel
set_option maxRecDepth 1000000 in
theorem checkedOk_64 : (List.range 1).all (fun i => checkedOk 5000 ((64 : Int) + (i : Int))) = true := by decide +kernel
theorem checkedOk_A (a : Int) (h0 : 2 ≤ a) (h1 : a < 65) : checkedOk 5000 a = true := by
  by_cases h2 : a < 3
  · exact checkedOk_use checkedOk_2 (by omega) (by omega)
  by_cases h3 : a < 4
  · exact checkedOk_use checkedOk_3 (by omega) (by omega)
  by_cases h4 : a < 5
  · exact checkedOk_use checkedOk_4 (by omega) (by omega)
  by_cases h5 : a < 6
  · exact checkedOk_use checkedOk_5 (by omega) (by omega)
  by_cases h6 : a < 7
  · exact checkedOk_use checkedOk_6 (by omega) (by omega)
  by_cases h7 : a < 8
  · exact checkedOk_use checkedOk_7 (by omega) (by omega)
  by_cases h8 : a < 9
  · exact checkedOk_use checkedOk_8 (by omega) (by omega)
  by_cases h9 : a < 10
  · exact checkedOk_use checkedOk_9 (by omega) (by omega)
  by_cases h10 : a < 11
  · exact checkedOk_use checkedOk_10 (by omega) (by omega)
  by_cases h11 : a < 12
  · exact checkedOk_use checkedOk_11 (by omega) (by omega)
  by_cases h12 : a < 13
  · exact checkedOk_use checkedOk_12 (by omega) (by omega)
  by_cases h13 : a < 14
  · exact checkedOk_use checkedOk_13 (by omega) (by omega)
  by_cases h14 : a < 15
  · exact checkedOk_use checkedOk_14 (by omega) (by omega)
  by_cases h15 : a < 16
  · exact checkedOk_use checkedOk_15 (by omega) (by omega)
  by_cases h16 : a < 17
  · exact checkedOk_use checkedOk_16 (by omega) (by omega)
  by_cases h17 : a < 18
  · exact checkedOk_use checkedOk_17 (by omega) (by omega)
  by_cases h18 : a < 19
  · exact checkedOk_use checkedOk_18 (by omega) (by omega)
  by_cases h19 : a < 20
  · exact checkedOk_use checkedOk_19 (by omega) (by omega)
  by_cases h20 : a < 21
  · exact checkedOk_use checkedOk_20 (by omega) (by omega)
  by_cases h21 : a < 22
  · exact checkedOk_use checkedOk_21 (by omega) (by omega)
  by_cases h22 : a < 23
  · exact checkedOk_use checkedOk_22 (by omega) (by omega)
  by_cases h23 : a < 24
  · exact checkedOk_use checkedOk_23 (by omega) (by omega)
  by_cases h24 : a < 25
  · exact checkedOk_use checkedOk_24 (by omega) (by omega)
  by_cases h25 : a < 26
  · exact checkedOk_use checkedOk_25 (by omega) (by omega)
  by_cases h26 : a < 27
  · exact checkedOk_use checkedOk_26 (by omega) (by omega)
  by_cases h27 : a < 28
  · exact checkedOk_use checkedOk_27 (by omega) (by omega)
  by_cases h28 : a < 29
  · exact checkedOk_use checkedOk_28 (by omega) (by omega)
  by_cases h29 : a < 30
  · exact checkedOk_use checkedOk_29 (by omega) (by omega)
  by_cases h30 : a < 31
  · exact checkedOk_use checkedOk_30 (by omega) (by omega)
  by_cases h31 : a < 32
  · exact checkedOk_use checkedOk_31 (by omega) (by omega)
  by_cases h32 : a < 33
  · exact checkedOk_use checkedOk_32 (by omega) (by omega)
  by_cases h33 : a < 34
  · exact checkedOk_use checkedOk_33 (by omega) (by omega)
  by_cases h34 : a < 35
  · exact checkedOk_use checkedOk_34 (by omega) (by omega)
  by_cases h35 : a < 36
  · exact checkedOk_use checkedOk_35 (by omega) (by omega)
  by_cases h36 : a < 37
  · exact checkedOk_use checkedOk_36 (by omega) (by omega)
  by_cases h37 : a < 38
  · exact checkedOk_use checkedOk_37 (by omega) (by omega)
  by_cases h38 : a < 39
  · exact checkedOk_use checkedOk_38 (by omega) (by omega)
  by_cases h39 : a < 40
  · exact checkedOk_use checkedOk_39 (by omega) (by omega)
  by_cases h40 : a < 41
  · exact checkedOk_use checkedOk_40 (by omega) (by omega)
  by_cases h41 : a < 42
  · exact checkedOk_use checkedOk_41 (by omega) (by omega)
  by_cases h42 : a < 43
  · exact checkedOk_use checkedOk_42 (by omega) (by omega)
  by_cases h43 : a < 44
  · exact checkedOk_use checkedOk_43 (by omega) (by omega)
  by_cases h44 : a < 45
  · exact checkedOk_use checkedOk_44 (by omega) (by omega)
  by_cases h45 : a < 46
  · exact checkedOk_use checkedOk_45 (by omega) (by omega)
  by_cases h46 : a < 47
  · exact checkedOk_use checkedOk_46 (by omega) (by omega)
  by_cases h47 : a < 48
  · exact checkedOk_use checkedOk_47 (by omega) (by omega)
  by_cases h48 : a < 49
  · exact checkedOk_use checkedOk_48 (by omega) (by omega)
  by_cases h49 : a < 50
  · exact checkedOk_use checkedOk_49 (by omega) (by omega)
  by_cases h50 : a < 51
  · exact checkedOk_use checkedOk_50 (by omega) (by omega)
  by_cases h51 : a < 52
  · exact checkedOk_use checkedOk_51 (by omega) (by omega)
  by_cases h52 : a < 53
  · exact checkedOk_use checkedOk_52 (by omega) (by omega)
  by_cases h53 : a < 54
  · exact checkedOk_use checkedOk_53 (by omega) (by omega)
  by_cases h54 : a < 55
  · exact checkedOk_use checkedOk_54 (by omega) (by omega)
  by_cases h55 : a < 56
  · exact checkedOk_use checkedOk_55 (by omega) (by omega)
  by_cases h56 : a < 57
  · exact checkedOk_use checkedOk_56 (by omega) (by omega)
  by_cases h57 : a < 58
  · exact checkedOk_use checkedOk_57 (by omega) (by omega)
  by_cases h58 : a < 59
  · exact checkedOk_use checkedOk_58 (by omega) (by omega)
  by_cases h59 : a < 60
  · exact checkedOk_use checkedOk_59 (by omega) (by omega)
  by_cases h60 : a < 61
  · exact checkedOk_use checkedOk_60 (by omega) (by omega)
  by_cases h61 : a < 62
  · exact checkedOk_use checkedOk_61 (by omega) (by omega)
  by_cases h62 : a < 63
  · exact checkedOk_use checkedOk_62 (by omega) (by omega)
  by_cases h63 : a < 64
  · exact checkedOk_use checkedOk_63 (by omega) (by omega)
  exact checkedOk_use checkedOk_64 (by omega) (by omega)
end Go.Proofs.Ytpekdmadmggbpaa.Pure
