/-
  DERIVED. GIVEN WITH THE SEED: THE CARDS: each row of YtgcpjjifiebijaaGreatDoorRows.lean that lists a variable, with what it lists TIED to the program's text (the seventh form; the later family's looks); each row that meets fmt, with fmt's text TOLD by the authors' own Lean function (tested against real Go, not proved from fmt's source: count such statements apart). THE CARD IS WHAT COUNTS. Prove the row's statement (the work); the ties are given (YtgcpjjifiebijaaGreatDoorTie.lean); close each card by the builder's one call (the guide's Derived/Test/ToyasCard.lean, 'card_holds'). Laid BY PROGRAM, IN A SANDBOX (cutbox-door.mjs). By AI agents, Wed Nov 11 2026. No macro, syntax, notation, axiom, sorry.
-/
import Derived.Test.YtgcpjjifiebijaaGreatDoorRows
import GoSem.ClaimSeven
namespace Go.Proofs.YtgcpjjifiebijaaGreatDoor
namespace Rows

/-- THE TIED CARD OF 'laws.FnExactNegateSigns'. -/
def fnExactNegateSignsCard : Claim7 := { stood := { row := fnExactNegateSignsRow, standIns := [], harness := (true, "40e41a8b9e1de9d7f503db95dcdda14467155394c4a7170d276c484d53a0289e"), looks := true }, kinds := [], alts := [], laidByText := true, laidKinds := [.data, .pinned], laidTests := true, laidLooks := .later }
def FnExactNegateSignsCardSaid : Prop := Claim7.holds Tryz.pinned (.plain (OpenSpec.ofChange fnExactNegateSignsSpec)) fnExactNegateSignsCard

/-- THE TIED CARD OF 'laws.FnExactAddSigns'. -/
def fnExactAddSignsCard : Claim7 := { stood := { row := fnExactAddSignsRow, standIns := [], harness := (true, "40e41a8b9e1de9d7f503db95dcdda14467155394c4a7170d276c484d53a0289e"), looks := true }, kinds := [], alts := [], laidByText := true, laidKinds := [.data, .pinned], laidTests := true, laidLooks := .later }
def FnExactAddSignsCardSaid : Prop := Claim7.holds Tryz.pinned (.plain (OpenSpec.ofChange fnExactAddSignsSpec)) fnExactAddSignsCard

/-- THE TIED CARD OF 'laws.FnExactOtherSigns'. -/
def fnExactOtherSignsCard : Claim7 := { stood := { row := fnExactOtherSignsRow, standIns := [], harness := (true, "40e41a8b9e1de9d7f503db95dcdda14467155394c4a7170d276c484d53a0289e"), looks := true }, kinds := [], alts := [], laidByText := true, laidKinds := [.data, .pinned], laidTests := true, laidLooks := .later }
def FnExactOtherSignsCardSaid : Prop := Claim7.holds Tryz.pinned (.plain (OpenSpec.ofChange fnExactOtherSignsSpec)) fnExactOtherSignsCard

/-- THE SECOND FORM's CARD OF 'laws.FnExactNegateSigns'. -/
def fnExactNegateSignsUptoCard : Claim7 := { stood := { row := fnExactNegateSignsUptoRow, standIns := [], harness := (true, "40e41a8b9e1de9d7f503db95dcdda14467155394c4a7170d276c484d53a0289e"), looks := true }, kinds := [], alts := [], laidByText := true, laidKinds := [.data, .pinned], laidTests := true, laidLooks := .later }
def FnExactNegateSignsUptoCardSaid : Prop := Claim7.holds Tryz.pinned (.plain (OpenSpec.upto fnExactNegateSignsSpec)) fnExactNegateSignsUptoCard

/-- THE SECOND FORM's CARD OF 'laws.FnExactAddSigns'. -/
def fnExactAddSignsUptoCard : Claim7 := { stood := { row := fnExactAddSignsUptoRow, standIns := [], harness := (true, "40e41a8b9e1de9d7f503db95dcdda14467155394c4a7170d276c484d53a0289e"), looks := true }, kinds := [], alts := [], laidByText := true, laidKinds := [.data, .pinned], laidTests := true, laidLooks := .later }
def FnExactAddSignsUptoCardSaid : Prop := Claim7.holds Tryz.pinned (.plain (OpenSpec.upto fnExactAddSignsSpec)) fnExactAddSignsUptoCard

/-- THE SECOND FORM's CARD OF 'laws.FnExactOtherSigns'. -/
def fnExactOtherSignsUptoCard : Claim7 := { stood := { row := fnExactOtherSignsUptoRow, standIns := [], harness := (true, "40e41a8b9e1de9d7f503db95dcdda14467155394c4a7170d276c484d53a0289e"), looks := true }, kinds := [], alts := [], laidByText := true, laidKinds := [.data, .pinned], laidTests := true, laidLooks := .later }
def FnExactOtherSignsUptoCardSaid : Prop := Claim7.holds Tryz.pinned (.plain (OpenSpec.upto fnExactOtherSignsSpec)) fnExactOtherSignsUptoCard
end Rows
end Go.Proofs.YtgcpjjifiebijaaGreatDoor
