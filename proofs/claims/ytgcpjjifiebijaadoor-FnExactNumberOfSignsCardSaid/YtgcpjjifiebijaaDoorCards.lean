/-
  DERIVED. GIVEN WITH THE SEED: THE CARDS: each row of YtgcpjjifiebijaaDoorRows.lean that lists a variable, with what it lists TIED to the program's text (the seventh form; the later family's looks); each row that meets fmt, with fmt's text TOLD by the authors' own Lean function (tested against real Go, not proved from fmt's source: count such statements apart). THE CARD IS WHAT COUNTS. Prove the row's statement (the work); the ties are given (YtgcpjjifiebijaaDoorTie.lean); close each card by the builder's one call (the guide's Derived/Test/ToyasCard.lean, 'card_holds'). Laid BY PROGRAM, IN A SANDBOX (cutbox-door.mjs). By AI agents, Wed Nov 11 2026. No macro, syntax, notation, axiom, sorry.
-/
import Derived.Test.YtgcpjjifiebijaaDoorRows
import GoSem.ClaimSeven
namespace Go.Proofs.YtgcpjjifiebijaaDoor
namespace Rows

/-- THE TIED CARD OF 'laws.FnExactNumberOfSigns'. -/
def fnExactNumberOfSignsCard : Claim7 := { stood := { row := fnExactNumberOfSignsRow, standIns := [], harness := (true, "7607b84654ad065e646bbe30a32f4dd04ed78b6553edb4c2dfa2164a716e8e17"), looks := false }, kinds := [], alts := [], laidByText := true, laidKinds := [.data, .pinned], laidTests := true, laidLooks := .later }
def FnExactNumberOfSignsCardSaid : Prop := Claim7.holds Tryd.pinned (.plain (OpenSpec.ofChange fnExactNumberOfSignsSpec)) fnExactNumberOfSignsCard

/-- THE TIED CARD OF 'laws.FnExactValueOfSigns'. -/
def fnExactValueOfSignsCard : Claim7 := { stood := { row := fnExactValueOfSignsRow, standIns := [], harness := (true, "7607b84654ad065e646bbe30a32f4dd04ed78b6553edb4c2dfa2164a716e8e17"), looks := false }, kinds := [], alts := [], laidByText := true, laidKinds := [.data, .pinned], laidTests := true, laidLooks := .later }
def FnExactValueOfSignsCardSaid : Prop := Claim7.holds Tryd.pinned (.plain (OpenSpec.ofChange fnExactValueOfSignsSpec)) fnExactValueOfSignsCard

/-- THE SECOND FORM's CARD OF 'laws.FnExactNumberOfSigns'. -/
def fnExactNumberOfSignsUptoCard : Claim7 := { stood := { row := fnExactNumberOfSignsUptoRow, standIns := [], harness := (true, "7607b84654ad065e646bbe30a32f4dd04ed78b6553edb4c2dfa2164a716e8e17"), looks := false }, kinds := [], alts := [], laidByText := true, laidKinds := [.data, .pinned], laidTests := true, laidLooks := .later }
def FnExactNumberOfSignsUptoCardSaid : Prop := Claim7.holds Tryd.pinned (.plain (OpenSpec.upto fnExactNumberOfSignsSpec)) fnExactNumberOfSignsUptoCard

/-- THE SECOND FORM's CARD OF 'laws.FnExactValueOfSigns'. -/
def fnExactValueOfSignsUptoCard : Claim7 := { stood := { row := fnExactValueOfSignsUptoRow, standIns := [], harness := (true, "7607b84654ad065e646bbe30a32f4dd04ed78b6553edb4c2dfa2164a716e8e17"), looks := false }, kinds := [], alts := [], laidByText := true, laidKinds := [.data, .pinned], laidTests := true, laidLooks := .later }
def FnExactValueOfSignsUptoCardSaid : Prop := Claim7.holds Tryd.pinned (.plain (OpenSpec.upto fnExactValueOfSignsSpec)) fnExactValueOfSignsUptoCard
end Rows
end Go.Proofs.YtgcpjjifiebijaaDoor
