/-
  DERIVED. GIVEN WITH THE SEED: THE CARDS: each row of YtpekdmadmggbpaaDoorRows.lean that lists a variable, with what it lists TIED to the program's text (the seventh form; the later family's looks); each row that meets fmt, with fmt's text TOLD by the authors' own Lean function (tested against real Go, not proved from fmt's source: count such statements apart). THE CARD IS WHAT COUNTS. Prove the row's statement (the work); the ties are given (YtpekdmadmggbpaaDoorTie.lean); close each card by the builder's one call (the guide's Derived/Test/ToyasCard.lean, 'card_holds'). Laid BY PROGRAM, IN A SANDBOX (cutbox-door.mjs). By AI agents, Wed Nov 11 2026. No macro, syntax, notation, axiom, sorry.
-/
import Derived.Test.YtpekdmadmggbpaaDoorRows
import GoSem.ClaimSeven
namespace Go.Proofs.YtpekdmadmggbpaaDoor
namespace Rows

/-- THE TIED CARD OF 'laws.FnExactFirstsSum'. -/
def fnExactFirstsSumCard : Claim7 := { stood := { row := fnExactFirstsSumRow, standIns := [], harness := (true, "31bf2ef774c69bb0ad54ba83f9bf25e4cfc936cbdcebfb8a6e135813ca9c6389"), looks := false }, kinds := [], alts := [], laidByText := true, laidKinds := [.data, .pinned], laidTests := true, laidLooks := .later }
def FnExactFirstsSumCardSaid : Prop := Claim7.holds Tryd.pinned (.plain (OpenSpec.ofChange fnExactFirstsSumSpec)) fnExactFirstsSumCard

/-- THE TIED CARD OF 'laws.FnExactIsSumCards'. -/
def fnExactIsSumCardsCard : Claim7 := { stood := { row := fnExactIsSumCardsRow, standIns := [], harness := (true, "31bf2ef774c69bb0ad54ba83f9bf25e4cfc936cbdcebfb8a6e135813ca9c6389"), looks := false }, kinds := [], alts := [], laidByText := true, laidKinds := [.data, .pinned], laidTests := true, laidLooks := .later }
def FnExactIsSumCardsCardSaid : Prop := Claim7.holds Tryd.pinned (.plain (OpenSpec.ofChange fnExactIsSumCardsSpec)) fnExactIsSumCardsCard

/-- THE TIED CARD OF 'laws.FnExactLieTold'. -/
def fnExactLieToldCard : Claim7 := { stood := { row := fnExactLieToldRow, standIns := [], harness := (true, "31bf2ef774c69bb0ad54ba83f9bf25e4cfc936cbdcebfb8a6e135813ca9c6389"), looks := false }, kinds := [], alts := [], laidByText := true, laidKinds := [.data, .pinned], laidTests := true, laidLooks := .later }
def FnExactLieToldCardSaid : Prop := Claim7.holds Tryd.pinned (.plain (OpenSpec.ofChange fnExactLieToldSpec)) fnExactLieToldCard

/-- THE TIED CARD OF 'laws.FnExactNumbersWithLies'. -/
def fnExactNumbersWithLiesCard : Claim7 := { stood := { row := fnExactNumbersWithLiesRow, standIns := [], harness := (true, "31bf2ef774c69bb0ad54ba83f9bf25e4cfc936cbdcebfb8a6e135813ca9c6389"), looks := false }, kinds := [], alts := [], laidByText := true, laidKinds := [.data, .pinned], laidTests := true, laidLooks := .later }
def FnExactNumbersWithLiesCardSaid : Prop := Claim7.holds Tryd.pinned (.plain (OpenSpec.ofChange fnExactNumbersWithLiesSpec)) fnExactNumbersWithLiesCard

/-- THE TIED CARD OF 'laws.FnExactNumbersTold'. -/
def fnExactNumbersToldCard : Claim7 := { stood := { row := fnExactNumbersToldRow, standIns := [], harness := (true, "31bf2ef774c69bb0ad54ba83f9bf25e4cfc936cbdcebfb8a6e135813ca9c6389"), looks := false }, kinds := [], alts := [], laidByText := true, laidKinds := [.data, .pinned], laidTests := true, laidLooks := .later }
def FnExactNumbersToldCardSaid : Prop := Claim7.holds Tryd.pinned (.plain (OpenSpec.ofChange fnExactNumbersToldSpec)) fnExactNumbersToldCard

/-- THE SECOND FORM's CARD OF 'laws.FnExactFirstsSum'. -/
def fnExactFirstsSumUptoCard : Claim7 := { stood := { row := fnExactFirstsSumUptoRow, standIns := [], harness := (true, "31bf2ef774c69bb0ad54ba83f9bf25e4cfc936cbdcebfb8a6e135813ca9c6389"), looks := false }, kinds := [], alts := [], laidByText := true, laidKinds := [.data, .pinned], laidTests := true, laidLooks := .later }
def FnExactFirstsSumUptoCardSaid : Prop := Claim7.holds Tryd.pinned (.plain (OpenSpec.upto fnExactFirstsSumSpec)) fnExactFirstsSumUptoCard

/-- THE SECOND FORM's CARD OF 'laws.FnExactIsSumCards'. -/
def fnExactIsSumCardsUptoCard : Claim7 := { stood := { row := fnExactIsSumCardsUptoRow, standIns := [], harness := (true, "31bf2ef774c69bb0ad54ba83f9bf25e4cfc936cbdcebfb8a6e135813ca9c6389"), looks := false }, kinds := [], alts := [], laidByText := true, laidKinds := [.data, .pinned], laidTests := true, laidLooks := .later }
def FnExactIsSumCardsUptoCardSaid : Prop := Claim7.holds Tryd.pinned (.plain (OpenSpec.upto fnExactIsSumCardsSpec)) fnExactIsSumCardsUptoCard

/-- THE SECOND FORM's CARD OF 'laws.FnExactLieTold'. -/
def fnExactLieToldUptoCard : Claim7 := { stood := { row := fnExactLieToldUptoRow, standIns := [], harness := (true, "31bf2ef774c69bb0ad54ba83f9bf25e4cfc936cbdcebfb8a6e135813ca9c6389"), looks := false }, kinds := [], alts := [], laidByText := true, laidKinds := [.data, .pinned], laidTests := true, laidLooks := .later }
def FnExactLieToldUptoCardSaid : Prop := Claim7.holds Tryd.pinned (.plain (OpenSpec.upto fnExactLieToldSpec)) fnExactLieToldUptoCard

/-- THE SECOND FORM's CARD OF 'laws.FnExactNumbersWithLies'. -/
def fnExactNumbersWithLiesUptoCard : Claim7 := { stood := { row := fnExactNumbersWithLiesUptoRow, standIns := [], harness := (true, "31bf2ef774c69bb0ad54ba83f9bf25e4cfc936cbdcebfb8a6e135813ca9c6389"), looks := false }, kinds := [], alts := [], laidByText := true, laidKinds := [.data, .pinned], laidTests := true, laidLooks := .later }
def FnExactNumbersWithLiesUptoCardSaid : Prop := Claim7.holds Tryd.pinned (.plain (OpenSpec.upto fnExactNumbersWithLiesSpec)) fnExactNumbersWithLiesUptoCard

/-- THE SECOND FORM's CARD OF 'laws.FnExactNumbersTold'. -/
def fnExactNumbersToldUptoCard : Claim7 := { stood := { row := fnExactNumbersToldUptoRow, standIns := [], harness := (true, "31bf2ef774c69bb0ad54ba83f9bf25e4cfc936cbdcebfb8a6e135813ca9c6389"), looks := false }, kinds := [], alts := [], laidByText := true, laidKinds := [.data, .pinned], laidTests := true, laidLooks := .later }
def FnExactNumbersToldUptoCardSaid : Prop := Claim7.holds Tryd.pinned (.plain (OpenSpec.upto fnExactNumbersToldSpec)) fnExactNumbersToldUptoCard
end Rows
end Go.Proofs.YtpekdmadmggbpaaDoor
