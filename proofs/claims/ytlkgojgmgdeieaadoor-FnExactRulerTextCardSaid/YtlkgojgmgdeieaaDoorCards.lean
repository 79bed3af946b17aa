/-
  DERIVED. GIVEN WITH THE SEED: THE CARDS: each row of YtlkgojgmgdeieaaDoorRows.lean that lists a variable, with what it lists TIED to the program's text (the seventh form; the later family's looks); each row that meets fmt, with fmt's text TOLD by the authors' own Lean function (tested against real Go, not proved from fmt's source: count such statements apart). THE CARD IS WHAT COUNTS. Prove the row's statement (the work); the ties are given (YtlkgojgmgdeieaaDoorTie.lean); close each card by the builder's one call (the guide's Derived/Test/ToyasCard.lean, 'card_holds'). Laid BY PROGRAM, IN A SANDBOX (cutbox-door.mjs). By AI agents, Wed Nov 11 2026. No macro, syntax, notation, axiom, sorry.
-/
import Derived.Test.YtlkgojgmgdeieaaDoorRows
import GoSem.ClaimSeven
namespace Go.Proofs.YtlkgojgmgdeieaaDoor
namespace Rows

/-- THE TIED CARD OF 'laws.FnExactRulerText'. -/
def fnExactRulerTextCard : Claim7 := { stood := { row := fnExactRulerTextRow, standIns := [], harness := (true, "6446927fb7b90d3eaf71a19a231aeebcac84aff5ede7bedf3cd0a375375b0966"), looks := false }, kinds := [], alts := [], laidByText := true, laidKinds := [.data, .data, .data], laidTests := true, laidLooks := .later }
def FnExactRulerTextCardSaid : Prop := Claim7.holds Tryd.pinned (.plain (OpenSpec.ofChange fnExactRulerTextSpec)) fnExactRulerTextCard

/-- THE SECOND FORM's CARD OF 'laws.FnExactRulerText'. -/
def fnExactRulerTextUptoCard : Claim7 := { stood := { row := fnExactRulerTextUptoRow, standIns := [], harness := (true, "6446927fb7b90d3eaf71a19a231aeebcac84aff5ede7bedf3cd0a375375b0966"), looks := false }, kinds := [], alts := [], laidByText := true, laidKinds := [.data, .data, .data], laidTests := true, laidLooks := .later }
def FnExactRulerTextUptoCardSaid : Prop := Claim7.holds Tryd.pinned (.plain (OpenSpec.upto fnExactRulerTextSpec)) fnExactRulerTextUptoCard
end Rows
end Go.Proofs.YtlkgojgmgdeieaaDoor
