/-
  NARROWER THAN 'FOR EVERY INPUT', by the rows' own cells (each row's printed sentence says how): FnExactFirstsSum: laid · FnExactIsSumCards: laid · FnExactLieTold: laid · FnExactNumbersWithLies: laid · FnExactNumbersTold: laid.
  DERIVED. THE GIVEN ROWS OF THIS SEAT. 5 by the template 'for every input the law returns true; each argument reads behind the call as it read before'; 0 by the template 'total and deterministic' (their statements: YtpekdmadmggbpaaDoorTotals.lean).
  GIVEN WITH THE SEED: the statements are not yours to turn. If you find one false, say at which input.
  Laid BY PROGRAM, IN A SANDBOX (cutbox-rows.mjs): the forced cells as the released guide's own fill.sh prints them over the translation a1434c3b12814f48… (all of the seat's roots in one cut). By AI agents, Wed Nov 11 2026. No macro, syntax, notation, axiom, sorry.
-/
import Derived.Test.YtpekdmadmggbpaaDoorChecked
import GoSem.PinnedTables
import GoSem.Claim
import GoSem.ClaimJoined
import GoSem.ClaimMapViews
import Derived.JoinedTies
import Derived.KernelRfl
namespace Go.Proofs.YtpekdmadmggbpaaDoor
/- THE CELL 'sum', in the pinned program and in every row, IS THE sha256 OF THE DUMP (.gsa) THAT YtpekdmadmggbpaaDoorProg.lean LOADS. Nothing in Lean hashes anything: it is a label: what it is worth is what the hold of that sum in a sandbox is worth. -/
noncomputable def Tryd.pinned : Pinned := { name := "ytpekdmadmggbpaadoor", sum := "a1434c3b12814f480c7a5e165ec5e2451f2a9ee8bf1e6df80276e327d6e9e21c", checked := Tryd.checked }
namespace Rows
def none {H : Type} : Left H := { results := [], args := [] }

/- WHAT THE LISTED PACKAGE-LEVEL VARIABLES READ AS WHEN THE CALL BEGINS. Each datum BY PROGRAM (the guide's laid-datum.mjs) off the statement by which the dump's own 'gosem.cut.vars' lays the variable. In a bare row this is a premise. The card (YtpekdmadmggbpaaDoorCards.lean) ties it to the program's text. -/
def laid_unicode_utf8_acceptRanges {H : Type} : DataW H := .agg [.agg [.lit (.int .u8 128), .lit (.int .u8 191)], .agg [.lit (.int .u8 160), .lit (.int .u8 191)], .agg [.lit (.int .u8 128), .lit (.int .u8 159)], .agg [.lit (.int .u8 144), .lit (.int .u8 191)], .agg [.lit (.int .u8 128), .lit (.int .u8 143)], .agg [.lit (.int .u8 0), .lit (.int .u8 0)], .agg [.lit (.int .u8 0), .lit (.int .u8 0)], .agg [.lit (.int .u8 0), .lit (.int .u8 0)], .agg [.lit (.int .u8 0), .lit (.int .u8 0)], .agg [.lit (.int .u8 0), .lit (.int .u8 0)], .agg [.lit (.int .u8 0), .lit (.int .u8 0)], .agg [.lit (.int .u8 0), .lit (.int .u8 0)], .agg [.lit (.int .u8 0), .lit (.int .u8 0)], .agg [.lit (.int .u8 0), .lit (.int .u8 0)], .agg [.lit (.int .u8 0), .lit (.int .u8 0)], .agg [.lit (.int .u8 0), .lit (.int .u8 0)]]
/-- One of Go's own tables, pinned by name: the form's constant. -/
def laid_unicode_utf8_first : DataW Unit := Go.Pinned.utf8First

/-- 'laws.FnExactFirstsSum': WHATEVER THE INPUT: true; the input reads as it did. -/
def fnExactFirstsSumSpec : ChangeSpec := { name := "fnExactFirstsSum", fn := fun _ => fun
  | [d1, d2] => { results := [.lit (.bool true)], args := [d1, d2] }
  | _ => none }
def fnExactFirstsSumRow : OpenClaim := { program := "ytpekdmadmggbpaadoor", sum := "a1434c3b12814f480c7a5e165ec5e2451f2a9ee8bf1e6df80276e327d6e9e21c", func := "loop.example/g01305/laws.FnExactFirstsSum", spec := "fnExactFirstsSum", inPlace := ["internal/bytealg.IndexByteString", "internal/bytealg.IndexString"], unfollowed := true, recurses := true, named := ["unicode/utf8.first", "unicode/utf8.acceptRanges", "internal/bytealg.MaxLen"], apart := false, laid := [("unicode/utf8.acceptRanges", laid_unicode_utf8_acceptRanges), ("unicode/utf8.first", laid_unicode_utf8_first)] }
def FnExactFirstsSumSaid : Prop := fnExactFirstsSumRow.holds Tryd.pinned (OpenSpec.ofChange fnExactFirstsSumSpec)

/-- ITS FALSE NEIGHBOUR: 'it returns false'. Refute it at one input. -/
def fnExactFirstsSumWrong : ChangeSpec := { name := "fnExactFirstsSum", fn := fun _ => fun
  | [d1, d2] => { results := [.lit (.bool false)], args := [d1, d2] }
  | _ => none }
def FnExactFirstsSumWrongFalsely : Prop := fnExactFirstsSumRow.holds Tryd.pinned (OpenSpec.ofChange fnExactFirstsSumWrong)

/-- 'laws.FnExactIsSumCards': WHATEVER THE INPUT: true; the input reads as it did. -/
def fnExactIsSumCardsSpec : ChangeSpec := { name := "fnExactIsSumCards", fn := fun _ => fun
  | [d] => { results := [.lit (.bool true)], args := [d] }
  | _ => none }
def fnExactIsSumCardsRow : OpenClaim := { program := "ytpekdmadmggbpaadoor", sum := "a1434c3b12814f480c7a5e165ec5e2451f2a9ee8bf1e6df80276e327d6e9e21c", func := "loop.example/g01305/laws.FnExactIsSumCards", spec := "fnExactIsSumCards", inPlace := ["internal/bytealg.IndexByteString", "internal/bytealg.IndexString"], unfollowed := true, recurses := true, named := ["unicode/utf8.first", "unicode/utf8.acceptRanges", "internal/bytealg.MaxLen"], apart := false, laid := [("unicode/utf8.acceptRanges", laid_unicode_utf8_acceptRanges), ("unicode/utf8.first", laid_unicode_utf8_first)] }
def FnExactIsSumCardsSaid : Prop := fnExactIsSumCardsRow.holds Tryd.pinned (OpenSpec.ofChange fnExactIsSumCardsSpec)

/-- ITS FALSE NEIGHBOUR: 'it returns false'. Refute it at one input. -/
def fnExactIsSumCardsWrong : ChangeSpec := { name := "fnExactIsSumCards", fn := fun _ => fun
  | [d] => { results := [.lit (.bool false)], args := [d] }
  | _ => none }
def FnExactIsSumCardsWrongFalsely : Prop := fnExactIsSumCardsRow.holds Tryd.pinned (OpenSpec.ofChange fnExactIsSumCardsWrong)

/-- 'laws.FnExactLieTold': WHATEVER THE INPUT: true; the input reads as it did. -/
def fnExactLieToldSpec : ChangeSpec := { name := "fnExactLieTold", fn := fun _ => fun
  | [d1, d2] => { results := [.lit (.bool true)], args := [d1, d2] }
  | _ => none }
def fnExactLieToldRow : OpenClaim := { program := "ytpekdmadmggbpaadoor", sum := "a1434c3b12814f480c7a5e165ec5e2451f2a9ee8bf1e6df80276e327d6e9e21c", func := "loop.example/g01305/laws.FnExactLieTold", spec := "fnExactLieTold", inPlace := ["internal/bytealg.IndexByteString", "internal/bytealg.IndexString"], unfollowed := true, recurses := true, named := ["unicode/utf8.first", "unicode/utf8.acceptRanges", "internal/bytealg.MaxLen"], apart := false, laid := [("unicode/utf8.acceptRanges", laid_unicode_utf8_acceptRanges), ("unicode/utf8.first", laid_unicode_utf8_first)] }
def FnExactLieToldSaid : Prop := fnExactLieToldRow.holds Tryd.pinned (OpenSpec.ofChange fnExactLieToldSpec)

/-- ITS FALSE NEIGHBOUR: 'it returns false'. Refute it at one input. -/
def fnExactLieToldWrong : ChangeSpec := { name := "fnExactLieTold", fn := fun _ => fun
  | [d1, d2] => { results := [.lit (.bool false)], args := [d1, d2] }
  | _ => none }
def FnExactLieToldWrongFalsely : Prop := fnExactLieToldRow.holds Tryd.pinned (OpenSpec.ofChange fnExactLieToldWrong)

/-- 'laws.FnExactNumbersWithLies': WHATEVER THE INPUT: true; the input reads as it did. -/
def fnExactNumbersWithLiesSpec : ChangeSpec := { name := "fnExactNumbersWithLies", fn := fun _ => fun
  | [d1, d2, d3] => { results := [.lit (.bool true)], args := [d1, d2, d3] }
  | _ => none }
def fnExactNumbersWithLiesRow : OpenClaim := { program := "ytpekdmadmggbpaadoor", sum := "a1434c3b12814f480c7a5e165ec5e2451f2a9ee8bf1e6df80276e327d6e9e21c", func := "loop.example/g01305/laws.FnExactNumbersWithLies", spec := "fnExactNumbersWithLies", inPlace := ["internal/bytealg.IndexByteString", "internal/bytealg.IndexString"], unfollowed := true, recurses := true, named := ["unicode/utf8.first", "unicode/utf8.acceptRanges", "internal/bytealg.MaxLen"], apart := false, laid := [("unicode/utf8.acceptRanges", laid_unicode_utf8_acceptRanges), ("unicode/utf8.first", laid_unicode_utf8_first)] }
def FnExactNumbersWithLiesSaid : Prop := fnExactNumbersWithLiesRow.holds Tryd.pinned (OpenSpec.ofChange fnExactNumbersWithLiesSpec)

/-- ITS FALSE NEIGHBOUR: 'it returns false'. Refute it at one input. -/
def fnExactNumbersWithLiesWrong : ChangeSpec := { name := "fnExactNumbersWithLies", fn := fun _ => fun
  | [d1, d2, d3] => { results := [.lit (.bool false)], args := [d1, d2, d3] }
  | _ => none }
def FnExactNumbersWithLiesWrongFalsely : Prop := fnExactNumbersWithLiesRow.holds Tryd.pinned (OpenSpec.ofChange fnExactNumbersWithLiesWrong)

/-- 'laws.FnExactNumbersTold': WHATEVER THE INPUT: true; the input reads as it did. -/
def fnExactNumbersToldSpec : ChangeSpec := { name := "fnExactNumbersTold", fn := fun _ => fun
  | [d1, d2] => { results := [.lit (.bool true)], args := [d1, d2] }
  | _ => none }
def fnExactNumbersToldRow : OpenClaim := { program := "ytpekdmadmggbpaadoor", sum := "a1434c3b12814f480c7a5e165ec5e2451f2a9ee8bf1e6df80276e327d6e9e21c", func := "loop.example/g01305/laws.FnExactNumbersTold", spec := "fnExactNumbersTold", inPlace := ["internal/bytealg.IndexByteString", "internal/bytealg.IndexString"], unfollowed := true, recurses := true, named := ["unicode/utf8.first", "unicode/utf8.acceptRanges", "internal/bytealg.MaxLen"], apart := false, laid := [("unicode/utf8.acceptRanges", laid_unicode_utf8_acceptRanges), ("unicode/utf8.first", laid_unicode_utf8_first)] }
def FnExactNumbersToldSaid : Prop := fnExactNumbersToldRow.holds Tryd.pinned (OpenSpec.ofChange fnExactNumbersToldSpec)

/-- ITS FALSE NEIGHBOUR: 'it returns false'. Refute it at one input. -/
def fnExactNumbersToldWrong : ChangeSpec := { name := "fnExactNumbersTold", fn := fun _ => fun
  | [d1, d2] => { results := [.lit (.bool false)], args := [d1, d2] }
  | _ => none }
def FnExactNumbersToldWrongFalsely : Prop := fnExactNumbersToldRow.holds Tryd.pinned (OpenSpec.ofChange fnExactNumbersToldWrong)

/- THE SECOND FORM. 'bulk': how many values and letters a reading holds, each counted each time it is reached (what is shared counts as often as it is met; a slice's spare places count too). A statement '..UptoSaid' is the law's where the arguments, and the package variables that the reading takes, are together of bulk at most 1048576: NARROWER than '..Said'. Prove '..Said' where nothing that the law and all that it calls make is longer than what came in: it says more and counts as full. Else prove '..UptoSaid'. A law counts once. -/
mutual
def uptoBulk {H : Type} : DataW H → Nat
  | .lit (.string bytes) => bytes.length + 1
  | .lit _ => 1
  | .nil => 1
  | .ptr d => uptoBulk d + 1
  | .slice elems spare => uptoBulkAll elems + uptoBulkAll spare + 1
  | .agg parts => uptoBulkAll parts + 1
  | .iface _ d => uptoBulk d + 1
  | .map entries => uptoBulkEntries entries + 1
  | .held _ => 1
def uptoBulkAll {H : Type} : List (DataW H) → Nat
  | [] => 0
  | d :: r => uptoBulk d + uptoBulkAll r
def uptoBulkEntries {H : Type} : List (Lit × DataW H) → Nat
  | [] => 0
  | x :: r => uptoBulkEntry x + uptoBulkEntries r
def uptoBulkEntry {H : Type} : Lit × DataW H → Nat
  | (.string bytes, d) => bytes.length + uptoBulk d + 1
  | (_, d) => uptoBulk d + 1
 end
def uptoSmall : (H : Type) → List (DataW H) → Bool := fun _ ds => decide (uptoBulkAll ds ≤ 1048576)
def OpenSpec.upto (s : _root_.Go.ChangeSpec) : _root_.Go.OpenSpec := { _root_.Go.OpenSpec.ofChange s with cond := some uptoSmall }

/-- 'laws.FnExactFirstsSum', WHERE WHAT IT READS IS OF BULK AT MOST 1048576: true; the input reads as it did. -/
def fnExactFirstsSumUptoRow : OpenClaim := { program := "ytpekdmadmggbpaadoor", sum := "a1434c3b12814f480c7a5e165ec5e2451f2a9ee8bf1e6df80276e327d6e9e21c", func := "loop.example/g01305/laws.FnExactFirstsSum", spec := "fnExactFirstsSum", inPlace := ["internal/bytealg.IndexByteString", "internal/bytealg.IndexString"], unfollowed := true, recurses := true, named := ["unicode/utf8.first", "unicode/utf8.acceptRanges", "internal/bytealg.MaxLen"], apart := false, laid := [("unicode/utf8.acceptRanges", laid_unicode_utf8_acceptRanges), ("unicode/utf8.first", laid_unicode_utf8_first)], narrowed := true }
def FnExactFirstsSumUptoSaid : Prop := fnExactFirstsSumUptoRow.holds Tryd.pinned (OpenSpec.upto fnExactFirstsSumSpec)

/-- 'laws.FnExactIsSumCards', WHERE WHAT IT READS IS OF BULK AT MOST 1048576: true; the input reads as it did. -/
def fnExactIsSumCardsUptoRow : OpenClaim := { program := "ytpekdmadmggbpaadoor", sum := "a1434c3b12814f480c7a5e165ec5e2451f2a9ee8bf1e6df80276e327d6e9e21c", func := "loop.example/g01305/laws.FnExactIsSumCards", spec := "fnExactIsSumCards", inPlace := ["internal/bytealg.IndexByteString", "internal/bytealg.IndexString"], unfollowed := true, recurses := true, named := ["unicode/utf8.first", "unicode/utf8.acceptRanges", "internal/bytealg.MaxLen"], apart := false, laid := [("unicode/utf8.acceptRanges", laid_unicode_utf8_acceptRanges), ("unicode/utf8.first", laid_unicode_utf8_first)], narrowed := true }
def FnExactIsSumCardsUptoSaid : Prop := fnExactIsSumCardsUptoRow.holds Tryd.pinned (OpenSpec.upto fnExactIsSumCardsSpec)

/-- 'laws.FnExactLieTold', WHERE WHAT IT READS IS OF BULK AT MOST 1048576: true; the input reads as it did. -/
def fnExactLieToldUptoRow : OpenClaim := { program := "ytpekdmadmggbpaadoor", sum := "a1434c3b12814f480c7a5e165ec5e2451f2a9ee8bf1e6df80276e327d6e9e21c", func := "loop.example/g01305/laws.FnExactLieTold", spec := "fnExactLieTold", inPlace := ["internal/bytealg.IndexByteString", "internal/bytealg.IndexString"], unfollowed := true, recurses := true, named := ["unicode/utf8.first", "unicode/utf8.acceptRanges", "internal/bytealg.MaxLen"], apart := false, laid := [("unicode/utf8.acceptRanges", laid_unicode_utf8_acceptRanges), ("unicode/utf8.first", laid_unicode_utf8_first)], narrowed := true }
def FnExactLieToldUptoSaid : Prop := fnExactLieToldUptoRow.holds Tryd.pinned (OpenSpec.upto fnExactLieToldSpec)

/-- 'laws.FnExactNumbersWithLies', WHERE WHAT IT READS IS OF BULK AT MOST 1048576: true; the input reads as it did. -/
def fnExactNumbersWithLiesUptoRow : OpenClaim := { program := "ytpekdmadmggbpaadoor", sum := "a1434c3b12814f480c7a5e165ec5e2451f2a9ee8bf1e6df80276e327d6e9e21c", func := "loop.example/g01305/laws.FnExactNumbersWithLies", spec := "fnExactNumbersWithLies", inPlace := ["internal/bytealg.IndexByteString", "internal/bytealg.IndexString"], unfollowed := true, recurses := true, named := ["unicode/utf8.first", "unicode/utf8.acceptRanges", "internal/bytealg.MaxLen"], apart := false, laid := [("unicode/utf8.acceptRanges", laid_unicode_utf8_acceptRanges), ("unicode/utf8.first", laid_unicode_utf8_first)], narrowed := true }
def FnExactNumbersWithLiesUptoSaid : Prop := fnExactNumbersWithLiesUptoRow.holds Tryd.pinned (OpenSpec.upto fnExactNumbersWithLiesSpec)

/-- 'laws.FnExactNumbersTold', WHERE WHAT IT READS IS OF BULK AT MOST 1048576: true; the input reads as it did. -/
def fnExactNumbersToldUptoRow : OpenClaim := { program := "ytpekdmadmggbpaadoor", sum := "a1434c3b12814f480c7a5e165ec5e2451f2a9ee8bf1e6df80276e327d6e9e21c", func := "loop.example/g01305/laws.FnExactNumbersTold", spec := "fnExactNumbersTold", inPlace := ["internal/bytealg.IndexByteString", "internal/bytealg.IndexString"], unfollowed := true, recurses := true, named := ["unicode/utf8.first", "unicode/utf8.acceptRanges", "internal/bytealg.MaxLen"], apart := false, laid := [("unicode/utf8.acceptRanges", laid_unicode_utf8_acceptRanges), ("unicode/utf8.first", laid_unicode_utf8_first)], narrowed := true }
def FnExactNumbersToldUptoSaid : Prop := fnExactNumbersToldUptoRow.holds Tryd.pinned (OpenSpec.upto fnExactNumbersToldSpec)

end Rows
end Go.Proofs.YtpekdmadmggbpaaDoor
