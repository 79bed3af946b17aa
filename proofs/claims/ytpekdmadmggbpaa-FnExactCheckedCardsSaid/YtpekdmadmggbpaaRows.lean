/-
  No cell of these rows narrows 'for every input' (looked for: loops, veiled, ifaces, maps, wideKeys, modest, calm, conditions, laid).
  DERIVED. THE GIVEN ROWS OF THIS SEAT. 7 by the template 'for every input the law returns true; each argument reads behind the call as it read before'; 0 by the template 'total and deterministic' (their statements: YtpekdmadmggbpaaTotals.lean).
  GIVEN WITH THE SEED: the statements are not yours to turn. If you find one false, say at which input.
  Laid BY PROGRAM, IN A SANDBOX (cutbox-rows.mjs): the forced cells as the released guide's own fill.sh prints them over the translation 0389a4188a9dce66… (all of the seat's roots in one cut). By AI agents, Wed Nov 11 2026. No macro, syntax, notation, axiom, sorry.
-/
import Derived.Test.YtpekdmadmggbpaaChecked
import GoSem.Claim
import GoSem.ClaimJoined
import GoSem.ClaimMapViews
import Derived.JoinedTies
import Derived.KernelRfl
namespace Go.Proofs.Ytpekdmadmggbpaa
/- THE CELL 'sum', in the pinned program and in every row, IS THE sha256 OF THE DUMP (.gsa) THAT YtpekdmadmggbpaaProg.lean LOADS. Nothing in Lean hashes anything: it is a label: what it is worth is what the hold of that sum in a sandbox is worth. -/
noncomputable def Try.pinned : Pinned := { name := "ytpekdmadmggbpaa", sum := "0389a4188a9dce6664f02b0b4bc54f583e05a3a1c768d621e2146190ab30b3f7", checked := Try.checked }
namespace Rows
def none {H : Type} : Left H := { results := [], args := [] }

/-- 'laws.FnExactAreCards': WHATEVER THE INPUT: true; the input reads as it did. -/
def fnExactAreCardsSpec : ChangeSpec := { name := "fnExactAreCards", fn := fun _ => fun
  | [d] => { results := [.lit (.bool true)], args := [d] }
  | _ => none }
def fnExactAreCardsRow : OpenClaim := { program := "ytpekdmadmggbpaa", sum := "0389a4188a9dce6664f02b0b4bc54f583e05a3a1c768d621e2146190ab30b3f7", func := "loop.example/g01305/laws.FnExactAreCards", spec := "fnExactAreCards", unfollowed := true, recurses := true, apart := false }
def FnExactAreCardsSaid : Prop := fnExactAreCardsRow.holds Try.pinned (OpenSpec.ofChange fnExactAreCardsSpec)

/-- ITS FALSE NEIGHBOUR: 'it returns false'. Refute it at one input. -/
def fnExactAreCardsWrong : ChangeSpec := { name := "fnExactAreCards", fn := fun _ => fun
  | [d] => { results := [.lit (.bool false)], args := [d] }
  | _ => none }
def FnExactAreCardsWrongFalsely : Prop := fnExactAreCardsRow.holds Try.pinned (OpenSpec.ofChange fnExactAreCardsWrong)

/-- 'laws.FnExactBinaryCards': WHATEVER THE INPUT: true; the input reads as it did. -/
def fnExactBinaryCardsSpec : ChangeSpec := { name := "fnExactBinaryCards", fn := fun _ => fun
  | [d] => { results := [.lit (.bool true)], args := [d] }
  | _ => none }
def fnExactBinaryCardsRow : OpenClaim := { program := "ytpekdmadmggbpaa", sum := "0389a4188a9dce6664f02b0b4bc54f583e05a3a1c768d621e2146190ab30b3f7", func := "loop.example/g01305/laws.FnExactBinaryCards", spec := "fnExactBinaryCards", unfollowed := true, recurses := true, apart := false }
def FnExactBinaryCardsSaid : Prop := fnExactBinaryCardsRow.holds Try.pinned (OpenSpec.ofChange fnExactBinaryCardsSpec)

/-- ITS FALSE NEIGHBOUR: 'it returns false'. Refute it at one input. -/
def fnExactBinaryCardsWrong : ChangeSpec := { name := "fnExactBinaryCards", fn := fun _ => fun
  | [d] => { results := [.lit (.bool false)], args := [d] }
  | _ => none }
def FnExactBinaryCardsWrongFalsely : Prop := fnExactBinaryCardsRow.holds Try.pinned (OpenSpec.ofChange fnExactBinaryCardsWrong)

/-- 'laws.FnExactAnswersOf': WHATEVER THE INPUT: true; the input reads as it did. -/
def fnExactAnswersOfSpec : ChangeSpec := { name := "fnExactAnswersOf", fn := fun _ => fun
  | [d1, d2] => { results := [.lit (.bool true)], args := [d1, d2] }
  | _ => none }
def fnExactAnswersOfRow : OpenClaim := { program := "ytpekdmadmggbpaa", sum := "0389a4188a9dce6664f02b0b4bc54f583e05a3a1c768d621e2146190ab30b3f7", func := "loop.example/g01305/laws.FnExactAnswersOf", spec := "fnExactAnswersOf", unfollowed := true, recurses := true, apart := false }
def FnExactAnswersOfSaid : Prop := fnExactAnswersOfRow.holds Try.pinned (OpenSpec.ofChange fnExactAnswersOfSpec)

/-- ITS FALSE NEIGHBOUR: 'it returns false'. Refute it at one input. -/
def fnExactAnswersOfWrong : ChangeSpec := { name := "fnExactAnswersOf", fn := fun _ => fun
  | [d1, d2] => { results := [.lit (.bool false)], args := [d1, d2] }
  | _ => none }
def FnExactAnswersOfWrongFalsely : Prop := fnExactAnswersOfRow.holds Try.pinned (OpenSpec.ofChange fnExactAnswersOfWrong)

/-- 'laws.FnExactCheckedCards': WHATEVER THE INPUT: true; the input reads as it did. -/
def fnExactCheckedCardsSpec : ChangeSpec := { name := "fnExactCheckedCards", fn := fun _ => fun
  | [d] => { results := [.lit (.bool true)], args := [d] }
  | _ => none }
def fnExactCheckedCardsRow : OpenClaim := { program := "ytpekdmadmggbpaa", sum := "0389a4188a9dce6664f02b0b4bc54f583e05a3a1c768d621e2146190ab30b3f7", func := "loop.example/g01305/laws.FnExactCheckedCards", spec := "fnExactCheckedCards", unfollowed := true, recurses := true, apart := false }
def FnExactCheckedCardsSaid : Prop := fnExactCheckedCardsRow.holds Try.pinned (OpenSpec.ofChange fnExactCheckedCardsSpec)

/-- ITS FALSE NEIGHBOUR: 'it returns false'. Refute it at one input. -/
def fnExactCheckedCardsWrong : ChangeSpec := { name := "fnExactCheckedCards", fn := fun _ => fun
  | [d] => { results := [.lit (.bool false)], args := [d] }
  | _ => none }
def FnExactCheckedCardsWrongFalsely : Prop := fnExactCheckedCardsRow.holds Try.pinned (OpenSpec.ofChange fnExactCheckedCardsWrong)

/-- 'laws.FnExactTellsAll': WHATEVER THE INPUT: true; the input reads as it did. -/
def fnExactTellsAllSpec : ChangeSpec := { name := "fnExactTellsAll", fn := fun _ => fun
  | [d] => { results := [.lit (.bool true)], args := [d] }
  | _ => none }
def fnExactTellsAllRow : OpenClaim := { program := "ytpekdmadmggbpaa", sum := "0389a4188a9dce6664f02b0b4bc54f583e05a3a1c768d621e2146190ab30b3f7", func := "loop.example/g01305/laws.FnExactTellsAll", spec := "fnExactTellsAll", unfollowed := true, recurses := true, apart := false }
def FnExactTellsAllSaid : Prop := fnExactTellsAllRow.holds Try.pinned (OpenSpec.ofChange fnExactTellsAllSpec)

/-- ITS FALSE NEIGHBOUR: 'it returns false'. Refute it at one input. -/
def fnExactTellsAllWrong : ChangeSpec := { name := "fnExactTellsAll", fn := fun _ => fun
  | [d] => { results := [.lit (.bool false)], args := [d] }
  | _ => none }
def FnExactTellsAllWrongFalsely : Prop := fnExactTellsAllRow.holds Try.pinned (OpenSpec.ofChange fnExactTellsAllWrong)

/-- 'laws.FnExactLeastApart': WHATEVER THE INPUT: true; the input reads as it did. -/
def fnExactLeastApartSpec : ChangeSpec := { name := "fnExactLeastApart", fn := fun _ => fun
  | [d] => { results := [.lit (.bool true)], args := [d] }
  | _ => none }
def fnExactLeastApartRow : OpenClaim := { program := "ytpekdmadmggbpaa", sum := "0389a4188a9dce6664f02b0b4bc54f583e05a3a1c768d621e2146190ab30b3f7", func := "loop.example/g01305/laws.FnExactLeastApart", spec := "fnExactLeastApart", unfollowed := true, recurses := true, apart := false }
def FnExactLeastApartSaid : Prop := fnExactLeastApartRow.holds Try.pinned (OpenSpec.ofChange fnExactLeastApartSpec)

/-- ITS FALSE NEIGHBOUR: 'it returns false'. Refute it at one input. -/
def fnExactLeastApartWrong : ChangeSpec := { name := "fnExactLeastApart", fn := fun _ => fun
  | [d] => { results := [.lit (.bool false)], args := [d] }
  | _ => none }
def FnExactLeastApartWrongFalsely : Prop := fnExactLeastApartRow.holds Try.pinned (OpenSpec.ofChange fnExactLeastApartWrong)

/-- 'laws.FnExactLiesFound': WHATEVER THE INPUT: true; the input reads as it did. -/
def fnExactLiesFoundSpec : ChangeSpec := { name := "fnExactLiesFound", fn := fun _ => fun
  | [d] => { results := [.lit (.bool true)], args := [d] }
  | _ => none }
def fnExactLiesFoundRow : OpenClaim := { program := "ytpekdmadmggbpaa", sum := "0389a4188a9dce6664f02b0b4bc54f583e05a3a1c768d621e2146190ab30b3f7", func := "loop.example/g01305/laws.FnExactLiesFound", spec := "fnExactLiesFound", unfollowed := true, recurses := true, apart := false }
def FnExactLiesFoundSaid : Prop := fnExactLiesFoundRow.holds Try.pinned (OpenSpec.ofChange fnExactLiesFoundSpec)

/-- ITS FALSE NEIGHBOUR: 'it returns false'. Refute it at one input. -/
def fnExactLiesFoundWrong : ChangeSpec := { name := "fnExactLiesFound", fn := fun _ => fun
  | [d] => { results := [.lit (.bool false)], args := [d] }
  | _ => none }
def FnExactLiesFoundWrongFalsely : Prop := fnExactLiesFoundRow.holds Try.pinned (OpenSpec.ofChange fnExactLiesFoundWrong)

/- THE SECOND FORM. 'bulk': how many values and letters a reading holds, each counted each time it is reached (what is shared counts as often as it is met; a slice's spare places count too). A statement '..UptoSaid' is the law's where the arguments, and the package variables that the reading takes, are together of bulk at most 1048576: NARROWER than '..Said'. Prove '..Said' where nothing that the law and all that it calls make is longer than what came in: it says more and counts as full. Else prove '..UptoSaid'. A law counts once. -/
mutual
def uptoBulk {H : Type} : DataW H → Nat
  | .lit (.string bytes) => bytes.length + 1
  | .lit _ => 1
  | .nil => 1
  | .ptr d => uptoBulk d + 1
  | .slice elems spare => uptoBulkAll elems + uptoBulkAll spare + 1
  | .agg parts => uptoBulkAll parts + 1
  | .iface _ d => uptoBulk d + 1
  | .map entries => uptoBulkEntries entries + 1
  | .held _ => 1
def uptoBulkAll {H : Type} : List (DataW H) → Nat
  | [] => 0
  | d :: r => uptoBulk d + uptoBulkAll r
def uptoBulkEntries {H : Type} : List (Lit × DataW H) → Nat
  | [] => 0
  | x :: r => uptoBulkEntry x + uptoBulkEntries r
def uptoBulkEntry {H : Type} : Lit × DataW H → Nat
  | (.string bytes, d) => bytes.length + uptoBulk d + 1
  | (_, d) => uptoBulk d + 1
 end
def uptoSmall : (H : Type) → List (DataW H) → Bool := fun _ ds => decide (uptoBulkAll ds ≤ 1048576)
def OpenSpec.upto (s : _root_.Go.ChangeSpec) : _root_.Go.OpenSpec := { _root_.Go.OpenSpec.ofChange s with cond := some uptoSmall }

/-- 'laws.FnExactAreCards', WHERE WHAT IT READS IS OF BULK AT MOST 1048576: true; the input reads as it did. -/
def fnExactAreCardsUptoRow : OpenClaim := { program := "ytpekdmadmggbpaa", sum := "0389a4188a9dce6664f02b0b4bc54f583e05a3a1c768d621e2146190ab30b3f7", func := "loop.example/g01305/laws.FnExactAreCards", spec := "fnExactAreCards", unfollowed := true, recurses := true, apart := false, narrowed := true }
def FnExactAreCardsUptoSaid : Prop := fnExactAreCardsUptoRow.holds Try.pinned (OpenSpec.upto fnExactAreCardsSpec)

/-- 'laws.FnExactBinaryCards', WHERE WHAT IT READS IS OF BULK AT MOST 1048576: true; the input reads as it did. -/
def fnExactBinaryCardsUptoRow : OpenClaim := { program := "ytpekdmadmggbpaa", sum := "0389a4188a9dce6664f02b0b4bc54f583e05a3a1c768d621e2146190ab30b3f7", func := "loop.example/g01305/laws.FnExactBinaryCards", spec := "fnExactBinaryCards", unfollowed := true, recurses := true, apart := false, narrowed := true }
def FnExactBinaryCardsUptoSaid : Prop := fnExactBinaryCardsUptoRow.holds Try.pinned (OpenSpec.upto fnExactBinaryCardsSpec)

/-- 'laws.FnExactAnswersOf', WHERE WHAT IT READS IS OF BULK AT MOST 1048576: true; the input reads as it did. -/
def fnExactAnswersOfUptoRow : OpenClaim := { program := "ytpekdmadmggbpaa", sum := "0389a4188a9dce6664f02b0b4bc54f583e05a3a1c768d621e2146190ab30b3f7", func := "loop.example/g01305/laws.FnExactAnswersOf", spec := "fnExactAnswersOf", unfollowed := true, recurses := true, apart := false, narrowed := true }
def FnExactAnswersOfUptoSaid : Prop := fnExactAnswersOfUptoRow.holds Try.pinned (OpenSpec.upto fnExactAnswersOfSpec)

/-- 'laws.FnExactCheckedCards', WHERE WHAT IT READS IS OF BULK AT MOST 1048576: true; the input reads as it did. -/
def fnExactCheckedCardsUptoRow : OpenClaim := { program := "ytpekdmadmggbpaa", sum := "0389a4188a9dce6664f02b0b4bc54f583e05a3a1c768d621e2146190ab30b3f7", func := "loop.example/g01305/laws.FnExactCheckedCards", spec := "fnExactCheckedCards", unfollowed := true, recurses := true, apart := false, narrowed := true }
def FnExactCheckedCardsUptoSaid : Prop := fnExactCheckedCardsUptoRow.holds Try.pinned (OpenSpec.upto fnExactCheckedCardsSpec)

/-- 'laws.FnExactTellsAll', WHERE WHAT IT READS IS OF BULK AT MOST 1048576: true; the input reads as it did. -/
def fnExactTellsAllUptoRow : OpenClaim := { program := "ytpekdmadmggbpaa", sum := "0389a4188a9dce6664f02b0b4bc54f583e05a3a1c768d621e2146190ab30b3f7", func := "loop.example/g01305/laws.FnExactTellsAll", spec := "fnExactTellsAll", unfollowed := true, recurses := true, apart := false, narrowed := true }
def FnExactTellsAllUptoSaid : Prop := fnExactTellsAllUptoRow.holds Try.pinned (OpenSpec.upto fnExactTellsAllSpec)

/-- 'laws.FnExactLeastApart', WHERE WHAT IT READS IS OF BULK AT MOST 1048576: true; the input reads as it did. -/
def fnExactLeastApartUptoRow : OpenClaim := { program := "ytpekdmadmggbpaa", sum := "0389a4188a9dce6664f02b0b4bc54f583e05a3a1c768d621e2146190ab30b3f7", func := "loop.example/g01305/laws.FnExactLeastApart", spec := "fnExactLeastApart", unfollowed := true, recurses := true, apart := false, narrowed := true }
def FnExactLeastApartUptoSaid : Prop := fnExactLeastApartUptoRow.holds Try.pinned (OpenSpec.upto fnExactLeastApartSpec)

/-- 'laws.FnExactLiesFound', WHERE WHAT IT READS IS OF BULK AT MOST 1048576: true; the input reads as it did. -/
def fnExactLiesFoundUptoRow : OpenClaim := { program := "ytpekdmadmggbpaa", sum := "0389a4188a9dce6664f02b0b4bc54f583e05a3a1c768d621e2146190ab30b3f7", func := "loop.example/g01305/laws.FnExactLiesFound", spec := "fnExactLiesFound", unfollowed := true, recurses := true, apart := false, narrowed := true }
def FnExactLiesFoundUptoSaid : Prop := fnExactLiesFoundUptoRow.holds Try.pinned (OpenSpec.upto fnExactLiesFoundSpec)

end Rows
end Go.Proofs.Ytpekdmadmggbpaa
