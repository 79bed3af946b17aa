/-
  No cell of these rows narrows 'for every input' (looked for: loops, veiled, ifaces, maps, wideKeys, modest, calm, conditions, laid).
  DERIVED. THE GIVEN ROWS OF THIS SEAT. 11 by the template 'for every input the law returns true; each argument reads behind the call as it read before'; 0 by the template 'total and deterministic' (their statements: YtobcoaafbekhaaaTotals.lean).
  GIVEN WITH THE SEED: the statements are not yours to turn. If you find one false, say at which input.
  Laid BY PROGRAM, IN A SANDBOX (cutbox-rows.mjs): the forced cells as the released guide's own fill.sh prints them over the translation 21da903e5ecb78f6… (all of the seat's roots in one cut). By AI agents, Wed Nov 11 2026. No macro, syntax, notation, axiom, sorry.
-/
import Derived.Test.YtobcoaafbekhaaaChecked
import GoSem.Claim
import GoSem.ClaimJoined
import GoSem.ClaimMapViews
import Derived.JoinedTies
import Derived.KernelRfl
namespace Go.Proofs.Ytobcoaafbekhaaa
/- THE CELL 'sum', in the pinned program and in every row, IS THE sha256 OF THE DUMP (.gsa) THAT YtobcoaafbekhaaaProg.lean LOADS. Nothing in Lean hashes anything: it is a label: what it is worth is what the hold of that sum in a sandbox is worth. -/
noncomputable def Try.pinned : Pinned := { name := "ytobcoaafbekhaaa", sum := "21da903e5ecb78f6737e0032ef69aaec33d9c234287886da88a0a1676c4b7dc6", checked := Try.checked }
namespace Rows
def none {H : Type} : Left H := { results := [], args := [] }

/-- 'laws.FnExactPiecesForRun': WHATEVER THE INPUT: true; the input reads as it did. -/
def fnExactPiecesForRunSpec : ChangeSpec := { name := "fnExactPiecesForRun", fn := fun _ => fun
  | [d] => { results := [.lit (.bool true)], args := [d] }
  | _ => none }
def fnExactPiecesForRunRow : OpenClaim := { program := "ytobcoaafbekhaaa", sum := "21da903e5ecb78f6737e0032ef69aaec33d9c234287886da88a0a1676c4b7dc6", func := "loop.example/g01305/laws.FnExactPiecesForRun", spec := "fnExactPiecesForRun", apart := false }
def FnExactPiecesForRunSaid : Prop := fnExactPiecesForRunRow.holds Try.pinned (OpenSpec.ofChange fnExactPiecesForRunSpec)

/-- ITS FALSE NEIGHBOUR: 'it returns false'. Refute it at one input. -/
def fnExactPiecesForRunWrong : ChangeSpec := { name := "fnExactPiecesForRun", fn := fun _ => fun
  | [d] => { results := [.lit (.bool false)], args := [d] }
  | _ => none }
def FnExactPiecesForRunWrongFalsely : Prop := fnExactPiecesForRunRow.holds Try.pinned (OpenSpec.ofChange fnExactPiecesForRunWrong)

/-- 'laws.FnExactWaysBoth': WHATEVER THE INPUT: true; the input reads as it did. -/
def fnExactWaysBothSpec : ChangeSpec := { name := "fnExactWaysBoth", fn := fun _ => fun
  | [d1, d2] => { results := [.lit (.bool true)], args := [d1, d2] }
  | _ => none }
def fnExactWaysBothRow : OpenClaim := { program := "ytobcoaafbekhaaa", sum := "21da903e5ecb78f6737e0032ef69aaec33d9c234287886da88a0a1676c4b7dc6", func := "loop.example/g01305/laws.FnExactWaysBoth", spec := "fnExactWaysBoth", unfollowed := true, recurses := true, apart := false }
def FnExactWaysBothSaid : Prop := fnExactWaysBothRow.holds Try.pinned (OpenSpec.ofChange fnExactWaysBothSpec)

/-- ITS FALSE NEIGHBOUR: 'it returns false'. Refute it at one input. -/
def fnExactWaysBothWrong : ChangeSpec := { name := "fnExactWaysBoth", fn := fun _ => fun
  | [d1, d2] => { results := [.lit (.bool false)], args := [d1, d2] }
  | _ => none }
def FnExactWaysBothWrongFalsely : Prop := fnExactWaysBothRow.holds Try.pinned (OpenSpec.ofChange fnExactWaysBothWrong)

/-- 'laws.FnExactCountBoth': WHATEVER THE INPUT: true; the input reads as it did. -/
def fnExactCountBothSpec : ChangeSpec := { name := "fnExactCountBoth", fn := fun _ => fun
  | [d] => { results := [.lit (.bool true)], args := [d] }
  | _ => none }
def fnExactCountBothRow : OpenClaim := { program := "ytobcoaafbekhaaa", sum := "21da903e5ecb78f6737e0032ef69aaec33d9c234287886da88a0a1676c4b7dc6", func := "loop.example/g01305/laws.FnExactCountBoth", spec := "fnExactCountBoth", unfollowed := true, recurses := true, apart := false }
def FnExactCountBothSaid : Prop := fnExactCountBothRow.holds Try.pinned (OpenSpec.ofChange fnExactCountBothSpec)

/-- ITS FALSE NEIGHBOUR: 'it returns false'. Refute it at one input. -/
def fnExactCountBothWrong : ChangeSpec := { name := "fnExactCountBoth", fn := fun _ => fun
  | [d] => { results := [.lit (.bool false)], args := [d] }
  | _ => none }
def FnExactCountBothWrongFalsely : Prop := fnExactCountBothRow.holds Try.pinned (OpenSpec.ofChange fnExactCountBothWrong)

/-- 'laws.FnExactCanBalance': WHATEVER THE INPUT: true; the input reads as it did. -/
def fnExactCanBalanceSpec : ChangeSpec := { name := "fnExactCanBalance", fn := fun _ => fun
  | [d1, d2] => { results := [.lit (.bool true)], args := [d1, d2] }
  | _ => none }
def fnExactCanBalanceRow : OpenClaim := { program := "ytobcoaafbekhaaa", sum := "21da903e5ecb78f6737e0032ef69aaec33d9c234287886da88a0a1676c4b7dc6", func := "loop.example/g01305/laws.FnExactCanBalance", spec := "fnExactCanBalance", unfollowed := true, recurses := true, apart := false }
def FnExactCanBalanceSaid : Prop := fnExactCanBalanceRow.holds Try.pinned (OpenSpec.ofChange fnExactCanBalanceSpec)

/-- ITS FALSE NEIGHBOUR: 'it returns false'. Refute it at one input. -/
def fnExactCanBalanceWrong : ChangeSpec := { name := "fnExactCanBalance", fn := fun _ => fun
  | [d1, d2] => { results := [.lit (.bool false)], args := [d1, d2] }
  | _ => none }
def FnExactCanBalanceWrongFalsely : Prop := fnExactCanBalanceRow.holds Try.pinned (OpenSpec.ofChange fnExactCanBalanceWrong)

/-- 'laws.FnExactPayBoth': WHATEVER THE INPUT: true; the input reads as it did. -/
def fnExactPayBothSpec : ChangeSpec := { name := "fnExactPayBoth", fn := fun _ => fun
  | [d1, d2, d3] => { results := [.lit (.bool true)], args := [d1, d2, d3] }
  | _ => none }
def fnExactPayBothRow : OpenClaim := { program := "ytobcoaafbekhaaa", sum := "21da903e5ecb78f6737e0032ef69aaec33d9c234287886da88a0a1676c4b7dc6", func := "loop.example/g01305/laws.FnExactPayBoth", spec := "fnExactPayBoth", unfollowed := true, recurses := true, apart := false }
def FnExactPayBothSaid : Prop := fnExactPayBothRow.holds Try.pinned (OpenSpec.ofChange fnExactPayBothSpec)

/-- ITS FALSE NEIGHBOUR: 'it returns false'. Refute it at one input. -/
def fnExactPayBothWrong : ChangeSpec := { name := "fnExactPayBoth", fn := fun _ => fun
  | [d1, d2, d3] => { results := [.lit (.bool false)], args := [d1, d2, d3] }
  | _ => none }
def FnExactPayBothWrongFalsely : Prop := fnExactPayBothRow.holds Try.pinned (OpenSpec.ofChange fnExactPayBothWrong)

/-- 'laws.FnExactBestBoth': WHATEVER THE INPUT: true; the input reads as it did. -/
def fnExactBestBothSpec : ChangeSpec := { name := "fnExactBestBoth", fn := fun _ => fun
  | [d] => { results := [.lit (.bool true)], args := [d] }
  | _ => none }
def fnExactBestBothRow : OpenClaim := { program := "ytobcoaafbekhaaa", sum := "21da903e5ecb78f6737e0032ef69aaec33d9c234287886da88a0a1676c4b7dc6", func := "loop.example/g01305/laws.FnExactBestBoth", spec := "fnExactBestBoth", unfollowed := true, recurses := true, apart := false }
def FnExactBestBothSaid : Prop := fnExactBestBothRow.holds Try.pinned (OpenSpec.ofChange fnExactBestBothSpec)

/-- ITS FALSE NEIGHBOUR: 'it returns false'. Refute it at one input. -/
def fnExactBestBothWrong : ChangeSpec := { name := "fnExactBestBoth", fn := fun _ => fun
  | [d] => { results := [.lit (.bool false)], args := [d] }
  | _ => none }
def FnExactBestBothWrongFalsely : Prop := fnExactBestBothRow.holds Try.pinned (OpenSpec.ofChange fnExactBestBothWrong)

/-- 'laws.FnExactRunBoth': WHATEVER THE INPUT: true; the input reads as it did. -/
def fnExactRunBothSpec : ChangeSpec := { name := "fnExactRunBoth", fn := fun _ => fun
  | [d] => { results := [.lit (.bool true)], args := [d] }
  | _ => none }
def fnExactRunBothRow : OpenClaim := { program := "ytobcoaafbekhaaa", sum := "21da903e5ecb78f6737e0032ef69aaec33d9c234287886da88a0a1676c4b7dc6", func := "loop.example/g01305/laws.FnExactRunBoth", spec := "fnExactRunBoth", unfollowed := true, recurses := true, apart := false }
def FnExactRunBothSaid : Prop := fnExactRunBothRow.holds Try.pinned (OpenSpec.ofChange fnExactRunBothSpec)

/-- ITS FALSE NEIGHBOUR: 'it returns false'. Refute it at one input. -/
def fnExactRunBothWrong : ChangeSpec := { name := "fnExactRunBoth", fn := fun _ => fun
  | [d] => { results := [.lit (.bool false)], args := [d] }
  | _ => none }
def FnExactRunBothWrongFalsely : Prop := fnExactRunBothRow.holds Try.pinned (OpenSpec.ofChange fnExactRunBothWrong)

/-- 'laws.FnExactFewestBoth': WHATEVER THE INPUT: true; the input reads as it did. -/
def fnExactFewestBothSpec : ChangeSpec := { name := "fnExactFewestBoth", fn := fun _ => fun
  | [d1, d2] => { results := [.lit (.bool true)], args := [d1, d2] }
  | _ => none }
def fnExactFewestBothRow : OpenClaim := { program := "ytobcoaafbekhaaa", sum := "21da903e5ecb78f6737e0032ef69aaec33d9c234287886da88a0a1676c4b7dc6", func := "loop.example/g01305/laws.FnExactFewestBoth", spec := "fnExactFewestBoth", unfollowed := true, recurses := true, apart := false }
def FnExactFewestBothSaid : Prop := fnExactFewestBothRow.holds Try.pinned (OpenSpec.ofChange fnExactFewestBothSpec)

/-- ITS FALSE NEIGHBOUR: 'it returns false'. Refute it at one input. -/
def fnExactFewestBothWrong : ChangeSpec := { name := "fnExactFewestBoth", fn := fun _ => fun
  | [d1, d2] => { results := [.lit (.bool false)], args := [d1, d2] }
  | _ => none }
def FnExactFewestBothWrongFalsely : Prop := fnExactFewestBothRow.holds Try.pinned (OpenSpec.ofChange fnExactFewestBothWrong)

/-- 'laws.FnExactGapsBoth': WHATEVER THE INPUT: true; the input reads as it did. -/
def fnExactGapsBothSpec : ChangeSpec := { name := "fnExactGapsBoth", fn := fun _ => fun
  | [d] => { results := [.lit (.bool true)], args := [d] }
  | _ => none }
def fnExactGapsBothRow : OpenClaim := { program := "ytobcoaafbekhaaa", sum := "21da903e5ecb78f6737e0032ef69aaec33d9c234287886da88a0a1676c4b7dc6", func := "loop.example/g01305/laws.FnExactGapsBoth", spec := "fnExactGapsBoth", unfollowed := true, recurses := true, apart := false }
def FnExactGapsBothSaid : Prop := fnExactGapsBothRow.holds Try.pinned (OpenSpec.ofChange fnExactGapsBothSpec)

/-- ITS FALSE NEIGHBOUR: 'it returns false'. Refute it at one input. -/
def fnExactGapsBothWrong : ChangeSpec := { name := "fnExactGapsBoth", fn := fun _ => fun
  | [d] => { results := [.lit (.bool false)], args := [d] }
  | _ => none }
def FnExactGapsBothWrongFalsely : Prop := fnExactGapsBothRow.holds Try.pinned (OpenSpec.ofChange fnExactGapsBothWrong)

/-- 'laws.FnExactFirstBoth': WHATEVER THE INPUT: true; the input reads as it did. -/
def fnExactFirstBothSpec : ChangeSpec := { name := "fnExactFirstBoth", fn := fun _ => fun
  | [d1, d2] => { results := [.lit (.bool true)], args := [d1, d2] }
  | _ => none }
def fnExactFirstBothRow : OpenClaim := { program := "ytobcoaafbekhaaa", sum := "21da903e5ecb78f6737e0032ef69aaec33d9c234287886da88a0a1676c4b7dc6", func := "loop.example/g01305/laws.FnExactFirstBoth", spec := "fnExactFirstBoth", unfollowed := true, recurses := true, apart := false }
def FnExactFirstBothSaid : Prop := fnExactFirstBothRow.holds Try.pinned (OpenSpec.ofChange fnExactFirstBothSpec)

/-- ITS FALSE NEIGHBOUR: 'it returns false'. Refute it at one input. -/
def fnExactFirstBothWrong : ChangeSpec := { name := "fnExactFirstBoth", fn := fun _ => fun
  | [d1, d2] => { results := [.lit (.bool false)], args := [d1, d2] }
  | _ => none }
def FnExactFirstBothWrongFalsely : Prop := fnExactFirstBothRow.holds Try.pinned (OpenSpec.ofChange fnExactFirstBothWrong)

/-- 'laws.FnExactFewestCardsFor': WHATEVER THE INPUT: true; the input reads as it did. -/
def fnExactFewestCardsForSpec : ChangeSpec := { name := "fnExactFewestCardsFor", fn := fun _ => fun
  | [d] => { results := [.lit (.bool true)], args := [d] }
  | _ => none }
def fnExactFewestCardsForRow : OpenClaim := { program := "ytobcoaafbekhaaa", sum := "21da903e5ecb78f6737e0032ef69aaec33d9c234287886da88a0a1676c4b7dc6", func := "loop.example/g01305/laws.FnExactFewestCardsFor", spec := "fnExactFewestCardsFor", apart := false }
def FnExactFewestCardsForSaid : Prop := fnExactFewestCardsForRow.holds Try.pinned (OpenSpec.ofChange fnExactFewestCardsForSpec)

/-- ITS FALSE NEIGHBOUR: 'it returns false'. Refute it at one input. -/
def fnExactFewestCardsForWrong : ChangeSpec := { name := "fnExactFewestCardsFor", fn := fun _ => fun
  | [d] => { results := [.lit (.bool false)], args := [d] }
  | _ => none }
def FnExactFewestCardsForWrongFalsely : Prop := fnExactFewestCardsForRow.holds Try.pinned (OpenSpec.ofChange fnExactFewestCardsForWrong)

/- THE SECOND FORM. 'bulk': how many values and letters a reading holds, each counted each time it is reached (what is shared counts as often as it is met; a slice's spare places count too). A statement '..UptoSaid' is the law's where the arguments, and the package variables that the reading takes, are together of bulk at most 1048576: NARROWER than '..Said'. Prove '..Said' where nothing that the law and all that it calls make is longer than what came in: it says more and counts as full. Else prove '..UptoSaid'. A law counts once. -/
mutual
def uptoBulk {H : Type} : DataW H → Nat
  | .lit (.string bytes) => bytes.length + 1
  | .lit _ => 1
  | .nil => 1
  | .ptr d => uptoBulk d + 1
  | .slice elems spare => uptoBulkAll elems + uptoBulkAll spare + 1
  | .agg parts => uptoBulkAll parts + 1
  | .iface _ d => uptoBulk d + 1
  | .map entries => uptoBulkEntries entries + 1
  | .held _ => 1
def uptoBulkAll {H : Type} : List (DataW H) → Nat
  | [] => 0
  | d :: r => uptoBulk d + uptoBulkAll r
def uptoBulkEntries {H : Type} : List (Lit × DataW H) → Nat
  | [] => 0
  | x :: r => uptoBulkEntry x + uptoBulkEntries r
def uptoBulkEntry {H : Type} : Lit × DataW H → Nat
  | (.string bytes, d) => bytes.length + uptoBulk d + 1
  | (_, d) => uptoBulk d + 1
 end
def uptoSmall : (H : Type) → List (DataW H) → Bool := fun _ ds => decide (uptoBulkAll ds ≤ 1048576)
def OpenSpec.upto (s : _root_.Go.ChangeSpec) : _root_.Go.OpenSpec := { _root_.Go.OpenSpec.ofChange s with cond := some uptoSmall }

/-- 'laws.FnExactPiecesForRun', WHERE WHAT IT READS IS OF BULK AT MOST 1048576: true; the input reads as it did. -/
def fnExactPiecesForRunUptoRow : OpenClaim := { program := "ytobcoaafbekhaaa", sum := "21da903e5ecb78f6737e0032ef69aaec33d9c234287886da88a0a1676c4b7dc6", func := "loop.example/g01305/laws.FnExactPiecesForRun", spec := "fnExactPiecesForRun", apart := false, narrowed := true }
def FnExactPiecesForRunUptoSaid : Prop := fnExactPiecesForRunUptoRow.holds Try.pinned (OpenSpec.upto fnExactPiecesForRunSpec)

/-- 'laws.FnExactWaysBoth', WHERE WHAT IT READS IS OF BULK AT MOST 1048576: true; the input reads as it did. -/
def fnExactWaysBothUptoRow : OpenClaim := { program := "ytobcoaafbekhaaa", sum := "21da903e5ecb78f6737e0032ef69aaec33d9c234287886da88a0a1676c4b7dc6", func := "loop.example/g01305/laws.FnExactWaysBoth", spec := "fnExactWaysBoth", unfollowed := true, recurses := true, apart := false, narrowed := true }
def FnExactWaysBothUptoSaid : Prop := fnExactWaysBothUptoRow.holds Try.pinned (OpenSpec.upto fnExactWaysBothSpec)

/-- 'laws.FnExactCountBoth', WHERE WHAT IT READS IS OF BULK AT MOST 1048576: true; the input reads as it did. -/
def fnExactCountBothUptoRow : OpenClaim := { program := "ytobcoaafbekhaaa", sum := "21da903e5ecb78f6737e0032ef69aaec33d9c234287886da88a0a1676c4b7dc6", func := "loop.example/g01305/laws.FnExactCountBoth", spec := "fnExactCountBoth", unfollowed := true, recurses := true, apart := false, narrowed := true }
def FnExactCountBothUptoSaid : Prop := fnExactCountBothUptoRow.holds Try.pinned (OpenSpec.upto fnExactCountBothSpec)

/-- 'laws.FnExactCanBalance', WHERE WHAT IT READS IS OF BULK AT MOST 1048576: true; the input reads as it did. -/
def fnExactCanBalanceUptoRow : OpenClaim := { program := "ytobcoaafbekhaaa", sum := "21da903e5ecb78f6737e0032ef69aaec33d9c234287886da88a0a1676c4b7dc6", func := "loop.example/g01305/laws.FnExactCanBalance", spec := "fnExactCanBalance", unfollowed := true, recurses := true, apart := false, narrowed := true }
def FnExactCanBalanceUptoSaid : Prop := fnExactCanBalanceUptoRow.holds Try.pinned (OpenSpec.upto fnExactCanBalanceSpec)

/-- 'laws.FnExactPayBoth', WHERE WHAT IT READS IS OF BULK AT MOST 1048576: true; the input reads as it did. -/
def fnExactPayBothUptoRow : OpenClaim := { program := "ytobcoaafbekhaaa", sum := "21da903e5ecb78f6737e0032ef69aaec33d9c234287886da88a0a1676c4b7dc6", func := "loop.example/g01305/laws.FnExactPayBoth", spec := "fnExactPayBoth", unfollowed := true, recurses := true, apart := false, narrowed := true }
def FnExactPayBothUptoSaid : Prop := fnExactPayBothUptoRow.holds Try.pinned (OpenSpec.upto fnExactPayBothSpec)

/-- 'laws.FnExactBestBoth', WHERE WHAT IT READS IS OF BULK AT MOST 1048576: true; the input reads as it did. -/
def fnExactBestBothUptoRow : OpenClaim := { program := "ytobcoaafbekhaaa", sum := "21da903e5ecb78f6737e0032ef69aaec33d9c234287886da88a0a1676c4b7dc6", func := "loop.example/g01305/laws.FnExactBestBoth", spec := "fnExactBestBoth", unfollowed := true, recurses := true, apart := false, narrowed := true }
def FnExactBestBothUptoSaid : Prop := fnExactBestBothUptoRow.holds Try.pinned (OpenSpec.upto fnExactBestBothSpec)

/-- 'laws.FnExactRunBoth', WHERE WHAT IT READS IS OF BULK AT MOST 1048576: true; the input reads as it did. -/
def fnExactRunBothUptoRow : OpenClaim := { program := "ytobcoaafbekhaaa", sum := "21da903e5ecb78f6737e0032ef69aaec33d9c234287886da88a0a1676c4b7dc6", func := "loop.example/g01305/laws.FnExactRunBoth", spec := "fnExactRunBoth", unfollowed := true, recurses := true, apart := false, narrowed := true }
def FnExactRunBothUptoSaid : Prop := fnExactRunBothUptoRow.holds Try.pinned (OpenSpec.upto fnExactRunBothSpec)

/-- 'laws.FnExactFewestBoth', WHERE WHAT IT READS IS OF BULK AT MOST 1048576: true; the input reads as it did. -/
def fnExactFewestBothUptoRow : OpenClaim := { program := "ytobcoaafbekhaaa", sum := "21da903e5ecb78f6737e0032ef69aaec33d9c234287886da88a0a1676c4b7dc6", func := "loop.example/g01305/laws.FnExactFewestBoth", spec := "fnExactFewestBoth", unfollowed := true, recurses := true, apart := false, narrowed := true }
def FnExactFewestBothUptoSaid : Prop := fnExactFewestBothUptoRow.holds Try.pinned (OpenSpec.upto fnExactFewestBothSpec)

/-- 'laws.FnExactGapsBoth', WHERE WHAT IT READS IS OF BULK AT MOST 1048576: true; the input reads as it did. -/
def fnExactGapsBothUptoRow : OpenClaim := { program := "ytobcoaafbekhaaa", sum := "21da903e5ecb78f6737e0032ef69aaec33d9c234287886da88a0a1676c4b7dc6", func := "loop.example/g01305/laws.FnExactGapsBoth", spec := "fnExactGapsBoth", unfollowed := true, recurses := true, apart := false, narrowed := true }
def FnExactGapsBothUptoSaid : Prop := fnExactGapsBothUptoRow.holds Try.pinned (OpenSpec.upto fnExactGapsBothSpec)

/-- 'laws.FnExactFirstBoth', WHERE WHAT IT READS IS OF BULK AT MOST 1048576: true; the input reads as it did. -/
def fnExactFirstBothUptoRow : OpenClaim := { program := "ytobcoaafbekhaaa", sum := "21da903e5ecb78f6737e0032ef69aaec33d9c234287886da88a0a1676c4b7dc6", func := "loop.example/g01305/laws.FnExactFirstBoth", spec := "fnExactFirstBoth", unfollowed := true, recurses := true, apart := false, narrowed := true }
def FnExactFirstBothUptoSaid : Prop := fnExactFirstBothUptoRow.holds Try.pinned (OpenSpec.upto fnExactFirstBothSpec)

/-- 'laws.FnExactFewestCardsFor', WHERE WHAT IT READS IS OF BULK AT MOST 1048576: true; the input reads as it did. -/
def fnExactFewestCardsForUptoRow : OpenClaim := { program := "ytobcoaafbekhaaa", sum := "21da903e5ecb78f6737e0032ef69aaec33d9c234287886da88a0a1676c4b7dc6", func := "loop.example/g01305/laws.FnExactFewestCardsFor", spec := "fnExactFewestCardsFor", apart := false, narrowed := true }
def FnExactFewestCardsForUptoSaid : Prop := fnExactFewestCardsForUptoRow.holds Try.pinned (OpenSpec.upto fnExactFewestCardsForSpec)

end Rows
end Go.Proofs.Ytobcoaafbekhaaa
