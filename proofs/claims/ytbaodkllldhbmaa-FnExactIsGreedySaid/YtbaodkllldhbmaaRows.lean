/-
  No cell of these rows narrows 'for every input' (looked for: loops, veiled, ifaces, maps, wideKeys, modest, calm, conditions, laid).
  DERIVED. THE GIVEN ROWS OF THIS SEAT. 5 by the template 'for every input the law returns true; each argument reads behind the call as it read before'; 0 by the template 'total and deterministic' (their statements: YtbaodkllldhbmaaTotals.lean).
  GIVEN WITH THE SEED: the statements are not yours to turn. If you find one false, say at which input.
  Laid BY PROGRAM, IN A SANDBOX (cutbox-rows.mjs): the forced cells as the released guide's own fill.sh prints them over the translation 65c8bfcdaf92d394… (all of the seat's roots in one cut). By AI agents, Wed Nov 11 2026. No macro, syntax, notation, axiom, sorry.
-/
import Derived.Test.YtbaodkllldhbmaaChecked
import GoSem.Claim
import GoSem.ClaimJoined
import GoSem.ClaimMapViews
import Derived.JoinedTies
import Derived.KernelRfl
namespace Go.Proofs.Ytbaodkllldhbmaa
/- THE CELL 'sum', in the pinned program and in every row, IS THE sha256 OF THE DUMP (.gsa) THAT YtbaodkllldhbmaaProg.lean LOADS. Nothing in Lean hashes anything: it is a label: what it is worth is what the hold of that sum in a sandbox is worth. -/
noncomputable def Try.pinned : Pinned := { name := "ytbaodkllldhbmaa", sum := "65c8bfcdaf92d394fe00ccad9f0089a7029828e52c152529bee9d61b2d68dedb", checked := Try.checked }
namespace Rows
def none {H : Type} : Left H := { results := [], args := [] }

/-- 'laws.FnExactGreedyChange': WHATEVER THE INPUT: true; the input reads as it did. -/
def fnExactGreedyChangeSpec : ChangeSpec := { name := "fnExactGreedyChange", fn := fun _ => fun
  | [d1, d2] => { results := [.lit (.bool true)], args := [d1, d2] }
  | _ => none }
def fnExactGreedyChangeRow : OpenClaim := { program := "ytbaodkllldhbmaa", sum := "65c8bfcdaf92d394fe00ccad9f0089a7029828e52c152529bee9d61b2d68dedb", func := "loop.example/g01305/laws.FnExactGreedyChange", spec := "fnExactGreedyChange", unfollowed := true, recurses := true, apart := false }
def FnExactGreedyChangeSaid : Prop := fnExactGreedyChangeRow.holds Try.pinned (OpenSpec.ofChange fnExactGreedyChangeSpec)

/-- ITS FALSE NEIGHBOUR: 'it returns false'. Refute it at one input. -/
def fnExactGreedyChangeWrong : ChangeSpec := { name := "fnExactGreedyChange", fn := fun _ => fun
  | [d1, d2] => { results := [.lit (.bool false)], args := [d1, d2] }
  | _ => none }
def FnExactGreedyChangeWrongFalsely : Prop := fnExactGreedyChangeRow.holds Try.pinned (OpenSpec.ofChange fnExactGreedyChangeWrong)

/-- 'laws.FnExactGreedyCount': WHATEVER THE INPUT: true; the input reads as it did. -/
def fnExactGreedyCountSpec : ChangeSpec := { name := "fnExactGreedyCount", fn := fun _ => fun
  | [d1, d2] => { results := [.lit (.bool true)], args := [d1, d2] }
  | _ => none }
def fnExactGreedyCountRow : OpenClaim := { program := "ytbaodkllldhbmaa", sum := "65c8bfcdaf92d394fe00ccad9f0089a7029828e52c152529bee9d61b2d68dedb", func := "loop.example/g01305/laws.FnExactGreedyCount", spec := "fnExactGreedyCount", unfollowed := true, recurses := true, apart := false }
def FnExactGreedyCountSaid : Prop := fnExactGreedyCountRow.holds Try.pinned (OpenSpec.ofChange fnExactGreedyCountSpec)

/-- ITS FALSE NEIGHBOUR: 'it returns false'. Refute it at one input. -/
def fnExactGreedyCountWrong : ChangeSpec := { name := "fnExactGreedyCount", fn := fun _ => fun
  | [d1, d2] => { results := [.lit (.bool false)], args := [d1, d2] }
  | _ => none }
def FnExactGreedyCountWrongFalsely : Prop := fnExactGreedyCountRow.holds Try.pinned (OpenSpec.ofChange fnExactGreedyCountWrong)

/-- 'laws.FnExactFailuresUpTo': WHATEVER THE INPUT: true; the input reads as it did. -/
def fnExactFailuresUpToSpec : ChangeSpec := { name := "fnExactFailuresUpTo", fn := fun _ => fun
  | [d1, d2] => { results := [.lit (.bool true)], args := [d1, d2] }
  | _ => none }
def fnExactFailuresUpToRow : OpenClaim := { program := "ytbaodkllldhbmaa", sum := "65c8bfcdaf92d394fe00ccad9f0089a7029828e52c152529bee9d61b2d68dedb", func := "loop.example/g01305/laws.FnExactFailuresUpTo", spec := "fnExactFailuresUpTo", unfollowed := true, recurses := true, apart := false }
def FnExactFailuresUpToSaid : Prop := fnExactFailuresUpToRow.holds Try.pinned (OpenSpec.ofChange fnExactFailuresUpToSpec)

/-- ITS FALSE NEIGHBOUR: 'it returns false'. Refute it at one input. -/
def fnExactFailuresUpToWrong : ChangeSpec := { name := "fnExactFailuresUpTo", fn := fun _ => fun
  | [d1, d2] => { results := [.lit (.bool false)], args := [d1, d2] }
  | _ => none }
def FnExactFailuresUpToWrongFalsely : Prop := fnExactFailuresUpToRow.holds Try.pinned (OpenSpec.ofChange fnExactFailuresUpToWrong)

/-- 'laws.FnExactFirstFailure': WHATEVER THE INPUT: true; the input reads as it did. -/
def fnExactFirstFailureSpec : ChangeSpec := { name := "fnExactFirstFailure", fn := fun _ => fun
  | [d] => { results := [.lit (.bool true)], args := [d] }
  | _ => none }
def fnExactFirstFailureRow : OpenClaim := { program := "ytbaodkllldhbmaa", sum := "65c8bfcdaf92d394fe00ccad9f0089a7029828e52c152529bee9d61b2d68dedb", func := "loop.example/g01305/laws.FnExactFirstFailure", spec := "fnExactFirstFailure", unfollowed := true, recurses := true, apart := false }
def FnExactFirstFailureSaid : Prop := fnExactFirstFailureRow.holds Try.pinned (OpenSpec.ofChange fnExactFirstFailureSpec)

/-- ITS FALSE NEIGHBOUR: 'it returns false'. Refute it at one input. -/
def fnExactFirstFailureWrong : ChangeSpec := { name := "fnExactFirstFailure", fn := fun _ => fun
  | [d] => { results := [.lit (.bool false)], args := [d] }
  | _ => none }
def FnExactFirstFailureWrongFalsely : Prop := fnExactFirstFailureRow.holds Try.pinned (OpenSpec.ofChange fnExactFirstFailureWrong)

/-- 'laws.FnExactIsGreedy': WHATEVER THE INPUT: true; the input reads as it did. -/
def fnExactIsGreedySpec : ChangeSpec := { name := "fnExactIsGreedy", fn := fun _ => fun
  | [d] => { results := [.lit (.bool true)], args := [d] }
  | _ => none }
def fnExactIsGreedyRow : OpenClaim := { program := "ytbaodkllldhbmaa", sum := "65c8bfcdaf92d394fe00ccad9f0089a7029828e52c152529bee9d61b2d68dedb", func := "loop.example/g01305/laws.FnExactIsGreedy", spec := "fnExactIsGreedy", unfollowed := true, recurses := true, apart := false }
def FnExactIsGreedySaid : Prop := fnExactIsGreedyRow.holds Try.pinned (OpenSpec.ofChange fnExactIsGreedySpec)

/-- ITS FALSE NEIGHBOUR: 'it returns false'. Refute it at one input. -/
def fnExactIsGreedyWrong : ChangeSpec := { name := "fnExactIsGreedy", fn := fun _ => fun
  | [d] => { results := [.lit (.bool false)], args := [d] }
  | _ => none }
def FnExactIsGreedyWrongFalsely : Prop := fnExactIsGreedyRow.holds Try.pinned (OpenSpec.ofChange fnExactIsGreedyWrong)

/- THE SECOND FORM. 'bulk': how many values and letters a reading holds, each counted each time it is reached (what is shared counts as often as it is met; a slice's spare places count too). A statement '..UptoSaid' is the law's where the arguments, and the package variables that the reading takes, are together of bulk at most 1048576: NARROWER than '..Said'. Prove '..Said' where nothing that the law and all that it calls make is longer than what came in: it says more and counts as full. Else prove '..UptoSaid'. A law counts once. -/
mutual
def uptoBulk {H : Type} : DataW H → Nat
  | .lit (.string bytes) => bytes.length + 1
  | .lit _ => 1
  | .nil => 1
  | .ptr d => uptoBulk d + 1
  | .slice elems spare => uptoBulkAll elems + uptoBulkAll spare + 1
  | .agg parts => uptoBulkAll parts + 1
  | .iface _ d => uptoBulk d + 1
  | .map entries => uptoBulkEntries entries + 1
  | .held _ => 1
def uptoBulkAll {H : Type} : List (DataW H) → Nat
  | [] => 0
  | d :: r => uptoBulk d + uptoBulkAll r
def uptoBulkEntries {H : Type} : List (Lit × DataW H) → Nat
  | [] => 0
  | x :: r => uptoBulkEntry x + uptoBulkEntries r
def uptoBulkEntry {H : Type} : Lit × DataW H → Nat
  | (.string bytes, d) => bytes.length + uptoBulk d + 1
  | (_, d) => uptoBulk d + 1
 end
def uptoSmall : (H : Type) → List (DataW H) → Bool := fun _ ds => decide (uptoBulkAll ds ≤ 1048576)
def OpenSpec.upto (s : _root_.Go.ChangeSpec) : _root_.Go.OpenSpec := { _root_.Go.OpenSpec.ofChange s with cond := some uptoSmall }

/-- 'laws.FnExactGreedyChange', WHERE WHAT IT READS IS OF BULK AT MOST 1048576: true; the input reads as it did. -/
def fnExactGreedyChangeUptoRow : OpenClaim := { program := "ytbaodkllldhbmaa", sum := "65c8bfcdaf92d394fe00ccad9f0089a7029828e52c152529bee9d61b2d68dedb", func := "loop.example/g01305/laws.FnExactGreedyChange", spec := "fnExactGreedyChange", unfollowed := true, recurses := true, apart := false, narrowed := true }
def FnExactGreedyChangeUptoSaid : Prop := fnExactGreedyChangeUptoRow.holds Try.pinned (OpenSpec.upto fnExactGreedyChangeSpec)

/-- 'laws.FnExactGreedyCount', WHERE WHAT IT READS IS OF BULK AT MOST 1048576: true; the input reads as it did. -/
def fnExactGreedyCountUptoRow : OpenClaim := { program := "ytbaodkllldhbmaa", sum := "65c8bfcdaf92d394fe00ccad9f0089a7029828e52c152529bee9d61b2d68dedb", func := "loop.example/g01305/laws.FnExactGreedyCount", spec := "fnExactGreedyCount", unfollowed := true, recurses := true, apart := false, narrowed := true }
def FnExactGreedyCountUptoSaid : Prop := fnExactGreedyCountUptoRow.holds Try.pinned (OpenSpec.upto fnExactGreedyCountSpec)

/-- 'laws.FnExactFailuresUpTo', WHERE WHAT IT READS IS OF BULK AT MOST 1048576: true; the input reads as it did. -/
def fnExactFailuresUpToUptoRow : OpenClaim := { program := "ytbaodkllldhbmaa", sum := "65c8bfcdaf92d394fe00ccad9f0089a7029828e52c152529bee9d61b2d68dedb", func := "loop.example/g01305/laws.FnExactFailuresUpTo", spec := "fnExactFailuresUpTo", unfollowed := true, recurses := true, apart := false, narrowed := true }
def FnExactFailuresUpToUptoSaid : Prop := fnExactFailuresUpToUptoRow.holds Try.pinned (OpenSpec.upto fnExactFailuresUpToSpec)

/-- 'laws.FnExactFirstFailure', WHERE WHAT IT READS IS OF BULK AT MOST 1048576: true; the input reads as it did. -/
def fnExactFirstFailureUptoRow : OpenClaim := { program := "ytbaodkllldhbmaa", sum := "65c8bfcdaf92d394fe00ccad9f0089a7029828e52c152529bee9d61b2d68dedb", func := "loop.example/g01305/laws.FnExactFirstFailure", spec := "fnExactFirstFailure", unfollowed := true, recurses := true, apart := false, narrowed := true }
def FnExactFirstFailureUptoSaid : Prop := fnExactFirstFailureUptoRow.holds Try.pinned (OpenSpec.upto fnExactFirstFailureSpec)

/-- 'laws.FnExactIsGreedy', WHERE WHAT IT READS IS OF BULK AT MOST 1048576: true; the input reads as it did. -/
def fnExactIsGreedyUptoRow : OpenClaim := { program := "ytbaodkllldhbmaa", sum := "65c8bfcdaf92d394fe00ccad9f0089a7029828e52c152529bee9d61b2d68dedb", func := "loop.example/g01305/laws.FnExactIsGreedy", spec := "fnExactIsGreedy", unfollowed := true, recurses := true, apart := false, narrowed := true }
def FnExactIsGreedyUptoSaid : Prop := fnExactIsGreedyUptoRow.holds Try.pinned (OpenSpec.upto fnExactIsGreedySpec)

end Rows
end Go.Proofs.Ytbaodkllldhbmaa
