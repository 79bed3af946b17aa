/- Functions of the program and of the reference as Lean functions, and the contracts of their calls: laid by a program of this repo (wip/gen.py), in part by hand. -/
import Derived.Test.YtbaodkllldhbmaaProg
import Derived.Below
import Derived.Deep.Draws
import Derived.Deep.AppendLies
import Derived.Maps.AppendAt
import Derived.OwnWalk
import Derived.Laws.BytesArg
import Derived.Laws.MakeOwn
import Derived.Laws.OwnMore
import Derived.Deep.OwnRows
import Derived.Tactics
import Derived.Lib.ConvBytes
import Derived.Laws.Slices
import Derived.WalkKit
import Derived.KernelRfl
import Derived.RowKit3
import Derived.Deep.LoopGhost
import Derived.Deep.QuietTactic
import Derived.BigQuiet
import Derived.WideLaws
import Derived.Deep.DeepCutAuto
import Derived.Deep.CutBlock
import Derived.Deep.RegionHeld3
import Derived.Laws.Rows
import Derived.Lib.AppendStr
import Derived.ArgAppend
import Derived.Laws.IdiomCopy
import Derived.OrdersHeld
import Derived.Laws.BitsLemmas
import Derived.RowKit
import Derived.Shelf.Abstract
import Derived.RangeFuncNested
import Derived.RangeFuncBound
import Derived.RangeFuncCalls
import Derived.RangeFuncLeaves
import Derived.RangeFuncBox
import Derived.RangeFuncWrites
import Derived.OwnWalkIn
import Derived.TacticsInMore
import Derived.LoopNIn
import Derived.LoopIn
import Derived.Shelf.RegionOpen
import Derived.RegionIn
import Derived.BigRegionIn
import Derived.Test.YtbaodkllldhbmaaWWords
import Derived.Test.YtbaodkllldhbmaaWLast
import Derived.Test.YtbaodkllldhbmaaWTab
import Derived.Test.YtbaodkllldhbmaaWFour
import Derived.Test.YtbaodkllldhbmaaWQPut
import Derived.Test.YtbaodkllldhbmaaWApart
import Derived.Test.YtbaodkllldhbmaaWArr
import Derived.Test.YtbaodkllldhbmaaWZeros
import Derived.Test.YtbaodkllldhbmaaWFoot
import Derived.Test.YtbaodkllldhbmaaWKept
import Derived.Test.YtbaodkllldhbmaaWShare
import Derived.Test.YtbaodkllldhbmaaWN
import Derived.Test.YtbaodkllldhbmaaWFootNe
import Derived.Test.YtbaodkllldhbmaaWAt
import Derived.Test.YtbaodkllldhbmaaWEqStruct
import Derived.Test.YtbaodkllldhbmaaWRepsOne
import Derived.Test.YtbaodkllldhbmaaWInv
import Derived.Test.YtbaodkllldhbmaaWInvWords
import Derived.Test.YtbaodkllldhbmaaWGuard
import Derived.Test.YtbaodkllldhbmaaWNEv
import Derived.Test.YtbaodkllldhbmaaWMore
namespace Go.Proofs.Ytbaodkllldhbmaa.G
open Go.RowKit Go.Proofs.YtbaodkllldhbmaaW.PrintWords Go.Proofs.YtbaodkllldhbmaaW.PrintLast Go.Proofs.YtbaodkllldhbmaaW.PrintMore
attribute [local go_sem] max2_int min2_int max_two min_two max_three min_three max_four min_four   -- for this text's walks alone
set_option linter.unusedVariables false
set_option linter.unusedSimpArgs false



def errW : Option Int → Value
  | none => .nilIface
  | some c => .iface 0 (.int .i64 c)
theorem errW_none : errW none = .nilIface := rfl
theorem errW_some (c : Int) : errW (some c) = .iface 0 (.int .i64 c) := rfl

theorem info3 : (Try.prog.info? 3).map (fun i => (i.zero, i.size, i.bytes)) = some (some (.int .i64 0), 1, 8) := by kernel_rfl
theorem info4 : (Try.prog.info? 4).map (fun i => (i.zero, i.size, i.bytes)) = some (some (.bool false), 1, 1) := by kernel_rfl
-- the values' own types

end Go.Proofs.Ytbaodkllldhbmaa.G
