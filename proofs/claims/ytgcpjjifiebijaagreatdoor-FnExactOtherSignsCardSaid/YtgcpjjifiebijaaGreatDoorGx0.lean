/- Functions of the program and of the reference as Lean functions, and the contracts of their calls: laid by a program of this repo (wip/gen.py), in part by hand. -/
import Derived.Test.YtgcpjjifiebijaaGreatDoorProg
import Derived.Below
import Derived.Deep.Draws
import Derived.Deep.AppendLies
import Derived.Maps.AppendAt
import Derived.OwnWalk
import Derived.Laws.BytesArg
import Derived.Laws.MakeOwn
import Derived.Laws.OwnMore
import Derived.Deep.OwnRows
import Derived.Tactics
import Derived.Lib.ConvBytes
import Derived.Laws.Slices
import Derived.WalkKit
import Derived.KernelRfl
import Derived.RowKit3
import Derived.Deep.LoopGhost
import Derived.Deep.QuietTactic
import Derived.BigQuiet
import Derived.WideLaws
import Derived.Deep.DeepCutAuto
import Derived.Deep.CutBlock
import Derived.Deep.RegionHeld3
import Derived.Laws.Rows
import Derived.Lib.AppendStr
import Derived.ArgAppend
import Derived.Laws.IdiomCopy
import Derived.OrdersHeld
import Derived.Laws.BitsLemmas
import Derived.RowKit
import Derived.Shelf.Abstract
import Derived.Defers
import Derived.Laws.Pointers
import Derived.Laws.LoneSync
import Derived.RegionTactic
import Derived.RegionCalls
import Derived.ChangeAlike
import Derived.BigRegion
import Derived.Deep.WholeRow
import Derived.LoopN
import Derived.Lib.SliceRun
import Derived.Lib.LazyBuf
import Derived.Shelf.Strings.SlTrimAscii
import Derived.Test.YtgcpjjifiebijaaGreatDoorShelf
import Derived.Lib.OwnBridge
import Derived.Test.YtgcpjjifiebijaaGreatDoorWWords
import Derived.Test.YtgcpjjifiebijaaGreatDoorWLast
import Derived.Test.YtgcpjjifiebijaaGreatDoorWTab
import Derived.Test.YtgcpjjifiebijaaGreatDoorWFour
import Derived.Test.YtgcpjjifiebijaaGreatDoorWQPut
import Derived.Test.YtgcpjjifiebijaaGreatDoorWApart
import Derived.Test.YtgcpjjifiebijaaGreatDoorWArr
import Derived.Test.YtgcpjjifiebijaaGreatDoorWZeros
import Derived.Test.YtgcpjjifiebijaaGreatDoorWFoot
import Derived.Test.YtgcpjjifiebijaaGreatDoorWKept
import Derived.Test.YtgcpjjifiebijaaGreatDoorWShare
import Derived.Test.YtgcpjjifiebijaaGreatDoorWN
import Derived.Test.YtgcpjjifiebijaaGreatDoorWFootNe
import Derived.Test.YtgcpjjifiebijaaGreatDoorWAt
import Derived.Test.YtgcpjjifiebijaaGreatDoorWEqStruct
import Derived.Test.YtgcpjjifiebijaaGreatDoorWRepsOne
import Derived.Test.YtgcpjjifiebijaaGreatDoorWInv
import Derived.Test.YtgcpjjifiebijaaGreatDoorWInvWords
import Derived.Test.YtgcpjjifiebijaaGreatDoorWGuard
import Derived.Test.YtgcpjjifiebijaaGreatDoorWNEv
import Derived.Test.YtgcpjjifiebijaaGreatDoorWMore
namespace Go.Proofs.YtgcpjjifiebijaaGreatDoor.G
open Go.RowKit Go.Proofs.YtgcpjjifiebijaaGreatDoorW.PrintWords Go.Proofs.YtgcpjjifiebijaaGreatDoorW.PrintLast Go.Proofs.YtgcpjjifiebijaaGreatDoorW.PrintMore
attribute [local go_sem] max2_int min2_int max_two min_two max_three min_three max_four min_four   -- for this text's walks alone
set_option linter.unusedVariables false
set_option linter.unusedSimpArgs false



def errW : Option Int → Value
  | none => .nilIface
  | some c => .iface 0 (.int .i64 c)
theorem errW_none : errW none = .nilIface := rfl
theorem errW_some (c : Int) : errW (some c) = .iface 0 (.int .i64 c) := rfl

theorem info3 : (Tryz.prog.info? 3).map (fun i => (i.zero, i.size, i.bytes)) = some (some (.int .i64 0), 1, 8) := by kernel_rfl
-- the values' own types

end Go.Proofs.YtgcpjjifiebijaaGreatDoor.G
