/- Functions of the program and of the reference as Lean functions, and the contracts of their calls: laid by a program of this repo (wip/gen.py), in part by hand. -/
import Derived.Test.YtgcpjjifiebijaaProg
import Derived.Below
import Derived.Deep.Draws
import Derived.Deep.AppendLies
import Derived.Maps.AppendAt
import Derived.OwnWalk
import Derived.Laws.BytesArg
import Derived.Laws.MakeOwn
import Derived.Laws.OwnMore
import Derived.Deep.OwnRows
import Derived.Tactics
import Derived.Lib.ConvBytes
import Derived.Laws.Slices
import Derived.WalkKit
import Derived.KernelRfl
import Derived.RowKit3
import Derived.Deep.LoopGhost
import Derived.Deep.QuietTactic
import Derived.BigQuiet
import Derived.WideLaws
import Derived.Deep.DeepCutAuto
import Derived.Deep.CutBlock
import Derived.Deep.RegionHeld3
import Derived.Laws.Rows
import Derived.Lib.AppendStr
import Derived.ArgAppend
import Derived.Laws.IdiomCopy
import Derived.OrdersHeld
import Derived.Laws.BitsLemmas
import Derived.RowKit
import Derived.Shelf.Abstract
import Derived.Defers
import Derived.Laws.Pointers
import Derived.Laws.LoneSync
import Derived.RegionTactic
import Derived.RegionCalls
import Derived.ChangeAlike
import Derived.BigRegion
import Derived.Deep.WholeRow
import Derived.LoopN
import Derived.Lib.SliceRun
import Derived.Test.YtgcpjjifiebijaaWWords
import Derived.Test.YtgcpjjifiebijaaWLast
import Derived.Test.YtgcpjjifiebijaaWTab
import Derived.Test.YtgcpjjifiebijaaWFour
import Derived.Test.YtgcpjjifiebijaaWQPut
import Derived.Test.YtgcpjjifiebijaaWApart
import Derived.Test.YtgcpjjifiebijaaWArr
import Derived.Test.YtgcpjjifiebijaaWZeros
import Derived.Test.YtgcpjjifiebijaaWFoot
import Derived.Test.YtgcpjjifiebijaaWKept
import Derived.Test.YtgcpjjifiebijaaWShare
import Derived.Test.YtgcpjjifiebijaaWN
import Derived.Test.YtgcpjjifiebijaaWFootNe
import Derived.Test.YtgcpjjifiebijaaWAt
import Derived.Test.YtgcpjjifiebijaaWEqStruct
import Derived.Test.YtgcpjjifiebijaaWRepsOne
import Derived.Test.YtgcpjjifiebijaaWInv
import Derived.Test.YtgcpjjifiebijaaWInvWords
import Derived.Test.YtgcpjjifiebijaaWGuard
import Derived.Test.YtgcpjjifiebijaaWNEv
import Derived.Test.YtgcpjjifiebijaaWMore
namespace Go.Proofs.Ytgcpjjifiebijaa.Bo
open Go.RowKit Go.Proofs.YtgcpjjifiebijaaW.PrintWords Go.Proofs.YtgcpjjifiebijaaW.PrintLast Go.Proofs.YtgcpjjifiebijaaW.PrintMore
attribute [local go_sem] max2_int min2_int max_two min_two max_three min_three max_four min_four   -- for this text's walks alone
set_option linter.unusedVariables false
set_option linter.unusedSimpArgs false



def errW : Option Int → Value
  | none => .nilIface
  | some c => .iface 0 (.int .i64 c)
theorem errW_none : errW none = .nilIface := rfl
theorem errW_some (c : Int) : errW (some c) = .iface 0 (.int .i64 c) := rfl

-- the values' own types

end Go.Proofs.Ytgcpjjifiebijaa.Bo
