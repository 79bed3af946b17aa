/- Functions of the program and of the reference as Lean functions, and the contracts of their calls: laid by a program of this repo (wip/gen.py), in part by hand. -/
import Derived.Test.YtgcpjjifiebijaaDoorProg
import Derived.Below
import Derived.Deep.Draws
import Derived.Deep.AppendLies
import Derived.Maps.AppendAt
import Derived.OwnWalk
import Derived.Laws.BytesArg
import Derived.Laws.MakeOwn
import Derived.Laws.OwnMore
import Derived.Deep.OwnRows
import Derived.Tactics
import Derived.Lib.ConvBytes
import Derived.Laws.Slices
import Derived.WalkKit
import Derived.KernelRfl
import Derived.RowKit3
import Derived.Deep.LoopGhost
import Derived.Deep.QuietTactic
import Derived.BigQuiet
import Derived.WideLaws
import Derived.Deep.DeepCutAuto
import Derived.Deep.CutBlock
import Derived.Deep.RegionHeld3
import Derived.Laws.Rows
import Derived.Lib.AppendStr
import Derived.ArgAppend
import Derived.Laws.IdiomCopy
import Derived.OrdersHeld
import Derived.Laws.BitsLemmas
import Derived.RowKit
import Derived.Shelf.Abstract
import Derived.Lib.LazyBuf
import Derived.Shelf.Strings.SlTrimAscii
import Derived.Test.YtgcpjjifiebijaaDoorShelf
import Derived.Lib.OwnBridge
import Derived.Test.YtgcpjjifiebijaaDoorWWords
import Derived.Test.YtgcpjjifiebijaaDoorWLast
import Derived.Test.YtgcpjjifiebijaaDoorWTab
import Derived.Test.YtgcpjjifiebijaaDoorWFour
import Derived.Test.YtgcpjjifiebijaaDoorWQPut
import Derived.Test.YtgcpjjifiebijaaDoorWApart
import Derived.Test.YtgcpjjifiebijaaDoorWArr
import Derived.Test.YtgcpjjifiebijaaDoorWZeros
import Derived.Test.YtgcpjjifiebijaaDoorWFoot
import Derived.Test.YtgcpjjifiebijaaDoorWKept
import Derived.Test.YtgcpjjifiebijaaDoorWShare
import Derived.Test.YtgcpjjifiebijaaDoorWN
import Derived.Test.YtgcpjjifiebijaaDoorWFootNe
import Derived.Test.YtgcpjjifiebijaaDoorWAt
import Derived.Test.YtgcpjjifiebijaaDoorWEqStruct
import Derived.Test.YtgcpjjifiebijaaDoorWRepsOne
import Derived.Test.YtgcpjjifiebijaaDoorWInv
import Derived.Test.YtgcpjjifiebijaaDoorWInvWords
import Derived.Test.YtgcpjjifiebijaaDoorWGuard
import Derived.Test.YtgcpjjifiebijaaDoorWNEv
import Derived.Test.YtgcpjjifiebijaaDoorWMore
namespace Go.Proofs.YtgcpjjifiebijaaDoor.G
open Go.RowKit Go.Proofs.YtgcpjjifiebijaaDoorW.PrintWords Go.Proofs.YtgcpjjifiebijaaDoorW.PrintLast Go.Proofs.YtgcpjjifiebijaaDoorW.PrintMore
attribute [local go_sem] max2_int min2_int max_two min_two max_three min_three max_four min_four   -- for this text's walks alone
set_option linter.unusedVariables false
set_option linter.unusedSimpArgs false



def errW : Option Int → Value
  | none => .nilIface
  | some c => .iface 0 (.int .i64 c)
theorem errW_none : errW none = .nilIface := rfl
theorem errW_some (c : Int) : errW (some c) = .iface 0 (.int .i64 c) := rfl

theorem info3 : (Tryd.prog.info? 3).map (fun i => (i.zero, i.size, i.bytes)) = some (some (.int .i64 0), 1, 8) := by kernel_rfl
-- the values' own types

end Go.Proofs.YtgcpjjifiebijaaDoor.G
