/- Functions of the program and of the reference as Lean functions, and the contracts of their calls: laid by a program of this repo (wip/gen.py), in part by hand. -/
import Derived.Test.YtlkgojgmgdeieaaDoorProg
import Derived.Below
import Derived.Deep.Draws
import Derived.Deep.AppendLies
import Derived.Maps.AppendAt
import Derived.OwnWalk
import Derived.Laws.BytesArg
import Derived.Laws.MakeOwn
import Derived.Laws.OwnMore
import Derived.Deep.OwnRows
import Derived.Tactics
import Derived.Lib.ConvBytes
import Derived.Laws.Slices
import Derived.WalkKit
import Derived.KernelRfl
import Derived.RowKit3
import Derived.Deep.LoopGhost
import Derived.Deep.QuietTactic
import Derived.BigQuiet
import Derived.WideLaws
import Derived.Deep.DeepCutAuto
import Derived.Deep.CutBlock
import Derived.Deep.RegionHeld3
import Derived.Laws.Rows
import Derived.Lib.AppendStr
import Derived.ArgAppend
import Derived.Laws.IdiomCopy
import Derived.OrdersHeld
import Derived.Laws.BitsLemmas
import Derived.RowKit
import Derived.Shelf.Abstract
import Derived.Lib.LazyBuf
import Derived.Test.YtlkgojgmgdeieaaDoorShelf
import Derived.Lib.OwnBridge
import Derived.Test.YtlkgojgmgdeieaaDoorWWords
import Derived.Test.YtlkgojgmgdeieaaDoorWLast
import Derived.Test.YtlkgojgmgdeieaaDoorWTab
import Derived.Test.YtlkgojgmgdeieaaDoorWFour
import Derived.Test.YtlkgojgmgdeieaaDoorWQPut
import Derived.Test.YtlkgojgmgdeieaaDoorWApart
import Derived.Test.YtlkgojgmgdeieaaDoorWArr
import Derived.Test.YtlkgojgmgdeieaaDoorWZeros
import Derived.Test.YtlkgojgmgdeieaaDoorWFoot
import Derived.Test.YtlkgojgmgdeieaaDoorWKept
import Derived.Test.YtlkgojgmgdeieaaDoorWShare
import Derived.Test.YtlkgojgmgdeieaaDoorWN
import Derived.Test.YtlkgojgmgdeieaaDoorWFootNe
import Derived.Test.YtlkgojgmgdeieaaDoorWAt
import Derived.Test.YtlkgojgmgdeieaaDoorWEqStruct
import Derived.Test.YtlkgojgmgdeieaaDoorWRepsOne
import Derived.Test.YtlkgojgmgdeieaaDoorWInv
import Derived.Test.YtlkgojgmgdeieaaDoorWInvWords
import Derived.Test.YtlkgojgmgdeieaaDoorWGuard
import Derived.Test.YtlkgojgmgdeieaaDoorWNEv
import Derived.Test.YtlkgojgmgdeieaaDoorWMore
namespace Go.Proofs.YtlkgojgmgdeieaaDoor.G
open Go.RowKit Go.Proofs.YtlkgojgmgdeieaaDoorW.PrintWords Go.Proofs.YtlkgojgmgdeieaaDoorW.PrintLast Go.Proofs.YtlkgojgmgdeieaaDoorW.PrintMore
attribute [local go_sem] max2_int min2_int max_two min_two max_three min_three max_four min_four   -- for this text's walks alone
set_option linter.unusedVariables false
set_option linter.unusedSimpArgs false



def errW : Option Int → Value
  | none => .nilIface
  | some c => .iface 0 (.int .i64 c)
theorem errW_none : errW none = .nilIface := rfl
theorem errW_some (c : Int) : errW (some c) = .iface 0 (.int .i64 c) := rfl

theorem info3 : (Tryd.prog.info? 3).map (fun i => (i.zero, i.size, i.bytes)) = some (some (.int .i64 0), 1, 8) := by kernel_rfl
theorem info5 : (Tryd.prog.info? 5).map (fun i => (i.zero, i.size, i.bytes)) = some (some (.int .u8 0), 1, 1) := by kernel_rfl
theorem info9 : (Tryd.prog.info? 9).map (fun i => (i.zero, i.size, i.bytes)) = some (some (.string ⟨#[]⟩), 1, 16) := by kernel_rfl
-- the values' own types

end Go.Proofs.YtlkgojgmgdeieaaDoor.G
