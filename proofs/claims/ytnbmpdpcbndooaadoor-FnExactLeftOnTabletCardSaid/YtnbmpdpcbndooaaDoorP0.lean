-- Laid by a program of this session (wip/pp.py) over the seat's translation, with its own texts for some functions.
import Derived.Test.YtnbmpdpcbndooaaDoorProg
import Derived.Below
import Derived.Deep.Draws
import Derived.Deep.AppendLies
import Derived.Maps.AppendAt
import Derived.OwnWalk
import Derived.Laws.BytesArg
import Derived.Laws.MakeOwn
import Derived.Laws.OwnMore
import Derived.Deep.OwnRows
import Derived.Tactics
import Derived.Lib.ConvBytes
import Derived.Laws.Slices
import Derived.WalkKit
import Derived.KernelRfl
import Derived.RowKit3
import Derived.Deep.LoopGhost
import Derived.Deep.QuietTactic
import Derived.BigQuiet
import Derived.WideLaws
import Derived.Deep.DeepCutAuto
import Derived.Deep.CutBlock
import Derived.Deep.RegionHeld3
import Derived.Laws.Rows
import Derived.Lib.AppendStr
import Derived.ArgAppend
import Derived.Laws.IdiomCopy
import Derived.OrdersHeld
import Derived.Laws.BitsLemmas
import Derived.RowKit
import Derived.Shelf.Abstract
import Derived.Lib.SlBytesConst
import Derived.Lib.Hide
import Derived.Laws.CopyOwn
import Derived.Laws.BitsAllLaws
import Derived.BigRegion
import Derived.StillTailTactics
import Derived.Shelf.Strings.SlTrimAscii
import Derived.Ground.NamesProg
import Derived.KernelRfl
import Derived.Shelf.Strings.Count
import Derived.Shelf.Strings.OnBuilder
import Derived.Test.YtnbmpdpcbndooaaDoorWWords
import Derived.Test.YtnbmpdpcbndooaaDoorWLast
import Derived.Test.YtnbmpdpcbndooaaDoorWTab
import Derived.Test.YtnbmpdpcbndooaaDoorWFour
import Derived.Test.YtnbmpdpcbndooaaDoorWQPut
import Derived.Test.YtnbmpdpcbndooaaDoorWApart
import Derived.Test.YtnbmpdpcbndooaaDoorWArr
import Derived.Test.YtnbmpdpcbndooaaDoorWZeros
import Derived.Test.YtnbmpdpcbndooaaDoorWFoot
import Derived.Test.YtnbmpdpcbndooaaDoorWKept
import Derived.Test.YtnbmpdpcbndooaaDoorWShare
import Derived.Test.YtnbmpdpcbndooaaDoorWN
import Derived.Test.YtnbmpdpcbndooaaDoorWFootNe
import Derived.Test.YtnbmpdpcbndooaaDoorWAt
import Derived.Test.YtnbmpdpcbndooaaDoorWEqStruct
import Derived.Test.YtnbmpdpcbndooaaDoorWRepsOne
import Derived.Test.YtnbmpdpcbndooaaDoorWInv
import Derived.Test.YtnbmpdpcbndooaaDoorWInvWords
import Derived.Test.YtnbmpdpcbndooaaDoorWGuard
import Derived.Test.YtnbmpdpcbndooaaDoorWNEv
import Derived.Test.YtnbmpdpcbndooaaDoorWMore
namespace Go.Proofs.YtnbmpdpcbndooaaDoor.P
open Go.RowKit Go.Proofs.YtnbmpdpcbndooaaDoorW.PrintWords Go.Proofs.YtnbmpdpcbndooaaDoorW.PrintLast Go.Proofs.YtnbmpdpcbndooaaDoorW.PrintMore
attribute [local go_sem] max2_int min2_int max_two min_two max_three min_three max_four min_four   -- for this text's walks alone
set_option linter.unusedVariables false
set_option linter.unusedSimpArgs false



def errW : Option Int → Value
  | none => .nilIface
  | some c => .iface 0 (.int .i64 c)
theorem errW_none : errW none = .nilIface := rfl
theorem errW_some (c : Int) : errW (some c) = .iface 0 (.int .i64 c) := rfl

theorem info4 : (Tryd.prog.info? 4).map (fun i => (i.zero, i.size, i.bytes)) = some (some (.bool false), 1, 1) := by kernel_rfl
theorem info9 : (Tryd.prog.info? 9).map (fun i => (i.zero, i.size, i.bytes)) = some (some (.string ⟨#[]⟩), 1, 16) := by kernel_rfl
-- the values' own types

end Go.Proofs.YtnbmpdpcbndooaaDoor.P
