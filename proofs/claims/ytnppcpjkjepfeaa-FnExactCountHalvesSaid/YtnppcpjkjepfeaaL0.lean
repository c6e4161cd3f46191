-- Laid by a program of this session (wip/pp.py) over the seat's translation, with its own texts for some functions.
import Derived.Test.YtnppcpjkjepfeaaProg
import Derived.Below
import Derived.Deep.Draws
import Derived.Deep.AppendLies
import Derived.Maps.AppendAt
import Derived.OwnWalk
import Derived.Laws.BytesArg
import Derived.Laws.MakeOwn
import Derived.Laws.OwnMore
import Derived.Deep.OwnRows
import Derived.Tactics
import Derived.Lib.ConvBytes
import Derived.Laws.Slices
import Derived.WalkKit
import Derived.KernelRfl
import Derived.RowKit3
import Derived.Deep.LoopGhost
import Derived.Deep.QuietTactic
import Derived.BigQuiet
import Derived.WideLaws
import Derived.Deep.DeepCutAuto
import Derived.Deep.CutBlock
import Derived.Deep.RegionHeld3
import Derived.Laws.Rows
import Derived.Lib.AppendStr
import Derived.ArgAppend
import Derived.Laws.IdiomCopy
import Derived.OrdersHeld
import Derived.Laws.BitsLemmas
import Derived.RowKit
import Derived.Shelf.Abstract
import Derived.Lib.SlBytesConst
import Derived.Lib.Hide
import Derived.Laws.CopyOwn
import Derived.Laws.BitsAllLaws
import Derived.BigRegion
import Derived.StillTailTactics
import Derived.WalkSpells
import Derived.Deep.RegionWith
import Derived.MapFrom
import Derived.Test.YtnppcpjkjepfeaaWWords
import Derived.Test.YtnppcpjkjepfeaaWLast
import Derived.Test.YtnppcpjkjepfeaaWTab
import Derived.Test.YtnppcpjkjepfeaaWFour
import Derived.Test.YtnppcpjkjepfeaaWQPut
import Derived.Test.YtnppcpjkjepfeaaWApart
import Derived.Test.YtnppcpjkjepfeaaWArr
import Derived.Test.YtnppcpjkjepfeaaWZeros
import Derived.Test.YtnppcpjkjepfeaaWFoot
import Derived.Test.YtnppcpjkjepfeaaWKept
import Derived.Test.YtnppcpjkjepfeaaWShare
import Derived.Test.YtnppcpjkjepfeaaWN
import Derived.Test.YtnppcpjkjepfeaaWFootNe
import Derived.Test.YtnppcpjkjepfeaaWAt
import Derived.Test.YtnppcpjkjepfeaaWEqStruct
import Derived.Test.YtnppcpjkjepfeaaWRepsOne
import Derived.Test.YtnppcpjkjepfeaaWInv
import Derived.Test.YtnppcpjkjepfeaaWInvWords
import Derived.Test.YtnppcpjkjepfeaaWGuard
import Derived.Test.YtnppcpjkjepfeaaWNEv
import Derived.Test.YtnppcpjkjepfeaaWMore
namespace Go.Proofs.Ytnppcpjkjepfeaa.L
open Go.RowKit Go.Proofs.YtnppcpjkjepfeaaW.PrintWords Go.Proofs.YtnppcpjkjepfeaaW.PrintLast Go.Proofs.YtnppcpjkjepfeaaW.PrintMore
attribute [local go_sem] max2_int min2_int max_two min_two max_three min_three max_four min_four   -- for this text's walks alone
set_option linter.unusedVariables false
set_option linter.unusedSimpArgs false



def errW : Option Int → Value
  | none => .nilIface
  | some c => .iface 0 (.int .i64 c)
theorem errW_none : errW none = .nilIface := rfl
theorem errW_some (c : Int) : errW (some c) = .iface 0 (.int .i64 c) := rfl

theorem info3 : (Try.prog.info? 3).map (fun i => (i.zero, i.size, i.bytes)) = some (some (.int .i64 0), 1, 8) := by kernel_rfl
-- the values' own types

end Go.Proofs.Ytnppcpjkjepfeaa.L
