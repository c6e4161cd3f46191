-- Laid by a program of this session (wip/pp.py) over the seat's translation, with its own texts for some functions.
import Derived.Test.YtipgbhjioffbnaaProg
import Derived.Below
import Derived.Deep.Draws
import Derived.Deep.AppendLies
import Derived.Maps.AppendAt
import Derived.OwnWalk
import Derived.Laws.BytesArg
import Derived.Laws.MakeOwn
import Derived.Laws.OwnMore
import Derived.Deep.OwnRows
import Derived.Tactics
import Derived.Lib.ConvBytes
import Derived.Laws.Slices
import Derived.WalkKit
import Derived.KernelRfl
import Derived.RowKit3
import Derived.Deep.LoopGhost
import Derived.Deep.QuietTactic
import Derived.BigQuiet
import Derived.WideLaws
import Derived.Deep.DeepCutAuto
import Derived.Deep.CutBlock
import Derived.Deep.RegionHeld3
import Derived.Laws.Rows
import Derived.Lib.AppendStr
import Derived.ArgAppend
import Derived.Laws.IdiomCopy
import Derived.OrdersHeld
import Derived.Laws.BitsLemmas
import Derived.RowKit
import Derived.Shelf.Abstract
import Derived.Lib.SlBytesConst
import Derived.Lib.Hide
import Derived.Laws.CopyOwn
import Derived.Laws.BitsAllLaws
import Derived.Test.YtipgbhjioffbnaaWWords
import Derived.Test.YtipgbhjioffbnaaWLast
import Derived.Test.YtipgbhjioffbnaaWTab
import Derived.Test.YtipgbhjioffbnaaWFour
import Derived.Test.YtipgbhjioffbnaaWQPut
import Derived.Test.YtipgbhjioffbnaaWApart
import Derived.Test.YtipgbhjioffbnaaWArr
import Derived.Test.YtipgbhjioffbnaaWZeros
import Derived.Test.YtipgbhjioffbnaaWFoot
import Derived.Test.YtipgbhjioffbnaaWKept
import Derived.Test.YtipgbhjioffbnaaWShare
import Derived.Test.YtipgbhjioffbnaaWN
import Derived.Test.YtipgbhjioffbnaaWFootNe
import Derived.Test.YtipgbhjioffbnaaWAt
import Derived.Test.YtipgbhjioffbnaaWEqStruct
import Derived.Test.YtipgbhjioffbnaaWRepsOne
import Derived.Test.YtipgbhjioffbnaaWInv
import Derived.Test.YtipgbhjioffbnaaWInvWords
import Derived.Test.YtipgbhjioffbnaaWGuard
import Derived.Test.YtipgbhjioffbnaaWNEv
import Derived.Test.YtipgbhjioffbnaaWMore
namespace Go.Proofs.Ytipgbhjioffbnaa.Q
open Go.RowKit Go.Proofs.YtipgbhjioffbnaaW.PrintWords Go.Proofs.YtipgbhjioffbnaaW.PrintLast Go.Proofs.YtipgbhjioffbnaaW.PrintMore
attribute [local go_sem] max2_int min2_int max_two min_two max_three min_three max_four min_four   -- for this text's walks alone
set_option linter.unusedVariables false
set_option linter.unusedSimpArgs false



def errW : Option Int → Value
  | none => .nilIface
  | some c => .iface 0 (.int .i64 c)
theorem errW_none : errW none = .nilIface := rfl
theorem errW_some (c : Int) : errW (some c) = .iface 0 (.int .i64 c) := rfl

theorem info3 : (Try.prog.info? 3).map (fun i => (i.zero, i.size, i.bytes)) = some (some (.int .i64 0), 1, 8) := by kernel_rfl
-- the values' own types

end Go.Proofs.Ytipgbhjioffbnaa.Q
