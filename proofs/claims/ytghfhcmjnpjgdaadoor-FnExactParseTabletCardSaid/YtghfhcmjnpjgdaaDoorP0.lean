-- Laid by a program of this session (wip/pp.py) over the seat's translation, with its own texts for some functions.
import Derived.Test.YtghfhcmjnpjgdaaDoorProg
import Derived.Below
import Derived.Deep.Draws
import Derived.Deep.AppendLies
import Derived.Maps.AppendAt
import Derived.OwnWalk
import Derived.Laws.BytesArg
import Derived.Laws.MakeOwn
import Derived.Laws.OwnMore
import Derived.Deep.OwnRows
import Derived.Tactics
import Derived.Lib.ConvBytes
import Derived.Laws.Slices
import Derived.WalkKit
import Derived.KernelRfl
import Derived.RowKit3
import Derived.Deep.LoopGhost
import Derived.Deep.QuietTactic
import Derived.BigQuiet
import Derived.WideLaws
import Derived.Deep.DeepCutAuto
import Derived.Deep.CutBlock
import Derived.Deep.RegionHeld3
import Derived.Laws.Rows
import Derived.Lib.AppendStr
import Derived.ArgAppend
import Derived.Laws.IdiomCopy
import Derived.OrdersHeld
import Derived.Laws.BitsLemmas
import Derived.RowKit
import Derived.Shelf.Abstract
import Derived.Lib.SlBytesConst
import Derived.Lib.Hide
import Derived.Laws.CopyOwn
import Derived.Laws.BitsAllLaws
import Derived.BigRegion
import Derived.StillTailTactics
import Derived.Shelf.Strings.SlTrimAscii
import Derived.Ground.NamesProg
import Derived.KernelRfl
import Derived.Shelf.Strings.SplitShaped
import Derived.Test.YtghfhcmjnpjgdaaDoorWWords
import Derived.Test.YtghfhcmjnpjgdaaDoorWLast
import Derived.Test.YtghfhcmjnpjgdaaDoorWTab
import Derived.Test.YtghfhcmjnpjgdaaDoorWFour
import Derived.Test.YtghfhcmjnpjgdaaDoorWQPut
import Derived.Test.YtghfhcmjnpjgdaaDoorWApart
import Derived.Test.YtghfhcmjnpjgdaaDoorWArr
import Derived.Test.YtghfhcmjnpjgdaaDoorWZeros
import Derived.Test.YtghfhcmjnpjgdaaDoorWFoot
import Derived.Test.YtghfhcmjnpjgdaaDoorWKept
import Derived.Test.YtghfhcmjnpjgdaaDoorWShare
import Derived.Test.YtghfhcmjnpjgdaaDoorWN
import Derived.Test.YtghfhcmjnpjgdaaDoorWFootNe
import Derived.Test.YtghfhcmjnpjgdaaDoorWAt
import Derived.Test.YtghfhcmjnpjgdaaDoorWEqStruct
import Derived.Test.YtghfhcmjnpjgdaaDoorWRepsOne
import Derived.Test.YtghfhcmjnpjgdaaDoorWInv
import Derived.Test.YtghfhcmjnpjgdaaDoorWInvWords
import Derived.Test.YtghfhcmjnpjgdaaDoorWGuard
import Derived.Test.YtghfhcmjnpjgdaaDoorWNEv
import Derived.Test.YtghfhcmjnpjgdaaDoorWMore
namespace Go.Proofs.YtghfhcmjnpjgdaaDoor.P
open Go.RowKit Go.Proofs.YtghfhcmjnpjgdaaDoorW.PrintWords Go.Proofs.YtghfhcmjnpjgdaaDoorW.PrintLast Go.Proofs.YtghfhcmjnpjgdaaDoorW.PrintMore
attribute [local go_sem] max2_int min2_int max_two min_two max_three min_three max_four min_four   -- for this text's walks alone
set_option linter.unusedVariables false
set_option linter.unusedSimpArgs false



def errW : Option Int → Value
  | none => .nilIface
  | some c => .iface 0 (.int .i64 c)
theorem errW_none : errW none = .nilIface := rfl
theorem errW_some (c : Int) : errW (some c) = .iface 0 (.int .i64 c) := rfl

theorem info5 : (Tryd.prog.info? 5).map (fun i => (i.zero, i.size, i.bytes)) = some (some (.int .u8 0), 1, 1) := by kernel_rfl
theorem info9 : (Tryd.prog.info? 9).map (fun i => (i.zero, i.size, i.bytes)) = some (some (.string ⟨#[]⟩), 1, 16) := by kernel_rfl
-- the values' own types

end Go.Proofs.YtghfhcmjnpjgdaaDoor.P
