-- Laid by a program of this session (wip/pp.py) over the seat's translation, with its own texts for some functions.
import Derived.Test.YtghfhcmjnpjgdaaProg
import Derived.Below
import Derived.Deep.Draws
import Derived.Deep.AppendLies
import Derived.Maps.AppendAt
import Derived.OwnWalk
import Derived.Laws.BytesArg
import Derived.Laws.MakeOwn
import Derived.Laws.OwnMore
import Derived.Deep.OwnRows
import Derived.Tactics
import Derived.Lib.ConvBytes
import Derived.Laws.Slices
import Derived.WalkKit
import Derived.KernelRfl
import Derived.RowKit3
import Derived.Deep.LoopGhost
import Derived.Deep.QuietTactic
import Derived.BigQuiet
import Derived.WideLaws
import Derived.Deep.DeepCutAuto
import Derived.Deep.CutBlock
import Derived.Deep.RegionHeld3
import Derived.Laws.Rows
import Derived.Lib.AppendStr
import Derived.ArgAppend
import Derived.Laws.IdiomCopy
import Derived.OrdersHeld
import Derived.Laws.BitsLemmas
import Derived.RowKit
import Derived.Shelf.Abstract
import Derived.Lib.SlBytesConst
import Derived.Lib.Hide
import Derived.Laws.CopyOwn
import Derived.Laws.BitsAllLaws
import Derived.BigRegion
import Derived.StillTailTactics
import Derived.Shelf.Strings.Repeat
import Derived.Ground.NamesProg
import Derived.KernelRfl
import Derived.Test.YtghfhcmjnpjgdaaWWords
import Derived.Test.YtghfhcmjnpjgdaaWLast
import Derived.Test.YtghfhcmjnpjgdaaWTab
import Derived.Test.YtghfhcmjnpjgdaaWFour
import Derived.Test.YtghfhcmjnpjgdaaWQPut
import Derived.Test.YtghfhcmjnpjgdaaWApart
import Derived.Test.YtghfhcmjnpjgdaaWArr
import Derived.Test.YtghfhcmjnpjgdaaWZeros
import Derived.Test.YtghfhcmjnpjgdaaWFoot
import Derived.Test.YtghfhcmjnpjgdaaWKept
import Derived.Test.YtghfhcmjnpjgdaaWShare
import Derived.Test.YtghfhcmjnpjgdaaWN
import Derived.Test.YtghfhcmjnpjgdaaWFootNe
import Derived.Test.YtghfhcmjnpjgdaaWAt
import Derived.Test.YtghfhcmjnpjgdaaWEqStruct
import Derived.Test.YtghfhcmjnpjgdaaWRepsOne
import Derived.Test.YtghfhcmjnpjgdaaWInv
import Derived.Test.YtghfhcmjnpjgdaaWInvWords
import Derived.Test.YtghfhcmjnpjgdaaWGuard
import Derived.Test.YtghfhcmjnpjgdaaWNEv
import Derived.Test.YtghfhcmjnpjgdaaWMore
namespace Go.Proofs.Ytghfhcmjnpjgdaa.S
open Go.RowKit Go.Proofs.YtghfhcmjnpjgdaaW.PrintWords Go.Proofs.YtghfhcmjnpjgdaaW.PrintLast Go.Proofs.YtghfhcmjnpjgdaaW.PrintMore
attribute [local go_sem] max2_int min2_int max_two min_two max_three min_three max_four min_four   -- for this text's walks alone
set_option linter.unusedVariables false
set_option linter.unusedSimpArgs false



def errW : Option Int → Value
  | none => .nilIface
  | some c => .iface 0 (.int .i64 c)
theorem errW_none : errW none = .nilIface := rfl
theorem errW_some (c : Int) : errW (some c) = .iface 0 (.int .i64 c) := rfl

theorem info4 : (Try.prog.info? 4).map (fun i => (i.zero, i.size, i.bytes)) = some (some (.bool false), 1, 1) := by kernel_rfl
theorem info5 : (Try.prog.info? 5).map (fun i => (i.zero, i.size, i.bytes)) = some (some (.int .u8 0), 1, 1) := by kernel_rfl
theorem info9 : (Try.prog.info? 9).map (fun i => (i.zero, i.size, i.bytes)) = some (some (.string ⟨#[]⟩), 1, 16) := by kernel_rfl
-- the values' own types

end Go.Proofs.Ytghfhcmjnpjgdaa.S
