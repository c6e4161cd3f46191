/-
  NARROWER THAN 'FOR EVERY INPUT', by the rows' own cells (each row's printed sentence says how): FnExactSunHour: laid · FnExactHoursBySun: laid · FnExactHoursToMelt: laid · FnExactCoolestBite: laid · FnExactPiecesOfTablet: laid · FnExactMostPiecesWhile: laid.
  DERIVED. THE GIVEN ROWS OF THIS SEAT. 6 by the template 'for every input the law returns true; each argument reads behind the call as it read before'; 0 by the template 'total and deterministic' (their statements: YtaocnjaeaiacmaaDoorTotals.lean).
  GIVEN WITH THE SEED: the statements are not yours to turn. If you find one false, say at which input.
  Laid BY PROGRAM, IN A SANDBOX (cutbox-rows.mjs): the forced cells as the released guide's own fill.sh prints them over the translation 31d9d016b82e98ef… (all of the seat's roots in one cut). By AI agents, Wed Nov 11 2026. No macro, syntax, notation, axiom, sorry.
-/
import Derived.Test.YtaocnjaeaiacmaaDoorChecked
import GoSem.PinnedTables
import GoSem.Claim
import GoSem.ClaimJoined
import GoSem.ClaimMapViews
import Derived.JoinedTies
import Derived.KernelRfl
namespace Go.Proofs.YtaocnjaeaiacmaaDoor
/- THE CELL 'sum', in the pinned program and in every row, IS THE sha256 OF THE DUMP (.gsa) THAT YtaocnjaeaiacmaaDoorProg.lean LOADS. Nothing in Lean hashes anything: it is a label: what it is worth is what the hold of that sum in a sandbox is worth. -/
noncomputable def Tryd.pinned : Pinned := { name := "ytaocnjaeaiacmaadoor", sum := "31d9d016b82e98efcb2b15ee0251e131700c777f958508ca1b1908542108c2de", checked := Tryd.checked }
namespace Rows
def none {H : Type} : Left H := { results := [], args := [] }

/- WHAT THE LISTED PACKAGE-LEVEL VARIABLES READ AS WHEN THE CALL BEGINS. Each datum BY PROGRAM (the guide's laid-datum.mjs) off the statement by which the dump's own 'gosem.cut.vars' lays the variable. In a bare row this is a premise. The card (YtaocnjaeaiacmaaDoorCards.lean) ties it to the program's text. -/
def laid_unicode_utf8_acceptRanges {H : Type} : DataW H := .agg [.agg [.lit (.int .u8 128), .lit (.int .u8 191)], .agg [.lit (.int .u8 160), .lit (.int .u8 191)], .agg [.lit (.int .u8 128), .lit (.int .u8 159)], .agg [.lit (.int .u8 144), .lit (.int .u8 191)], .agg [.lit (.int .u8 128), .lit (.int .u8 143)], .agg [.lit (.int .u8 0), .lit (.int .u8 0)], .agg [.lit (.int .u8 0), .lit (.int .u8 0)], .agg [.lit (.int .u8 0), .lit (.int .u8 0)], .agg [.lit (.int .u8 0), .lit (.int .u8 0)], .agg [.lit (.int .u8 0), .lit (.int .u8 0)], .agg [.lit (.int .u8 0), .lit (.int .u8 0)], .agg [.lit (.int .u8 0), .lit (.int .u8 0)], .agg [.lit (.int .u8 0), .lit (.int .u8 0)], .agg [.lit (.int .u8 0), .lit (.int .u8 0)], .agg [.lit (.int .u8 0), .lit (.int .u8 0)], .agg [.lit (.int .u8 0), .lit (.int .u8 0)]]
/-- One of Go's own tables, pinned by name: the form's constant. -/
def laid_unicode_utf8_first : DataW Unit := Go.Pinned.utf8First

/-- 'laws.FnExactSunHour': WHATEVER THE INPUT: true; the input reads as it did. -/
def fnExactSunHourSpec : ChangeSpec := { name := "fnExactSunHour", fn := fun _ => fun
  | [d1, d2] => { results := [.lit (.bool true)], args := [d1, d2] }
  | _ => none }
def fnExactSunHourRow : OpenClaim := { program := "ytaocnjaeaiacmaadoor", sum := "31d9d016b82e98efcb2b15ee0251e131700c777f958508ca1b1908542108c2de", func := "loop.example/g01377/laws.FnExactSunHour", spec := "fnExactSunHour", inPlace := ["internal/bytealg.IndexByteString", "internal/bytealg.IndexString"], unfollowed := true, recurses := true, named := ["unicode/utf8.first", "unicode/utf8.acceptRanges", "internal/bytealg.MaxLen"], apart := false, laid := [("unicode/utf8.acceptRanges", laid_unicode_utf8_acceptRanges), ("unicode/utf8.first", laid_unicode_utf8_first)] }
def FnExactSunHourSaid : Prop := fnExactSunHourRow.holds Tryd.pinned (OpenSpec.ofChange fnExactSunHourSpec)

/-- ITS FALSE NEIGHBOUR: 'it returns false'. Refute it at one input. -/
def fnExactSunHourWrong : ChangeSpec := { name := "fnExactSunHour", fn := fun _ => fun
  | [d1, d2] => { results := [.lit (.bool false)], args := [d1, d2] }
  | _ => none }
def FnExactSunHourWrongFalsely : Prop := fnExactSunHourRow.holds Tryd.pinned (OpenSpec.ofChange fnExactSunHourWrong)

/-- 'laws.FnExactHoursBySun': WHATEVER THE INPUT: true; the input reads as it did. -/
def fnExactHoursBySunSpec : ChangeSpec := { name := "fnExactHoursBySun", fn := fun _ => fun
  | [d1, d2] => { results := [.lit (.bool true)], args := [d1, d2] }
  | _ => none }
def fnExactHoursBySunRow : OpenClaim := { program := "ytaocnjaeaiacmaadoor", sum := "31d9d016b82e98efcb2b15ee0251e131700c777f958508ca1b1908542108c2de", func := "loop.example/g01377/laws.FnExactHoursBySun", spec := "fnExactHoursBySun", inPlace := ["internal/bytealg.IndexByteString", "internal/bytealg.IndexString", "internal/abi.NoEscape", "internal/bytealg.MakeNoZero", "internal/bytealg.CountString"], unfollowed := true, recurses := true, named := ["unicode/utf8.first", "unicode/utf8.acceptRanges", "internal/bytealg.MaxLen"], apart := false, laid := [("unicode/utf8.acceptRanges", laid_unicode_utf8_acceptRanges), ("unicode/utf8.first", laid_unicode_utf8_first)] }
def FnExactHoursBySunSaid : Prop := fnExactHoursBySunRow.holds Tryd.pinned (OpenSpec.ofChange fnExactHoursBySunSpec)

/-- ITS FALSE NEIGHBOUR: 'it returns false'. Refute it at one input. -/
def fnExactHoursBySunWrong : ChangeSpec := { name := "fnExactHoursBySun", fn := fun _ => fun
  | [d1, d2] => { results := [.lit (.bool false)], args := [d1, d2] }
  | _ => none }
def FnExactHoursBySunWrongFalsely : Prop := fnExactHoursBySunRow.holds Tryd.pinned (OpenSpec.ofChange fnExactHoursBySunWrong)

/-- 'laws.FnExactHoursToMelt': WHATEVER THE INPUT: true; the input reads as it did. -/
def fnExactHoursToMeltSpec : ChangeSpec := { name := "fnExactHoursToMelt", fn := fun _ => fun
  | [d1, d2] => { results := [.lit (.bool true)], args := [d1, d2] }
  | _ => none }
def fnExactHoursToMeltRow : OpenClaim := { program := "ytaocnjaeaiacmaadoor", sum := "31d9d016b82e98efcb2b15ee0251e131700c777f958508ca1b1908542108c2de", func := "loop.example/g01377/laws.FnExactHoursToMelt", spec := "fnExactHoursToMelt", inPlace := ["internal/bytealg.IndexByteString", "internal/bytealg.IndexString", "internal/abi.NoEscape", "internal/bytealg.MakeNoZero", "internal/bytealg.CountString"], unfollowed := true, recurses := true, named := ["unicode/utf8.first", "unicode/utf8.acceptRanges", "internal/bytealg.MaxLen"], apart := false, laid := [("unicode/utf8.acceptRanges", laid_unicode_utf8_acceptRanges), ("unicode/utf8.first", laid_unicode_utf8_first)] }
def FnExactHoursToMeltSaid : Prop := fnExactHoursToMeltRow.holds Tryd.pinned (OpenSpec.ofChange fnExactHoursToMeltSpec)

/-- ITS FALSE NEIGHBOUR: 'it returns false'. Refute it at one input. -/
def fnExactHoursToMeltWrong : ChangeSpec := { name := "fnExactHoursToMelt", fn := fun _ => fun
  | [d1, d2] => { results := [.lit (.bool false)], args := [d1, d2] }
  | _ => none }
def FnExactHoursToMeltWrongFalsely : Prop := fnExactHoursToMeltRow.holds Tryd.pinned (OpenSpec.ofChange fnExactHoursToMeltWrong)

/-- 'laws.FnExactCoolestBite': WHATEVER THE INPUT: true; the input reads as it did. -/
def fnExactCoolestBiteSpec : ChangeSpec := { name := "fnExactCoolestBite", fn := fun _ => fun
  | [d1, d2] => { results := [.lit (.bool true)], args := [d1, d2] }
  | _ => none }
def fnExactCoolestBiteRow : OpenClaim := { program := "ytaocnjaeaiacmaadoor", sum := "31d9d016b82e98efcb2b15ee0251e131700c777f958508ca1b1908542108c2de", func := "loop.example/g01377/laws.FnExactCoolestBite", spec := "fnExactCoolestBite", inPlace := ["internal/bytealg.IndexByteString", "internal/bytealg.IndexString", "internal/abi.NoEscape", "internal/bytealg.MakeNoZero", "internal/bytealg.CountString"], unfollowed := true, recurses := true, named := ["unicode/utf8.first", "unicode/utf8.acceptRanges", "internal/bytealg.MaxLen"], apart := false, laid := [("unicode/utf8.acceptRanges", laid_unicode_utf8_acceptRanges), ("unicode/utf8.first", laid_unicode_utf8_first)] }
def FnExactCoolestBiteSaid : Prop := fnExactCoolestBiteRow.holds Tryd.pinned (OpenSpec.ofChange fnExactCoolestBiteSpec)

/-- ITS FALSE NEIGHBOUR: 'it returns false'. Refute it at one input. -/
def fnExactCoolestBiteWrong : ChangeSpec := { name := "fnExactCoolestBite", fn := fun _ => fun
  | [d1, d2] => { results := [.lit (.bool false)], args := [d1, d2] }
  | _ => none }
def FnExactCoolestBiteWrongFalsely : Prop := fnExactCoolestBiteRow.holds Tryd.pinned (OpenSpec.ofChange fnExactCoolestBiteWrong)

/-- 'laws.FnExactPiecesOfTablet': WHATEVER THE INPUT: true; the input reads as it did. -/
def fnExactPiecesOfTabletSpec : ChangeSpec := { name := "fnExactPiecesOfTablet", fn := fun _ => fun
  | [d] => { results := [.lit (.bool true)], args := [d] }
  | _ => none }
def fnExactPiecesOfTabletRow : OpenClaim := { program := "ytaocnjaeaiacmaadoor", sum := "31d9d016b82e98efcb2b15ee0251e131700c777f958508ca1b1908542108c2de", func := "loop.example/g01377/laws.FnExactPiecesOfTablet", spec := "fnExactPiecesOfTablet", inPlace := ["internal/bytealg.IndexByteString", "internal/bytealg.IndexString"], unfollowed := true, recurses := true, named := ["unicode/utf8.first", "unicode/utf8.acceptRanges", "internal/bytealg.MaxLen"], apart := false, laid := [("unicode/utf8.acceptRanges", laid_unicode_utf8_acceptRanges), ("unicode/utf8.first", laid_unicode_utf8_first)] }
def FnExactPiecesOfTabletSaid : Prop := fnExactPiecesOfTabletRow.holds Tryd.pinned (OpenSpec.ofChange fnExactPiecesOfTabletSpec)

/-- ITS FALSE NEIGHBOUR: 'it returns false'. Refute it at one input. -/
def fnExactPiecesOfTabletWrong : ChangeSpec := { name := "fnExactPiecesOfTablet", fn := fun _ => fun
  | [d] => { results := [.lit (.bool false)], args := [d] }
  | _ => none }
def FnExactPiecesOfTabletWrongFalsely : Prop := fnExactPiecesOfTabletRow.holds Tryd.pinned (OpenSpec.ofChange fnExactPiecesOfTabletWrong)

/-- 'laws.FnExactMostPiecesWhile': WHATEVER THE INPUT: true; the input reads as it did. -/
def fnExactMostPiecesWhileSpec : ChangeSpec := { name := "fnExactMostPiecesWhile", fn := fun _ => fun
  | [d1, d2] => { results := [.lit (.bool true)], args := [d1, d2] }
  | _ => none }
def fnExactMostPiecesWhileRow : OpenClaim := { program := "ytaocnjaeaiacmaadoor", sum := "31d9d016b82e98efcb2b15ee0251e131700c777f958508ca1b1908542108c2de", func := "loop.example/g01377/laws.FnExactMostPiecesWhile", spec := "fnExactMostPiecesWhile", inPlace := ["internal/bytealg.IndexByteString", "internal/bytealg.IndexString"], unfollowed := true, recurses := true, named := ["unicode/utf8.first", "unicode/utf8.acceptRanges", "internal/bytealg.MaxLen"], apart := false, laid := [("unicode/utf8.acceptRanges", laid_unicode_utf8_acceptRanges), ("unicode/utf8.first", laid_unicode_utf8_first)] }
def FnExactMostPiecesWhileSaid : Prop := fnExactMostPiecesWhileRow.holds Tryd.pinned (OpenSpec.ofChange fnExactMostPiecesWhileSpec)

/-- ITS FALSE NEIGHBOUR: 'it returns false'. Refute it at one input. -/
def fnExactMostPiecesWhileWrong : ChangeSpec := { name := "fnExactMostPiecesWhile", fn := fun _ => fun
  | [d1, d2] => { results := [.lit (.bool false)], args := [d1, d2] }
  | _ => none }
def FnExactMostPiecesWhileWrongFalsely : Prop := fnExactMostPiecesWhileRow.holds Tryd.pinned (OpenSpec.ofChange fnExactMostPiecesWhileWrong)

/- THE SECOND FORM. 'bulk': how many values and letters a reading holds, each counted each time it is reached (what is shared counts as often as it is met; a slice's spare places count too). A statement '..UptoSaid' is the law's where the arguments, and the package variables that the reading takes, are together of bulk at most 1048576: NARROWER than '..Said'. Prove '..Said' where nothing that the law and all that it calls make is longer than what came in: it says more and counts as full. Else prove '..UptoSaid'. A law counts once. -/
mutual
def uptoBulk {H : Type} : DataW H → Nat
  | .lit (.string bytes) => bytes.length + 1
  | .lit _ => 1
  | .nil => 1
  | .ptr d => uptoBulk d + 1
  | .slice elems spare => uptoBulkAll elems + uptoBulkAll spare + 1
  | .agg parts => uptoBulkAll parts + 1
  | .iface _ d => uptoBulk d + 1
  | .map entries => uptoBulkEntries entries + 1
  | .held _ => 1
def uptoBulkAll {H : Type} : List (DataW H) → Nat
  | [] => 0
  | d :: r => uptoBulk d + uptoBulkAll r
def uptoBulkEntries {H : Type} : List (Lit × DataW H) → Nat
  | [] => 0
  | x :: r => uptoBulkEntry x + uptoBulkEntries r
def uptoBulkEntry {H : Type} : Lit × DataW H → Nat
  | (.string bytes, d) => bytes.length + uptoBulk d + 1
  | (_, d) => uptoBulk d + 1
 end
def uptoSmall : (H : Type) → List (DataW H) → Bool := fun _ ds => decide (uptoBulkAll ds ≤ 1048576)
def OpenSpec.upto (s : _root_.Go.ChangeSpec) : _root_.Go.OpenSpec := { _root_.Go.OpenSpec.ofChange s with cond := some uptoSmall }

/-- 'laws.FnExactSunHour', WHERE WHAT IT READS IS OF BULK AT MOST 1048576: true; the input reads as it did. -/
def fnExactSunHourUptoRow : OpenClaim := { program := "ytaocnjaeaiacmaadoor", sum := "31d9d016b82e98efcb2b15ee0251e131700c777f958508ca1b1908542108c2de", func := "loop.example/g01377/laws.FnExactSunHour", spec := "fnExactSunHour", inPlace := ["internal/bytealg.IndexByteString", "internal/bytealg.IndexString"], unfollowed := true, recurses := true, named := ["unicode/utf8.first", "unicode/utf8.acceptRanges", "internal/bytealg.MaxLen"], apart := false, laid := [("unicode/utf8.acceptRanges", laid_unicode_utf8_acceptRanges), ("unicode/utf8.first", laid_unicode_utf8_first)], narrowed := true }
def FnExactSunHourUptoSaid : Prop := fnExactSunHourUptoRow.holds Tryd.pinned (OpenSpec.upto fnExactSunHourSpec)

/-- 'laws.FnExactHoursBySun', WHERE WHAT IT READS IS OF BULK AT MOST 1048576: true; the input reads as it did. -/
def fnExactHoursBySunUptoRow : OpenClaim := { program := "ytaocnjaeaiacmaadoor", sum := "31d9d016b82e98efcb2b15ee0251e131700c777f958508ca1b1908542108c2de", func := "loop.example/g01377/laws.FnExactHoursBySun", spec := "fnExactHoursBySun", inPlace := ["internal/bytealg.IndexByteString", "internal/bytealg.IndexString", "internal/abi.NoEscape", "internal/bytealg.MakeNoZero", "internal/bytealg.CountString"], unfollowed := true, recurses := true, named := ["unicode/utf8.first", "unicode/utf8.acceptRanges", "internal/bytealg.MaxLen"], apart := false, laid := [("unicode/utf8.acceptRanges", laid_unicode_utf8_acceptRanges), ("unicode/utf8.first", laid_unicode_utf8_first)], narrowed := true }
def FnExactHoursBySunUptoSaid : Prop := fnExactHoursBySunUptoRow.holds Tryd.pinned (OpenSpec.upto fnExactHoursBySunSpec)

/-- 'laws.FnExactHoursToMelt', WHERE WHAT IT READS IS OF BULK AT MOST 1048576: true; the input reads as it did. -/
def fnExactHoursToMeltUptoRow : OpenClaim := { program := "ytaocnjaeaiacmaadoor", sum := "31d9d016b82e98efcb2b15ee0251e131700c777f958508ca1b1908542108c2de", func := "loop.example/g01377/laws.FnExactHoursToMelt", spec := "fnExactHoursToMelt", inPlace := ["internal/bytealg.IndexByteString", "internal/bytealg.IndexString", "internal/abi.NoEscape", "internal/bytealg.MakeNoZero", "internal/bytealg.CountString"], unfollowed := true, recurses := true, named := ["unicode/utf8.first", "unicode/utf8.acceptRanges", "internal/bytealg.MaxLen"], apart := false, laid := [("unicode/utf8.acceptRanges", laid_unicode_utf8_acceptRanges), ("unicode/utf8.first", laid_unicode_utf8_first)], narrowed := true }
def FnExactHoursToMeltUptoSaid : Prop := fnExactHoursToMeltUptoRow.holds Tryd.pinned (OpenSpec.upto fnExactHoursToMeltSpec)

/-- 'laws.FnExactCoolestBite', WHERE WHAT IT READS IS OF BULK AT MOST 1048576: true; the input reads as it did. -/
def fnExactCoolestBiteUptoRow : OpenClaim := { program := "ytaocnjaeaiacmaadoor", sum := "31d9d016b82e98efcb2b15ee0251e131700c777f958508ca1b1908542108c2de", func := "loop.example/g01377/laws.FnExactCoolestBite", spec := "fnExactCoolestBite", inPlace := ["internal/bytealg.IndexByteString", "internal/bytealg.IndexString", "internal/abi.NoEscape", "internal/bytealg.MakeNoZero", "internal/bytealg.CountString"], unfollowed := true, recurses := true, named := ["unicode/utf8.first", "unicode/utf8.acceptRanges", "internal/bytealg.MaxLen"], apart := false, laid := [("unicode/utf8.acceptRanges", laid_unicode_utf8_acceptRanges), ("unicode/utf8.first", laid_unicode_utf8_first)], narrowed := true }
def FnExactCoolestBiteUptoSaid : Prop := fnExactCoolestBiteUptoRow.holds Tryd.pinned (OpenSpec.upto fnExactCoolestBiteSpec)

/-- 'laws.FnExactPiecesOfTablet', WHERE WHAT IT READS IS OF BULK AT MOST 1048576: true; the input reads as it did. -/
def fnExactPiecesOfTabletUptoRow : OpenClaim := { program := "ytaocnjaeaiacmaadoor", sum := "31d9d016b82e98efcb2b15ee0251e131700c777f958508ca1b1908542108c2de", func := "loop.example/g01377/laws.FnExactPiecesOfTablet", spec := "fnExactPiecesOfTablet", inPlace := ["internal/bytealg.IndexByteString", "internal/bytealg.IndexString"], unfollowed := true, recurses := true, named := ["unicode/utf8.first", "unicode/utf8.acceptRanges", "internal/bytealg.MaxLen"], apart := false, laid := [("unicode/utf8.acceptRanges", laid_unicode_utf8_acceptRanges), ("unicode/utf8.first", laid_unicode_utf8_first)], narrowed := true }
def FnExactPiecesOfTabletUptoSaid : Prop := fnExactPiecesOfTabletUptoRow.holds Tryd.pinned (OpenSpec.upto fnExactPiecesOfTabletSpec)

/-- 'laws.FnExactMostPiecesWhile', WHERE WHAT IT READS IS OF BULK AT MOST 1048576: true; the input reads as it did. -/
def fnExactMostPiecesWhileUptoRow : OpenClaim := { program := "ytaocnjaeaiacmaadoor", sum := "31d9d016b82e98efcb2b15ee0251e131700c777f958508ca1b1908542108c2de", func := "loop.example/g01377/laws.FnExactMostPiecesWhile", spec := "fnExactMostPiecesWhile", inPlace := ["internal/bytealg.IndexByteString", "internal/bytealg.IndexString"], unfollowed := true, recurses := true, named := ["unicode/utf8.first", "unicode/utf8.acceptRanges", "internal/bytealg.MaxLen"], apart := false, laid := [("unicode/utf8.acceptRanges", laid_unicode_utf8_acceptRanges), ("unicode/utf8.first", laid_unicode_utf8_first)], narrowed := true }
def FnExactMostPiecesWhileUptoSaid : Prop := fnExactMostPiecesWhileUptoRow.holds Tryd.pinned (OpenSpec.upto fnExactMostPiecesWhileSpec)

end Rows
end Go.Proofs.YtaocnjaeaiacmaaDoor
