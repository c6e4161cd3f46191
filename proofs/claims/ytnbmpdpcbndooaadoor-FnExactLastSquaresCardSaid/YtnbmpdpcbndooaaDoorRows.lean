/-
  NARROWER THAN 'FOR EVERY INPUT', by the rows' own cells (each row's printed sentence says how): FnExactMeltHour: laid · FnExactMeltsAt: laid · FnExactTabletAfter: laid · FnExactEverLeft: laid · FnExactMeltedEach: laid · FnExactLeftOnTablet: laid · FnExactLastSquares: laid.
  DERIVED. THE GIVEN ROWS OF THIS SEAT. 7 by the template 'for every input the law returns true; each argument reads behind the call as it read before'; 0 by the template 'total and deterministic' (their statements: YtnbmpdpcbndooaaDoorTotals.lean).
  GIVEN WITH THE SEED: the statements are not yours to turn. If you find one false, say at which input.
  Laid BY PROGRAM, IN A SANDBOX (cutbox-rows.mjs): the forced cells as the released guide's own fill.sh prints them over the translation 4abc605eeacda29d… (all of the seat's roots in one cut). By AI agents, Wed Nov 11 2026. No macro, syntax, notation, axiom, sorry.
-/
import Derived.Test.YtnbmpdpcbndooaaDoorChecked
import GoSem.PinnedTables
import GoSem.Claim
import GoSem.ClaimJoined
import GoSem.ClaimMapViews
import Derived.JoinedTies
import Derived.KernelRfl
namespace Go.Proofs.YtnbmpdpcbndooaaDoor
/- THE CELL 'sum', in the pinned program and in every row, IS THE sha256 OF THE DUMP (.gsa) THAT YtnbmpdpcbndooaaDoorProg.lean LOADS. Nothing in Lean hashes anything: it is a label: what it is worth is what the hold of that sum in a sandbox is worth. -/
noncomputable def Tryd.pinned : Pinned := { name := "ytnbmpdpcbndooaadoor", sum := "4abc605eeacda29d6efed4890c80dbb5ce3b97e53ce24abf973852e12d780908", checked := Tryd.checked }
namespace Rows
def none {H : Type} : Left H := { results := [], args := [] }

/- WHAT THE LISTED PACKAGE-LEVEL VARIABLES READ AS WHEN THE CALL BEGINS. Each datum BY PROGRAM (the guide's laid-datum.mjs) off the statement by which the dump's own 'gosem.cut.vars' lays the variable. In a bare row this is a premise. The card (YtnbmpdpcbndooaaDoorCards.lean) ties it to the program's text. -/
def laid_unicode_utf8_acceptRanges {H : Type} : DataW H := .agg [.agg [.lit (.int .u8 128), .lit (.int .u8 191)], .agg [.lit (.int .u8 160), .lit (.int .u8 191)], .agg [.lit (.int .u8 128), .lit (.int .u8 159)], .agg [.lit (.int .u8 144), .lit (.int .u8 191)], .agg [.lit (.int .u8 128), .lit (.int .u8 143)], .agg [.lit (.int .u8 0), .lit (.int .u8 0)], .agg [.lit (.int .u8 0), .lit (.int .u8 0)], .agg [.lit (.int .u8 0), .lit (.int .u8 0)], .agg [.lit (.int .u8 0), .lit (.int .u8 0)], .agg [.lit (.int .u8 0), .lit (.int .u8 0)], .agg [.lit (.int .u8 0), .lit (.int .u8 0)], .agg [.lit (.int .u8 0), .lit (.int .u8 0)], .agg [.lit (.int .u8 0), .lit (.int .u8 0)], .agg [.lit (.int .u8 0), .lit (.int .u8 0)], .agg [.lit (.int .u8 0), .lit (.int .u8 0)], .agg [.lit (.int .u8 0), .lit (.int .u8 0)]]
/-- One of Go's own tables, pinned by name: the form's constant. -/
def laid_unicode_utf8_first : DataW Unit := Go.Pinned.utf8First

/-- 'laws.FnExactMeltHour': WHATEVER THE INPUT: true; the input reads as it did. -/
def fnExactMeltHourSpec : ChangeSpec := { name := "fnExactMeltHour", fn := fun _ => fun
  | [d1, d2] => { results := [.lit (.bool true)], args := [d1, d2] }
  | _ => none }
def fnExactMeltHourRow : OpenClaim := { program := "ytnbmpdpcbndooaadoor", sum := "4abc605eeacda29d6efed4890c80dbb5ce3b97e53ce24abf973852e12d780908", func := "loop.example/g01377/laws.FnExactMeltHour", spec := "fnExactMeltHour", inPlace := ["internal/bytealg.IndexByteString", "internal/bytealg.IndexString"], unfollowed := true, recurses := true, named := ["unicode/utf8.first", "unicode/utf8.acceptRanges", "internal/bytealg.MaxLen"], apart := false, laid := [("unicode/utf8.acceptRanges", laid_unicode_utf8_acceptRanges), ("unicode/utf8.first", laid_unicode_utf8_first)] }
def FnExactMeltHourSaid : Prop := fnExactMeltHourRow.holds Tryd.pinned (OpenSpec.ofChange fnExactMeltHourSpec)

/-- ITS FALSE NEIGHBOUR: 'it returns false'. Refute it at one input. -/
def fnExactMeltHourWrong : ChangeSpec := { name := "fnExactMeltHour", fn := fun _ => fun
  | [d1, d2] => { results := [.lit (.bool false)], args := [d1, d2] }
  | _ => none }
def FnExactMeltHourWrongFalsely : Prop := fnExactMeltHourRow.holds Tryd.pinned (OpenSpec.ofChange fnExactMeltHourWrong)

/-- 'laws.FnExactMeltsAt': WHATEVER THE INPUT: true; the input reads as it did. -/
def fnExactMeltsAtSpec : ChangeSpec := { name := "fnExactMeltsAt", fn := fun _ => fun
  | [d1, d2, d3, d4] => { results := [.lit (.bool true)], args := [d1, d2, d3, d4] }
  | _ => none }
def fnExactMeltsAtRow : OpenClaim := { program := "ytnbmpdpcbndooaadoor", sum := "4abc605eeacda29d6efed4890c80dbb5ce3b97e53ce24abf973852e12d780908", func := "loop.example/g01377/laws.FnExactMeltsAt", spec := "fnExactMeltsAt", inPlace := ["internal/bytealg.IndexByteString", "internal/bytealg.IndexString"], unfollowed := true, recurses := true, named := ["unicode/utf8.first", "unicode/utf8.acceptRanges", "internal/bytealg.MaxLen"], apart := false, laid := [("unicode/utf8.acceptRanges", laid_unicode_utf8_acceptRanges), ("unicode/utf8.first", laid_unicode_utf8_first)] }
def FnExactMeltsAtSaid : Prop := fnExactMeltsAtRow.holds Tryd.pinned (OpenSpec.ofChange fnExactMeltsAtSpec)

/-- ITS FALSE NEIGHBOUR: 'it returns false'. Refute it at one input. -/
def fnExactMeltsAtWrong : ChangeSpec := { name := "fnExactMeltsAt", fn := fun _ => fun
  | [d1, d2, d3, d4] => { results := [.lit (.bool false)], args := [d1, d2, d3, d4] }
  | _ => none }
def FnExactMeltsAtWrongFalsely : Prop := fnExactMeltsAtRow.holds Tryd.pinned (OpenSpec.ofChange fnExactMeltsAtWrong)

/-- 'laws.FnExactTabletAfter': WHATEVER THE INPUT: true; the input reads as it did. -/
def fnExactTabletAfterSpec : ChangeSpec := { name := "fnExactTabletAfter", fn := fun _ => fun
  | [d1, d2, d3] => { results := [.lit (.bool true)], args := [d1, d2, d3] }
  | _ => none }
def fnExactTabletAfterRow : OpenClaim := { program := "ytnbmpdpcbndooaadoor", sum := "4abc605eeacda29d6efed4890c80dbb5ce3b97e53ce24abf973852e12d780908", func := "loop.example/g01377/laws.FnExactTabletAfter", spec := "fnExactTabletAfter", inPlace := ["internal/bytealg.IndexByteString", "internal/bytealg.IndexString"], unfollowed := true, recurses := true, named := ["unicode/utf8.first", "unicode/utf8.acceptRanges", "internal/bytealg.MaxLen"], apart := false, laid := [("unicode/utf8.acceptRanges", laid_unicode_utf8_acceptRanges), ("unicode/utf8.first", laid_unicode_utf8_first)] }
def FnExactTabletAfterSaid : Prop := fnExactTabletAfterRow.holds Tryd.pinned (OpenSpec.ofChange fnExactTabletAfterSpec)

/-- ITS FALSE NEIGHBOUR: 'it returns false'. Refute it at one input. -/
def fnExactTabletAfterWrong : ChangeSpec := { name := "fnExactTabletAfter", fn := fun _ => fun
  | [d1, d2, d3] => { results := [.lit (.bool false)], args := [d1, d2, d3] }
  | _ => none }
def FnExactTabletAfterWrongFalsely : Prop := fnExactTabletAfterRow.holds Tryd.pinned (OpenSpec.ofChange fnExactTabletAfterWrong)

/-- 'laws.FnExactEverLeft': WHATEVER THE INPUT: true; the input reads as it did. -/
def fnExactEverLeftSpec : ChangeSpec := { name := "fnExactEverLeft", fn := fun _ => fun
  | [d1, d2] => { results := [.lit (.bool true)], args := [d1, d2] }
  | _ => none }
def fnExactEverLeftRow : OpenClaim := { program := "ytnbmpdpcbndooaadoor", sum := "4abc605eeacda29d6efed4890c80dbb5ce3b97e53ce24abf973852e12d780908", func := "loop.example/g01377/laws.FnExactEverLeft", spec := "fnExactEverLeft", inPlace := ["internal/bytealg.IndexByteString", "internal/bytealg.IndexString"], unfollowed := true, recurses := true, named := ["unicode/utf8.first", "unicode/utf8.acceptRanges", "internal/bytealg.MaxLen"], apart := false, laid := [("unicode/utf8.acceptRanges", laid_unicode_utf8_acceptRanges), ("unicode/utf8.first", laid_unicode_utf8_first)] }
def FnExactEverLeftSaid : Prop := fnExactEverLeftRow.holds Tryd.pinned (OpenSpec.ofChange fnExactEverLeftSpec)

/-- ITS FALSE NEIGHBOUR: 'it returns false'. Refute it at one input. -/
def fnExactEverLeftWrong : ChangeSpec := { name := "fnExactEverLeft", fn := fun _ => fun
  | [d1, d2] => { results := [.lit (.bool false)], args := [d1, d2] }
  | _ => none }
def FnExactEverLeftWrongFalsely : Prop := fnExactEverLeftRow.holds Tryd.pinned (OpenSpec.ofChange fnExactEverLeftWrong)

/-- 'laws.FnExactMeltedEach': WHATEVER THE INPUT: true; the input reads as it did. -/
def fnExactMeltedEachSpec : ChangeSpec := { name := "fnExactMeltedEach", fn := fun _ => fun
  | [d1, d2] => { results := [.lit (.bool true)], args := [d1, d2] }
  | _ => none }
def fnExactMeltedEachRow : OpenClaim := { program := "ytnbmpdpcbndooaadoor", sum := "4abc605eeacda29d6efed4890c80dbb5ce3b97e53ce24abf973852e12d780908", func := "loop.example/g01377/laws.FnExactMeltedEach", spec := "fnExactMeltedEach", inPlace := ["internal/bytealg.IndexByteString", "internal/bytealg.IndexString"], unfollowed := true, recurses := true, named := ["unicode/utf8.first", "unicode/utf8.acceptRanges", "internal/bytealg.MaxLen"], apart := false, laid := [("unicode/utf8.acceptRanges", laid_unicode_utf8_acceptRanges), ("unicode/utf8.first", laid_unicode_utf8_first)] }
def FnExactMeltedEachSaid : Prop := fnExactMeltedEachRow.holds Tryd.pinned (OpenSpec.ofChange fnExactMeltedEachSpec)

/-- ITS FALSE NEIGHBOUR: 'it returns false'. Refute it at one input. -/
def fnExactMeltedEachWrong : ChangeSpec := { name := "fnExactMeltedEach", fn := fun _ => fun
  | [d1, d2] => { results := [.lit (.bool false)], args := [d1, d2] }
  | _ => none }
def FnExactMeltedEachWrongFalsely : Prop := fnExactMeltedEachRow.holds Tryd.pinned (OpenSpec.ofChange fnExactMeltedEachWrong)

/-- 'laws.FnExactLeftOnTablet': WHATEVER THE INPUT: true; the input reads as it did. -/
def fnExactLeftOnTabletSpec : ChangeSpec := { name := "fnExactLeftOnTablet", fn := fun _ => fun
  | [d] => { results := [.lit (.bool true)], args := [d] }
  | _ => none }
def fnExactLeftOnTabletRow : OpenClaim := { program := "ytnbmpdpcbndooaadoor", sum := "4abc605eeacda29d6efed4890c80dbb5ce3b97e53ce24abf973852e12d780908", func := "loop.example/g01377/laws.FnExactLeftOnTablet", spec := "fnExactLeftOnTablet", inPlace := ["internal/bytealg.IndexByteString", "internal/bytealg.IndexString", "internal/abi.NoEscape", "internal/bytealg.MakeNoZero", "internal/bytealg.CountString"], unfollowed := true, recurses := true, named := ["unicode/utf8.first", "unicode/utf8.acceptRanges", "internal/bytealg.MaxLen"], apart := false, laid := [("unicode/utf8.acceptRanges", laid_unicode_utf8_acceptRanges), ("unicode/utf8.first", laid_unicode_utf8_first)] }
def FnExactLeftOnTabletSaid : Prop := fnExactLeftOnTabletRow.holds Tryd.pinned (OpenSpec.ofChange fnExactLeftOnTabletSpec)

/-- ITS FALSE NEIGHBOUR: 'it returns false'. Refute it at one input. -/
def fnExactLeftOnTabletWrong : ChangeSpec := { name := "fnExactLeftOnTablet", fn := fun _ => fun
  | [d] => { results := [.lit (.bool false)], args := [d] }
  | _ => none }
def FnExactLeftOnTabletWrongFalsely : Prop := fnExactLeftOnTabletRow.holds Tryd.pinned (OpenSpec.ofChange fnExactLeftOnTabletWrong)

/-- 'laws.FnExactLastSquares': WHATEVER THE INPUT: true; the input reads as it did. -/
def fnExactLastSquaresSpec : ChangeSpec := { name := "fnExactLastSquares", fn := fun _ => fun
  | [d1, d2] => { results := [.lit (.bool true)], args := [d1, d2] }
  | _ => none }
def fnExactLastSquaresRow : OpenClaim := { program := "ytnbmpdpcbndooaadoor", sum := "4abc605eeacda29d6efed4890c80dbb5ce3b97e53ce24abf973852e12d780908", func := "loop.example/g01377/laws.FnExactLastSquares", spec := "fnExactLastSquares", inPlace := ["internal/bytealg.IndexByteString", "internal/bytealg.IndexString"], unfollowed := true, recurses := true, named := ["unicode/utf8.first", "unicode/utf8.acceptRanges", "internal/bytealg.MaxLen"], apart := false, laid := [("unicode/utf8.acceptRanges", laid_unicode_utf8_acceptRanges), ("unicode/utf8.first", laid_unicode_utf8_first)] }
def FnExactLastSquaresSaid : Prop := fnExactLastSquaresRow.holds Tryd.pinned (OpenSpec.ofChange fnExactLastSquaresSpec)

/-- ITS FALSE NEIGHBOUR: 'it returns false'. Refute it at one input. -/
def fnExactLastSquaresWrong : ChangeSpec := { name := "fnExactLastSquares", fn := fun _ => fun
  | [d1, d2] => { results := [.lit (.bool false)], args := [d1, d2] }
  | _ => none }
def FnExactLastSquaresWrongFalsely : Prop := fnExactLastSquaresRow.holds Tryd.pinned (OpenSpec.ofChange fnExactLastSquaresWrong)

/- THE SECOND FORM. 'bulk': how many values and letters a reading holds, each counted each time it is reached (what is shared counts as often as it is met; a slice's spare places count too). A statement '..UptoSaid' is the law's where the arguments, and the package variables that the reading takes, are together of bulk at most 1048576: NARROWER than '..Said'. Prove '..Said' where nothing that the law and all that it calls make is longer than what came in: it says more and counts as full. Else prove '..UptoSaid'. A law counts once. -/
mutual
def uptoBulk {H : Type} : DataW H → Nat
  | .lit (.string bytes) => bytes.length + 1
  | .lit _ => 1
  | .nil => 1
  | .ptr d => uptoBulk d + 1
  | .slice elems spare => uptoBulkAll elems + uptoBulkAll spare + 1
  | .agg parts => uptoBulkAll parts + 1
  | .iface _ d => uptoBulk d + 1
  | .map entries => uptoBulkEntries entries + 1
  | .held _ => 1
def uptoBulkAll {H : Type} : List (DataW H) → Nat
  | [] => 0
  | d :: r => uptoBulk d + uptoBulkAll r
def uptoBulkEntries {H : Type} : List (Lit × DataW H) → Nat
  | [] => 0
  | x :: r => uptoBulkEntry x + uptoBulkEntries r
def uptoBulkEntry {H : Type} : Lit × DataW H → Nat
  | (.string bytes, d) => bytes.length + uptoBulk d + 1
  | (_, d) => uptoBulk d + 1
 end
def uptoSmall : (H : Type) → List (DataW H) → Bool := fun _ ds => decide (uptoBulkAll ds ≤ 1048576)
def OpenSpec.upto (s : _root_.Go.ChangeSpec) : _root_.Go.OpenSpec := { _root_.Go.OpenSpec.ofChange s with cond := some uptoSmall }

/-- 'laws.FnExactMeltHour', WHERE WHAT IT READS IS OF BULK AT MOST 1048576: true; the input reads as it did. -/
def fnExactMeltHourUptoRow : OpenClaim := { program := "ytnbmpdpcbndooaadoor", sum := "4abc605eeacda29d6efed4890c80dbb5ce3b97e53ce24abf973852e12d780908", func := "loop.example/g01377/laws.FnExactMeltHour", spec := "fnExactMeltHour", inPlace := ["internal/bytealg.IndexByteString", "internal/bytealg.IndexString"], unfollowed := true, recurses := true, named := ["unicode/utf8.first", "unicode/utf8.acceptRanges", "internal/bytealg.MaxLen"], apart := false, laid := [("unicode/utf8.acceptRanges", laid_unicode_utf8_acceptRanges), ("unicode/utf8.first", laid_unicode_utf8_first)], narrowed := true }
def FnExactMeltHourUptoSaid : Prop := fnExactMeltHourUptoRow.holds Tryd.pinned (OpenSpec.upto fnExactMeltHourSpec)

/-- 'laws.FnExactMeltsAt', WHERE WHAT IT READS IS OF BULK AT MOST 1048576: true; the input reads as it did. -/
def fnExactMeltsAtUptoRow : OpenClaim := { program := "ytnbmpdpcbndooaadoor", sum := "4abc605eeacda29d6efed4890c80dbb5ce3b97e53ce24abf973852e12d780908", func := "loop.example/g01377/laws.FnExactMeltsAt", spec := "fnExactMeltsAt", inPlace := ["internal/bytealg.IndexByteString", "internal/bytealg.IndexString"], unfollowed := true, recurses := true, named := ["unicode/utf8.first", "unicode/utf8.acceptRanges", "internal/bytealg.MaxLen"], apart := false, laid := [("unicode/utf8.acceptRanges", laid_unicode_utf8_acceptRanges), ("unicode/utf8.first", laid_unicode_utf8_first)], narrowed := true }
def FnExactMeltsAtUptoSaid : Prop := fnExactMeltsAtUptoRow.holds Tryd.pinned (OpenSpec.upto fnExactMeltsAtSpec)

/-- 'laws.FnExactTabletAfter', WHERE WHAT IT READS IS OF BULK AT MOST 1048576: true; the input reads as it did. -/
def fnExactTabletAfterUptoRow : OpenClaim := { program := "ytnbmpdpcbndooaadoor", sum := "4abc605eeacda29d6efed4890c80dbb5ce3b97e53ce24abf973852e12d780908", func := "loop.example/g01377/laws.FnExactTabletAfter", spec := "fnExactTabletAfter", inPlace := ["internal/bytealg.IndexByteString", "internal/bytealg.IndexString"], unfollowed := true, recurses := true, named := ["unicode/utf8.first", "unicode/utf8.acceptRanges", "internal/bytealg.MaxLen"], apart := false, laid := [("unicode/utf8.acceptRanges", laid_unicode_utf8_acceptRanges), ("unicode/utf8.first", laid_unicode_utf8_first)], narrowed := true }
def FnExactTabletAfterUptoSaid : Prop := fnExactTabletAfterUptoRow.holds Tryd.pinned (OpenSpec.upto fnExactTabletAfterSpec)

/-- 'laws.FnExactEverLeft', WHERE WHAT IT READS IS OF BULK AT MOST 1048576: true; the input reads as it did. -/
def fnExactEverLeftUptoRow : OpenClaim := { program := "ytnbmpdpcbndooaadoor", sum := "4abc605eeacda29d6efed4890c80dbb5ce3b97e53ce24abf973852e12d780908", func := "loop.example/g01377/laws.FnExactEverLeft", spec := "fnExactEverLeft", inPlace := ["internal/bytealg.IndexByteString", "internal/bytealg.IndexString"], unfollowed := true, recurses := true, named := ["unicode/utf8.first", "unicode/utf8.acceptRanges", "internal/bytealg.MaxLen"], apart := false, laid := [("unicode/utf8.acceptRanges", laid_unicode_utf8_acceptRanges), ("unicode/utf8.first", laid_unicode_utf8_first)], narrowed := true }
def FnExactEverLeftUptoSaid : Prop := fnExactEverLeftUptoRow.holds Tryd.pinned (OpenSpec.upto fnExactEverLeftSpec)

/-- 'laws.FnExactMeltedEach', WHERE WHAT IT READS IS OF BULK AT MOST 1048576: true; the input reads as it did. -/
def fnExactMeltedEachUptoRow : OpenClaim := { program := "ytnbmpdpcbndooaadoor", sum := "4abc605eeacda29d6efed4890c80dbb5ce3b97e53ce24abf973852e12d780908", func := "loop.example/g01377/laws.FnExactMeltedEach", spec := "fnExactMeltedEach", inPlace := ["internal/bytealg.IndexByteString", "internal/bytealg.IndexString"], unfollowed := true, recurses := true, named := ["unicode/utf8.first", "unicode/utf8.acceptRanges", "internal/bytealg.MaxLen"], apart := false, laid := [("unicode/utf8.acceptRanges", laid_unicode_utf8_acceptRanges), ("unicode/utf8.first", laid_unicode_utf8_first)], narrowed := true }
def FnExactMeltedEachUptoSaid : Prop := fnExactMeltedEachUptoRow.holds Tryd.pinned (OpenSpec.upto fnExactMeltedEachSpec)

/-- 'laws.FnExactLeftOnTablet', WHERE WHAT IT READS IS OF BULK AT MOST 1048576: true; the input reads as it did. -/
def fnExactLeftOnTabletUptoRow : OpenClaim := { program := "ytnbmpdpcbndooaadoor", sum := "4abc605eeacda29d6efed4890c80dbb5ce3b97e53ce24abf973852e12d780908", func := "loop.example/g01377/laws.FnExactLeftOnTablet", spec := "fnExactLeftOnTablet", inPlace := ["internal/bytealg.IndexByteString", "internal/bytealg.IndexString", "internal/abi.NoEscape", "internal/bytealg.MakeNoZero", "internal/bytealg.CountString"], unfollowed := true, recurses := true, named := ["unicode/utf8.first", "unicode/utf8.acceptRanges", "internal/bytealg.MaxLen"], apart := false, laid := [("unicode/utf8.acceptRanges", laid_unicode_utf8_acceptRanges), ("unicode/utf8.first", laid_unicode_utf8_first)], narrowed := true }
def FnExactLeftOnTabletUptoSaid : Prop := fnExactLeftOnTabletUptoRow.holds Tryd.pinned (OpenSpec.upto fnExactLeftOnTabletSpec)

/-- 'laws.FnExactLastSquares', WHERE WHAT IT READS IS OF BULK AT MOST 1048576: true; the input reads as it did. -/
def fnExactLastSquaresUptoRow : OpenClaim := { program := "ytnbmpdpcbndooaadoor", sum := "4abc605eeacda29d6efed4890c80dbb5ce3b97e53ce24abf973852e12d780908", func := "loop.example/g01377/laws.FnExactLastSquares", spec := "fnExactLastSquares", inPlace := ["internal/bytealg.IndexByteString", "internal/bytealg.IndexString"], unfollowed := true, recurses := true, named := ["unicode/utf8.first", "unicode/utf8.acceptRanges", "internal/bytealg.MaxLen"], apart := false, laid := [("unicode/utf8.acceptRanges", laid_unicode_utf8_acceptRanges), ("unicode/utf8.first", laid_unicode_utf8_first)], narrowed := true }
def FnExactLastSquaresUptoSaid : Prop := fnExactLastSquaresUptoRow.holds Tryd.pinned (OpenSpec.upto fnExactLastSquaresSpec)

end Rows
end Go.Proofs.YtnbmpdpcbndooaaDoor
