/-
  NARROWER THAN 'FOR EVERY INPUT', by the rows' own cells (each row's printed sentence says how): FnExactTestsOfBox: laid · FnExactBestGroupOf: laid · FnExactRowsAndColumns: laid · FnExactIsTablet: laid · FnExactOpenSides: laid · FnExactTurnTablet: laid · FnExactBiteSquare: laid · FnExactTabletText: laid · FnExactParseTablet: laid.
  DERIVED. THE GIVEN ROWS OF THIS SEAT. 9 by the template 'for every input the law returns true; each argument reads behind the call as it read before'; 0 by the template 'total and deterministic' (their statements: YtghfhcmjnpjgdaaDoorTotals.lean).
  GIVEN WITH THE SEED: the statements are not yours to turn. If you find one false, say at which input.
  Laid BY PROGRAM, IN A SANDBOX (cutbox-rows.mjs): the forced cells as the released guide's own fill.sh prints them over the translation 5b38b95ce960be14… (all of the seat's roots in one cut). By AI agents, Wed Nov 11 2026. No macro, syntax, notation, axiom, sorry.
-/
import Derived.Test.YtghfhcmjnpjgdaaDoorChecked
import GoSem.PinnedTables
import GoSem.Claim
import GoSem.ClaimJoined
import GoSem.ClaimMapViews
import Derived.JoinedTies
import Derived.KernelRfl
namespace Go.Proofs.YtghfhcmjnpjgdaaDoor
/- THE CELL 'sum', in the pinned program and in every row, IS THE sha256 OF THE DUMP (.gsa) THAT YtghfhcmjnpjgdaaDoorProg.lean LOADS. Nothing in Lean hashes anything: it is a label: what it is worth is what the hold of that sum in a sandbox is worth. -/
noncomputable def Tryd.pinned : Pinned := { name := "ytghfhcmjnpjgdaadoor", sum := "5b38b95ce960be144ab8f25acf9dd330490593fb5be6310d863ae2617899b186", checked := Tryd.checked }
namespace Rows
def none {H : Type} : Left H := { results := [], args := [] }

/- WHAT THE LISTED PACKAGE-LEVEL VARIABLES READ AS WHEN THE CALL BEGINS. Each datum BY PROGRAM (the guide's laid-datum.mjs) off the statement by which the dump's own 'gosem.cut.vars' lays the variable. In a bare row this is a premise. The card (YtghfhcmjnpjgdaaDoorCards.lean) ties it to the program's text. -/
def laid_unicode_utf8_acceptRanges {H : Type} : DataW H := .agg [.agg [.lit (.int .u8 128), .lit (.int .u8 191)], .agg [.lit (.int .u8 160), .lit (.int .u8 191)], .agg [.lit (.int .u8 128), .lit (.int .u8 159)], .agg [.lit (.int .u8 144), .lit (.int .u8 191)], .agg [.lit (.int .u8 128), .lit (.int .u8 143)], .agg [.lit (.int .u8 0), .lit (.int .u8 0)], .agg [.lit (.int .u8 0), .lit (.int .u8 0)], .agg [.lit (.int .u8 0), .lit (.int .u8 0)], .agg [.lit (.int .u8 0), .lit (.int .u8 0)], .agg [.lit (.int .u8 0), .lit (.int .u8 0)], .agg [.lit (.int .u8 0), .lit (.int .u8 0)], .agg [.lit (.int .u8 0), .lit (.int .u8 0)], .agg [.lit (.int .u8 0), .lit (.int .u8 0)], .agg [.lit (.int .u8 0), .lit (.int .u8 0)], .agg [.lit (.int .u8 0), .lit (.int .u8 0)], .agg [.lit (.int .u8 0), .lit (.int .u8 0)]]
/-- One of Go's own tables, pinned by name: the form's constant. -/
def laid_unicode_utf8_first : DataW Unit := Go.Pinned.utf8First

/-- 'laws.FnExactTestsOfBox': WHATEVER THE INPUT: true; the input reads as it did. -/
def fnExactTestsOfBoxSpec : ChangeSpec := { name := "fnExactTestsOfBox", fn := fun _ => fun
  | [d1, d2] => { results := [.lit (.bool true)], args := [d1, d2] }
  | _ => none }
def fnExactTestsOfBoxRow : OpenClaim := { program := "ytghfhcmjnpjgdaadoor", sum := "5b38b95ce960be144ab8f25acf9dd330490593fb5be6310d863ae2617899b186", func := "loop.example/g01377/laws.FnExactTestsOfBox", spec := "fnExactTestsOfBox", inPlace := ["internal/bytealg.IndexByteString", "internal/bytealg.IndexString"], named := ["unicode/utf8.first", "unicode/utf8.acceptRanges", "internal/bytealg.MaxLen"], apart := false, laid := [("unicode/utf8.acceptRanges", laid_unicode_utf8_acceptRanges), ("unicode/utf8.first", laid_unicode_utf8_first)] }
def FnExactTestsOfBoxSaid : Prop := fnExactTestsOfBoxRow.holds Tryd.pinned (OpenSpec.ofChange fnExactTestsOfBoxSpec)

/-- ITS FALSE NEIGHBOUR: 'it returns false'. Refute it at one input. -/
def fnExactTestsOfBoxWrong : ChangeSpec := { name := "fnExactTestsOfBox", fn := fun _ => fun
  | [d1, d2] => { results := [.lit (.bool false)], args := [d1, d2] }
  | _ => none }
def FnExactTestsOfBoxWrongFalsely : Prop := fnExactTestsOfBoxRow.holds Tryd.pinned (OpenSpec.ofChange fnExactTestsOfBoxWrong)

/-- 'laws.FnExactBestGroupOf': WHATEVER THE INPUT: true; the input reads as it did. -/
def fnExactBestGroupOfSpec : ChangeSpec := { name := "fnExactBestGroupOf", fn := fun _ => fun
  | [d] => { results := [.lit (.bool true)], args := [d] }
  | _ => none }
def fnExactBestGroupOfRow : OpenClaim := { program := "ytghfhcmjnpjgdaadoor", sum := "5b38b95ce960be144ab8f25acf9dd330490593fb5be6310d863ae2617899b186", func := "loop.example/g01377/laws.FnExactBestGroupOf", spec := "fnExactBestGroupOf", inPlace := ["internal/bytealg.IndexByteString", "internal/bytealg.IndexString"], unfollowed := true, recurses := true, named := ["unicode/utf8.first", "unicode/utf8.acceptRanges", "internal/bytealg.MaxLen"], apart := false, laid := [("unicode/utf8.acceptRanges", laid_unicode_utf8_acceptRanges), ("unicode/utf8.first", laid_unicode_utf8_first)] }
def FnExactBestGroupOfSaid : Prop := fnExactBestGroupOfRow.holds Tryd.pinned (OpenSpec.ofChange fnExactBestGroupOfSpec)

/-- ITS FALSE NEIGHBOUR: 'it returns false'. Refute it at one input. -/
def fnExactBestGroupOfWrong : ChangeSpec := { name := "fnExactBestGroupOf", fn := fun _ => fun
  | [d] => { results := [.lit (.bool false)], args := [d] }
  | _ => none }
def FnExactBestGroupOfWrongFalsely : Prop := fnExactBestGroupOfRow.holds Tryd.pinned (OpenSpec.ofChange fnExactBestGroupOfWrong)

/-- 'laws.FnExactRowsAndColumns': WHATEVER THE INPUT: true; the input reads as it did. -/
def fnExactRowsAndColumnsSpec : ChangeSpec := { name := "fnExactRowsAndColumns", fn := fun _ => fun
  | [d] => { results := [.lit (.bool true)], args := [d] }
  | _ => none }
def fnExactRowsAndColumnsRow : OpenClaim := { program := "ytghfhcmjnpjgdaadoor", sum := "5b38b95ce960be144ab8f25acf9dd330490593fb5be6310d863ae2617899b186", func := "loop.example/g01377/laws.FnExactRowsAndColumns", spec := "fnExactRowsAndColumns", inPlace := ["internal/bytealg.IndexByteString", "internal/bytealg.IndexString"], unfollowed := true, recurses := true, named := ["unicode/utf8.first", "unicode/utf8.acceptRanges", "internal/bytealg.MaxLen"], apart := false, laid := [("unicode/utf8.acceptRanges", laid_unicode_utf8_acceptRanges), ("unicode/utf8.first", laid_unicode_utf8_first)] }
def FnExactRowsAndColumnsSaid : Prop := fnExactRowsAndColumnsRow.holds Tryd.pinned (OpenSpec.ofChange fnExactRowsAndColumnsSpec)

/-- ITS FALSE NEIGHBOUR: 'it returns false'. Refute it at one input. -/
def fnExactRowsAndColumnsWrong : ChangeSpec := { name := "fnExactRowsAndColumns", fn := fun _ => fun
  | [d] => { results := [.lit (.bool false)], args := [d] }
  | _ => none }
def FnExactRowsAndColumnsWrongFalsely : Prop := fnExactRowsAndColumnsRow.holds Tryd.pinned (OpenSpec.ofChange fnExactRowsAndColumnsWrong)

/-- 'laws.FnExactIsTablet': WHATEVER THE INPUT: true; the input reads as it did. -/
def fnExactIsTabletSpec : ChangeSpec := { name := "fnExactIsTablet", fn := fun _ => fun
  | [d] => { results := [.lit (.bool true)], args := [d] }
  | _ => none }
def fnExactIsTabletRow : OpenClaim := { program := "ytghfhcmjnpjgdaadoor", sum := "5b38b95ce960be144ab8f25acf9dd330490593fb5be6310d863ae2617899b186", func := "loop.example/g01377/laws.FnExactIsTablet", spec := "fnExactIsTablet", inPlace := ["internal/bytealg.IndexByteString", "internal/bytealg.IndexString"], unfollowed := true, recurses := true, named := ["unicode/utf8.first", "unicode/utf8.acceptRanges", "internal/bytealg.MaxLen"], apart := false, laid := [("unicode/utf8.acceptRanges", laid_unicode_utf8_acceptRanges), ("unicode/utf8.first", laid_unicode_utf8_first)] }
def FnExactIsTabletSaid : Prop := fnExactIsTabletRow.holds Tryd.pinned (OpenSpec.ofChange fnExactIsTabletSpec)

/-- ITS FALSE NEIGHBOUR: 'it returns false'. Refute it at one input. -/
def fnExactIsTabletWrong : ChangeSpec := { name := "fnExactIsTablet", fn := fun _ => fun
  | [d] => { results := [.lit (.bool false)], args := [d] }
  | _ => none }
def FnExactIsTabletWrongFalsely : Prop := fnExactIsTabletRow.holds Tryd.pinned (OpenSpec.ofChange fnExactIsTabletWrong)

/-- 'laws.FnExactOpenSides': WHATEVER THE INPUT: true; the input reads as it did. -/
def fnExactOpenSidesSpec : ChangeSpec := { name := "fnExactOpenSides", fn := fun _ => fun
  | [d1, d2, d3] => { results := [.lit (.bool true)], args := [d1, d2, d3] }
  | _ => none }
def fnExactOpenSidesRow : OpenClaim := { program := "ytghfhcmjnpjgdaadoor", sum := "5b38b95ce960be144ab8f25acf9dd330490593fb5be6310d863ae2617899b186", func := "loop.example/g01377/laws.FnExactOpenSides", spec := "fnExactOpenSides", inPlace := ["internal/bytealg.IndexByteString", "internal/bytealg.IndexString"], unfollowed := true, recurses := true, named := ["unicode/utf8.first", "unicode/utf8.acceptRanges", "internal/bytealg.MaxLen"], apart := false, laid := [("unicode/utf8.acceptRanges", laid_unicode_utf8_acceptRanges), ("unicode/utf8.first", laid_unicode_utf8_first)] }
def FnExactOpenSidesSaid : Prop := fnExactOpenSidesRow.holds Tryd.pinned (OpenSpec.ofChange fnExactOpenSidesSpec)

/-- ITS FALSE NEIGHBOUR: 'it returns false'. Refute it at one input. -/
def fnExactOpenSidesWrong : ChangeSpec := { name := "fnExactOpenSides", fn := fun _ => fun
  | [d1, d2, d3] => { results := [.lit (.bool false)], args := [d1, d2, d3] }
  | _ => none }
def FnExactOpenSidesWrongFalsely : Prop := fnExactOpenSidesRow.holds Tryd.pinned (OpenSpec.ofChange fnExactOpenSidesWrong)

/-- 'laws.FnExactTurnTablet': WHATEVER THE INPUT: true; the input reads as it did. -/
def fnExactTurnTabletSpec : ChangeSpec := { name := "fnExactTurnTablet", fn := fun _ => fun
  | [d] => { results := [.lit (.bool true)], args := [d] }
  | _ => none }
def fnExactTurnTabletRow : OpenClaim := { program := "ytghfhcmjnpjgdaadoor", sum := "5b38b95ce960be144ab8f25acf9dd330490593fb5be6310d863ae2617899b186", func := "loop.example/g01377/laws.FnExactTurnTablet", spec := "fnExactTurnTablet", inPlace := ["internal/bytealg.IndexByteString", "internal/bytealg.IndexString"], unfollowed := true, recurses := true, named := ["unicode/utf8.first", "unicode/utf8.acceptRanges", "internal/bytealg.MaxLen"], apart := false, laid := [("unicode/utf8.acceptRanges", laid_unicode_utf8_acceptRanges), ("unicode/utf8.first", laid_unicode_utf8_first)] }
def FnExactTurnTabletSaid : Prop := fnExactTurnTabletRow.holds Tryd.pinned (OpenSpec.ofChange fnExactTurnTabletSpec)

/-- ITS FALSE NEIGHBOUR: 'it returns false'. Refute it at one input. -/
def fnExactTurnTabletWrong : ChangeSpec := { name := "fnExactTurnTablet", fn := fun _ => fun
  | [d] => { results := [.lit (.bool false)], args := [d] }
  | _ => none }
def FnExactTurnTabletWrongFalsely : Prop := fnExactTurnTabletRow.holds Tryd.pinned (OpenSpec.ofChange fnExactTurnTabletWrong)

/-- 'laws.FnExactBiteSquare': WHATEVER THE INPUT: true; the input reads as it did. -/
def fnExactBiteSquareSpec : ChangeSpec := { name := "fnExactBiteSquare", fn := fun _ => fun
  | [d1, d2, d3] => { results := [.lit (.bool true)], args := [d1, d2, d3] }
  | _ => none }
def fnExactBiteSquareRow : OpenClaim := { program := "ytghfhcmjnpjgdaadoor", sum := "5b38b95ce960be144ab8f25acf9dd330490593fb5be6310d863ae2617899b186", func := "loop.example/g01377/laws.FnExactBiteSquare", spec := "fnExactBiteSquare", inPlace := ["internal/bytealg.IndexByteString", "internal/bytealg.IndexString"], unfollowed := true, recurses := true, named := ["unicode/utf8.first", "unicode/utf8.acceptRanges", "internal/bytealg.MaxLen"], apart := false, laid := [("unicode/utf8.acceptRanges", laid_unicode_utf8_acceptRanges), ("unicode/utf8.first", laid_unicode_utf8_first)] }
def FnExactBiteSquareSaid : Prop := fnExactBiteSquareRow.holds Tryd.pinned (OpenSpec.ofChange fnExactBiteSquareSpec)

/-- ITS FALSE NEIGHBOUR: 'it returns false'. Refute it at one input. -/
def fnExactBiteSquareWrong : ChangeSpec := { name := "fnExactBiteSquare", fn := fun _ => fun
  | [d1, d2, d3] => { results := [.lit (.bool false)], args := [d1, d2, d3] }
  | _ => none }
def FnExactBiteSquareWrongFalsely : Prop := fnExactBiteSquareRow.holds Tryd.pinned (OpenSpec.ofChange fnExactBiteSquareWrong)

/-- 'laws.FnExactTabletText': WHATEVER THE INPUT: true; the input reads as it did. -/
def fnExactTabletTextSpec : ChangeSpec := { name := "fnExactTabletText", fn := fun _ => fun
  | [d] => { results := [.lit (.bool true)], args := [d] }
  | _ => none }
def fnExactTabletTextRow : OpenClaim := { program := "ytghfhcmjnpjgdaadoor", sum := "5b38b95ce960be144ab8f25acf9dd330490593fb5be6310d863ae2617899b186", func := "loop.example/g01377/laws.FnExactTabletText", spec := "fnExactTabletText", inPlace := ["internal/bytealg.IndexByteString", "internal/bytealg.IndexString", "internal/abi.NoEscape", "internal/bytealg.MakeNoZero"], unfollowed := true, recurses := true, named := ["unicode/utf8.first", "unicode/utf8.acceptRanges", "internal/bytealg.MaxLen"], apart := false, laid := [("unicode/utf8.acceptRanges", laid_unicode_utf8_acceptRanges), ("unicode/utf8.first", laid_unicode_utf8_first)] }
def FnExactTabletTextSaid : Prop := fnExactTabletTextRow.holds Tryd.pinned (OpenSpec.ofChange fnExactTabletTextSpec)

/-- ITS FALSE NEIGHBOUR: 'it returns false'. Refute it at one input. -/
def fnExactTabletTextWrong : ChangeSpec := { name := "fnExactTabletText", fn := fun _ => fun
  | [d] => { results := [.lit (.bool false)], args := [d] }
  | _ => none }
def FnExactTabletTextWrongFalsely : Prop := fnExactTabletTextRow.holds Tryd.pinned (OpenSpec.ofChange fnExactTabletTextWrong)

/-- 'laws.FnExactParseTablet': WHATEVER THE INPUT: true; the input reads as it did. -/
def fnExactParseTabletSpec : ChangeSpec := { name := "fnExactParseTablet", fn := fun _ => fun
  | [d] => { results := [.lit (.bool true)], args := [d] }
  | _ => none }
def fnExactParseTabletRow : OpenClaim := { program := "ytghfhcmjnpjgdaadoor", sum := "5b38b95ce960be144ab8f25acf9dd330490593fb5be6310d863ae2617899b186", func := "loop.example/g01377/laws.FnExactParseTablet", spec := "fnExactParseTablet", inPlace := ["internal/bytealg.CountString", "internal/bytealg.IndexByteString", "internal/bytealg.IndexString"], unfollowed := true, recurses := true, named := ["unicode/utf8.first", "unicode/utf8.acceptRanges", "internal/bytealg.MaxLen"], apart := false, laid := [("unicode/utf8.acceptRanges", laid_unicode_utf8_acceptRanges), ("unicode/utf8.first", laid_unicode_utf8_first)] }
def FnExactParseTabletSaid : Prop := fnExactParseTabletRow.holds Tryd.pinned (OpenSpec.ofChange fnExactParseTabletSpec)

/-- ITS FALSE NEIGHBOUR: 'it returns false'. Refute it at one input. -/
def fnExactParseTabletWrong : ChangeSpec := { name := "fnExactParseTablet", fn := fun _ => fun
  | [d] => { results := [.lit (.bool false)], args := [d] }
  | _ => none }
def FnExactParseTabletWrongFalsely : Prop := fnExactParseTabletRow.holds Tryd.pinned (OpenSpec.ofChange fnExactParseTabletWrong)

/- THE SECOND FORM. 'bulk': how many values and letters a reading holds, each counted each time it is reached (what is shared counts as often as it is met; a slice's spare places count too). A statement '..UptoSaid' is the law's where the arguments, and the package variables that the reading takes, are together of bulk at most 1048576: NARROWER than '..Said'. Prove '..Said' where nothing that the law and all that it calls make is longer than what came in: it says more and counts as full. Else prove '..UptoSaid'. A law counts once. -/
mutual
def uptoBulk {H : Type} : DataW H → Nat
  | .lit (.string bytes) => bytes.length + 1
  | .lit _ => 1
  | .nil => 1
  | .ptr d => uptoBulk d + 1
  | .slice elems spare => uptoBulkAll elems + uptoBulkAll spare + 1
  | .agg parts => uptoBulkAll parts + 1
  | .iface _ d => uptoBulk d + 1
  | .map entries => uptoBulkEntries entries + 1
  | .held _ => 1
def uptoBulkAll {H : Type} : List (DataW H) → Nat
  | [] => 0
  | d :: r => uptoBulk d + uptoBulkAll r
def uptoBulkEntries {H : Type} : List (Lit × DataW H) → Nat
  | [] => 0
  | x :: r => uptoBulkEntry x + uptoBulkEntries r
def uptoBulkEntry {H : Type} : Lit × DataW H → Nat
  | (.string bytes, d) => bytes.length + uptoBulk d + 1
  | (_, d) => uptoBulk d + 1
 end
def uptoSmall : (H : Type) → List (DataW H) → Bool := fun _ ds => decide (uptoBulkAll ds ≤ 1048576)
def OpenSpec.upto (s : _root_.Go.ChangeSpec) : _root_.Go.OpenSpec := { _root_.Go.OpenSpec.ofChange s with cond := some uptoSmall }

/-- 'laws.FnExactTestsOfBox', WHERE WHAT IT READS IS OF BULK AT MOST 1048576: true; the input reads as it did. -/
def fnExactTestsOfBoxUptoRow : OpenClaim := { program := "ytghfhcmjnpjgdaadoor", sum := "5b38b95ce960be144ab8f25acf9dd330490593fb5be6310d863ae2617899b186", func := "loop.example/g01377/laws.FnExactTestsOfBox", spec := "fnExactTestsOfBox", inPlace := ["internal/bytealg.IndexByteString", "internal/bytealg.IndexString"], named := ["unicode/utf8.first", "unicode/utf8.acceptRanges", "internal/bytealg.MaxLen"], apart := false, laid := [("unicode/utf8.acceptRanges", laid_unicode_utf8_acceptRanges), ("unicode/utf8.first", laid_unicode_utf8_first)], narrowed := true }
def FnExactTestsOfBoxUptoSaid : Prop := fnExactTestsOfBoxUptoRow.holds Tryd.pinned (OpenSpec.upto fnExactTestsOfBoxSpec)

/-- 'laws.FnExactBestGroupOf', WHERE WHAT IT READS IS OF BULK AT MOST 1048576: true; the input reads as it did. -/
def fnExactBestGroupOfUptoRow : OpenClaim := { program := "ytghfhcmjnpjgdaadoor", sum := "5b38b95ce960be144ab8f25acf9dd330490593fb5be6310d863ae2617899b186", func := "loop.example/g01377/laws.FnExactBestGroupOf", spec := "fnExactBestGroupOf", inPlace := ["internal/bytealg.IndexByteString", "internal/bytealg.IndexString"], unfollowed := true, recurses := true, named := ["unicode/utf8.first", "unicode/utf8.acceptRanges", "internal/bytealg.MaxLen"], apart := false, laid := [("unicode/utf8.acceptRanges", laid_unicode_utf8_acceptRanges), ("unicode/utf8.first", laid_unicode_utf8_first)], narrowed := true }
def FnExactBestGroupOfUptoSaid : Prop := fnExactBestGroupOfUptoRow.holds Tryd.pinned (OpenSpec.upto fnExactBestGroupOfSpec)

/-- 'laws.FnExactRowsAndColumns', WHERE WHAT IT READS IS OF BULK AT MOST 1048576: true; the input reads as it did. -/
def fnExactRowsAndColumnsUptoRow : OpenClaim := { program := "ytghfhcmjnpjgdaadoor", sum := "5b38b95ce960be144ab8f25acf9dd330490593fb5be6310d863ae2617899b186", func := "loop.example/g01377/laws.FnExactRowsAndColumns", spec := "fnExactRowsAndColumns", inPlace := ["internal/bytealg.IndexByteString", "internal/bytealg.IndexString"], unfollowed := true, recurses := true, named := ["unicode/utf8.first", "unicode/utf8.acceptRanges", "internal/bytealg.MaxLen"], apart := false, laid := [("unicode/utf8.acceptRanges", laid_unicode_utf8_acceptRanges), ("unicode/utf8.first", laid_unicode_utf8_first)], narrowed := true }
def FnExactRowsAndColumnsUptoSaid : Prop := fnExactRowsAndColumnsUptoRow.holds Tryd.pinned (OpenSpec.upto fnExactRowsAndColumnsSpec)

/-- 'laws.FnExactIsTablet', WHERE WHAT IT READS IS OF BULK AT MOST 1048576: true; the input reads as it did. -/
def fnExactIsTabletUptoRow : OpenClaim := { program := "ytghfhcmjnpjgdaadoor", sum := "5b38b95ce960be144ab8f25acf9dd330490593fb5be6310d863ae2617899b186", func := "loop.example/g01377/laws.FnExactIsTablet", spec := "fnExactIsTablet", inPlace := ["internal/bytealg.IndexByteString", "internal/bytealg.IndexString"], unfollowed := true, recurses := true, named := ["unicode/utf8.first", "unicode/utf8.acceptRanges", "internal/bytealg.MaxLen"], apart := false, laid := [("unicode/utf8.acceptRanges", laid_unicode_utf8_acceptRanges), ("unicode/utf8.first", laid_unicode_utf8_first)], narrowed := true }
def FnExactIsTabletUptoSaid : Prop := fnExactIsTabletUptoRow.holds Tryd.pinned (OpenSpec.upto fnExactIsTabletSpec)

/-- 'laws.FnExactOpenSides', WHERE WHAT IT READS IS OF BULK AT MOST 1048576: true; the input reads as it did. -/
def fnExactOpenSidesUptoRow : OpenClaim := { program := "ytghfhcmjnpjgdaadoor", sum := "5b38b95ce960be144ab8f25acf9dd330490593fb5be6310d863ae2617899b186", func := "loop.example/g01377/laws.FnExactOpenSides", spec := "fnExactOpenSides", inPlace := ["internal/bytealg.IndexByteString", "internal/bytealg.IndexString"], unfollowed := true, recurses := true, named := ["unicode/utf8.first", "unicode/utf8.acceptRanges", "internal/bytealg.MaxLen"], apart := false, laid := [("unicode/utf8.acceptRanges", laid_unicode_utf8_acceptRanges), ("unicode/utf8.first", laid_unicode_utf8_first)], narrowed := true }
def FnExactOpenSidesUptoSaid : Prop := fnExactOpenSidesUptoRow.holds Tryd.pinned (OpenSpec.upto fnExactOpenSidesSpec)

/-- 'laws.FnExactTurnTablet', WHERE WHAT IT READS IS OF BULK AT MOST 1048576: true; the input reads as it did. -/
def fnExactTurnTabletUptoRow : OpenClaim := { program := "ytghfhcmjnpjgdaadoor", sum := "5b38b95ce960be144ab8f25acf9dd330490593fb5be6310d863ae2617899b186", func := "loop.example/g01377/laws.FnExactTurnTablet", spec := "fnExactTurnTablet", inPlace := ["internal/bytealg.IndexByteString", "internal/bytealg.IndexString"], unfollowed := true, recurses := true, named := ["unicode/utf8.first", "unicode/utf8.acceptRanges", "internal/bytealg.MaxLen"], apart := false, laid := [("unicode/utf8.acceptRanges", laid_unicode_utf8_acceptRanges), ("unicode/utf8.first", laid_unicode_utf8_first)], narrowed := true }
def FnExactTurnTabletUptoSaid : Prop := fnExactTurnTabletUptoRow.holds Tryd.pinned (OpenSpec.upto fnExactTurnTabletSpec)

/-- 'laws.FnExactBiteSquare', WHERE WHAT IT READS IS OF BULK AT MOST 1048576: true; the input reads as it did. -/
def fnExactBiteSquareUptoRow : OpenClaim := { program := "ytghfhcmjnpjgdaadoor", sum := "5b38b95ce960be144ab8f25acf9dd330490593fb5be6310d863ae2617899b186", func := "loop.example/g01377/laws.FnExactBiteSquare", spec := "fnExactBiteSquare", inPlace := ["internal/bytealg.IndexByteString", "internal/bytealg.IndexString"], unfollowed := true, recurses := true, named := ["unicode/utf8.first", "unicode/utf8.acceptRanges", "internal/bytealg.MaxLen"], apart := false, laid := [("unicode/utf8.acceptRanges", laid_unicode_utf8_acceptRanges), ("unicode/utf8.first", laid_unicode_utf8_first)], narrowed := true }
def FnExactBiteSquareUptoSaid : Prop := fnExactBiteSquareUptoRow.holds Tryd.pinned (OpenSpec.upto fnExactBiteSquareSpec)

/-- 'laws.FnExactTabletText', WHERE WHAT IT READS IS OF BULK AT MOST 1048576: true; the input reads as it did. -/
def fnExactTabletTextUptoRow : OpenClaim := { program := "ytghfhcmjnpjgdaadoor", sum := "5b38b95ce960be144ab8f25acf9dd330490593fb5be6310d863ae2617899b186", func := "loop.example/g01377/laws.FnExactTabletText", spec := "fnExactTabletText", inPlace := ["internal/bytealg.IndexByteString", "internal/bytealg.IndexString", "internal/abi.NoEscape", "internal/bytealg.MakeNoZero"], unfollowed := true, recurses := true, named := ["unicode/utf8.first", "unicode/utf8.acceptRanges", "internal/bytealg.MaxLen"], apart := false, laid := [("unicode/utf8.acceptRanges", laid_unicode_utf8_acceptRanges), ("unicode/utf8.first", laid_unicode_utf8_first)], narrowed := true }
def FnExactTabletTextUptoSaid : Prop := fnExactTabletTextUptoRow.holds Tryd.pinned (OpenSpec.upto fnExactTabletTextSpec)

/-- 'laws.FnExactParseTablet', WHERE WHAT IT READS IS OF BULK AT MOST 1048576: true; the input reads as it did. -/
def fnExactParseTabletUptoRow : OpenClaim := { program := "ytghfhcmjnpjgdaadoor", sum := "5b38b95ce960be144ab8f25acf9dd330490593fb5be6310d863ae2617899b186", func := "loop.example/g01377/laws.FnExactParseTablet", spec := "fnExactParseTablet", inPlace := ["internal/bytealg.CountString", "internal/bytealg.IndexByteString", "internal/bytealg.IndexString"], unfollowed := true, recurses := true, named := ["unicode/utf8.first", "unicode/utf8.acceptRanges", "internal/bytealg.MaxLen"], apart := false, laid := [("unicode/utf8.acceptRanges", laid_unicode_utf8_acceptRanges), ("unicode/utf8.first", laid_unicode_utf8_first)], narrowed := true }
def FnExactParseTabletUptoSaid : Prop := fnExactParseTabletUptoRow.holds Tryd.pinned (OpenSpec.upto fnExactParseTabletSpec)

end Rows
end Go.Proofs.YtghfhcmjnpjgdaaDoor
