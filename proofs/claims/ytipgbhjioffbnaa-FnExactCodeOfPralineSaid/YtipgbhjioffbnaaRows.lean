/-
  No cell of these rows narrows 'for every input' (looked for: loops, veiled, ifaces, maps, wideKeys, modest, calm, conditions, laid).
  DERIVED. THE GIVEN ROWS OF THIS SEAT. 12 by the template 'for every input the law returns true; each argument reads behind the call as it read before'; 0 by the template 'total and deterministic' (their statements: YtipgbhjioffbnaaTotals.lean).
  GIVEN WITH THE SEED: the statements are not yours to turn. If you find one false, say at which input.
  Laid BY PROGRAM, IN A SANDBOX (cutbox-rows.mjs): the forced cells as the released guide's own fill.sh prints them over the translation a02a8df8098d31fa… (all of the seat's roots in one cut). By AI agents, Wed Nov 11 2026. No macro, syntax, notation, axiom, sorry.
-/
import Derived.Test.YtipgbhjioffbnaaChecked
import GoSem.Claim
import GoSem.ClaimJoined
import GoSem.ClaimMapViews
import Derived.JoinedTies
import Derived.KernelRfl
namespace Go.Proofs.Ytipgbhjioffbnaa
/- THE CELL 'sum', in the pinned program and in every row, IS THE sha256 OF THE DUMP (.gsa) THAT YtipgbhjioffbnaaProg.lean LOADS. Nothing in Lean hashes anything: it is a label: what it is worth is what the hold of that sum in a sandbox is worth. -/
noncomputable def Try.pinned : Pinned := { name := "ytipgbhjioffbnaa", sum := "a02a8df8098d31faa66ab9c75c042ef8d9c3fec1bc318fe741bcddec8e904b63", checked := Try.checked }
namespace Rows
def none {H : Type} : Left H := { results := [], args := [] }

/-- 'laws.FnExactLeftAfterBites': WHATEVER THE INPUT: true; the input reads as it did. -/
def fnExactLeftAfterBitesSpec : ChangeSpec := { name := "fnExactLeftAfterBites", fn := fun _ => fun
  | [d1, d2, d3] => { results := [.lit (.bool true)], args := [d1, d2, d3] }
  | _ => none }
def fnExactLeftAfterBitesRow : OpenClaim := { program := "ytipgbhjioffbnaa", sum := "a02a8df8098d31faa66ab9c75c042ef8d9c3fec1bc318fe741bcddec8e904b63", func := "loop.example/g01377/laws.FnExactLeftAfterBites", spec := "fnExactLeftAfterBites", apart := false }
def FnExactLeftAfterBitesSaid : Prop := fnExactLeftAfterBitesRow.holds Try.pinned (OpenSpec.ofChange fnExactLeftAfterBitesSpec)

/-- ITS FALSE NEIGHBOUR: 'it returns false'. Refute it at one input. -/
def fnExactLeftAfterBitesWrong : ChangeSpec := { name := "fnExactLeftAfterBites", fn := fun _ => fun
  | [d1, d2, d3] => { results := [.lit (.bool false)], args := [d1, d2, d3] }
  | _ => none }
def FnExactLeftAfterBitesWrongFalsely : Prop := fnExactLeftAfterBitesRow.holds Try.pinned (OpenSpec.ofChange fnExactLeftAfterBitesWrong)

/-- 'laws.FnExactBitesToEat': WHATEVER THE INPUT: true; the input reads as it did. -/
def fnExactBitesToEatSpec : ChangeSpec := { name := "fnExactBitesToEat", fn := fun _ => fun
  | [d1, d2] => { results := [.lit (.bool true)], args := [d1, d2] }
  | _ => none }
def fnExactBitesToEatRow : OpenClaim := { program := "ytipgbhjioffbnaa", sum := "a02a8df8098d31faa66ab9c75c042ef8d9c3fec1bc318fe741bcddec8e904b63", func := "loop.example/g01377/laws.FnExactBitesToEat", spec := "fnExactBitesToEat", apart := false }
def FnExactBitesToEatSaid : Prop := fnExactBitesToEatRow.holds Try.pinned (OpenSpec.ofChange fnExactBitesToEatSpec)

/-- ITS FALSE NEIGHBOUR: 'it returns false'. Refute it at one input. -/
def fnExactBitesToEatWrong : ChangeSpec := { name := "fnExactBitesToEat", fn := fun _ => fun
  | [d1, d2] => { results := [.lit (.bool false)], args := [d1, d2] }
  | _ => none }
def FnExactBitesToEatWrongFalsely : Prop := fnExactBitesToEatRow.holds Try.pinned (OpenSpec.ofChange fnExactBitesToEatWrong)

/-- 'laws.FnExactTestsByGroups': WHATEVER THE INPUT: true; the input reads as it did. -/
def fnExactTestsByGroupsSpec : ChangeSpec := { name := "fnExactTestsByGroups", fn := fun _ => fun
  | [d1, d2] => { results := [.lit (.bool true)], args := [d1, d2] }
  | _ => none }
def fnExactTestsByGroupsRow : OpenClaim := { program := "ytipgbhjioffbnaa", sum := "a02a8df8098d31faa66ab9c75c042ef8d9c3fec1bc318fe741bcddec8e904b63", func := "loop.example/g01377/laws.FnExactTestsByGroups", spec := "fnExactTestsByGroups", apart := false }
def FnExactTestsByGroupsSaid : Prop := fnExactTestsByGroupsRow.holds Try.pinned (OpenSpec.ofChange fnExactTestsByGroupsSpec)

/-- ITS FALSE NEIGHBOUR: 'it returns false'. Refute it at one input. -/
def fnExactTestsByGroupsWrong : ChangeSpec := { name := "fnExactTestsByGroups", fn := fun _ => fun
  | [d1, d2] => { results := [.lit (.bool false)], args := [d1, d2] }
  | _ => none }
def FnExactTestsByGroupsWrongFalsely : Prop := fnExactTestsByGroupsRow.holds Try.pinned (OpenSpec.ofChange fnExactTestsByGroupsWrong)

/-- 'laws.FnExactBestGroup': WHATEVER THE INPUT: true; the input reads as it did. -/
def fnExactBestGroupSpec : ChangeSpec := { name := "fnExactBestGroup", fn := fun _ => fun
  | [d] => { results := [.lit (.bool true)], args := [d] }
  | _ => none }
def fnExactBestGroupRow : OpenClaim := { program := "ytipgbhjioffbnaa", sum := "a02a8df8098d31faa66ab9c75c042ef8d9c3fec1bc318fe741bcddec8e904b63", func := "loop.example/g01377/laws.FnExactBestGroup", spec := "fnExactBestGroup", unfollowed := true, recurses := true, apart := false }
def FnExactBestGroupSaid : Prop := fnExactBestGroupRow.holds Try.pinned (OpenSpec.ofChange fnExactBestGroupSpec)

/-- ITS FALSE NEIGHBOUR: 'it returns false'. Refute it at one input. -/
def fnExactBestGroupWrong : ChangeSpec := { name := "fnExactBestGroup", fn := fun _ => fun
  | [d] => { results := [.lit (.bool false)], args := [d] }
  | _ => none }
def FnExactBestGroupWrongFalsely : Prop := fnExactBestGroupRow.holds Try.pinned (OpenSpec.ofChange fnExactBestGroupWrong)

/-- 'laws.FnExactResultsFor': WHATEVER THE INPUT: true; the input reads as it did. -/
def fnExactResultsForSpec : ChangeSpec := { name := "fnExactResultsFor", fn := fun _ => fun
  | [d1, d2] => { results := [.lit (.bool true)], args := [d1, d2] }
  | _ => none }
def fnExactResultsForRow : OpenClaim := { program := "ytipgbhjioffbnaa", sum := "a02a8df8098d31faa66ab9c75c042ef8d9c3fec1bc318fe741bcddec8e904b63", func := "loop.example/g01377/laws.FnExactResultsFor", spec := "fnExactResultsFor", apart := false }
def FnExactResultsForSaid : Prop := fnExactResultsForRow.holds Try.pinned (OpenSpec.ofChange fnExactResultsForSpec)

/-- ITS FALSE NEIGHBOUR: 'it returns false'. Refute it at one input. -/
def fnExactResultsForWrong : ChangeSpec := { name := "fnExactResultsFor", fn := fun _ => fun
  | [d1, d2] => { results := [.lit (.bool false)], args := [d1, d2] }
  | _ => none }
def FnExactResultsForWrongFalsely : Prop := fnExactResultsForRow.holds Try.pinned (OpenSpec.ofChange fnExactResultsForWrong)

/-- 'laws.FnExactLongestResults': WHATEVER THE INPUT: true; the input reads as it did. -/
def fnExactLongestResultsSpec : ChangeSpec := { name := "fnExactLongestResults", fn := fun _ => fun
  | [d] => { results := [.lit (.bool true)], args := [d] }
  | _ => none }
def fnExactLongestResultsRow : OpenClaim := { program := "ytipgbhjioffbnaa", sum := "a02a8df8098d31faa66ab9c75c042ef8d9c3fec1bc318fe741bcddec8e904b63", func := "loop.example/g01377/laws.FnExactLongestResults", spec := "fnExactLongestResults", apart := false }
def FnExactLongestResultsSaid : Prop := fnExactLongestResultsRow.holds Try.pinned (OpenSpec.ofChange fnExactLongestResultsSpec)

/-- ITS FALSE NEIGHBOUR: 'it returns false'. Refute it at one input. -/
def fnExactLongestResultsWrong : ChangeSpec := { name := "fnExactLongestResults", fn := fun _ => fun
  | [d] => { results := [.lit (.bool false)], args := [d] }
  | _ => none }
def FnExactLongestResultsWrongFalsely : Prop := fnExactLongestResultsRow.holds Try.pinned (OpenSpec.ofChange fnExactLongestResultsWrong)

/-- 'laws.FnExactMostPralines': WHATEVER THE INPUT: true; the input reads as it did. -/
def fnExactMostPralinesSpec : ChangeSpec := { name := "fnExactMostPralines", fn := fun _ => fun
  | [d1, d2] => { results := [.lit (.bool true)], args := [d1, d2] }
  | _ => none }
def fnExactMostPralinesRow : OpenClaim := { program := "ytipgbhjioffbnaa", sum := "a02a8df8098d31faa66ab9c75c042ef8d9c3fec1bc318fe741bcddec8e904b63", func := "loop.example/g01377/laws.FnExactMostPralines", spec := "fnExactMostPralines", apart := false }
def FnExactMostPralinesSaid : Prop := fnExactMostPralinesRow.holds Try.pinned (OpenSpec.ofChange fnExactMostPralinesSpec)

/-- ITS FALSE NEIGHBOUR: 'it returns false'. Refute it at one input. -/
def fnExactMostPralinesWrong : ChangeSpec := { name := "fnExactMostPralines", fn := fun _ => fun
  | [d1, d2] => { results := [.lit (.bool false)], args := [d1, d2] }
  | _ => none }
def FnExactMostPralinesWrongFalsely : Prop := fnExactMostPralinesRow.holds Try.pinned (OpenSpec.ofChange fnExactMostPralinesWrong)

/-- 'laws.FnExactTastersFor': WHATEVER THE INPUT: true; the input reads as it did. -/
def fnExactTastersForSpec : ChangeSpec := { name := "fnExactTastersFor", fn := fun _ => fun
  | [d1, d2] => { results := [.lit (.bool true)], args := [d1, d2] }
  | _ => none }
def fnExactTastersForRow : OpenClaim := { program := "ytipgbhjioffbnaa", sum := "a02a8df8098d31faa66ab9c75c042ef8d9c3fec1bc318fe741bcddec8e904b63", func := "loop.example/g01377/laws.FnExactTastersFor", spec := "fnExactTastersFor", apart := false }
def FnExactTastersForSaid : Prop := fnExactTastersForRow.holds Try.pinned (OpenSpec.ofChange fnExactTastersForSpec)

/-- ITS FALSE NEIGHBOUR: 'it returns false'. Refute it at one input. -/
def fnExactTastersForWrong : ChangeSpec := { name := "fnExactTastersFor", fn := fun _ => fun
  | [d1, d2] => { results := [.lit (.bool false)], args := [d1, d2] }
  | _ => none }
def FnExactTastersForWrongFalsely : Prop := fnExactTastersForRow.holds Try.pinned (OpenSpec.ofChange fnExactTastersForWrong)

/-- 'laws.FnExactRoundsFor': WHATEVER THE INPUT: true; the input reads as it did. -/
def fnExactRoundsForSpec : ChangeSpec := { name := "fnExactRoundsFor", fn := fun _ => fun
  | [d1, d2] => { results := [.lit (.bool true)], args := [d1, d2] }
  | _ => none }
def fnExactRoundsForRow : OpenClaim := { program := "ytipgbhjioffbnaa", sum := "a02a8df8098d31faa66ab9c75c042ef8d9c3fec1bc318fe741bcddec8e904b63", func := "loop.example/g01377/laws.FnExactRoundsFor", spec := "fnExactRoundsFor", apart := false }
def FnExactRoundsForSaid : Prop := fnExactRoundsForRow.holds Try.pinned (OpenSpec.ofChange fnExactRoundsForSpec)

/-- ITS FALSE NEIGHBOUR: 'it returns false'. Refute it at one input. -/
def fnExactRoundsForWrong : ChangeSpec := { name := "fnExactRoundsFor", fn := fun _ => fun
  | [d1, d2] => { results := [.lit (.bool false)], args := [d1, d2] }
  | _ => none }
def FnExactRoundsForWrongFalsely : Prop := fnExactRoundsForRow.holds Try.pinned (OpenSpec.ofChange fnExactRoundsForWrong)

/-- 'laws.FnExactBitterRounds': WHATEVER THE INPUT: true; the input reads as it did. -/
def fnExactBitterRoundsSpec : ChangeSpec := { name := "fnExactBitterRounds", fn := fun _ => fun
  | [d1, d2, d3] => { results := [.lit (.bool true)], args := [d1, d2, d3] }
  | _ => none }
def fnExactBitterRoundsRow : OpenClaim := { program := "ytipgbhjioffbnaa", sum := "a02a8df8098d31faa66ab9c75c042ef8d9c3fec1bc318fe741bcddec8e904b63", func := "loop.example/g01377/laws.FnExactBitterRounds", spec := "fnExactBitterRounds", apart := false }
def FnExactBitterRoundsSaid : Prop := fnExactBitterRoundsRow.holds Try.pinned (OpenSpec.ofChange fnExactBitterRoundsSpec)

/-- ITS FALSE NEIGHBOUR: 'it returns false'. Refute it at one input. -/
def fnExactBitterRoundsWrong : ChangeSpec := { name := "fnExactBitterRounds", fn := fun _ => fun
  | [d1, d2, d3] => { results := [.lit (.bool false)], args := [d1, d2, d3] }
  | _ => none }
def FnExactBitterRoundsWrongFalsely : Prop := fnExactBitterRoundsRow.holds Try.pinned (OpenSpec.ofChange fnExactBitterRoundsWrong)

/-- 'laws.FnExactSuspectsAfter': WHATEVER THE INPUT: true; the input reads as it did. -/
def fnExactSuspectsAfterSpec : ChangeSpec := { name := "fnExactSuspectsAfter", fn := fun _ => fun
  | [d1, d2] => { results := [.lit (.bool true)], args := [d1, d2] }
  | _ => none }
def fnExactSuspectsAfterRow : OpenClaim := { program := "ytipgbhjioffbnaa", sum := "a02a8df8098d31faa66ab9c75c042ef8d9c3fec1bc318fe741bcddec8e904b63", func := "loop.example/g01377/laws.FnExactSuspectsAfter", spec := "fnExactSuspectsAfter", apart := false }
def FnExactSuspectsAfterSaid : Prop := fnExactSuspectsAfterRow.holds Try.pinned (OpenSpec.ofChange fnExactSuspectsAfterSpec)

/-- ITS FALSE NEIGHBOUR: 'it returns false'. Refute it at one input. -/
def fnExactSuspectsAfterWrong : ChangeSpec := { name := "fnExactSuspectsAfter", fn := fun _ => fun
  | [d1, d2] => { results := [.lit (.bool false)], args := [d1, d2] }
  | _ => none }
def FnExactSuspectsAfterWrongFalsely : Prop := fnExactSuspectsAfterRow.holds Try.pinned (OpenSpec.ofChange fnExactSuspectsAfterWrong)

/-- 'laws.FnExactCodeOfPraline': WHATEVER THE INPUT: true; the input reads as it did. -/
def fnExactCodeOfPralineSpec : ChangeSpec := { name := "fnExactCodeOfPraline", fn := fun _ => fun
  | [d1, d2, d3, d4] => { results := [.lit (.bool true)], args := [d1, d2, d3, d4] }
  | _ => none }
def fnExactCodeOfPralineRow : OpenClaim := { program := "ytipgbhjioffbnaa", sum := "a02a8df8098d31faa66ab9c75c042ef8d9c3fec1bc318fe741bcddec8e904b63", func := "loop.example/g01377/laws.FnExactCodeOfPraline", spec := "fnExactCodeOfPraline", apart := false }
def FnExactCodeOfPralineSaid : Prop := fnExactCodeOfPralineRow.holds Try.pinned (OpenSpec.ofChange fnExactCodeOfPralineSpec)

/-- ITS FALSE NEIGHBOUR: 'it returns false'. Refute it at one input. -/
def fnExactCodeOfPralineWrong : ChangeSpec := { name := "fnExactCodeOfPraline", fn := fun _ => fun
  | [d1, d2, d3, d4] => { results := [.lit (.bool false)], args := [d1, d2, d3, d4] }
  | _ => none }
def FnExactCodeOfPralineWrongFalsely : Prop := fnExactCodeOfPralineRow.holds Try.pinned (OpenSpec.ofChange fnExactCodeOfPralineWrong)

/- THE SECOND FORM. 'bulk': how many values and letters a reading holds, each counted each time it is reached (what is shared counts as often as it is met; a slice's spare places count too). A statement '..UptoSaid' is the law's where the arguments, and the package variables that the reading takes, are together of bulk at most 1048576: NARROWER than '..Said'. Prove '..Said' where nothing that the law and all that it calls make is longer than what came in: it says more and counts as full. Else prove '..UptoSaid'. A law counts once. -/
mutual
def uptoBulk {H : Type} : DataW H → Nat
  | .lit (.string bytes) => bytes.length + 1
  | .lit _ => 1
  | .nil => 1
  | .ptr d => uptoBulk d + 1
  | .slice elems spare => uptoBulkAll elems + uptoBulkAll spare + 1
  | .agg parts => uptoBulkAll parts + 1
  | .iface _ d => uptoBulk d + 1
  | .map entries => uptoBulkEntries entries + 1
  | .held _ => 1
def uptoBulkAll {H : Type} : List (DataW H) → Nat
  | [] => 0
  | d :: r => uptoBulk d + uptoBulkAll r
def uptoBulkEntries {H : Type} : List (Lit × DataW H) → Nat
  | [] => 0
  | x :: r => uptoBulkEntry x + uptoBulkEntries r
def uptoBulkEntry {H : Type} : Lit × DataW H → Nat
  | (.string bytes, d) => bytes.length + uptoBulk d + 1
  | (_, d) => uptoBulk d + 1
 end
def uptoSmall : (H : Type) → List (DataW H) → Bool := fun _ ds => decide (uptoBulkAll ds ≤ 1048576)
def OpenSpec.upto (s : _root_.Go.ChangeSpec) : _root_.Go.OpenSpec := { _root_.Go.OpenSpec.ofChange s with cond := some uptoSmall }

/-- 'laws.FnExactLeftAfterBites', WHERE WHAT IT READS IS OF BULK AT MOST 1048576: true; the input reads as it did. -/
def fnExactLeftAfterBitesUptoRow : OpenClaim := { program := "ytipgbhjioffbnaa", sum := "a02a8df8098d31faa66ab9c75c042ef8d9c3fec1bc318fe741bcddec8e904b63", func := "loop.example/g01377/laws.FnExactLeftAfterBites", spec := "fnExactLeftAfterBites", apart := false, narrowed := true }
def FnExactLeftAfterBitesUptoSaid : Prop := fnExactLeftAfterBitesUptoRow.holds Try.pinned (OpenSpec.upto fnExactLeftAfterBitesSpec)

/-- 'laws.FnExactBitesToEat', WHERE WHAT IT READS IS OF BULK AT MOST 1048576: true; the input reads as it did. -/
def fnExactBitesToEatUptoRow : OpenClaim := { program := "ytipgbhjioffbnaa", sum := "a02a8df8098d31faa66ab9c75c042ef8d9c3fec1bc318fe741bcddec8e904b63", func := "loop.example/g01377/laws.FnExactBitesToEat", spec := "fnExactBitesToEat", apart := false, narrowed := true }
def FnExactBitesToEatUptoSaid : Prop := fnExactBitesToEatUptoRow.holds Try.pinned (OpenSpec.upto fnExactBitesToEatSpec)

/-- 'laws.FnExactTestsByGroups', WHERE WHAT IT READS IS OF BULK AT MOST 1048576: true; the input reads as it did. -/
def fnExactTestsByGroupsUptoRow : OpenClaim := { program := "ytipgbhjioffbnaa", sum := "a02a8df8098d31faa66ab9c75c042ef8d9c3fec1bc318fe741bcddec8e904b63", func := "loop.example/g01377/laws.FnExactTestsByGroups", spec := "fnExactTestsByGroups", apart := false, narrowed := true }
def FnExactTestsByGroupsUptoSaid : Prop := fnExactTestsByGroupsUptoRow.holds Try.pinned (OpenSpec.upto fnExactTestsByGroupsSpec)

/-- 'laws.FnExactBestGroup', WHERE WHAT IT READS IS OF BULK AT MOST 1048576: true; the input reads as it did. -/
def fnExactBestGroupUptoRow : OpenClaim := { program := "ytipgbhjioffbnaa", sum := "a02a8df8098d31faa66ab9c75c042ef8d9c3fec1bc318fe741bcddec8e904b63", func := "loop.example/g01377/laws.FnExactBestGroup", spec := "fnExactBestGroup", unfollowed := true, recurses := true, apart := false, narrowed := true }
def FnExactBestGroupUptoSaid : Prop := fnExactBestGroupUptoRow.holds Try.pinned (OpenSpec.upto fnExactBestGroupSpec)

/-- 'laws.FnExactResultsFor', WHERE WHAT IT READS IS OF BULK AT MOST 1048576: true; the input reads as it did. -/
def fnExactResultsForUptoRow : OpenClaim := { program := "ytipgbhjioffbnaa", sum := "a02a8df8098d31faa66ab9c75c042ef8d9c3fec1bc318fe741bcddec8e904b63", func := "loop.example/g01377/laws.FnExactResultsFor", spec := "fnExactResultsFor", apart := false, narrowed := true }
def FnExactResultsForUptoSaid : Prop := fnExactResultsForUptoRow.holds Try.pinned (OpenSpec.upto fnExactResultsForSpec)

/-- 'laws.FnExactLongestResults', WHERE WHAT IT READS IS OF BULK AT MOST 1048576: true; the input reads as it did. -/
def fnExactLongestResultsUptoRow : OpenClaim := { program := "ytipgbhjioffbnaa", sum := "a02a8df8098d31faa66ab9c75c042ef8d9c3fec1bc318fe741bcddec8e904b63", func := "loop.example/g01377/laws.FnExactLongestResults", spec := "fnExactLongestResults", apart := false, narrowed := true }
def FnExactLongestResultsUptoSaid : Prop := fnExactLongestResultsUptoRow.holds Try.pinned (OpenSpec.upto fnExactLongestResultsSpec)

/-- 'laws.FnExactMostPralines', WHERE WHAT IT READS IS OF BULK AT MOST 1048576: true; the input reads as it did. -/
def fnExactMostPralinesUptoRow : OpenClaim := { program := "ytipgbhjioffbnaa", sum := "a02a8df8098d31faa66ab9c75c042ef8d9c3fec1bc318fe741bcddec8e904b63", func := "loop.example/g01377/laws.FnExactMostPralines", spec := "fnExactMostPralines", apart := false, narrowed := true }
def FnExactMostPralinesUptoSaid : Prop := fnExactMostPralinesUptoRow.holds Try.pinned (OpenSpec.upto fnExactMostPralinesSpec)

/-- 'laws.FnExactTastersFor', WHERE WHAT IT READS IS OF BULK AT MOST 1048576: true; the input reads as it did. -/
def fnExactTastersForUptoRow : OpenClaim := { program := "ytipgbhjioffbnaa", sum := "a02a8df8098d31faa66ab9c75c042ef8d9c3fec1bc318fe741bcddec8e904b63", func := "loop.example/g01377/laws.FnExactTastersFor", spec := "fnExactTastersFor", apart := false, narrowed := true }
def FnExactTastersForUptoSaid : Prop := fnExactTastersForUptoRow.holds Try.pinned (OpenSpec.upto fnExactTastersForSpec)

/-- 'laws.FnExactRoundsFor', WHERE WHAT IT READS IS OF BULK AT MOST 1048576: true; the input reads as it did. -/
def fnExactRoundsForUptoRow : OpenClaim := { program := "ytipgbhjioffbnaa", sum := "a02a8df8098d31faa66ab9c75c042ef8d9c3fec1bc318fe741bcddec8e904b63", func := "loop.example/g01377/laws.FnExactRoundsFor", spec := "fnExactRoundsFor", apart := false, narrowed := true }
def FnExactRoundsForUptoSaid : Prop := fnExactRoundsForUptoRow.holds Try.pinned (OpenSpec.upto fnExactRoundsForSpec)

/-- 'laws.FnExactBitterRounds', WHERE WHAT IT READS IS OF BULK AT MOST 1048576: true; the input reads as it did. -/
def fnExactBitterRoundsUptoRow : OpenClaim := { program := "ytipgbhjioffbnaa", sum := "a02a8df8098d31faa66ab9c75c042ef8d9c3fec1bc318fe741bcddec8e904b63", func := "loop.example/g01377/laws.FnExactBitterRounds", spec := "fnExactBitterRounds", apart := false, narrowed := true }
def FnExactBitterRoundsUptoSaid : Prop := fnExactBitterRoundsUptoRow.holds Try.pinned (OpenSpec.upto fnExactBitterRoundsSpec)

/-- 'laws.FnExactSuspectsAfter', WHERE WHAT IT READS IS OF BULK AT MOST 1048576: true; the input reads as it did. -/
def fnExactSuspectsAfterUptoRow : OpenClaim := { program := "ytipgbhjioffbnaa", sum := "a02a8df8098d31faa66ab9c75c042ef8d9c3fec1bc318fe741bcddec8e904b63", func := "loop.example/g01377/laws.FnExactSuspectsAfter", spec := "fnExactSuspectsAfter", apart := false, narrowed := true }
def FnExactSuspectsAfterUptoSaid : Prop := fnExactSuspectsAfterUptoRow.holds Try.pinned (OpenSpec.upto fnExactSuspectsAfterSpec)

/-- 'laws.FnExactCodeOfPraline', WHERE WHAT IT READS IS OF BULK AT MOST 1048576: true; the input reads as it did. -/
def fnExactCodeOfPralineUptoRow : OpenClaim := { program := "ytipgbhjioffbnaa", sum := "a02a8df8098d31faa66ab9c75c042ef8d9c3fec1bc318fe741bcddec8e904b63", func := "loop.example/g01377/laws.FnExactCodeOfPraline", spec := "fnExactCodeOfPraline", apart := false, narrowed := true }
def FnExactCodeOfPralineUptoSaid : Prop := fnExactCodeOfPralineUptoRow.holds Try.pinned (OpenSpec.upto fnExactCodeOfPralineSpec)

end Rows
end Go.Proofs.Ytipgbhjioffbnaa
