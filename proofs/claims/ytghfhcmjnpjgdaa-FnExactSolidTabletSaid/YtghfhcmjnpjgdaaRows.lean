/-
  No cell of these rows narrows 'for every input' (looked for: loops, veiled, ifaces, maps, wideKeys, modest, calm, conditions, laid).
  DERIVED. THE GIVEN ROWS OF THIS SEAT. 3 by the template 'for every input the law returns true; each argument reads behind the call as it read before'; 0 by the template 'total and deterministic' (their statements: YtghfhcmjnpjgdaaTotals.lean).
  GIVEN WITH THE SEED: the statements are not yours to turn. If you find one false, say at which input.
  Laid BY PROGRAM, IN A SANDBOX (cutbox-rows.mjs): the forced cells as the released guide's own fill.sh prints them over the translation 1fdf01c7e6c67c0f… (all of the seat's roots in one cut). By AI agents, Wed Nov 11 2026. No macro, syntax, notation, axiom, sorry.
-/
import Derived.Test.YtghfhcmjnpjgdaaChecked
import GoSem.Claim
import GoSem.ClaimJoined
import GoSem.ClaimMapViews
import Derived.JoinedTies
import Derived.KernelRfl
namespace Go.Proofs.Ytghfhcmjnpjgdaa
/- THE CELL 'sum', in the pinned program and in every row, IS THE sha256 OF THE DUMP (.gsa) THAT YtghfhcmjnpjgdaaProg.lean LOADS. Nothing in Lean hashes anything: it is a label: what it is worth is what the hold of that sum in a sandbox is worth. -/
noncomputable def Try.pinned : Pinned := { name := "ytghfhcmjnpjgdaa", sum := "1fdf01c7e6c67c0ffbec85d48b9a06db26bf80deccf7924f5edefa773c0b863f", checked := Try.checked }
namespace Rows
def none {H : Type} : Left H := { results := [], args := [] }

/-- 'laws.FnExactPralineOfCode': WHATEVER THE INPUT: true; the input reads as it did. -/
def fnExactPralineOfCodeSpec : ChangeSpec := { name := "fnExactPralineOfCode", fn := fun _ => fun
  | [d1, d2, d3, d4] => { results := [.lit (.bool true)], args := [d1, d2, d3, d4] }
  | _ => none }
def fnExactPralineOfCodeRow : OpenClaim := { program := "ytghfhcmjnpjgdaa", sum := "1fdf01c7e6c67c0ffbec85d48b9a06db26bf80deccf7924f5edefa773c0b863f", func := "loop.example/g01377/laws.FnExactPralineOfCode", spec := "fnExactPralineOfCode", unfollowed := true, recurses := true, apart := false }
def FnExactPralineOfCodeSaid : Prop := fnExactPralineOfCodeRow.holds Try.pinned (OpenSpec.ofChange fnExactPralineOfCodeSpec)

/-- ITS FALSE NEIGHBOUR: 'it returns false'. Refute it at one input. -/
def fnExactPralineOfCodeWrong : ChangeSpec := { name := "fnExactPralineOfCode", fn := fun _ => fun
  | [d1, d2, d3, d4] => { results := [.lit (.bool false)], args := [d1, d2, d3, d4] }
  | _ => none }
def FnExactPralineOfCodeWrongFalsely : Prop := fnExactPralineOfCodeRow.holds Try.pinned (OpenSpec.ofChange fnExactPralineOfCodeWrong)

/-- 'laws.FnExactTastedBy': WHATEVER THE INPUT: true; the input reads as it did. -/
def fnExactTastedBySpec : ChangeSpec := { name := "fnExactTastedBy", fn := fun _ => fun
  | [d1, d2, d3, d4, d5] => { results := [.lit (.bool true)], args := [d1, d2, d3, d4, d5] }
  | _ => none }
def fnExactTastedByRow : OpenClaim := { program := "ytghfhcmjnpjgdaa", sum := "1fdf01c7e6c67c0ffbec85d48b9a06db26bf80deccf7924f5edefa773c0b863f", func := "loop.example/g01377/laws.FnExactTastedBy", spec := "fnExactTastedBy", apart := false }
def FnExactTastedBySaid : Prop := fnExactTastedByRow.holds Try.pinned (OpenSpec.ofChange fnExactTastedBySpec)

/-- ITS FALSE NEIGHBOUR: 'it returns false'. Refute it at one input. -/
def fnExactTastedByWrong : ChangeSpec := { name := "fnExactTastedBy", fn := fun _ => fun
  | [d1, d2, d3, d4, d5] => { results := [.lit (.bool false)], args := [d1, d2, d3, d4, d5] }
  | _ => none }
def FnExactTastedByWrongFalsely : Prop := fnExactTastedByRow.holds Try.pinned (OpenSpec.ofChange fnExactTastedByWrong)

/-- 'laws.FnExactSolidTablet': WHATEVER THE INPUT: true; the input reads as it did. -/
def fnExactSolidTabletSpec : ChangeSpec := { name := "fnExactSolidTablet", fn := fun _ => fun
  | [d1, d2] => { results := [.lit (.bool true)], args := [d1, d2] }
  | _ => none }
def fnExactSolidTabletRow : OpenClaim := { program := "ytghfhcmjnpjgdaa", sum := "1fdf01c7e6c67c0ffbec85d48b9a06db26bf80deccf7924f5edefa773c0b863f", func := "loop.example/g01377/laws.FnExactSolidTablet", spec := "fnExactSolidTablet", inPlace := ["internal/abi.NoEscape", "internal/bytealg.MakeNoZero"], apart := false }
def FnExactSolidTabletSaid : Prop := fnExactSolidTabletRow.holds Try.pinned (OpenSpec.ofChange fnExactSolidTabletSpec)

/-- ITS FALSE NEIGHBOUR: 'it returns false'. Refute it at one input. -/
def fnExactSolidTabletWrong : ChangeSpec := { name := "fnExactSolidTablet", fn := fun _ => fun
  | [d1, d2] => { results := [.lit (.bool false)], args := [d1, d2] }
  | _ => none }
def FnExactSolidTabletWrongFalsely : Prop := fnExactSolidTabletRow.holds Try.pinned (OpenSpec.ofChange fnExactSolidTabletWrong)

/- THE SECOND FORM. 'bulk': how many values and letters a reading holds, each counted each time it is reached (what is shared counts as often as it is met; a slice's spare places count too). A statement '..UptoSaid' is the law's where the arguments, and the package variables that the reading takes, are together of bulk at most 1048576: NARROWER than '..Said'. Prove '..Said' where nothing that the law and all that it calls make is longer than what came in: it says more and counts as full. Else prove '..UptoSaid'. A law counts once. -/
mutual
def uptoBulk {H : Type} : DataW H → Nat
  | .lit (.string bytes) => bytes.length + 1
  | .lit _ => 1
  | .nil => 1
  | .ptr d => uptoBulk d + 1
  | .slice elems spare => uptoBulkAll elems + uptoBulkAll spare + 1
  | .agg parts => uptoBulkAll parts + 1
  | .iface _ d => uptoBulk d + 1
  | .map entries => uptoBulkEntries entries + 1
  | .held _ => 1
def uptoBulkAll {H : Type} : List (DataW H) → Nat
  | [] => 0
  | d :: r => uptoBulk d + uptoBulkAll r
def uptoBulkEntries {H : Type} : List (Lit × DataW H) → Nat
  | [] => 0
  | x :: r => uptoBulkEntry x + uptoBulkEntries r
def uptoBulkEntry {H : Type} : Lit × DataW H → Nat
  | (.string bytes, d) => bytes.length + uptoBulk d + 1
  | (_, d) => uptoBulk d + 1
 end
def uptoSmall : (H : Type) → List (DataW H) → Bool := fun _ ds => decide (uptoBulkAll ds ≤ 1048576)
def OpenSpec.upto (s : _root_.Go.ChangeSpec) : _root_.Go.OpenSpec := { _root_.Go.OpenSpec.ofChange s with cond := some uptoSmall }

/-- 'laws.FnExactPralineOfCode', WHERE WHAT IT READS IS OF BULK AT MOST 1048576: true; the input reads as it did. -/
def fnExactPralineOfCodeUptoRow : OpenClaim := { program := "ytghfhcmjnpjgdaa", sum := "1fdf01c7e6c67c0ffbec85d48b9a06db26bf80deccf7924f5edefa773c0b863f", func := "loop.example/g01377/laws.FnExactPralineOfCode", spec := "fnExactPralineOfCode", unfollowed := true, recurses := true, apart := false, narrowed := true }
def FnExactPralineOfCodeUptoSaid : Prop := fnExactPralineOfCodeUptoRow.holds Try.pinned (OpenSpec.upto fnExactPralineOfCodeSpec)

/-- 'laws.FnExactTastedBy', WHERE WHAT IT READS IS OF BULK AT MOST 1048576: true; the input reads as it did. -/
def fnExactTastedByUptoRow : OpenClaim := { program := "ytghfhcmjnpjgdaa", sum := "1fdf01c7e6c67c0ffbec85d48b9a06db26bf80deccf7924f5edefa773c0b863f", func := "loop.example/g01377/laws.FnExactTastedBy", spec := "fnExactTastedBy", apart := false, narrowed := true }
def FnExactTastedByUptoSaid : Prop := fnExactTastedByUptoRow.holds Try.pinned (OpenSpec.upto fnExactTastedBySpec)

/-- 'laws.FnExactSolidTablet', WHERE WHAT IT READS IS OF BULK AT MOST 1048576: true; the input reads as it did. -/
def fnExactSolidTabletUptoRow : OpenClaim := { program := "ytghfhcmjnpjgdaa", sum := "1fdf01c7e6c67c0ffbec85d48b9a06db26bf80deccf7924f5edefa773c0b863f", func := "loop.example/g01377/laws.FnExactSolidTablet", spec := "fnExactSolidTablet", inPlace := ["internal/abi.NoEscape", "internal/bytealg.MakeNoZero"], apart := false, narrowed := true }
def FnExactSolidTabletUptoSaid : Prop := fnExactSolidTabletUptoRow.holds Try.pinned (OpenSpec.upto fnExactSolidTabletSpec)

end Rows
end Go.Proofs.Ytghfhcmjnpjgdaa
