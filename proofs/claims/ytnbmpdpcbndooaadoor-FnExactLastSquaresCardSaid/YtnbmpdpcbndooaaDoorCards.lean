/-
  DERIVED. GIVEN WITH THE SEED: THE CARDS: each row of YtnbmpdpcbndooaaDoorRows.lean that lists a variable, with what it lists TIED to the program's text (the seventh form; the later family's looks); each row that meets fmt, with fmt's text TOLD by the authors' own Lean function (tested against real Go, not proved from fmt's source: count such statements apart). THE CARD IS WHAT COUNTS. Prove the row's statement (the work); the ties are given (YtnbmpdpcbndooaaDoorTie.lean); close each card by the builder's one call (the guide's Derived/Test/ToyasCard.lean, 'card_holds'). Laid BY PROGRAM, IN A SANDBOX (cutbox-door.mjs). By AI agents, Wed Nov 11 2026. No macro, syntax, notation, axiom, sorry.
-/
import Derived.Test.YtnbmpdpcbndooaaDoorRows
import GoSem.ClaimSeven
namespace Go.Proofs.YtnbmpdpcbndooaaDoor
namespace Rows

/-- THE TIED CARD OF 'laws.FnExactMeltHour'. -/
def fnExactMeltHourCard : Claim7 := { stood := { row := fnExactMeltHourRow, standIns := [], harness := (true, "9cb41d372b10fb2270d770aabd9ca9a264d62e0cec585021ef68e17fa5648706"), looks := false }, kinds := [], alts := [], laidByText := true, laidKinds := [.data, .pinned], laidTests := true, laidLooks := .later }
def FnExactMeltHourCardSaid : Prop := Claim7.holds Tryd.pinned (.plain (OpenSpec.ofChange fnExactMeltHourSpec)) fnExactMeltHourCard

/-- THE TIED CARD OF 'laws.FnExactMeltsAt'. -/
def fnExactMeltsAtCard : Claim7 := { stood := { row := fnExactMeltsAtRow, standIns := [], harness := (true, "9cb41d372b10fb2270d770aabd9ca9a264d62e0cec585021ef68e17fa5648706"), looks := false }, kinds := [], alts := [], laidByText := true, laidKinds := [.data, .pinned], laidTests := true, laidLooks := .later }
def FnExactMeltsAtCardSaid : Prop := Claim7.holds Tryd.pinned (.plain (OpenSpec.ofChange fnExactMeltsAtSpec)) fnExactMeltsAtCard

/-- THE TIED CARD OF 'laws.FnExactTabletAfter'. -/
def fnExactTabletAfterCard : Claim7 := { stood := { row := fnExactTabletAfterRow, standIns := [], harness := (true, "9cb41d372b10fb2270d770aabd9ca9a264d62e0cec585021ef68e17fa5648706"), looks := false }, kinds := [], alts := [], laidByText := true, laidKinds := [.data, .pinned], laidTests := true, laidLooks := .later }
def FnExactTabletAfterCardSaid : Prop := Claim7.holds Tryd.pinned (.plain (OpenSpec.ofChange fnExactTabletAfterSpec)) fnExactTabletAfterCard

/-- THE TIED CARD OF 'laws.FnExactEverLeft'. -/
def fnExactEverLeftCard : Claim7 := { stood := { row := fnExactEverLeftRow, standIns := [], harness := (true, "9cb41d372b10fb2270d770aabd9ca9a264d62e0cec585021ef68e17fa5648706"), looks := false }, kinds := [], alts := [], laidByText := true, laidKinds := [.data, .pinned], laidTests := true, laidLooks := .later }
def FnExactEverLeftCardSaid : Prop := Claim7.holds Tryd.pinned (.plain (OpenSpec.ofChange fnExactEverLeftSpec)) fnExactEverLeftCard

/-- THE TIED CARD OF 'laws.FnExactMeltedEach'. -/
def fnExactMeltedEachCard : Claim7 := { stood := { row := fnExactMeltedEachRow, standIns := [], harness := (true, "9cb41d372b10fb2270d770aabd9ca9a264d62e0cec585021ef68e17fa5648706"), looks := false }, kinds := [], alts := [], laidByText := true, laidKinds := [.data, .pinned], laidTests := true, laidLooks := .later }
def FnExactMeltedEachCardSaid : Prop := Claim7.holds Tryd.pinned (.plain (OpenSpec.ofChange fnExactMeltedEachSpec)) fnExactMeltedEachCard

/-- THE TIED CARD OF 'laws.FnExactLeftOnTablet'. -/
def fnExactLeftOnTabletCard : Claim7 := { stood := { row := fnExactLeftOnTabletRow, standIns := [], harness := (true, "9cb41d372b10fb2270d770aabd9ca9a264d62e0cec585021ef68e17fa5648706"), looks := false }, kinds := [], alts := [], laidByText := true, laidKinds := [.data, .pinned], laidTests := true, laidLooks := .later }
def FnExactLeftOnTabletCardSaid : Prop := Claim7.holds Tryd.pinned (.plain (OpenSpec.ofChange fnExactLeftOnTabletSpec)) fnExactLeftOnTabletCard

/-- THE TIED CARD OF 'laws.FnExactLastSquares'. -/
def fnExactLastSquaresCard : Claim7 := { stood := { row := fnExactLastSquaresRow, standIns := [], harness := (true, "9cb41d372b10fb2270d770aabd9ca9a264d62e0cec585021ef68e17fa5648706"), looks := false }, kinds := [], alts := [], laidByText := true, laidKinds := [.data, .pinned], laidTests := true, laidLooks := .later }
def FnExactLastSquaresCardSaid : Prop := Claim7.holds Tryd.pinned (.plain (OpenSpec.ofChange fnExactLastSquaresSpec)) fnExactLastSquaresCard

/-- THE SECOND FORM's CARD OF 'laws.FnExactMeltHour'. -/
def fnExactMeltHourUptoCard : Claim7 := { stood := { row := fnExactMeltHourUptoRow, standIns := [], harness := (true, "9cb41d372b10fb2270d770aabd9ca9a264d62e0cec585021ef68e17fa5648706"), looks := false }, kinds := [], alts := [], laidByText := true, laidKinds := [.data, .pinned], laidTests := true, laidLooks := .later }
def FnExactMeltHourUptoCardSaid : Prop := Claim7.holds Tryd.pinned (.plain (OpenSpec.upto fnExactMeltHourSpec)) fnExactMeltHourUptoCard

/-- THE SECOND FORM's CARD OF 'laws.FnExactMeltsAt'. -/
def fnExactMeltsAtUptoCard : Claim7 := { stood := { row := fnExactMeltsAtUptoRow, standIns := [], harness := (true, "9cb41d372b10fb2270d770aabd9ca9a264d62e0cec585021ef68e17fa5648706"), looks := false }, kinds := [], alts := [], laidByText := true, laidKinds := [.data, .pinned], laidTests := true, laidLooks := .later }
def FnExactMeltsAtUptoCardSaid : Prop := Claim7.holds Tryd.pinned (.plain (OpenSpec.upto fnExactMeltsAtSpec)) fnExactMeltsAtUptoCard

/-- THE SECOND FORM's CARD OF 'laws.FnExactTabletAfter'. -/
def fnExactTabletAfterUptoCard : Claim7 := { stood := { row := fnExactTabletAfterUptoRow, standIns := [], harness := (true, "9cb41d372b10fb2270d770aabd9ca9a264d62e0cec585021ef68e17fa5648706"), looks := false }, kinds := [], alts := [], laidByText := true, laidKinds := [.data, .pinned], laidTests := true, laidLooks := .later }
def FnExactTabletAfterUptoCardSaid : Prop := Claim7.holds Tryd.pinned (.plain (OpenSpec.upto fnExactTabletAfterSpec)) fnExactTabletAfterUptoCard

/-- THE SECOND FORM's CARD OF 'laws.FnExactEverLeft'. -/
def fnExactEverLeftUptoCard : Claim7 := { stood := { row := fnExactEverLeftUptoRow, standIns := [], harness := (true, "9cb41d372b10fb2270d770aabd9ca9a264d62e0cec585021ef68e17fa5648706"), looks := false }, kinds := [], alts := [], laidByText := true, laidKinds := [.data, .pinned], laidTests := true, laidLooks := .later }
def FnExactEverLeftUptoCardSaid : Prop := Claim7.holds Tryd.pinned (.plain (OpenSpec.upto fnExactEverLeftSpec)) fnExactEverLeftUptoCard

/-- THE SECOND FORM's CARD OF 'laws.FnExactMeltedEach'. -/
def fnExactMeltedEachUptoCard : Claim7 := { stood := { row := fnExactMeltedEachUptoRow, standIns := [], harness := (true, "9cb41d372b10fb2270d770aabd9ca9a264d62e0cec585021ef68e17fa5648706"), looks := false }, kinds := [], alts := [], laidByText := true, laidKinds := [.data, .pinned], laidTests := true, laidLooks := .later }
def FnExactMeltedEachUptoCardSaid : Prop := Claim7.holds Tryd.pinned (.plain (OpenSpec.upto fnExactMeltedEachSpec)) fnExactMeltedEachUptoCard

/-- THE SECOND FORM's CARD OF 'laws.FnExactLeftOnTablet'. -/
def fnExactLeftOnTabletUptoCard : Claim7 := { stood := { row := fnExactLeftOnTabletUptoRow, standIns := [], harness := (true, "9cb41d372b10fb2270d770aabd9ca9a264d62e0cec585021ef68e17fa5648706"), looks := false }, kinds := [], alts := [], laidByText := true, laidKinds := [.data, .pinned], laidTests := true, laidLooks := .later }
def FnExactLeftOnTabletUptoCardSaid : Prop := Claim7.holds Tryd.pinned (.plain (OpenSpec.upto fnExactLeftOnTabletSpec)) fnExactLeftOnTabletUptoCard

/-- THE SECOND FORM's CARD OF 'laws.FnExactLastSquares'. -/
def fnExactLastSquaresUptoCard : Claim7 := { stood := { row := fnExactLastSquaresUptoRow, standIns := [], harness := (true, "9cb41d372b10fb2270d770aabd9ca9a264d62e0cec585021ef68e17fa5648706"), looks := false }, kinds := [], alts := [], laidByText := true, laidKinds := [.data, .pinned], laidTests := true, laidLooks := .later }
def FnExactLastSquaresUptoCardSaid : Prop := Claim7.holds Tryd.pinned (.plain (OpenSpec.upto fnExactLastSquaresSpec)) fnExactLastSquaresUptoCard
end Rows
end Go.Proofs.YtnbmpdpcbndooaaDoor
