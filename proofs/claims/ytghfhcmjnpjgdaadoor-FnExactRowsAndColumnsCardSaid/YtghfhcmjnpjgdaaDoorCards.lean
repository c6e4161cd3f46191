/-
  DERIVED. GIVEN WITH THE SEED: THE CARDS: each row of YtghfhcmjnpjgdaaDoorRows.lean that lists a variable, with what it lists TIED to the program's text (the seventh form; the later family's looks); each row that meets fmt, with fmt's text TOLD by the authors' own Lean function (tested against real Go, not proved from fmt's source: count such statements apart). THE CARD IS WHAT COUNTS. Prove the row's statement (the work); the ties are given (YtghfhcmjnpjgdaaDoorTie.lean); close each card by the builder's one call (the guide's Derived/Test/ToyasCard.lean, 'card_holds'). Laid BY PROGRAM, IN A SANDBOX (cutbox-door.mjs). By AI agents, Wed Nov 11 2026. No macro, syntax, notation, axiom, sorry.
-/
import Derived.Test.YtghfhcmjnpjgdaaDoorRows
import GoSem.ClaimSeven
namespace Go.Proofs.YtghfhcmjnpjgdaaDoor
namespace Rows

/-- THE TIED CARD OF 'laws.FnExactTestsOfBox'. -/
def fnExactTestsOfBoxCard : Claim7 := { stood := { row := fnExactTestsOfBoxRow, standIns := [], harness := (true, "5361fb0dd8defa6368f9eb9c6bea2132f30231a4d2f4686c78e9892ff49facf5"), looks := false }, kinds := [], alts := [], laidByText := true, laidKinds := [.data, .pinned], laidTests := true, laidLooks := .later }
def FnExactTestsOfBoxCardSaid : Prop := Claim7.holds Tryd.pinned (.plain (OpenSpec.ofChange fnExactTestsOfBoxSpec)) fnExactTestsOfBoxCard

/-- THE TIED CARD OF 'laws.FnExactBestGroupOf'. -/
def fnExactBestGroupOfCard : Claim7 := { stood := { row := fnExactBestGroupOfRow, standIns := [], harness := (true, "5361fb0dd8defa6368f9eb9c6bea2132f30231a4d2f4686c78e9892ff49facf5"), looks := false }, kinds := [], alts := [], laidByText := true, laidKinds := [.data, .pinned], laidTests := true, laidLooks := .later }
def FnExactBestGroupOfCardSaid : Prop := Claim7.holds Tryd.pinned (.plain (OpenSpec.ofChange fnExactBestGroupOfSpec)) fnExactBestGroupOfCard

/-- THE TIED CARD OF 'laws.FnExactRowsAndColumns'. -/
def fnExactRowsAndColumnsCard : Claim7 := { stood := { row := fnExactRowsAndColumnsRow, standIns := [], harness := (true, "5361fb0dd8defa6368f9eb9c6bea2132f30231a4d2f4686c78e9892ff49facf5"), looks := false }, kinds := [], alts := [], laidByText := true, laidKinds := [.data, .pinned], laidTests := true, laidLooks := .later }
def FnExactRowsAndColumnsCardSaid : Prop := Claim7.holds Tryd.pinned (.plain (OpenSpec.ofChange fnExactRowsAndColumnsSpec)) fnExactRowsAndColumnsCard

/-- THE TIED CARD OF 'laws.FnExactIsTablet'. -/
def fnExactIsTabletCard : Claim7 := { stood := { row := fnExactIsTabletRow, standIns := [], harness := (true, "5361fb0dd8defa6368f9eb9c6bea2132f30231a4d2f4686c78e9892ff49facf5"), looks := false }, kinds := [], alts := [], laidByText := true, laidKinds := [.data, .pinned], laidTests := true, laidLooks := .later }
def FnExactIsTabletCardSaid : Prop := Claim7.holds Tryd.pinned (.plain (OpenSpec.ofChange fnExactIsTabletSpec)) fnExactIsTabletCard

/-- THE TIED CARD OF 'laws.FnExactOpenSides'. -/
def fnExactOpenSidesCard : Claim7 := { stood := { row := fnExactOpenSidesRow, standIns := [], harness := (true, "5361fb0dd8defa6368f9eb9c6bea2132f30231a4d2f4686c78e9892ff49facf5"), looks := false }, kinds := [], alts := [], laidByText := true, laidKinds := [.data, .pinned], laidTests := true, laidLooks := .later }
def FnExactOpenSidesCardSaid : Prop := Claim7.holds Tryd.pinned (.plain (OpenSpec.ofChange fnExactOpenSidesSpec)) fnExactOpenSidesCard

/-- THE TIED CARD OF 'laws.FnExactTurnTablet'. -/
def fnExactTurnTabletCard : Claim7 := { stood := { row := fnExactTurnTabletRow, standIns := [], harness := (true, "5361fb0dd8defa6368f9eb9c6bea2132f30231a4d2f4686c78e9892ff49facf5"), looks := false }, kinds := [], alts := [], laidByText := true, laidKinds := [.data, .pinned], laidTests := true, laidLooks := .later }
def FnExactTurnTabletCardSaid : Prop := Claim7.holds Tryd.pinned (.plain (OpenSpec.ofChange fnExactTurnTabletSpec)) fnExactTurnTabletCard

/-- THE TIED CARD OF 'laws.FnExactBiteSquare'. -/
def fnExactBiteSquareCard : Claim7 := { stood := { row := fnExactBiteSquareRow, standIns := [], harness := (true, "5361fb0dd8defa6368f9eb9c6bea2132f30231a4d2f4686c78e9892ff49facf5"), looks := false }, kinds := [], alts := [], laidByText := true, laidKinds := [.data, .pinned], laidTests := true, laidLooks := .later }
def FnExactBiteSquareCardSaid : Prop := Claim7.holds Tryd.pinned (.plain (OpenSpec.ofChange fnExactBiteSquareSpec)) fnExactBiteSquareCard

/-- THE TIED CARD OF 'laws.FnExactTabletText'. -/
def fnExactTabletTextCard : Claim7 := { stood := { row := fnExactTabletTextRow, standIns := [], harness := (true, "5361fb0dd8defa6368f9eb9c6bea2132f30231a4d2f4686c78e9892ff49facf5"), looks := false }, kinds := [], alts := [], laidByText := true, laidKinds := [.data, .pinned], laidTests := true, laidLooks := .later }
def FnExactTabletTextCardSaid : Prop := Claim7.holds Tryd.pinned (.plain (OpenSpec.ofChange fnExactTabletTextSpec)) fnExactTabletTextCard

/-- THE TIED CARD OF 'laws.FnExactParseTablet'. -/
def fnExactParseTabletCard : Claim7 := { stood := { row := fnExactParseTabletRow, standIns := [], harness := (true, "5361fb0dd8defa6368f9eb9c6bea2132f30231a4d2f4686c78e9892ff49facf5"), looks := false }, kinds := [], alts := [], laidByText := true, laidKinds := [.data, .pinned], laidTests := true, laidLooks := .later }
def FnExactParseTabletCardSaid : Prop := Claim7.holds Tryd.pinned (.plain (OpenSpec.ofChange fnExactParseTabletSpec)) fnExactParseTabletCard

/-- THE SECOND FORM's CARD OF 'laws.FnExactTestsOfBox'. -/
def fnExactTestsOfBoxUptoCard : Claim7 := { stood := { row := fnExactTestsOfBoxUptoRow, standIns := [], harness := (true, "5361fb0dd8defa6368f9eb9c6bea2132f30231a4d2f4686c78e9892ff49facf5"), looks := false }, kinds := [], alts := [], laidByText := true, laidKinds := [.data, .pinned], laidTests := true, laidLooks := .later }
def FnExactTestsOfBoxUptoCardSaid : Prop := Claim7.holds Tryd.pinned (.plain (OpenSpec.upto fnExactTestsOfBoxSpec)) fnExactTestsOfBoxUptoCard

/-- THE SECOND FORM's CARD OF 'laws.FnExactBestGroupOf'. -/
def fnExactBestGroupOfUptoCard : Claim7 := { stood := { row := fnExactBestGroupOfUptoRow, standIns := [], harness := (true, "5361fb0dd8defa6368f9eb9c6bea2132f30231a4d2f4686c78e9892ff49facf5"), looks := false }, kinds := [], alts := [], laidByText := true, laidKinds := [.data, .pinned], laidTests := true, laidLooks := .later }
def FnExactBestGroupOfUptoCardSaid : Prop := Claim7.holds Tryd.pinned (.plain (OpenSpec.upto fnExactBestGroupOfSpec)) fnExactBestGroupOfUptoCard

/-- THE SECOND FORM's CARD OF 'laws.FnExactRowsAndColumns'. -/
def fnExactRowsAndColumnsUptoCard : Claim7 := { stood := { row := fnExactRowsAndColumnsUptoRow, standIns := [], harness := (true, "5361fb0dd8defa6368f9eb9c6bea2132f30231a4d2f4686c78e9892ff49facf5"), looks := false }, kinds := [], alts := [], laidByText := true, laidKinds := [.data, .pinned], laidTests := true, laidLooks := .later }
def FnExactRowsAndColumnsUptoCardSaid : Prop := Claim7.holds Tryd.pinned (.plain (OpenSpec.upto fnExactRowsAndColumnsSpec)) fnExactRowsAndColumnsUptoCard

/-- THE SECOND FORM's CARD OF 'laws.FnExactIsTablet'. -/
def fnExactIsTabletUptoCard : Claim7 := { stood := { row := fnExactIsTabletUptoRow, standIns := [], harness := (true, "5361fb0dd8defa6368f9eb9c6bea2132f30231a4d2f4686c78e9892ff49facf5"), looks := false }, kinds := [], alts := [], laidByText := true, laidKinds := [.data, .pinned], laidTests := true, laidLooks := .later }
def FnExactIsTabletUptoCardSaid : Prop := Claim7.holds Tryd.pinned (.plain (OpenSpec.upto fnExactIsTabletSpec)) fnExactIsTabletUptoCard

/-- THE SECOND FORM's CARD OF 'laws.FnExactOpenSides'. -/
def fnExactOpenSidesUptoCard : Claim7 := { stood := { row := fnExactOpenSidesUptoRow, standIns := [], harness := (true, "5361fb0dd8defa6368f9eb9c6bea2132f30231a4d2f4686c78e9892ff49facf5"), looks := false }, kinds := [], alts := [], laidByText := true, laidKinds := [.data, .pinned], laidTests := true, laidLooks := .later }
def FnExactOpenSidesUptoCardSaid : Prop := Claim7.holds Tryd.pinned (.plain (OpenSpec.upto fnExactOpenSidesSpec)) fnExactOpenSidesUptoCard

/-- THE SECOND FORM's CARD OF 'laws.FnExactTurnTablet'. -/
def fnExactTurnTabletUptoCard : Claim7 := { stood := { row := fnExactTurnTabletUptoRow, standIns := [], harness := (true, "5361fb0dd8defa6368f9eb9c6bea2132f30231a4d2f4686c78e9892ff49facf5"), looks := false }, kinds := [], alts := [], laidByText := true, laidKinds := [.data, .pinned], laidTests := true, laidLooks := .later }
def FnExactTurnTabletUptoCardSaid : Prop := Claim7.holds Tryd.pinned (.plain (OpenSpec.upto fnExactTurnTabletSpec)) fnExactTurnTabletUptoCard

/-- THE SECOND FORM's CARD OF 'laws.FnExactBiteSquare'. -/
def fnExactBiteSquareUptoCard : Claim7 := { stood := { row := fnExactBiteSquareUptoRow, standIns := [], harness := (true, "5361fb0dd8defa6368f9eb9c6bea2132f30231a4d2f4686c78e9892ff49facf5"), looks := false }, kinds := [], alts := [], laidByText := true, laidKinds := [.data, .pinned], laidTests := true, laidLooks := .later }
def FnExactBiteSquareUptoCardSaid : Prop := Claim7.holds Tryd.pinned (.plain (OpenSpec.upto fnExactBiteSquareSpec)) fnExactBiteSquareUptoCard

/-- THE SECOND FORM's CARD OF 'laws.FnExactTabletText'. -/
def fnExactTabletTextUptoCard : Claim7 := { stood := { row := fnExactTabletTextUptoRow, standIns := [], harness := (true, "5361fb0dd8defa6368f9eb9c6bea2132f30231a4d2f4686c78e9892ff49facf5"), looks := false }, kinds := [], alts := [], laidByText := true, laidKinds := [.data, .pinned], laidTests := true, laidLooks := .later }
def FnExactTabletTextUptoCardSaid : Prop := Claim7.holds Tryd.pinned (.plain (OpenSpec.upto fnExactTabletTextSpec)) fnExactTabletTextUptoCard

/-- THE SECOND FORM's CARD OF 'laws.FnExactParseTablet'. -/
def fnExactParseTabletUptoCard : Claim7 := { stood := { row := fnExactParseTabletUptoRow, standIns := [], harness := (true, "5361fb0dd8defa6368f9eb9c6bea2132f30231a4d2f4686c78e9892ff49facf5"), looks := false }, kinds := [], alts := [], laidByText := true, laidKinds := [.data, .pinned], laidTests := true, laidLooks := .later }
def FnExactParseTabletUptoCardSaid : Prop := Claim7.holds Tryd.pinned (.plain (OpenSpec.upto fnExactParseTabletSpec)) fnExactParseTabletUptoCard
end Rows
end Go.Proofs.YtghfhcmjnpjgdaaDoor
