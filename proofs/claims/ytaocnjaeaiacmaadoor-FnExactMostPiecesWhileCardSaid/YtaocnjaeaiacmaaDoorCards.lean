/-
  DERIVED. GIVEN WITH THE SEED: THE CARDS: each row of YtaocnjaeaiacmaaDoorRows.lean that lists a variable, with what it lists TIED to the program's text (the seventh form; the later family's looks); each row that meets fmt, with fmt's text TOLD by the authors' own Lean function (tested against real Go, not proved from fmt's source: count such statements apart). THE CARD IS WHAT COUNTS. Prove the row's statement (the work); the ties are given (YtaocnjaeaiacmaaDoorTie.lean); close each card by the builder's one call (the guide's Derived/Test/ToyasCard.lean, 'card_holds'). Laid BY PROGRAM, IN A SANDBOX (cutbox-door.mjs). By AI agents, Wed Nov 11 2026. No macro, syntax, notation, axiom, sorry.
-/
import Derived.Test.YtaocnjaeaiacmaaDoorRows
import GoSem.ClaimSeven
namespace Go.Proofs.YtaocnjaeaiacmaaDoor
namespace Rows

/-- THE TIED CARD OF 'laws.FnExactSunHour'. -/
def fnExactSunHourCard : Claim7 := { stood := { row := fnExactSunHourRow, standIns := [], harness := (true, "e6a51fe456833173f952a316106d52134c471fe113fc8d8dff2631160b773e08"), looks := false }, kinds := [], alts := [], laidByText := true, laidKinds := [.data, .pinned], laidTests := true, laidLooks := .later }
def FnExactSunHourCardSaid : Prop := Claim7.holds Tryd.pinned (.plain (OpenSpec.ofChange fnExactSunHourSpec)) fnExactSunHourCard

/-- THE TIED CARD OF 'laws.FnExactHoursBySun'. -/
def fnExactHoursBySunCard : Claim7 := { stood := { row := fnExactHoursBySunRow, standIns := [], harness := (true, "e6a51fe456833173f952a316106d52134c471fe113fc8d8dff2631160b773e08"), looks := false }, kinds := [], alts := [], laidByText := true, laidKinds := [.data, .pinned], laidTests := true, laidLooks := .later }
def FnExactHoursBySunCardSaid : Prop := Claim7.holds Tryd.pinned (.plain (OpenSpec.ofChange fnExactHoursBySunSpec)) fnExactHoursBySunCard

/-- THE TIED CARD OF 'laws.FnExactHoursToMelt'. -/
def fnExactHoursToMeltCard : Claim7 := { stood := { row := fnExactHoursToMeltRow, standIns := [], harness := (true, "e6a51fe456833173f952a316106d52134c471fe113fc8d8dff2631160b773e08"), looks := false }, kinds := [], alts := [], laidByText := true, laidKinds := [.data, .pinned], laidTests := true, laidLooks := .later }
def FnExactHoursToMeltCardSaid : Prop := Claim7.holds Tryd.pinned (.plain (OpenSpec.ofChange fnExactHoursToMeltSpec)) fnExactHoursToMeltCard

/-- THE TIED CARD OF 'laws.FnExactCoolestBite'. -/
def fnExactCoolestBiteCard : Claim7 := { stood := { row := fnExactCoolestBiteRow, standIns := [], harness := (true, "e6a51fe456833173f952a316106d52134c471fe113fc8d8dff2631160b773e08"), looks := false }, kinds := [], alts := [], laidByText := true, laidKinds := [.data, .pinned], laidTests := true, laidLooks := .later }
def FnExactCoolestBiteCardSaid : Prop := Claim7.holds Tryd.pinned (.plain (OpenSpec.ofChange fnExactCoolestBiteSpec)) fnExactCoolestBiteCard

/-- THE TIED CARD OF 'laws.FnExactPiecesOfTablet'. -/
def fnExactPiecesOfTabletCard : Claim7 := { stood := { row := fnExactPiecesOfTabletRow, standIns := [], harness := (true, "e6a51fe456833173f952a316106d52134c471fe113fc8d8dff2631160b773e08"), looks := false }, kinds := [], alts := [], laidByText := true, laidKinds := [.data, .pinned], laidTests := true, laidLooks := .later }
def FnExactPiecesOfTabletCardSaid : Prop := Claim7.holds Tryd.pinned (.plain (OpenSpec.ofChange fnExactPiecesOfTabletSpec)) fnExactPiecesOfTabletCard

/-- THE TIED CARD OF 'laws.FnExactMostPiecesWhile'. -/
def fnExactMostPiecesWhileCard : Claim7 := { stood := { row := fnExactMostPiecesWhileRow, standIns := [], harness := (true, "e6a51fe456833173f952a316106d52134c471fe113fc8d8dff2631160b773e08"), looks := false }, kinds := [], alts := [], laidByText := true, laidKinds := [.data, .pinned], laidTests := true, laidLooks := .later }
def FnExactMostPiecesWhileCardSaid : Prop := Claim7.holds Tryd.pinned (.plain (OpenSpec.ofChange fnExactMostPiecesWhileSpec)) fnExactMostPiecesWhileCard

/-- THE SECOND FORM's CARD OF 'laws.FnExactSunHour'. -/
def fnExactSunHourUptoCard : Claim7 := { stood := { row := fnExactSunHourUptoRow, standIns := [], harness := (true, "e6a51fe456833173f952a316106d52134c471fe113fc8d8dff2631160b773e08"), looks := false }, kinds := [], alts := [], laidByText := true, laidKinds := [.data, .pinned], laidTests := true, laidLooks := .later }
def FnExactSunHourUptoCardSaid : Prop := Claim7.holds Tryd.pinned (.plain (OpenSpec.upto fnExactSunHourSpec)) fnExactSunHourUptoCard

/-- THE SECOND FORM's CARD OF 'laws.FnExactHoursBySun'. -/
def fnExactHoursBySunUptoCard : Claim7 := { stood := { row := fnExactHoursBySunUptoRow, standIns := [], harness := (true, "e6a51fe456833173f952a316106d52134c471fe113fc8d8dff2631160b773e08"), looks := false }, kinds := [], alts := [], laidByText := true, laidKinds := [.data, .pinned], laidTests := true, laidLooks := .later }
def FnExactHoursBySunUptoCardSaid : Prop := Claim7.holds Tryd.pinned (.plain (OpenSpec.upto fnExactHoursBySunSpec)) fnExactHoursBySunUptoCard

/-- THE SECOND FORM's CARD OF 'laws.FnExactHoursToMelt'. -/
def fnExactHoursToMeltUptoCard : Claim7 := { stood := { row := fnExactHoursToMeltUptoRow, standIns := [], harness := (true, "e6a51fe456833173f952a316106d52134c471fe113fc8d8dff2631160b773e08"), looks := false }, kinds := [], alts := [], laidByText := true, laidKinds := [.data, .pinned], laidTests := true, laidLooks := .later }
def FnExactHoursToMeltUptoCardSaid : Prop := Claim7.holds Tryd.pinned (.plain (OpenSpec.upto fnExactHoursToMeltSpec)) fnExactHoursToMeltUptoCard

/-- THE SECOND FORM's CARD OF 'laws.FnExactCoolestBite'. -/
def fnExactCoolestBiteUptoCard : Claim7 := { stood := { row := fnExactCoolestBiteUptoRow, standIns := [], harness := (true, "e6a51fe456833173f952a316106d52134c471fe113fc8d8dff2631160b773e08"), looks := false }, kinds := [], alts := [], laidByText := true, laidKinds := [.data, .pinned], laidTests := true, laidLooks := .later }
def FnExactCoolestBiteUptoCardSaid : Prop := Claim7.holds Tryd.pinned (.plain (OpenSpec.upto fnExactCoolestBiteSpec)) fnExactCoolestBiteUptoCard

/-- THE SECOND FORM's CARD OF 'laws.FnExactPiecesOfTablet'. -/
def fnExactPiecesOfTabletUptoCard : Claim7 := { stood := { row := fnExactPiecesOfTabletUptoRow, standIns := [], harness := (true, "e6a51fe456833173f952a316106d52134c471fe113fc8d8dff2631160b773e08"), looks := false }, kinds := [], alts := [], laidByText := true, laidKinds := [.data, .pinned], laidTests := true, laidLooks := .later }
def FnExactPiecesOfTabletUptoCardSaid : Prop := Claim7.holds Tryd.pinned (.plain (OpenSpec.upto fnExactPiecesOfTabletSpec)) fnExactPiecesOfTabletUptoCard

/-- THE SECOND FORM's CARD OF 'laws.FnExactMostPiecesWhile'. -/
def fnExactMostPiecesWhileUptoCard : Claim7 := { stood := { row := fnExactMostPiecesWhileUptoRow, standIns := [], harness := (true, "e6a51fe456833173f952a316106d52134c471fe113fc8d8dff2631160b773e08"), looks := false }, kinds := [], alts := [], laidByText := true, laidKinds := [.data, .pinned], laidTests := true, laidLooks := .later }
def FnExactMostPiecesWhileUptoCardSaid : Prop := Claim7.holds Tryd.pinned (.plain (OpenSpec.upto fnExactMostPiecesWhileSpec)) fnExactMostPiecesWhileUptoCard
end Rows
end Go.Proofs.YtaocnjaeaiacmaaDoor
