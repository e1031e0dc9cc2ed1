/-
  DERIVED. GIVEN WITH THE SEED: THE CARDS: each row of YtabpgjejedjliaaDoorRows.lean that lists a variable, with what it lists TIED to the program's text (the seventh form; the later family's looks); each row that meets fmt, with fmt's text TOLD by the authors' own Lean function (tested against real Go, not proved from fmt's source: count such statements apart). THE CARD IS WHAT COUNTS. Prove the row's statement (the work); the ties are given (YtabpgjejedjliaaDoorTie.lean); close each card by the builder's one call (the guide's Derived/Test/ToyasCard.lean, 'card_holds'). Laid BY PROGRAM, IN A SANDBOX (cutbox-door.mjs). By AI agents, Wed Nov 11 2026. No macro, syntax, notation, axiom, sorry.
-/
import Derived.Test.YtabpgjejedjliaaDoorRows
import GoSem.ClaimSeven
namespace Go.Proofs.YtabpgjejedjliaaDoor
namespace Rows

/-- THE TIED CARD OF 'laws.FnExactPrintSheet'. -/
def fnExactPrintSheetCard : Claim7 := { stood := { row := fnExactPrintSheetRow, standIns := [], harness := (true, "5f7df7e1a65ae7f4644c0928899bc7acd463401881967402673359c6cd354804"), looks := false }, kinds := [], alts := [], laidByText := true, laidKinds := [.data, .data, .data, .data, .pinned], laidTests := true, laidLooks := .later }
def FnExactPrintSheetCardSaid : Prop := Claim7.holds Tryd.pinned (.plain (OpenSpec.ofChange fnExactPrintSheetSpec)) fnExactPrintSheetCard

/-- THE TIED CARD OF 'laws.FnExactGoodSheet'. -/
def fnExactGoodSheetCard : Claim7 := { stood := { row := fnExactGoodSheetRow, standIns := [], harness := (true, "5f7df7e1a65ae7f4644c0928899bc7acd463401881967402673359c6cd354804"), looks := false }, kinds := [], alts := [], laidByText := true, laidKinds := [.data, .pinned], laidTests := true, laidLooks := .later }
def FnExactGoodSheetCardSaid : Prop := Claim7.holds Tryd.pinned (.plain (OpenSpec.ofChange fnExactGoodSheetSpec)) fnExactGoodSheetCard

/-- THE TIED CARD OF 'laws.FnExactFindGood'. -/
def fnExactFindGoodCard : Claim7 := { stood := { row := fnExactFindGoodRow, standIns := [], harness := (true, "5f7df7e1a65ae7f4644c0928899bc7acd463401881967402673359c6cd354804"), looks := false }, kinds := [], alts := [], laidByText := true, laidKinds := [.data, .pinned], laidTests := true, laidLooks := .later }
def FnExactFindGoodCardSaid : Prop := Claim7.holds Tryd.pinned (.plain (OpenSpec.ofChange fnExactFindGoodSpec)) fnExactFindGoodCard

/-- THE TIED CARD OF 'laws.FnExactSheetProfile'. -/
def fnExactSheetProfileCard : Claim7 := { stood := { row := fnExactSheetProfileRow, standIns := [], harness := (true, "5f7df7e1a65ae7f4644c0928899bc7acd463401881967402673359c6cd354804"), looks := false }, kinds := [], alts := [], laidByText := true, laidKinds := [.data, .pinned], laidTests := true, laidLooks := .later }
def FnExactSheetProfileCardSaid : Prop := Claim7.holds Tryd.pinned (.plain (OpenSpec.ofChange fnExactSheetProfileSpec)) fnExactSheetProfileCard

/-- THE TIED CARD OF 'laws.FnExactJoinSheets'. -/
def fnExactJoinSheetsCard : Claim7 := { stood := { row := fnExactJoinSheetsRow, standIns := [], harness := (true, "5f7df7e1a65ae7f4644c0928899bc7acd463401881967402673359c6cd354804"), looks := false }, kinds := [], alts := [], laidByText := true, laidKinds := [.data, .pinned], laidTests := true, laidLooks := .later }
def FnExactJoinSheetsCardSaid : Prop := Claim7.holds Tryd.pinned (.plain (OpenSpec.ofChange fnExactJoinSheetsSpec)) fnExactJoinSheetsCard

/-- THE SECOND FORM's CARD OF 'laws.FnExactPrintSheet'. -/
def fnExactPrintSheetUptoCard : Claim7 := { stood := { row := fnExactPrintSheetUptoRow, standIns := [], harness := (true, "5f7df7e1a65ae7f4644c0928899bc7acd463401881967402673359c6cd354804"), looks := false }, kinds := [], alts := [], laidByText := true, laidKinds := [.data, .data, .data, .data, .pinned], laidTests := true, laidLooks := .later }
def FnExactPrintSheetUptoCardSaid : Prop := Claim7.holds Tryd.pinned (.plain (OpenSpec.upto fnExactPrintSheetSpec)) fnExactPrintSheetUptoCard

/-- THE SECOND FORM's CARD OF 'laws.FnExactGoodSheet'. -/
def fnExactGoodSheetUptoCard : Claim7 := { stood := { row := fnExactGoodSheetUptoRow, standIns := [], harness := (true, "5f7df7e1a65ae7f4644c0928899bc7acd463401881967402673359c6cd354804"), looks := false }, kinds := [], alts := [], laidByText := true, laidKinds := [.data, .pinned], laidTests := true, laidLooks := .later }
def FnExactGoodSheetUptoCardSaid : Prop := Claim7.holds Tryd.pinned (.plain (OpenSpec.upto fnExactGoodSheetSpec)) fnExactGoodSheetUptoCard

/-- THE SECOND FORM's CARD OF 'laws.FnExactFindGood'. -/
def fnExactFindGoodUptoCard : Claim7 := { stood := { row := fnExactFindGoodUptoRow, standIns := [], harness := (true, "5f7df7e1a65ae7f4644c0928899bc7acd463401881967402673359c6cd354804"), looks := false }, kinds := [], alts := [], laidByText := true, laidKinds := [.data, .pinned], laidTests := true, laidLooks := .later }
def FnExactFindGoodUptoCardSaid : Prop := Claim7.holds Tryd.pinned (.plain (OpenSpec.upto fnExactFindGoodSpec)) fnExactFindGoodUptoCard

/-- THE SECOND FORM's CARD OF 'laws.FnExactSheetProfile'. -/
def fnExactSheetProfileUptoCard : Claim7 := { stood := { row := fnExactSheetProfileUptoRow, standIns := [], harness := (true, "5f7df7e1a65ae7f4644c0928899bc7acd463401881967402673359c6cd354804"), looks := false }, kinds := [], alts := [], laidByText := true, laidKinds := [.data, .pinned], laidTests := true, laidLooks := .later }
def FnExactSheetProfileUptoCardSaid : Prop := Claim7.holds Tryd.pinned (.plain (OpenSpec.upto fnExactSheetProfileSpec)) fnExactSheetProfileUptoCard

/-- THE SECOND FORM's CARD OF 'laws.FnExactJoinSheets'. -/
def fnExactJoinSheetsUptoCard : Claim7 := { stood := { row := fnExactJoinSheetsUptoRow, standIns := [], harness := (true, "5f7df7e1a65ae7f4644c0928899bc7acd463401881967402673359c6cd354804"), looks := false }, kinds := [], alts := [], laidByText := true, laidKinds := [.data, .pinned], laidTests := true, laidLooks := .later }
def FnExactJoinSheetsUptoCardSaid : Prop := Claim7.holds Tryd.pinned (.plain (OpenSpec.upto fnExactJoinSheetsSpec)) fnExactJoinSheetsUptoCard
end Rows
end Go.Proofs.YtabpgjejedjliaaDoor
