/-
  DERIVED. GIVEN WITH THE SEED: THE CARDS: each row of YtkndlhlhcpppgaaDoorRows.lean that lists a variable, with what it lists TIED to the program's text (the seventh form; the later family's looks); each row that meets fmt, with fmt's text TOLD by the authors' own Lean function (tested against real Go, not proved from fmt's source: count such statements apart). THE CARD IS WHAT COUNTS. Prove the row's statement (the work); the ties are given (YtkndlhlhcpppgaaDoorTie.lean); close each card by the builder's one call (the guide's Derived/Test/ToyasCard.lean, 'card_holds'). Laid BY PROGRAM, IN A SANDBOX (cutbox-door.mjs). By AI agents, Wed Nov 11 2026. No macro, syntax, notation, axiom, sorry.
-/
import Derived.Test.YtkndlhlhcpppgaaDoorRows
import GoSem.ClaimSeven
namespace Go.Proofs.YtkndlhlhcpppgaaDoor
namespace Rows

/-- THE TIED CARD OF 'bastillelaw42.ShowTable'. -/
def showTableCard : Claim7 := { stood := { row := showTableRow, standIns := [], harness := (true, "eb6c9155a630e0490960f95932e49c78addc0211aee0c373658149258c9f530a"), looks := false }, kinds := [], alts := [], laidByText := true, laidKinds := [.data, .pinned], laidTests := true, laidLooks := .later }
def ShowTableCardSaid : Prop := Claim7.holds Tryd.pinned (.plain (OpenSpec.ofChange showTableSpec)) showTableCard

/-- THE TIED CARD OF 'bastillelaw42.ShowHistory'. -/
def showHistoryCard : Claim7 := { stood := { row := showHistoryRow, standIns := [], harness := (true, "eb6c9155a630e0490960f95932e49c78addc0211aee0c373658149258c9f530a"), looks := false }, kinds := [], alts := [], laidByText := true, laidKinds := [.data, .data, .data, .data, .pinned], laidTests := true, laidLooks := .later }
def ShowHistoryCardSaid : Prop := Claim7.holds Tryd.pinned (.plain (OpenSpec.ofChange showHistorySpec)) showHistoryCard

/-- THE SECOND FORM's CARD OF 'bastillelaw42.ShowTable'. -/
def showTableUptoCard : Claim7 := { stood := { row := showTableUptoRow, standIns := [], harness := (true, "eb6c9155a630e0490960f95932e49c78addc0211aee0c373658149258c9f530a"), looks := false }, kinds := [], alts := [], laidByText := true, laidKinds := [.data, .pinned], laidTests := true, laidLooks := .later }
def ShowTableUptoCardSaid : Prop := Claim7.holds Tryd.pinned (.plain (OpenSpec.upto showTableSpec)) showTableUptoCard

/-- THE SECOND FORM's CARD OF 'bastillelaw42.ShowHistory'. -/
def showHistoryUptoCard : Claim7 := { stood := { row := showHistoryUptoRow, standIns := [], harness := (true, "eb6c9155a630e0490960f95932e49c78addc0211aee0c373658149258c9f530a"), looks := false }, kinds := [], alts := [], laidByText := true, laidKinds := [.data, .data, .data, .data, .pinned], laidTests := true, laidLooks := .later }
def ShowHistoryUptoCardSaid : Prop := Claim7.holds Tryd.pinned (.plain (OpenSpec.upto showHistorySpec)) showHistoryUptoCard
end Rows
end Go.Proofs.YtkndlhlhcpppgaaDoor
