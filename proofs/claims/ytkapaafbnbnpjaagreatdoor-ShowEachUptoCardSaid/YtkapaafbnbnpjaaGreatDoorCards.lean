/-
  DERIVED. GIVEN WITH THE SEED: THE CARDS: each row of YtkapaafbnbnpjaaGreatDoorRows.lean that lists a variable, with what it lists TIED to the program's text (the seventh form; the later family's looks); each row that meets fmt, with fmt's text TOLD by the authors' own Lean function (tested against real Go, not proved from fmt's source: count such statements apart). THE CARD IS WHAT COUNTS. Prove the row's statement (the work); the ties are given (YtkapaafbnbnpjaaGreatDoorTie.lean); close each card by the builder's one call (the guide's Derived/Test/ToyasCard.lean, 'card_holds'). Laid BY PROGRAM, IN A SANDBOX (cutbox-door.mjs). By AI agents, Wed Nov 11 2026. No macro, syntax, notation, axiom, sorry.
-/
import Derived.Test.YtkapaafbnbnpjaaGreatDoorRows
import GoSem.ClaimSeven
namespace Go.Proofs.YtkapaafbnbnpjaaGreatDoor
namespace Rows

/-- THE TIED CARD OF 'bastillelaw42.ShowEach'. -/
def showEachCard : Claim7 := { stood := { row := showEachRow, standIns := [], harness := (true, "750e6a9bbbc94416dcca1ce9ad3c1332720e7cf157f01251f43b95a9a76b67e2"), looks := false }, kinds := [], alts := [], laidByText := true, laidKinds := [.data, .data, .data, .data, .pinned], laidTests := true, laidLooks := .later }
def ShowEachCardSaid : Prop := Claim7.holds Tryz.pinned (.plain (OpenSpec.ofChange showEachSpec)) showEachCard

/-- THE SECOND FORM's CARD OF 'bastillelaw42.ShowEach'. -/
def showEachUptoCard : Claim7 := { stood := { row := showEachUptoRow, standIns := [], harness := (true, "750e6a9bbbc94416dcca1ce9ad3c1332720e7cf157f01251f43b95a9a76b67e2"), looks := false }, kinds := [], alts := [], laidByText := true, laidKinds := [.data, .data, .data, .data, .pinned], laidTests := true, laidLooks := .later }
def ShowEachUptoCardSaid : Prop := Claim7.holds Tryz.pinned (.plain (OpenSpec.upto showEachSpec)) showEachUptoCard
end Rows
end Go.Proofs.YtkapaafbnbnpjaaGreatDoor
