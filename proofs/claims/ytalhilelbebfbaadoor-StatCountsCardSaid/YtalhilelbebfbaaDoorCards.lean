/-
  DERIVED. GIVEN WITH THE SEED: THE CARDS: each row of YtalhilelbebfbaaDoorRows.lean that lists a variable, with what it lists TIED to the program's text (the seventh form; the later family's looks); each row that meets fmt, with fmt's text TOLD by the authors' own Lean function (tested against real Go, not proved from fmt's source: count such statements apart). THE CARD IS WHAT COUNTS. Prove the row's statement (the work); the ties are given (YtalhilelbebfbaaDoorTie.lean); close each card by the builder's one call (the guide's Derived/Test/ToyasCard.lean, 'card_holds'). Laid BY PROGRAM, IN A SANDBOX (cutbox-door.mjs). By AI agents, Wed Nov 11 2026. No macro, syntax, notation, axiom, sorry.
-/
import Derived.Test.YtalhilelbebfbaaDoorRows
import GoSem.ClaimSeven
namespace Go.Proofs.YtalhilelbebfbaaDoor
namespace Rows

/-- THE TIED CARD OF 'bastillelaw44.StatCounts'. -/
def statCountsCard : Claim7 := { stood := { row := statCountsRow, standIns := [], harness := (true, "fa753cab4e9941a3c49a77a40d868f6218955022ea749745a8ae175369666507"), looks := false }, kinds := [], alts := [], laidByText := true, laidKinds := [.data], laidTests := true, laidLooks := .later }
def StatCountsCardSaid : Prop := Claim7.holds Tryd.pinned (.plain (OpenSpec.ofChange statCountsSpec)) statCountsCard

/-- THE SECOND FORM's CARD OF 'bastillelaw44.StatCounts'. -/
def statCountsUptoCard : Claim7 := { stood := { row := statCountsUptoRow, standIns := [], harness := (true, "fa753cab4e9941a3c49a77a40d868f6218955022ea749745a8ae175369666507"), looks := false }, kinds := [], alts := [], laidByText := true, laidKinds := [.data], laidTests := true, laidLooks := .later }
def StatCountsUptoCardSaid : Prop := Claim7.holds Tryd.pinned (.plain (OpenSpec.upto statCountsSpec)) statCountsUptoCard
end Rows
end Go.Proofs.YtalhilelbebfbaaDoor
