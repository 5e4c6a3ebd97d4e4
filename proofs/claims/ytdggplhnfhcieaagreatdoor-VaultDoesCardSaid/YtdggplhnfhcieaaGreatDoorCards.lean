/-
  DERIVED. GIVEN WITH THE SEED: THE CARDS: each row of YtdggplhnfhcieaaGreatDoorRows.lean that lists a variable, with what it lists TIED to the program's text (the seventh form; the later family's looks); each row that meets fmt, with fmt's text TOLD by the authors' own Lean function (tested against real Go, not proved from fmt's source: count such statements apart). THE CARD IS WHAT COUNTS. Prove the row's statement (the work); the ties are given (YtdggplhnfhcieaaGreatDoorTie.lean); close each card by the builder's one call (the guide's Derived/Test/ToyasCard.lean, 'card_holds'). Laid BY PROGRAM, IN A SANDBOX (cutbox-door.mjs). By AI agents, Wed Nov 11 2026. No macro, syntax, notation, axiom, sorry.
-/
import Derived.Test.YtdggplhnfhcieaaGreatDoorRows
import GoSem.ClaimSeven
namespace Go.Proofs.YtdggplhnfhcieaaGreatDoor
namespace Rows

/-- THE TIED CARD OF 'bastillelaw34.VaultPending'. -/
def vaultPendingCard : Claim7 := { stood := { row := vaultPendingRow, standIns := [], harness := (true, "0a5bf4cfdda4f0b6f93d0f43be3f98d9f32645af79d4df54a64809a6d578d50f"), looks := false }, kinds := [], alts := [], laidByText := true, laidKinds := [.data], laidTests := true, laidLooks := .later }
def VaultPendingCardSaid : Prop := Claim7.holds Tryz.pinned (.plain (OpenSpec.ofChange vaultPendingSpec)) vaultPendingCard

/-- THE TIED CARD OF 'bastillelaw34.VaultStays'. -/
def vaultStaysCard : Claim7 := { stood := { row := vaultStaysRow, standIns := [], harness := (true, "0a5bf4cfdda4f0b6f93d0f43be3f98d9f32645af79d4df54a64809a6d578d50f"), looks := false }, kinds := [], alts := [], laidByText := true, laidKinds := [.data], laidTests := true, laidLooks := .later }
def VaultStaysCardSaid : Prop := Claim7.holds Tryz.pinned (.plain (OpenSpec.ofChange vaultStaysSpec)) vaultStaysCard

/-- THE TIED CARD OF 'bastillelaw34.VaultDoes'. -/
def vaultDoesCard : Claim7 := { stood := { row := vaultDoesRow, standIns := [], harness := (true, "0a5bf4cfdda4f0b6f93d0f43be3f98d9f32645af79d4df54a64809a6d578d50f"), looks := false }, kinds := [], alts := [], laidByText := true, laidKinds := [.data], laidTests := true, laidLooks := .later }
def VaultDoesCardSaid : Prop := Claim7.holds Tryz.pinned (.plain (OpenSpec.ofChange vaultDoesSpec)) vaultDoesCard

/-- THE TIED CARD OF 'bastillelaw34.VaultRevoked'. -/
def vaultRevokedCard : Claim7 := { stood := { row := vaultRevokedRow, standIns := [], harness := (true, "0a5bf4cfdda4f0b6f93d0f43be3f98d9f32645af79d4df54a64809a6d578d50f"), looks := false }, kinds := [], alts := [], laidByText := true, laidKinds := [.data], laidTests := true, laidLooks := .later }
def VaultRevokedCardSaid : Prop := Claim7.holds Tryz.pinned (.plain (OpenSpec.ofChange vaultRevokedSpec)) vaultRevokedCard

/-- THE TIED CARD OF 'bastillelaw34.VaultGranted'. -/
def vaultGrantedCard : Claim7 := { stood := { row := vaultGrantedRow, standIns := [], harness := (true, "0a5bf4cfdda4f0b6f93d0f43be3f98d9f32645af79d4df54a64809a6d578d50f"), looks := false }, kinds := [], alts := [], laidByText := true, laidKinds := [.data], laidTests := true, laidLooks := .later }
def VaultGrantedCardSaid : Prop := Claim7.holds Tryz.pinned (.plain (OpenSpec.ofChange vaultGrantedSpec)) vaultGrantedCard

/-- THE SECOND FORM's CARD OF 'bastillelaw34.VaultPending'. -/
def vaultPendingUptoCard : Claim7 := { stood := { row := vaultPendingUptoRow, standIns := [], harness := (true, "0a5bf4cfdda4f0b6f93d0f43be3f98d9f32645af79d4df54a64809a6d578d50f"), looks := false }, kinds := [], alts := [], laidByText := true, laidKinds := [.data], laidTests := true, laidLooks := .later }
def VaultPendingUptoCardSaid : Prop := Claim7.holds Tryz.pinned (.plain (OpenSpec.upto vaultPendingSpec)) vaultPendingUptoCard

/-- THE SECOND FORM's CARD OF 'bastillelaw34.VaultStays'. -/
def vaultStaysUptoCard : Claim7 := { stood := { row := vaultStaysUptoRow, standIns := [], harness := (true, "0a5bf4cfdda4f0b6f93d0f43be3f98d9f32645af79d4df54a64809a6d578d50f"), looks := false }, kinds := [], alts := [], laidByText := true, laidKinds := [.data], laidTests := true, laidLooks := .later }
def VaultStaysUptoCardSaid : Prop := Claim7.holds Tryz.pinned (.plain (OpenSpec.upto vaultStaysSpec)) vaultStaysUptoCard

/-- THE SECOND FORM's CARD OF 'bastillelaw34.VaultDoes'. -/
def vaultDoesUptoCard : Claim7 := { stood := { row := vaultDoesUptoRow, standIns := [], harness := (true, "0a5bf4cfdda4f0b6f93d0f43be3f98d9f32645af79d4df54a64809a6d578d50f"), looks := false }, kinds := [], alts := [], laidByText := true, laidKinds := [.data], laidTests := true, laidLooks := .later }
def VaultDoesUptoCardSaid : Prop := Claim7.holds Tryz.pinned (.plain (OpenSpec.upto vaultDoesSpec)) vaultDoesUptoCard

/-- THE SECOND FORM's CARD OF 'bastillelaw34.VaultRevoked'. -/
def vaultRevokedUptoCard : Claim7 := { stood := { row := vaultRevokedUptoRow, standIns := [], harness := (true, "0a5bf4cfdda4f0b6f93d0f43be3f98d9f32645af79d4df54a64809a6d578d50f"), looks := false }, kinds := [], alts := [], laidByText := true, laidKinds := [.data], laidTests := true, laidLooks := .later }
def VaultRevokedUptoCardSaid : Prop := Claim7.holds Tryz.pinned (.plain (OpenSpec.upto vaultRevokedSpec)) vaultRevokedUptoCard

/-- THE SECOND FORM's CARD OF 'bastillelaw34.VaultGranted'. -/
def vaultGrantedUptoCard : Claim7 := { stood := { row := vaultGrantedUptoRow, standIns := [], harness := (true, "0a5bf4cfdda4f0b6f93d0f43be3f98d9f32645af79d4df54a64809a6d578d50f"), looks := false }, kinds := [], alts := [], laidByText := true, laidKinds := [.data], laidTests := true, laidLooks := .later }
def VaultGrantedUptoCardSaid : Prop := Claim7.holds Tryz.pinned (.plain (OpenSpec.upto vaultGrantedSpec)) vaultGrantedUptoCard
end Rows
end Go.Proofs.YtdggplhnfhcieaaGreatDoor
