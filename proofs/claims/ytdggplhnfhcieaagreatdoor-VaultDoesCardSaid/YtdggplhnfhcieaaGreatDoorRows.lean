/-
  NARROWER THAN 'FOR EVERY INPUT', by the rows' own cells (each row's printed sentence says how): VaultPending: laid · VaultStays: laid · VaultDoes: laid · VaultRevoked: laid · VaultGranted: laid.
  DERIVED. THE GIVEN ROWS OF THIS SEAT. 5 by the template 'for every input the law returns true; each argument reads behind the call as it read before'; 0 by the template 'total and deterministic' (their statements: YtdggplhnfhcieaaGreatDoorTotals.lean).
  GIVEN WITH THE SEED: the statements are not yours to turn. If you find one false, say at which input.
  Laid BY PROGRAM, IN A SANDBOX (cutbox-rows.mjs): the forced cells as the released guide's own fill.sh prints them over the translation 3968b5b9c485c070… (all of the seat's roots in one cut). By AI agents, Wed Nov 11 2026. No macro, syntax, notation, axiom, sorry.
-/
import Derived.Test.YtdggplhnfhcieaaGreatDoorChecked
import GoSem.Claim
import GoSem.ClaimJoined
import GoSem.ClaimMapViews
import Derived.JoinedTies
import Derived.KernelRfl
namespace Go.Proofs.YtdggplhnfhcieaaGreatDoor
/- THE CELL 'sum', in the pinned program and in every row, IS THE sha256 OF THE DUMP (.gsa) THAT YtdggplhnfhcieaaGreatDoorProg.lean LOADS. Nothing in Lean hashes anything: it is a label: what it is worth is what the hold of that sum in a sandbox is worth. -/
noncomputable def Tryz.pinned : Pinned := { name := "ytdggplhnfhcieaagreatdoor", sum := "3968b5b9c485c070ce26c30247e7c1ee73512b4dbf47b54415f3ca451d12cb94", checked := Tryz.checked }
namespace Rows
def none {H : Type} : Left H := { results := [], args := [] }

/- WHAT THE LISTED PACKAGE-LEVEL VARIABLES READ AS WHEN THE CALL BEGINS. Each datum BY PROGRAM (the guide's laid-datum.mjs) off the statement by which the dump's own 'gosem.cut.vars' lays the variable. In a bare row this is a premise. The card (YtdggplhnfhcieaaGreatDoorCards.lean) ties it to the program's text. -/
def laid_bastille_call_fields {H : Type} : DataW H := .agg [.lit (.int .i64 0), .lit (.int .i64 0), .lit (.int .i64 9), .lit (.int .i64 9), .lit (.int .i64 1), .lit (.int .i64 21), .lit (.int .i64 21), .lit (.int .i64 5), .lit (.int .i64 67), .lit (.int .i64 35), .lit (.int .i64 1), .lit (.int .i64 3), .lit (.int .i64 3), .lit (.int .i64 1), .lit (.int .i64 4), .lit (.int .i64 0), .lit (.int .i64 4)]

/-- 'bastillelaw34.VaultPending': WHATEVER THE INPUT: true; the input reads as it did. -/
def vaultPendingSpec : ChangeSpec := { name := "vaultPending", fn := fun _ => fun
  | [d] => { results := [.lit (.bool true)], args := [d] }
  | _ => none }
def vaultPendingRow : OpenClaim := { program := "ytdggplhnfhcieaagreatdoor", sum := "3968b5b9c485c070ce26c30247e7c1ee73512b4dbf47b54415f3ca451d12cb94", func := "bastille/bastillelaw34.VaultPending", spec := "vaultPending", inPlace := ["slices.overlaps[bastille/api.Wrap]"], unfollowed := true, recurses := true, named := ["bastille/call.fields"], plainKeys := false, apart := false, laid := [("bastille/call.fields", laid_bastille_call_fields)] }
def VaultPendingSaid : Prop := vaultPendingRow.holds Tryz.pinned (OpenSpec.ofChange vaultPendingSpec)

/-- ITS FALSE NEIGHBOUR: 'it returns false'. Refute it at one input. -/
def vaultPendingWrong : ChangeSpec := { name := "vaultPending", fn := fun _ => fun
  | [d] => { results := [.lit (.bool false)], args := [d] }
  | _ => none }
def VaultPendingWrongFalsely : Prop := vaultPendingRow.holds Tryz.pinned (OpenSpec.ofChange vaultPendingWrong)

/-- 'bastillelaw34.VaultStays': WHATEVER THE INPUT: true; the input reads as it did. -/
def vaultStaysSpec : ChangeSpec := { name := "vaultStays", fn := fun _ => fun
  | [d1, d2] => { results := [.lit (.bool true)], args := [d1, d2] }
  | _ => none }
def vaultStaysRow : OpenClaim := { program := "ytdggplhnfhcieaagreatdoor", sum := "3968b5b9c485c070ce26c30247e7c1ee73512b4dbf47b54415f3ca451d12cb94", func := "bastille/bastillelaw34.VaultStays", spec := "vaultStays", inPlace := ["slices.overlaps[bastille/api.Wrap]"], unfollowed := true, recurses := true, named := ["bastille/call.fields"], plainKeys := false, apart := false, laid := [("bastille/call.fields", laid_bastille_call_fields)] }
def VaultStaysSaid : Prop := vaultStaysRow.holds Tryz.pinned (OpenSpec.ofChange vaultStaysSpec)

/-- ITS FALSE NEIGHBOUR: 'it returns false'. Refute it at one input. -/
def vaultStaysWrong : ChangeSpec := { name := "vaultStays", fn := fun _ => fun
  | [d1, d2] => { results := [.lit (.bool false)], args := [d1, d2] }
  | _ => none }
def VaultStaysWrongFalsely : Prop := vaultStaysRow.holds Tryz.pinned (OpenSpec.ofChange vaultStaysWrong)

/-- 'bastillelaw34.VaultDoes': WHATEVER THE INPUT: true; the input reads as it did. -/
def vaultDoesSpec : ChangeSpec := { name := "vaultDoes", fn := fun _ => fun
  | [d1, d2, d3] => { results := [.lit (.bool true)], args := [d1, d2, d3] }
  | _ => none }
def vaultDoesRow : OpenClaim := { program := "ytdggplhnfhcieaagreatdoor", sum := "3968b5b9c485c070ce26c30247e7c1ee73512b4dbf47b54415f3ca451d12cb94", func := "bastille/bastillelaw34.VaultDoes", spec := "vaultDoes", inPlace := ["slices.overlaps[bastille/api.Wrap]"], unfollowed := true, recurses := true, named := ["bastille/call.fields"], plainKeys := false, apart := false, laid := [("bastille/call.fields", laid_bastille_call_fields)] }
def VaultDoesSaid : Prop := vaultDoesRow.holds Tryz.pinned (OpenSpec.ofChange vaultDoesSpec)

/-- ITS FALSE NEIGHBOUR: 'it returns false'. Refute it at one input. -/
def vaultDoesWrong : ChangeSpec := { name := "vaultDoes", fn := fun _ => fun
  | [d1, d2, d3] => { results := [.lit (.bool false)], args := [d1, d2, d3] }
  | _ => none }
def VaultDoesWrongFalsely : Prop := vaultDoesRow.holds Tryz.pinned (OpenSpec.ofChange vaultDoesWrong)

/-- 'bastillelaw34.VaultRevoked': WHATEVER THE INPUT: true; the input reads as it did. -/
def vaultRevokedSpec : ChangeSpec := { name := "vaultRevoked", fn := fun _ => fun
  | [d] => { results := [.lit (.bool true)], args := [d] }
  | _ => none }
def vaultRevokedRow : OpenClaim := { program := "ytdggplhnfhcieaagreatdoor", sum := "3968b5b9c485c070ce26c30247e7c1ee73512b4dbf47b54415f3ca451d12cb94", func := "bastille/bastillelaw34.VaultRevoked", spec := "vaultRevoked", inPlace := ["slices.overlaps[bastille/api.Wrap]"], unfollowed := true, recurses := true, named := ["bastille/call.fields"], plainKeys := false, apart := false, laid := [("bastille/call.fields", laid_bastille_call_fields)] }
def VaultRevokedSaid : Prop := vaultRevokedRow.holds Tryz.pinned (OpenSpec.ofChange vaultRevokedSpec)

/-- ITS FALSE NEIGHBOUR: 'it returns false'. Refute it at one input. -/
def vaultRevokedWrong : ChangeSpec := { name := "vaultRevoked", fn := fun _ => fun
  | [d] => { results := [.lit (.bool false)], args := [d] }
  | _ => none }
def VaultRevokedWrongFalsely : Prop := vaultRevokedRow.holds Tryz.pinned (OpenSpec.ofChange vaultRevokedWrong)

/-- 'bastillelaw34.VaultGranted': WHATEVER THE INPUT: true; the input reads as it did. -/
def vaultGrantedSpec : ChangeSpec := { name := "vaultGranted", fn := fun _ => fun
  | [d] => { results := [.lit (.bool true)], args := [d] }
  | _ => none }
def vaultGrantedRow : OpenClaim := { program := "ytdggplhnfhcieaagreatdoor", sum := "3968b5b9c485c070ce26c30247e7c1ee73512b4dbf47b54415f3ca451d12cb94", func := "bastille/bastillelaw34.VaultGranted", spec := "vaultGranted", inPlace := ["slices.overlaps[bastille/api.Wrap]"], unfollowed := true, recurses := true, named := ["bastille/call.fields"], plainKeys := false, apart := false, laid := [("bastille/call.fields", laid_bastille_call_fields)] }
def VaultGrantedSaid : Prop := vaultGrantedRow.holds Tryz.pinned (OpenSpec.ofChange vaultGrantedSpec)

/-- ITS FALSE NEIGHBOUR: 'it returns false'. Refute it at one input. -/
def vaultGrantedWrong : ChangeSpec := { name := "vaultGranted", fn := fun _ => fun
  | [d] => { results := [.lit (.bool false)], args := [d] }
  | _ => none }
def VaultGrantedWrongFalsely : Prop := vaultGrantedRow.holds Tryz.pinned (OpenSpec.ofChange vaultGrantedWrong)

/- THE SECOND FORM. 'bulk': how many values and letters a reading holds, each counted each time it is reached (what is shared counts as often as it is met; a slice's spare places count too). A statement '..UptoSaid' is the law's where the arguments, and the package variables that the reading takes, are together of bulk at most 1048576: NARROWER than '..Said'. Prove '..Said' where nothing that the law and all that it calls make is longer than what came in: it says more and counts as full. Else prove '..UptoSaid'. A law counts once. -/
mutual
def uptoBulk {H : Type} : DataW H → Nat
  | .lit (.string bytes) => bytes.length + 1
  | .lit _ => 1
  | .nil => 1
  | .ptr d => uptoBulk d + 1
  | .slice elems spare => uptoBulkAll elems + uptoBulkAll spare + 1
  | .agg parts => uptoBulkAll parts + 1
  | .iface _ d => uptoBulk d + 1
  | .map entries => uptoBulkEntries entries + 1
  | .held _ => 1
def uptoBulkAll {H : Type} : List (DataW H) → Nat
  | [] => 0
  | d :: r => uptoBulk d + uptoBulkAll r
def uptoBulkEntries {H : Type} : List (Lit × DataW H) → Nat
  | [] => 0
  | x :: r => uptoBulkEntry x + uptoBulkEntries r
def uptoBulkEntry {H : Type} : Lit × DataW H → Nat
  | (.string bytes, d) => bytes.length + uptoBulk d + 1
  | (_, d) => uptoBulk d + 1
 end
def uptoSmall : (H : Type) → List (DataW H) → Bool := fun _ ds => decide (uptoBulkAll ds ≤ 1048576)
def OpenSpec.upto (s : _root_.Go.ChangeSpec) : _root_.Go.OpenSpec := { _root_.Go.OpenSpec.ofChange s with cond := some uptoSmall }

/-- 'bastillelaw34.VaultPending', WHERE WHAT IT READS IS OF BULK AT MOST 1048576: true; the input reads as it did. -/
def vaultPendingUptoRow : OpenClaim := { program := "ytdggplhnfhcieaagreatdoor", sum := "3968b5b9c485c070ce26c30247e7c1ee73512b4dbf47b54415f3ca451d12cb94", func := "bastille/bastillelaw34.VaultPending", spec := "vaultPending", inPlace := ["slices.overlaps[bastille/api.Wrap]"], unfollowed := true, recurses := true, named := ["bastille/call.fields"], plainKeys := false, apart := false, laid := [("bastille/call.fields", laid_bastille_call_fields)], narrowed := true }
def VaultPendingUptoSaid : Prop := vaultPendingUptoRow.holds Tryz.pinned (OpenSpec.upto vaultPendingSpec)

/-- 'bastillelaw34.VaultStays', WHERE WHAT IT READS IS OF BULK AT MOST 1048576: true; the input reads as it did. -/
def vaultStaysUptoRow : OpenClaim := { program := "ytdggplhnfhcieaagreatdoor", sum := "3968b5b9c485c070ce26c30247e7c1ee73512b4dbf47b54415f3ca451d12cb94", func := "bastille/bastillelaw34.VaultStays", spec := "vaultStays", inPlace := ["slices.overlaps[bastille/api.Wrap]"], unfollowed := true, recurses := true, named := ["bastille/call.fields"], plainKeys := false, apart := false, laid := [("bastille/call.fields", laid_bastille_call_fields)], narrowed := true }
def VaultStaysUptoSaid : Prop := vaultStaysUptoRow.holds Tryz.pinned (OpenSpec.upto vaultStaysSpec)

/-- 'bastillelaw34.VaultDoes', WHERE WHAT IT READS IS OF BULK AT MOST 1048576: true; the input reads as it did. -/
def vaultDoesUptoRow : OpenClaim := { program := "ytdggplhnfhcieaagreatdoor", sum := "3968b5b9c485c070ce26c30247e7c1ee73512b4dbf47b54415f3ca451d12cb94", func := "bastille/bastillelaw34.VaultDoes", spec := "vaultDoes", inPlace := ["slices.overlaps[bastille/api.Wrap]"], unfollowed := true, recurses := true, named := ["bastille/call.fields"], plainKeys := false, apart := false, laid := [("bastille/call.fields", laid_bastille_call_fields)], narrowed := true }
def VaultDoesUptoSaid : Prop := vaultDoesUptoRow.holds Tryz.pinned (OpenSpec.upto vaultDoesSpec)

/-- 'bastillelaw34.VaultRevoked', WHERE WHAT IT READS IS OF BULK AT MOST 1048576: true; the input reads as it did. -/
def vaultRevokedUptoRow : OpenClaim := { program := "ytdggplhnfhcieaagreatdoor", sum := "3968b5b9c485c070ce26c30247e7c1ee73512b4dbf47b54415f3ca451d12cb94", func := "bastille/bastillelaw34.VaultRevoked", spec := "vaultRevoked", inPlace := ["slices.overlaps[bastille/api.Wrap]"], unfollowed := true, recurses := true, named := ["bastille/call.fields"], plainKeys := false, apart := false, laid := [("bastille/call.fields", laid_bastille_call_fields)], narrowed := true }
def VaultRevokedUptoSaid : Prop := vaultRevokedUptoRow.holds Tryz.pinned (OpenSpec.upto vaultRevokedSpec)

/-- 'bastillelaw34.VaultGranted', WHERE WHAT IT READS IS OF BULK AT MOST 1048576: true; the input reads as it did. -/
def vaultGrantedUptoRow : OpenClaim := { program := "ytdggplhnfhcieaagreatdoor", sum := "3968b5b9c485c070ce26c30247e7c1ee73512b4dbf47b54415f3ca451d12cb94", func := "bastille/bastillelaw34.VaultGranted", spec := "vaultGranted", inPlace := ["slices.overlaps[bastille/api.Wrap]"], unfollowed := true, recurses := true, named := ["bastille/call.fields"], plainKeys := false, apart := false, laid := [("bastille/call.fields", laid_bastille_call_fields)], narrowed := true }
def VaultGrantedUptoSaid : Prop := vaultGrantedUptoRow.holds Tryz.pinned (OpenSpec.upto vaultGrantedSpec)

end Rows
end Go.Proofs.YtdggplhnfhcieaaGreatDoor
