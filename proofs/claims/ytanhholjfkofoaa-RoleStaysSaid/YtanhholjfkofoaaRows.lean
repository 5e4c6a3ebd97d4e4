/-
  No cell of these rows narrows 'for every input' (looked for: loops, veiled, ifaces, maps, wideKeys, modest, calm, conditions, laid).
  DERIVED. THE GIVEN ROWS OF THIS SEAT. 3 by the template 'for every input the law returns true; each argument reads behind the call as it read before'; 0 by the template 'total and deterministic' (their statements: YtanhholjfkofoaaTotals.lean).
  GIVEN WITH THE SEED: the statements are not yours to turn. If you find one false, say at which input.
  Laid BY PROGRAM, IN A SANDBOX (cutbox-rows.mjs): the forced cells as the released guide's own fill.sh prints them over the translation 15e4c44ce5522f2d… (all of the seat's roots in one cut). By AI agents, Wed Nov 11 2026. No macro, syntax, notation, axiom, sorry.
-/
import Derived.Test.YtanhholjfkofoaaChecked
import GoSem.Claim
import GoSem.ClaimJoined
import GoSem.ClaimMapViews
import Derived.JoinedTies
import Derived.KernelRfl
namespace Go.Proofs.Ytanhholjfkofoaa
/- THE CELL 'sum', in the pinned program and in every row, IS THE sha256 OF THE DUMP (.gsa) THAT YtanhholjfkofoaaProg.lean LOADS. Nothing in Lean hashes anything: it is a label: what it is worth is what the hold of that sum in a sandbox is worth. -/
noncomputable def Try.pinned : Pinned := { name := "ytanhholjfkofoaa", sum := "15e4c44ce5522f2d2f9f76052128db83060131f5b97c8805e59365f77e1bd05e", checked := Try.checked }
namespace Rows
def none {H : Type} : Left H := { results := [], args := [] }

/-- 'bastillelaw27.RoleCalls': WHATEVER THE INPUT: true; the input reads as it did. -/
def roleCallsSpec : ChangeSpec := { name := "roleCalls", fn := fun _ => fun
  | [d1, d2, d3] => { results := [.lit (.bool true)], args := [d1, d2, d3] }
  | _ => none }
def roleCallsRow : OpenClaim := { program := "ytanhholjfkofoaa", sum := "15e4c44ce5522f2d2f9f76052128db83060131f5b97c8805e59365f77e1bd05e", func := "bastille/bastillelaw27.RoleCalls", spec := "roleCalls", unfollowed := true, recurses := true, apart := false }
def RoleCallsSaid : Prop := roleCallsRow.holds Try.pinned (OpenSpec.ofChange roleCallsSpec)

/-- ITS FALSE NEIGHBOUR: 'it returns false'. Refute it at one input. -/
def roleCallsWrong : ChangeSpec := { name := "roleCalls", fn := fun _ => fun
  | [d1, d2, d3] => { results := [.lit (.bool false)], args := [d1, d2, d3] }
  | _ => none }
def RoleCallsWrongFalsely : Prop := roleCallsRow.holds Try.pinned (OpenSpec.ofChange roleCallsWrong)

/-- 'bastillelaw27.RoleStep': WHATEVER THE INPUT: true; the input reads as it did. -/
def roleStepSpec : ChangeSpec := { name := "roleStep", fn := fun _ => fun
  | [d1, d2, d3] => { results := [.lit (.bool true)], args := [d1, d2, d3] }
  | _ => none }
def roleStepRow : OpenClaim := { program := "ytanhholjfkofoaa", sum := "15e4c44ce5522f2d2f9f76052128db83060131f5b97c8805e59365f77e1bd05e", func := "bastille/bastillelaw27.RoleStep", spec := "roleStep", unfollowed := true, recurses := true, apart := false }
def RoleStepSaid : Prop := roleStepRow.holds Try.pinned (OpenSpec.ofChange roleStepSpec)

/-- ITS FALSE NEIGHBOUR: 'it returns false'. Refute it at one input. -/
def roleStepWrong : ChangeSpec := { name := "roleStep", fn := fun _ => fun
  | [d1, d2, d3] => { results := [.lit (.bool false)], args := [d1, d2, d3] }
  | _ => none }
def RoleStepWrongFalsely : Prop := roleStepRow.holds Try.pinned (OpenSpec.ofChange roleStepWrong)

/-- 'bastillelaw27.RoleStays': WHATEVER THE INPUT: true; the input reads as it did. -/
def roleStaysSpec : ChangeSpec := { name := "roleStays", fn := fun _ => fun
  | [d1, d2] => { results := [.lit (.bool true)], args := [d1, d2] }
  | _ => none }
def roleStaysRow : OpenClaim := { program := "ytanhholjfkofoaa", sum := "15e4c44ce5522f2d2f9f76052128db83060131f5b97c8805e59365f77e1bd05e", func := "bastille/bastillelaw27.RoleStays", spec := "roleStays", unfollowed := true, recurses := true, apart := false }
def RoleStaysSaid : Prop := roleStaysRow.holds Try.pinned (OpenSpec.ofChange roleStaysSpec)

/-- ITS FALSE NEIGHBOUR: 'it returns false'. Refute it at one input. -/
def roleStaysWrong : ChangeSpec := { name := "roleStays", fn := fun _ => fun
  | [d1, d2] => { results := [.lit (.bool false)], args := [d1, d2] }
  | _ => none }
def RoleStaysWrongFalsely : Prop := roleStaysRow.holds Try.pinned (OpenSpec.ofChange roleStaysWrong)

/- THE SECOND FORM. 'bulk': how many values and letters a reading holds, each counted each time it is reached (what is shared counts as often as it is met; a slice's spare places count too). A statement '..UptoSaid' is the law's where the arguments, and the package variables that the reading takes, are together of bulk at most 1048576: NARROWER than '..Said'. Prove '..Said' where nothing that the law and all that it calls make is longer than what came in: it says more and counts as full. Else prove '..UptoSaid'. A law counts once. -/
mutual
def uptoBulk {H : Type} : DataW H → Nat
  | .lit (.string bytes) => bytes.length + 1
  | .lit _ => 1
  | .nil => 1
  | .ptr d => uptoBulk d + 1
  | .slice elems spare => uptoBulkAll elems + uptoBulkAll spare + 1
  | .agg parts => uptoBulkAll parts + 1
  | .iface _ d => uptoBulk d + 1
  | .map entries => uptoBulkEntries entries + 1
  | .held _ => 1
def uptoBulkAll {H : Type} : List (DataW H) → Nat
  | [] => 0
  | d :: r => uptoBulk d + uptoBulkAll r
def uptoBulkEntries {H : Type} : List (Lit × DataW H) → Nat
  | [] => 0
  | x :: r => uptoBulkEntry x + uptoBulkEntries r
def uptoBulkEntry {H : Type} : Lit × DataW H → Nat
  | (.string bytes, d) => bytes.length + uptoBulk d + 1
  | (_, d) => uptoBulk d + 1
 end
def uptoSmall : (H : Type) → List (DataW H) → Bool := fun _ ds => decide (uptoBulkAll ds ≤ 1048576)
def OpenSpec.upto (s : _root_.Go.ChangeSpec) : _root_.Go.OpenSpec := { _root_.Go.OpenSpec.ofChange s with cond := some uptoSmall }

/-- 'bastillelaw27.RoleCalls', WHERE WHAT IT READS IS OF BULK AT MOST 1048576: true; the input reads as it did. -/
def roleCallsUptoRow : OpenClaim := { program := "ytanhholjfkofoaa", sum := "15e4c44ce5522f2d2f9f76052128db83060131f5b97c8805e59365f77e1bd05e", func := "bastille/bastillelaw27.RoleCalls", spec := "roleCalls", unfollowed := true, recurses := true, apart := false, narrowed := true }
def RoleCallsUptoSaid : Prop := roleCallsUptoRow.holds Try.pinned (OpenSpec.upto roleCallsSpec)

/-- 'bastillelaw27.RoleStep', WHERE WHAT IT READS IS OF BULK AT MOST 1048576: true; the input reads as it did. -/
def roleStepUptoRow : OpenClaim := { program := "ytanhholjfkofoaa", sum := "15e4c44ce5522f2d2f9f76052128db83060131f5b97c8805e59365f77e1bd05e", func := "bastille/bastillelaw27.RoleStep", spec := "roleStep", unfollowed := true, recurses := true, apart := false, narrowed := true }
def RoleStepUptoSaid : Prop := roleStepUptoRow.holds Try.pinned (OpenSpec.upto roleStepSpec)

/-- 'bastillelaw27.RoleStays', WHERE WHAT IT READS IS OF BULK AT MOST 1048576: true; the input reads as it did. -/
def roleStaysUptoRow : OpenClaim := { program := "ytanhholjfkofoaa", sum := "15e4c44ce5522f2d2f9f76052128db83060131f5b97c8805e59365f77e1bd05e", func := "bastille/bastillelaw27.RoleStays", spec := "roleStays", unfollowed := true, recurses := true, apart := false, narrowed := true }
def RoleStaysUptoSaid : Prop := roleStaysUptoRow.holds Try.pinned (OpenSpec.upto roleStaysSpec)

end Rows
end Go.Proofs.Ytanhholjfkofoaa
