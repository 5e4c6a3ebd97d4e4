/-
  No cell of these rows narrows 'for every input' (looked for: loops, veiled, ifaces, maps, wideKeys, modest, calm, conditions, laid).
  DERIVED. THE GIVEN ROWS OF THIS SEAT. 3 by the template 'for every input the law returns true; each argument reads behind the call as it read before'; 0 by the template 'total and deterministic' (their statements: YtdddgmmbdofomaaTotals.lean).
  GIVEN WITH THE SEED: the statements are not yours to turn. If you find one false, say at which input.
  Laid BY PROGRAM, IN A SANDBOX (cutbox-rows.mjs): the forced cells as the released guide's own fill.sh prints them over the translation d42d53a05abb7902… (all of the seat's roots in one cut). By AI agents, Wed Nov 11 2026. No macro, syntax, notation, axiom, sorry.
-/
import Derived.Test.YtdddgmmbdofomaaChecked
import GoSem.Claim
import GoSem.ClaimJoined
import GoSem.ClaimMapViews
import Derived.JoinedTies
import Derived.KernelRfl
namespace Go.Proofs.Ytdddgmmbdofomaa
/- THE CELL 'sum', in the pinned program and in every row, IS THE sha256 OF THE DUMP (.gsa) THAT YtdddgmmbdofomaaProg.lean LOADS. Nothing in Lean hashes anything: it is a label: what it is worth is what the hold of that sum in a sandbox is worth. -/
noncomputable def Try.pinned : Pinned := { name := "ytdddgmmbdofomaa", sum := "d42d53a05abb79024c5b91ad4d98a4cb7480941508e5136b82f8593d8c3911d0", checked := Try.checked }
namespace Rows
def none {H : Type} : Left H := { results := [], args := [] }

/-- 'bastillelaw33.BoundLeft': WHATEVER THE INPUT: true; the input reads as it did. -/
def boundLeftSpec : ChangeSpec := { name := "boundLeft", fn := fun _ => fun
  | [d1, d2, d3] => { results := [.lit (.bool true)], args := [d1, d2, d3] }
  | _ => none }
def boundLeftRow : OpenClaim := { program := "ytdddgmmbdofomaa", sum := "d42d53a05abb79024c5b91ad4d98a4cb7480941508e5136b82f8593d8c3911d0", func := "bastille/bastillelaw33.BoundLeft", spec := "boundLeft", unfollowed := true, recurses := true, apart := false }
def BoundLeftSaid : Prop := boundLeftRow.holds Try.pinned (OpenSpec.ofChange boundLeftSpec)

/-- ITS FALSE NEIGHBOUR: 'it returns false'. Refute it at one input. -/
def boundLeftWrong : ChangeSpec := { name := "boundLeft", fn := fun _ => fun
  | [d1, d2, d3] => { results := [.lit (.bool false)], args := [d1, d2, d3] }
  | _ => none }
def BoundLeftWrongFalsely : Prop := boundLeftRow.holds Try.pinned (OpenSpec.ofChange boundLeftWrong)

/-- 'bastillelaw33.BoundWeight': WHATEVER THE INPUT: true; the input reads as it did. -/
def boundWeightSpec : ChangeSpec := { name := "boundWeight", fn := fun _ => fun
  | [d1, d2] => { results := [.lit (.bool true)], args := [d1, d2] }
  | _ => none }
def boundWeightRow : OpenClaim := { program := "ytdddgmmbdofomaa", sum := "d42d53a05abb79024c5b91ad4d98a4cb7480941508e5136b82f8593d8c3911d0", func := "bastille/bastillelaw33.BoundWeight", spec := "boundWeight", unfollowed := true, recurses := true, apart := false }
def BoundWeightSaid : Prop := boundWeightRow.holds Try.pinned (OpenSpec.ofChange boundWeightSpec)

/-- ITS FALSE NEIGHBOUR: 'it returns false'. Refute it at one input. -/
def boundWeightWrong : ChangeSpec := { name := "boundWeight", fn := fun _ => fun
  | [d1, d2] => { results := [.lit (.bool false)], args := [d1, d2] }
  | _ => none }
def BoundWeightWrongFalsely : Prop := boundWeightRow.holds Try.pinned (OpenSpec.ofChange boundWeightWrong)

/-- 'bastillelaw33.BoundCounts': WHATEVER THE INPUT: true; the input reads as it did. -/
def boundCountsSpec : ChangeSpec := { name := "boundCounts", fn := fun _ => fun
  | [d1, d2, d3] => { results := [.lit (.bool true)], args := [d1, d2, d3] }
  | _ => none }
def boundCountsRow : OpenClaim := { program := "ytdddgmmbdofomaa", sum := "d42d53a05abb79024c5b91ad4d98a4cb7480941508e5136b82f8593d8c3911d0", func := "bastille/bastillelaw33.BoundCounts", spec := "boundCounts", unfollowed := true, recurses := true, apart := false }
def BoundCountsSaid : Prop := boundCountsRow.holds Try.pinned (OpenSpec.ofChange boundCountsSpec)

/-- ITS FALSE NEIGHBOUR: 'it returns false'. Refute it at one input. -/
def boundCountsWrong : ChangeSpec := { name := "boundCounts", fn := fun _ => fun
  | [d1, d2, d3] => { results := [.lit (.bool false)], args := [d1, d2, d3] }
  | _ => none }
def BoundCountsWrongFalsely : Prop := boundCountsRow.holds Try.pinned (OpenSpec.ofChange boundCountsWrong)

/- THE SECOND FORM. 'bulk': how many values and letters a reading holds, each counted each time it is reached (what is shared counts as often as it is met; a slice's spare places count too). A statement '..UptoSaid' is the law's where the arguments, and the package variables that the reading takes, are together of bulk at most 1048576: NARROWER than '..Said'. Prove '..Said' where nothing that the law and all that it calls make is longer than what came in: it says more and counts as full. Else prove '..UptoSaid'. A law counts once. -/
mutual
def uptoBulk {H : Type} : DataW H → Nat
  | .lit (.string bytes) => bytes.length + 1
  | .lit _ => 1
  | .nil => 1
  | .ptr d => uptoBulk d + 1
  | .slice elems spare => uptoBulkAll elems + uptoBulkAll spare + 1
  | .agg parts => uptoBulkAll parts + 1
  | .iface _ d => uptoBulk d + 1
  | .map entries => uptoBulkEntries entries + 1
  | .held _ => 1
def uptoBulkAll {H : Type} : List (DataW H) → Nat
  | [] => 0
  | d :: r => uptoBulk d + uptoBulkAll r
def uptoBulkEntries {H : Type} : List (Lit × DataW H) → Nat
  | [] => 0
  | x :: r => uptoBulkEntry x + uptoBulkEntries r
def uptoBulkEntry {H : Type} : Lit × DataW H → Nat
  | (.string bytes, d) => bytes.length + uptoBulk d + 1
  | (_, d) => uptoBulk d + 1
 end
def uptoSmall : (H : Type) → List (DataW H) → Bool := fun _ ds => decide (uptoBulkAll ds ≤ 1048576)
def OpenSpec.upto (s : _root_.Go.ChangeSpec) : _root_.Go.OpenSpec := { _root_.Go.OpenSpec.ofChange s with cond := some uptoSmall }

/-- 'bastillelaw33.BoundLeft', WHERE WHAT IT READS IS OF BULK AT MOST 1048576: true; the input reads as it did. -/
def boundLeftUptoRow : OpenClaim := { program := "ytdddgmmbdofomaa", sum := "d42d53a05abb79024c5b91ad4d98a4cb7480941508e5136b82f8593d8c3911d0", func := "bastille/bastillelaw33.BoundLeft", spec := "boundLeft", unfollowed := true, recurses := true, apart := false, narrowed := true }
def BoundLeftUptoSaid : Prop := boundLeftUptoRow.holds Try.pinned (OpenSpec.upto boundLeftSpec)

/-- 'bastillelaw33.BoundWeight', WHERE WHAT IT READS IS OF BULK AT MOST 1048576: true; the input reads as it did. -/
def boundWeightUptoRow : OpenClaim := { program := "ytdddgmmbdofomaa", sum := "d42d53a05abb79024c5b91ad4d98a4cb7480941508e5136b82f8593d8c3911d0", func := "bastille/bastillelaw33.BoundWeight", spec := "boundWeight", unfollowed := true, recurses := true, apart := false, narrowed := true }
def BoundWeightUptoSaid : Prop := boundWeightUptoRow.holds Try.pinned (OpenSpec.upto boundWeightSpec)

/-- 'bastillelaw33.BoundCounts', WHERE WHAT IT READS IS OF BULK AT MOST 1048576: true; the input reads as it did. -/
def boundCountsUptoRow : OpenClaim := { program := "ytdddgmmbdofomaa", sum := "d42d53a05abb79024c5b91ad4d98a4cb7480941508e5136b82f8593d8c3911d0", func := "bastille/bastillelaw33.BoundCounts", spec := "boundCounts", unfollowed := true, recurses := true, apart := false, narrowed := true }
def BoundCountsUptoSaid : Prop := boundCountsUptoRow.holds Try.pinned (OpenSpec.upto boundCountsSpec)

end Rows
end Go.Proofs.Ytdddgmmbdofomaa
