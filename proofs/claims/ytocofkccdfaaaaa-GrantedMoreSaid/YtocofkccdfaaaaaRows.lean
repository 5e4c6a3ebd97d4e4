/-
  No cell of these rows narrows 'for every input' (looked for: loops, veiled, ifaces, maps, wideKeys, modest, calm, conditions, laid).
  DERIVED. THE GIVEN ROWS OF THIS SEAT. 4 by the template 'for every input the law returns true; each argument reads behind the call as it read before'; 0 by the template 'total and deterministic' (their statements: YtocofkccdfaaaaaTotals.lean).
  GIVEN WITH THE SEED: the statements are not yours to turn. If you find one false, say at which input.
  Laid BY PROGRAM, IN A SANDBOX (cutbox-rows.mjs): the forced cells as the released guide's own fill.sh prints them over the translation 1877f8ac183a2756… (all of the seat's roots in one cut). By AI agents, Wed Nov 11 2026. No macro, syntax, notation, axiom, sorry.
-/
import Derived.Test.YtocofkccdfaaaaaChecked
import GoSem.Claim
import GoSem.ClaimJoined
import GoSem.ClaimMapViews
import Derived.JoinedTies
import Derived.KernelRfl
namespace Go.Proofs.Ytocofkccdfaaaaa
/- THE CELL 'sum', in the pinned program and in every row, IS THE sha256 OF THE DUMP (.gsa) THAT YtocofkccdfaaaaaProg.lean LOADS. Nothing in Lean hashes anything: it is a label: what it is worth is what the hold of that sum in a sandbox is worth. -/
noncomputable def Try.pinned : Pinned := { name := "ytocofkccdfaaaaa", sum := "1877f8ac183a2756cd4cb357de84b2f4b9111dca8cc9f96bbe92d588f79d89cf", checked := Try.checked }
namespace Rows
def none {H : Type} : Left H := { results := [], args := [] }

/-- 'bastillelaw32.GrantedMore': WHATEVER THE INPUT: true; the input reads as it did. -/
def grantedMoreSpec : ChangeSpec := { name := "grantedMore", fn := fun _ => fun
  | [d1, d2, d3] => { results := [.lit (.bool true)], args := [d1, d2, d3] }
  | _ => none }
def grantedMoreRow : OpenClaim := { program := "ytocofkccdfaaaaa", sum := "1877f8ac183a2756cd4cb357de84b2f4b9111dca8cc9f96bbe92d588f79d89cf", func := "bastille/bastillelaw32.GrantedMore", spec := "grantedMore", unfollowed := true, recurses := true, plainKeys := false, apart := false }
def GrantedMoreSaid : Prop := grantedMoreRow.holds Try.pinned (OpenSpec.ofChange grantedMoreSpec)

/-- ITS FALSE NEIGHBOUR: 'it returns false'. Refute it at one input. -/
def grantedMoreWrong : ChangeSpec := { name := "grantedMore", fn := fun _ => fun
  | [d1, d2, d3] => { results := [.lit (.bool false)], args := [d1, d2, d3] }
  | _ => none }
def GrantedMoreWrongFalsely : Prop := grantedMoreRow.holds Try.pinned (OpenSpec.ofChange grantedMoreWrong)

/-- 'bastillelaw32.GrantedOlder': WHATEVER THE INPUT: true; the input reads as it did. -/
def grantedOlderSpec : ChangeSpec := { name := "grantedOlder", fn := fun _ => fun
  | [d1, d2, d3] => { results := [.lit (.bool true)], args := [d1, d2, d3] }
  | _ => none }
def grantedOlderRow : OpenClaim := { program := "ytocofkccdfaaaaa", sum := "1877f8ac183a2756cd4cb357de84b2f4b9111dca8cc9f96bbe92d588f79d89cf", func := "bastille/bastillelaw32.GrantedOlder", spec := "grantedOlder", unfollowed := true, recurses := true, plainKeys := false, apart := false }
def GrantedOlderSaid : Prop := grantedOlderRow.holds Try.pinned (OpenSpec.ofChange grantedOlderSpec)

/-- ITS FALSE NEIGHBOUR: 'it returns false'. Refute it at one input. -/
def grantedOlderWrong : ChangeSpec := { name := "grantedOlder", fn := fun _ => fun
  | [d1, d2, d3] => { results := [.lit (.bool false)], args := [d1, d2, d3] }
  | _ => none }
def GrantedOlderWrongFalsely : Prop := grantedOlderRow.holds Try.pinned (OpenSpec.ofChange grantedOlderWrong)

/-- 'bastillelaw32.GrantedReach': WHATEVER THE INPUT: true; the input reads as it did. -/
def grantedReachSpec : ChangeSpec := { name := "grantedReach", fn := fun _ => fun
  | [d1, d2, d3] => { results := [.lit (.bool true)], args := [d1, d2, d3] }
  | _ => none }
def grantedReachRow : OpenClaim := { program := "ytocofkccdfaaaaa", sum := "1877f8ac183a2756cd4cb357de84b2f4b9111dca8cc9f96bbe92d588f79d89cf", func := "bastille/bastillelaw32.GrantedReach", spec := "grantedReach", unfollowed := true, recurses := true, plainKeys := false, apart := false }
def GrantedReachSaid : Prop := grantedReachRow.holds Try.pinned (OpenSpec.ofChange grantedReachSpec)

/-- ITS FALSE NEIGHBOUR: 'it returns false'. Refute it at one input. -/
def grantedReachWrong : ChangeSpec := { name := "grantedReach", fn := fun _ => fun
  | [d1, d2, d3] => { results := [.lit (.bool false)], args := [d1, d2, d3] }
  | _ => none }
def GrantedReachWrongFalsely : Prop := grantedReachRow.holds Try.pinned (OpenSpec.ofChange grantedReachWrong)

/-- 'bastillelaw32.GrantedStale': WHATEVER THE INPUT: true; the input reads as it did. -/
def grantedStaleSpec : ChangeSpec := { name := "grantedStale", fn := fun _ => fun
  | [d1, d2, d3] => { results := [.lit (.bool true)], args := [d1, d2, d3] }
  | _ => none }
def grantedStaleRow : OpenClaim := { program := "ytocofkccdfaaaaa", sum := "1877f8ac183a2756cd4cb357de84b2f4b9111dca8cc9f96bbe92d588f79d89cf", func := "bastille/bastillelaw32.GrantedStale", spec := "grantedStale", unfollowed := true, recurses := true, plainKeys := false, apart := false }
def GrantedStaleSaid : Prop := grantedStaleRow.holds Try.pinned (OpenSpec.ofChange grantedStaleSpec)

/-- ITS FALSE NEIGHBOUR: 'it returns false'. Refute it at one input. -/
def grantedStaleWrong : ChangeSpec := { name := "grantedStale", fn := fun _ => fun
  | [d1, d2, d3] => { results := [.lit (.bool false)], args := [d1, d2, d3] }
  | _ => none }
def GrantedStaleWrongFalsely : Prop := grantedStaleRow.holds Try.pinned (OpenSpec.ofChange grantedStaleWrong)

/- THE SECOND FORM. 'bulk': how many values and letters a reading holds, each counted each time it is reached (what is shared counts as often as it is met; a slice's spare places count too). A statement '..UptoSaid' is the law's where the arguments, and the package variables that the reading takes, are together of bulk at most 1048576: NARROWER than '..Said'. Prove '..Said' where nothing that the law and all that it calls make is longer than what came in: it says more and counts as full. Else prove '..UptoSaid'. A law counts once. -/
mutual
def uptoBulk {H : Type} : DataW H → Nat
  | .lit (.string bytes) => bytes.length + 1
  | .lit _ => 1
  | .nil => 1
  | .ptr d => uptoBulk d + 1
  | .slice elems spare => uptoBulkAll elems + uptoBulkAll spare + 1
  | .agg parts => uptoBulkAll parts + 1
  | .iface _ d => uptoBulk d + 1
  | .map entries => uptoBulkEntries entries + 1
  | .held _ => 1
def uptoBulkAll {H : Type} : List (DataW H) → Nat
  | [] => 0
  | d :: r => uptoBulk d + uptoBulkAll r
def uptoBulkEntries {H : Type} : List (Lit × DataW H) → Nat
  | [] => 0
  | x :: r => uptoBulkEntry x + uptoBulkEntries r
def uptoBulkEntry {H : Type} : Lit × DataW H → Nat
  | (.string bytes, d) => bytes.length + uptoBulk d + 1
  | (_, d) => uptoBulk d + 1
 end
def uptoSmall : (H : Type) → List (DataW H) → Bool := fun _ ds => decide (uptoBulkAll ds ≤ 1048576)
def OpenSpec.upto (s : _root_.Go.ChangeSpec) : _root_.Go.OpenSpec := { _root_.Go.OpenSpec.ofChange s with cond := some uptoSmall }

/-- 'bastillelaw32.GrantedMore', WHERE WHAT IT READS IS OF BULK AT MOST 1048576: true; the input reads as it did. -/
def grantedMoreUptoRow : OpenClaim := { program := "ytocofkccdfaaaaa", sum := "1877f8ac183a2756cd4cb357de84b2f4b9111dca8cc9f96bbe92d588f79d89cf", func := "bastille/bastillelaw32.GrantedMore", spec := "grantedMore", unfollowed := true, recurses := true, plainKeys := false, apart := false, narrowed := true }
def GrantedMoreUptoSaid : Prop := grantedMoreUptoRow.holds Try.pinned (OpenSpec.upto grantedMoreSpec)

/-- 'bastillelaw32.GrantedOlder', WHERE WHAT IT READS IS OF BULK AT MOST 1048576: true; the input reads as it did. -/
def grantedOlderUptoRow : OpenClaim := { program := "ytocofkccdfaaaaa", sum := "1877f8ac183a2756cd4cb357de84b2f4b9111dca8cc9f96bbe92d588f79d89cf", func := "bastille/bastillelaw32.GrantedOlder", spec := "grantedOlder", unfollowed := true, recurses := true, plainKeys := false, apart := false, narrowed := true }
def GrantedOlderUptoSaid : Prop := grantedOlderUptoRow.holds Try.pinned (OpenSpec.upto grantedOlderSpec)

/-- 'bastillelaw32.GrantedReach', WHERE WHAT IT READS IS OF BULK AT MOST 1048576: true; the input reads as it did. -/
def grantedReachUptoRow : OpenClaim := { program := "ytocofkccdfaaaaa", sum := "1877f8ac183a2756cd4cb357de84b2f4b9111dca8cc9f96bbe92d588f79d89cf", func := "bastille/bastillelaw32.GrantedReach", spec := "grantedReach", unfollowed := true, recurses := true, plainKeys := false, apart := false, narrowed := true }
def GrantedReachUptoSaid : Prop := grantedReachUptoRow.holds Try.pinned (OpenSpec.upto grantedReachSpec)

/-- 'bastillelaw32.GrantedStale', WHERE WHAT IT READS IS OF BULK AT MOST 1048576: true; the input reads as it did. -/
def grantedStaleUptoRow : OpenClaim := { program := "ytocofkccdfaaaaa", sum := "1877f8ac183a2756cd4cb357de84b2f4b9111dca8cc9f96bbe92d588f79d89cf", func := "bastille/bastillelaw32.GrantedStale", spec := "grantedStale", unfollowed := true, recurses := true, plainKeys := false, apart := false, narrowed := true }
def GrantedStaleUptoSaid : Prop := grantedStaleUptoRow.holds Try.pinned (OpenSpec.upto grantedStaleSpec)

end Rows
end Go.Proofs.Ytocofkccdfaaaaa
