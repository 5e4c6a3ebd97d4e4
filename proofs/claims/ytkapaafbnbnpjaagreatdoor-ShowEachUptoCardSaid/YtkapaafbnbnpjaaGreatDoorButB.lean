/- Of a world's blocks none turned but those of B. No condition but those that each lemma names. -/
import Derived.Test.YtkapaafbnbnpjaaGreatDoorBlk
namespace Go.Proofs.YtkapaafbnbnpjaaGreatDoor
open Go.RowKit

/-- Of the blocks of w none turned but those of B; new ones may lie behind. -/
structure ButB (B : Nat → Prop) (w w' : World) : Prop where
  os : w'.os = w.os
  tape : w'.tape = w.tape
  output : w'.output = w.output
  size : w.heap.size ≤ w'.heap.size
  block : ∀ k, k < w.heap.size → ¬ B k → w'.heap[k]? = w.heap[k]?
section
variable {B : Nat → Prop} {w w1 w' : World}
theorem ButB.refl (B : Nat → Prop) (w : World) : ButB B w w := ⟨rfl, rfl, rfl, Nat.le_refl _, fun _ _ _ => rfl⟩
theorem ButB.of (h : Below w.heap.size w w') : ButB B w w' := ⟨h.os, h.tape, h.output, h.size, fun k hk _ => h.block k hk⟩
theorem ButB.grown {m : Nat} (h : w.grownBy w' (some m)) (hB : B m) : ButB B w w' := ⟨h.os, h.tape, h.output, h.size, fun k hk hb => h.block k hk fun e => hb (by cases e; exact hB)⟩
theorem ButB.set (h : ButB B w w') (a : Addr) (v : Value) (ha : B a.block) : ButB B w (w'.setCell a v) := have b := (Below.refl 0 w').setCell (p := a) (Nat.zero_le _) v
  ⟨b.os.trans h.os, b.tape.trans h.tape, b.output.trans h.output, by simpa using h.size, fun k hk hc => (Below.heap_setCell _ _ _ _ (fun e => hc (by rw [e]; exact ha))).trans (h.block k hk hc)⟩
theorem ButB.trans (h : ButB B w w1) (k : ButB B w1 w') : ButB B w w' := ⟨k.os.trans h.os, k.tape.trans h.tape, k.output.trans h.output, Nat.le_trans h.size k.size, fun b hb hc => (k.block b (Nat.lt_of_lt_of_le hb h.size) hc).trans (h.block b hb hc)⟩
theorem ButB.below {n : Nat} {w0 : World} (h : Below n w0 w) (hn : n ≤ w.heap.size) (hB : ∀ k, B k → n ≤ k) (k : ButB B w w') : Below n w0 w' :=
  ⟨k.os.trans h.os, k.tape.trans h.tape, k.output.trans h.output, Nat.le_trans h.size k.size, fun b hb => (k.block b (by omega) fun hb' => by have := hB b hb'; omega).trans (h.block b hb)⟩
end
theorem ButB.mono {B B' : Nat → Prop} {w w' : World} (h : ButB B w w') (k : ∀ x, B x → B' x) : ButB B' w w' := ⟨h.os, h.tape, h.output, h.size, fun x hx hb => h.block x hx fun e => hb (k x e)⟩
theorem ButB.fresh {B : Nat → Prop} {w w' : World} (h : ButB B w w') (k : ∀ x, B x → w.heap.size ≤ x) : Below w.heap.size w w' := ⟨h.os, h.tape, h.output, h.size, fun x hx => h.block x hx fun e => by have := k x e; omega⟩
theorem ButB.kept {B S S' : Nat → Prop} {w w' : World} (h : ButB B w w') (hS : ∀ x, S x → S' x ∧ ¬ B x) : Go.Proofs.YtkapaafbnbnpjaaGreatDoor.Kept S S' w w' := fun x hx hl => ⟨(hS x hx).1, h.block x hl (hS x hx).2⟩
end Go.Proofs.YtkapaafbnbnpjaaGreatDoor
