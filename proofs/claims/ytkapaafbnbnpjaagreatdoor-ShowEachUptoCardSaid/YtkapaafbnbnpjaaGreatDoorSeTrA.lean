/- Layer show: the lines of a tree while they grow: what is in memory. No condition but those that each lemma names. -/
import Derived.Test.YtkapaafbnbnpjaaGreatDoorSeIn
import Derived.Test.YtkapaafbnbnpjaaGreatDoorSeItems
namespace Go.Proofs.YtkapaafbnbnpjaaGreatDoor
open Go.RowKit Go.Deep

section
variable {P : Program} {α : Type} {e : TypeId} {sz : Nat} {R : Rp α} {B B' : Nat → Prop} {w w' : World} {base : Nat} {v : Value} {l : List α}
theorem step_grow2 (w : World) {ops : Array Oper} {o : Oper} {a : Act} {K : Act → World → Prop} {Q : Exit → Act → World → Prop} {E : Prop} (hgd : o.guard = none) (s x : Operand) (t : TypeId)
    (ho : o.op = .call { callee := .builtin .append, args := #[s, x], argTypes := #[t, t] })
    (e : TypeId) (i : TypeInfo) (z : Value) (sz bytes : Nat) (ht : P.underlying t = some (.slice e)) (hi : P.info? e = some i) (hz : i.zero = some z)
    (hsize : i.size = sz) (hby : i.bytes = bytes) (hzs : z.cells.size = sz) (hsz : 0 < sz) (ok : RpOk sz R) (base : Nat) (hbase : base ≤ w.heap.size) (v : Value) (l : List α) (hs : a.eval s = v) (hown : Grow e sz R B w base v l)
    (A : Option Addr) (m c : Nat) (hx : a.eval x = .slice A m c) (l2 : List α) (hm : m = l2.length) (hsl : SlAt sz R (Free B w v) w A l2) (hbytes : (l.length + m) * bytes ≤ 140737488355328) (hb0 : 0 < bytes)
    (h : ∀ v' w', Grow e sz R B w' base v' (l ++ l2) → w.grownBy w' v.ownBlock → (v'.ownBlock = v.ownBlock ∨ v'.ownBlock = some w.heap.size) → K (a.put o.dst v') w') : if Region.wanted o (yielded ops a.tmps) = true then Oper.wp P o a w K Q else E := by
  have hw : Region.wanted o (yielded ops a.tmps) = true := by simp [Region.wanted, hgd]
  rw [if_pos hw]
  obtain ⟨v', w', r1, r2, r3, r4⟩ := run_own_append (P := P) w t o.type e i z sz bytes ht hi hz hsize hby hzs hsz ok base hbase v l hown A m c l2 hm hsl hbytes hb0
  refine Lib.wp_append_run w s x t t ho _ _ hs hx v' w' r1 (h v' w' ?_ r3 r4)
  refine Own.keep (S' := Free B w' v') ok r2 (fun b _ => rfl) (fun b hb hl => ⟨⟨hl, hb.2.1, ?_⟩, rfl⟩) fun b hb => ⟨hb.1, hb.2.2⟩
  rcases r4 with g3 | g3
  · rw [g3]; exact hb.2.2
  · rw [g3]; have := hb.1; simp only [ne_eq, Option.some.injEq]; omega
end

/-- The call's own: the state's box, the lines' box, the function's box. -/
structure TS (st : List Value) (bs bo bb base : Nat) (w0 W : World) (v : Value) (X : List Nm) : Prop where
  below : Below w0.heap.size w0 W
  state : W.heap[bs]? = some (.cells st.toArray 26 (0, 0))
  fn : W.heap[bb]? = some (.cells #[.func (.func 18) #[] #[.pointer (some ⟨bs, 0, none⟩), .pointer (some ⟨bo, 0, none⟩), .pointer (some ⟨bb, 0, none⟩)]] 58 (0, 0))
  out : W.heap[bo]? = some (.cells #[v] 37 (0, 0))
  grow : Grow 9 1 rStr (fun z => z = bo) W base v X
  size : base ≤ W.heap.size
/-- From one such world to a later one. -/
def Gr1 (bo : Nat) (W : World) (v : Value) (W' : World) (v' : Value) : Prop := ButB (fun z => z = bo ∨ v.ownBlock = some z) W W' ∧ ∀ b, v'.ownBlock = some b → v.ownBlock = some b ∨ W.heap.size ≤ b
theorem Gr1.refl (bo : Nat) (W : World) (v : Value) : Gr1 bo W v W v := ⟨ButB.refl _ _, fun _ h => .inl h⟩
theorem Gr1.trans {bo : Nat} {W W1 W2 : World} {v v1 v2 : Value} (h : Gr1 bo W v W1 v1) (k : Gr1 bo W1 v1 W2 v2) : Gr1 bo W v W2 v2 := by
  obtain ⟨h1, h2⟩ := h
  obtain ⟨k1, k2⟩ := k
  refine ⟨⟨k1.os.trans h1.os, k1.tape.trans h1.tape, k1.output.trans h1.output, Nat.le_trans h1.size k1.size, fun z hz hn => ?_⟩, fun b hb => ?_⟩
  · refine (k1.block z (Nat.lt_of_lt_of_le hz h1.size) fun e => ?_).trans (h1.block z hz hn)
    rcases e with e | e
    · exact hn (.inl e)
    · rcases h2 z e with e | e
      · exact hn (.inr e)
      · omega
  · rcases k2 b hb with h | h
    · exact h2 b h
    · exact .inr (Nat.le_trans h1.size h)
theorem Gr1.below {bo : Nat} {W W' : World} (v : Value) (h : Below W.heap.size W W') : Gr1 bo W v W' v := ⟨ButB.of h, fun _ h => .inl h⟩
section
variable {st : List Value} {bs bo bb base : Nat} {w0 W W' : World} {v v' : Value} {X X' l2 : List Nm}
theorem TS.to (h : TS st bs bo bb base w0 W v X) (hb : Below W.heap.size W W') : TS st bs bo bb base w0 W' v X :=
  ⟨bel_call h.below hb, blk_below hb h.state (blk_lt h.state), blk_below hb h.fn (blk_lt h.fn), blk_below hb h.out (blk_lt h.out), h.grow.below rStr_ok hb, Nat.le_trans h.size hb.size⟩
/-- append, and the store of what it gave. -/
theorem TS.step (h : TS st bs bo bb base w0 W v X) (h1 : bs < base) (h2 : bo < base) (h3 : bb < base) (h4 : bs ≠ bo) (h5 : bb ≠ bo) (h6 : w0.heap.size ≤ bo) (hg : Grow 9 1 rStr (fun z => z = bo) W' base v' (X ++ l2)) (hgg : W.grownBy W' v.ownBlock) (ho : v'.ownBlock = v.ownBlock ∨ v'.ownBlock = some W.heap.size) :
    TS st bs bo bb base w0 (W'.setCell ⟨bo, 0, none⟩ v') v' (X ++ l2) ∧ Gr1 bo W v (W'.setCell ⟨bo, 0, none⟩ v') v' := by
  have hbl := h.grow.base_le
  have hno : ∀ z, z < base → v.ownBlock ≠ some z := fun z hz e => by have := (hbl z e).1; omega
  have hn' : v'.ownBlock ≠ some bo := by
    rcases ho with e | e
    · rw [e]; exact hno bo h2
    · rw [e]; intro e; have := Option.some.inj e; have := h.size; omega
  have hB : Below w0.heap.size w0 W' := Below.grown h.below hgg h.below.size (fun b hb => by have := (hbl b hb).1; omega)
  have hout : W'.heap[bo]? = some (.cells #[v] 37 (0, 0)) := blk_grown hgg h.out (hno bo h2)
  have hbw : ButB (fun z => z = bo ∨ v.ownBlock = some z) W W' := ⟨hgg.os, hgg.tape, hgg.output, hgg.size, fun z hz hn => hgg.block z hz fun e => hn (.inr e.symm)⟩
  refine ⟨⟨hB.setCell (by dsimp only; omega) _, blk_set_other _ (blk_grown hgg h.state (hno bs h1)) h4, blk_set_other _ (blk_grown hgg h.fn (hno bb h3)) h5, blk_set_same v' hout rfl, hg.set rStr_ok v' rfl hn', by simpa using Nat.le_trans h.size hgg.size⟩, hbw.set _ _ (.inl rfl), fun b hb => ?_⟩
  rcases ho with e | e
  · exact .inl (e ▸ hb)
  · rw [e] at hb
    exact .inr (Nat.le_of_eq (Option.some.inj hb))
end
/-- How many lines there may be. -/
def maxL : Nat → Nat
  | 0 => 0
  | n + 1 => 8 * (1 + 100 + maxL n)
def OkLines (X : List Nm) : Prop := ∀ x ∈ X, x.size ≤ 1048700
theorem OkLines.app {X Y : List Nm} (h : OkLines X) (k : OkLines Y) : OkLines (X ++ Y) := fun x hx => (List.mem_append.1 hx).elim (h x) (k x)
end Go.Proofs.YtkapaafbnbnpjaaGreatDoor
