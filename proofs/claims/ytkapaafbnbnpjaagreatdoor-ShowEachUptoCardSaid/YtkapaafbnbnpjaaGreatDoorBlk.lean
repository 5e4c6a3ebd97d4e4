/- A call's own memory: blocks of known cells, and a slice that grows (all but the call's own changing blocks may be read from its elements). No condition but those that each lemma names. -/
import Derived.Test.YtkapaafbnbnpjaaGreatDoorZeros
namespace Go.Proofs.YtkapaafbnbnpjaaGreatDoor
open Go.RowKit Go.Deep

/-! Blocks of known cells. -/
section
variable {w w' : World} {b : Nat} {cs : Array Value} {T : TypeId} {o : Obj}
theorem blk_cells (h : w.heap[b]? = some (.cells cs T (0, 0))) : (∀ j v, cs[j]? = some v → w.cell? ⟨b, j, none⟩ = some v) ∧ (∀ j, w.frozen? ⟨b, j, none⟩ = false) :=
  ⟨fun j v hj => by rw [cell_of_row w b j cs T (0, 0) h]; exact hj, fun j => by unfold World.frozen?; rw [h]; simp⟩
theorem blk_lt (h : w.heap[b]? = some o) : b < w.heap.size := by
  rcases Nat.lt_or_ge b w.heap.size with h1 | h1
  · exact h1
  · rw [Array.getElem?_eq_none h1] at h; cases h
theorem blk_alloc_old (o' : Obj) (h : w.heap[b]? = some o) : (w.alloc o').heap[b]? = some o := by rw [heap_alloc_old _ _ (blk_lt h)]; exact h
theorem blk_alloc_new (o : Obj) (h : b = w.heap.size) : (w.alloc o).heap[b]? = some o := by subst h; exact heap_alloc_new _ _
theorem blk_set_other {a : Addr} (u : Value) (h : w.heap[b]? = some o) (hne : b ≠ a.block) : (w.setCell a u).heap[b]? = some o := by rw [Below.heap_setCell _ _ _ _ hne]; exact h
theorem blk_set_same {i : Nat} {cs' : Array Value} (u : Value) (h : w.heap[b]? = some (.cells cs T (0, 0))) (hc : cs.setIfInBounds i u = cs') : (w.setCell ⟨b, i, none⟩ u).heap[b]? = some (.cells cs' T (0, 0)) := by
  subst hc
  exact heap_setCell_same w b i cs T u h
theorem blk_drew (h : w.heap[b]? = some o) : w.drew.heap[b]? = some o := h
theorem blk_grown {row : Option Nat} (g : w.grownBy w' row) (h : w.heap[b]? = some o) (hne : row ≠ some b) : w'.heap[b]? = some o := (g.block b (blk_lt h) (fun e => hne e.symm)).trans h
theorem blk_below {n : Nat} (g : Below n w w') (h : w.heap[b]? = some o) (hne : b < n) : w'.heap[b]? = some o := (g.block b hne).trans h
end

/-- Everything but the blocks of B and v's own row. -/
def Free (B : Nat → Prop) (w : World) (v : Value) : Nat → Prop := fun b => b < w.heap.size ∧ ¬ B b ∧ v.ownBlock ≠ some b
def Grow {α : Type} (e : TypeId) (sz : Nat) (R : Rp α) (B : Nat → Prop) (w : World) (base : Nat) (v : Value) (l : List α) : Prop := Own e sz R (Free B w v) w base v l

section
variable {P : Program} {α : Type} {e : TypeId} {sz : Nat} {R : Rp α} {B B' : Nat → Prop} {w w' : World} {base : Nat} {v : Value} {l : List α}
theorem Grow.nil : Grow e sz R B w base (.slice none 0 0) ([] : List α) := Own.nil fun b h => h.1
theorem Grow.empty {g : Nat} (hg : w.heap[g]? = some (.cells #[] e (0, 0))) (hb : base ≤ g) : Grow e sz R B w base (.slice (some ⟨g, 0, none⟩) 0 0) ([] : List α) :=
  Own.empty hg hb fun b h => ⟨h.1, fun e => h.2.2 (by rw [e]; rfl)⟩
theorem Grow.len (h : Grow e sz R B w base v l) : l.length ≤ 140737488355328 := h.1
theorem Grow.base_le (h : Grow e sz R B w base v l) : ∀ b, v.ownBlock = some b → base ≤ b ∧ b < w.heap.size := Own.base_le h
theorem Grow.shape (h : Grow e sz R B w base v l) : ∃ A c, v = .slice A l.length c := Own.shape h
theorem Grow.shape' (h : Grow e sz R B w base v l) : ∃ A n c, v = .slice A n c ∧ n = l.length := by
  obtain ⟨A, c, h⟩ := h.shape
  exact ⟨A, _, c, h, rfl⟩
/-- The world turned, but neither the row nor what may be read. -/
theorem Grow.keep (ok : RpOk sz R) (h : Grow e sz R B w base v l) (hz : w.heap.size ≤ w'.heap.size) (hB : ∀ b, b < w.heap.size → B' b → B b) (hk : ∀ b, b < w.heap.size → ¬ B b → w'.heap[b]? = w.heap[b]?) (hv : ∀ b, v.ownBlock = some b → w'.heap[b]? = w.heap[b]?) :
    Grow e sz R B' w' base v l := by
  refine Own.keep ok h hv (fun b hb hl => ⟨⟨by omega, fun h' => hb.2.1 (hB b hl h'), hb.2.2⟩, hk b hl hb.2.1⟩) fun b hb => ⟨hb.1, hb.2.2⟩
theorem Grow.alloc (ok : RpOk sz R) (h : Grow e sz R B w base v l) (o : Obj) : Grow e sz R B (w.alloc o) base v l :=
  h.keep ok (by simp) (fun _ _ h => h) (fun b hl _ => heap_alloc_old _ _ hl) fun b hv => heap_alloc_old _ _ (h.base_le b hv).2
theorem Grow.set (ok : RpOk sz R) (h : Grow e sz R B w base v l) {a : Addr} (u : Value) (hB : B a.block) (hv : v.ownBlock ≠ some a.block) : Grow e sz R B (w.setCell a u) base v l :=
  h.keep ok (by simp) (fun _ _ h => h) (fun b hl hb => Below.heap_setCell _ _ _ _ fun e => hb (by rw [e]; exact hB)) fun b hb => Below.heap_setCell _ _ _ _ fun e => hv (by rw [hb, e])
theorem Grow.below (ok : RpOk sz R) (h : Grow e sz R B w base v l) (hb : Below w.heap.size w w') : Grow e sz R B w' base v l :=
  h.keep ok hb.size (fun _ _ h => h) (fun b hl _ => hb.block b hl) fun b hv => hb.block b (h.base_le b hv).2
theorem Grow.drew (ok : RpOk sz R) (h : Grow e sz R B w base v l) : Grow e sz R B w.drew base v l :=
  h.keep ok (Nat.le_refl _) (fun _ _ h => h) (fun b hl _ => rfl) fun b hv => rfl
theorem Grow.grown (ok : RpOk sz R) {row : Option Nat} (h : Grow e sz R B w base v l) (g : w.grownBy w' row) (hr : ∀ b, row = some b → B b ∧ v.ownBlock ≠ some b) : Grow e sz R B w' base v l :=
  h.keep ok g.size (fun _ _ h => h) (fun b hl hb => g.block b hl fun e => hb (hr b e.symm).1) fun b hv => g.block b (h.base_le b hv).2 fun e => (hr b e.symm).2 hv
/-- Other blocks change from now on. -/
theorem Grow.other (ok : RpOk sz R) (h : Grow e sz R B w base v l) (hB : ∀ b, b < w.heap.size → B' b → B b) : Grow e sz R B' w base v l :=
  h.keep ok (Nat.le_refl _) hB (fun b _ _ => rfl) fun b _ => rfl
/-- As a slice that may be read, once its row changes no more. -/
theorem Grow.sl (ok : RpOk sz R) (h : Grow e sz R B w base v l) {S : Nat → Prop} (hS : ∀ b, b < w.heap.size → ¬ B b → S b) (hv : ∀ b, v.ownBlock = some b → S b) : Sl sz R S w v l := by
  obtain ⟨A, c, hv', h1, h2, h3, h4⟩ := Own.sl ok h
  obtain ⟨_, _, xs, ⟨h3', h4'⟩, h5⟩ := h
  refine ⟨A, c, hv', h1, h2, h3, fun i x hx => ?_⟩
  rcases h4' with ⟨hv0, hn⟩ | ⟨g, cap, cur, hvg, hb, hg, hnc, hcm, hcs, htk⟩
  · have : l = [] := List.eq_nil_of_length_eq_zero hn
    subst this
    simp at hx
  · obtain ⟨ys, y1, y2, y3⟩ := h5 i x hx
    have hA : A = some ⟨g, 0, none⟩ := by rw [hvg] at hv'; cases hv'; rfl
    refine ⟨g, 0, ys, hA, hv g (by rw [hvg]; rfl), y1, fun j y hj => ?_, ok.keep y3 fun b hb' hl => ⟨?_, rfl⟩⟩
    · have hx' := y2 j y hj
      rw [cell_of_row w g _ cur e (0, 0) hg]
      rw [← htk, List.getElem?_take] at hx'
      split at hx'
      · simpa using hx'
      · cases hx'
    · exact hS b hl hb'.2.1

/-- What was there at the start may be read from the elements. -/
theorem kept_free {S : Nat → Prop} {wr : World} (h : Below w.heap.size w wr) (hB : ∀ b, B b → w.heap.size ≤ b) (hv : ∀ b, v.ownBlock = some b → w.heap.size ≤ b) : Kept S (Free B wr v) w wr := fun b hS hl =>
  ⟨⟨Nat.lt_of_lt_of_le hl h.size, fun hb => by have := hB b hb; omega, fun hb => by have := hv b hb; omega⟩, h.block b hl⟩

theorem wpList_grow (w : World) {ops : Array Oper} {rest : List Oper} {o : Oper} {a : Act} {Q : Exit → Act → World → Prop} (hgd : o.guard = none) (s x : Operand) (t : TypeId)
    (ho : o.op = .call { callee := .builtin .append, args := #[s, x], argTypes := #[t, t] })
    (e : TypeId) (i : TypeInfo) (z : Value) (sz bytes : Nat) (ht : P.underlying t = some (.slice e)) (hi : P.info? e = some i) (hz : i.zero = some z)
    (hsize : i.size = sz) (hby : i.bytes = bytes) (hzs : z.cells.size = sz) (hsz : 0 < sz) (ok : RpOk sz R) (base : Nat) (hbase : base ≤ w.heap.size) (v : Value) (l : List α) (hs : a.eval s = v) (hown : Grow e sz R B w base v l)
    (A : Option Addr) (m c : Nat) (hx : a.eval x = .slice A m c) (l2 : List α) (hm : m = l2.length) (hsl : SlAt sz R (Free B w v) w A l2) (hbytes : (l.length + m) * bytes ≤ 140737488355328) (hb0 : 0 < bytes)
    (h : ∀ v' w', Grow e sz R B w' base v' (l ++ l2) → w.grownBy w' v.ownBlock → (v'.ownBlock = v.ownBlock ∨ v'.ownBlock = some w.heap.size) → wpList P ops Q rest (a.put o.dst v') w') : wpList P ops Q (o :: rest) a w := by
  refine wpList_own_append w hgd s x t ho e i z sz bytes ht hi hz hsize hby hzs hsz ok base hbase v l hs hown A m c hx l2 hm hsl hbytes hb0 fun v' w' g1 g2 g3 => h v' w' ?_ g2 g3
  refine Own.keep (S' := Free B w' v') ok g1 (fun b _ => rfl) (fun b hb hl => ⟨⟨hl, hb.2.1, ?_⟩, rfl⟩) fun b hb => ⟨hb.1, hb.2.2⟩
  rcases g3 with g3 | g3
  · rw [g3]; exact hb.2.2
  · rw [g3]; have := hb.1; simp only [ne_eq, Option.some.injEq]; omega

theorem wpList_grow_zeros (w : World) {ops : Array Oper} {rest : List Oper} {o : Oper} {a : Act} {Q : Exit → Act → World → Prop} (hgd : o.guard = none) (s x : Operand) (t tn : TypeId)
    (ho : o.op = .call { callee := .builtin .append, args := #[s, x], argTypes := #[t, tn] })
    (e : TypeId) (i : TypeInfo) (z : Value) (sz bytes : Nat) (kn k : IntKind) (ht : P.underlying t = some (.slice e)) (htn : P.underlying tn = some (.int kn)) (hi : P.info? e = some i) (hz : i.zero = some z)
    (hsize : i.size = sz) (hby : i.bytes = bytes) (hzs : z.cells.size = sz) (hsz : 0 < sz) (ok : RpOk sz R) (x0 : α) (hx0 : ∀ (S : Nat → Prop) (w : World), R S w z.cells.toList x0) (base : Nat) (hbase : base ≤ w.heap.size) (v : Value) (l : List α) (hs : a.eval s = v) (hown : Grow e sz R B w base v l)
    (n : Nat) (hx : a.eval x = .int k n) (hbytes : (l.length + n) * bytes ≤ 140737488355328) (hb0 : 0 < bytes)
    (h : ∀ v' w', Grow e sz R B w' base v' (l ++ List.replicate n x0) → w.grownBy w' v.ownBlock → (v'.ownBlock = v.ownBlock ∨ v'.ownBlock = some w.heap.size) → wpList P ops Q rest (a.put o.dst v') w') : wpList P ops Q (o :: rest) a w := by
  obtain ⟨v', w', r1, g1, g2, g3⟩ := run_own_zeros (P := P) w t tn o.type e i z sz bytes k kn ht htn hi hz hsize hby hzs hsz hb0 ok x0 (hx0 _) base hbase v l hown n hbytes
  refine Lib.wpList_append_run w hgd s x t tn ho _ _ hs hx v' w' r1 (h v' w' ?_ g2 g3)
  refine Own.keep (S' := Free B w' v') ok g1 (fun b _ => rfl) (fun b hb hl => ⟨⟨hl, hb.2.1, ?_⟩, rfl⟩) fun b hb => ⟨hb.1, hb.2.2⟩
  rcases g3 with g3 | g3
  · rw [g3]; exact hb.2.2
  · rw [g3]; have := hb.1; simp only [ne_eq, Option.some.injEq]; omega

/-- One element, just laid in a new block. -/
theorem SlAt_one {S : Nat → Prop} {b o : Nat} {x : α} (ys : List Value) (hS : S b) (hl : ys.length = sz) (hc : ∀ j y, ys[j]? = some y → w.cell? ⟨b, o + j, none⟩ = some y) (hR : R S w ys x) : SlAt sz R S w (some ⟨b, o, none⟩) [x] := by
  intro i z hi
  rcases i with _ | i
  · simp at hi
    subst hi
    exact ⟨b, o, ys, rfl, hS, hl, fun j y hj => by rw [Nat.zero_mul, Nat.zero_add]; exact hc j y hj, hR⟩
  · simp at hi
end

theorem kept_alloc {B : Nat → Prop} {w : World} {v : Value} (o : Obj) : Kept (Free B w v) (Free B (w.alloc o) v) w (w.alloc o) := fun b hb hl =>
  ⟨⟨by simp; omega, hb.2.1, hb.2.2⟩, heap_alloc_old _ _ hl⟩
theorem kept_set {S : Nat → Prop} {w : World} {a : Addr} (u : Value) (h : ¬ S a.block) : Kept S S w (w.setCell a u) := fun b hb _ => ⟨hb, Below.heap_setCell _ _ _ _ fun e => h (by rw [← e]; exact hb)⟩
theorem nil_own {b n c : Nat} : Value.ownBlock (.slice none n c) ≠ some b := by simp [Value.ownBlock]
theorem kept_in {B B' : Nat → Prop} {w w' : World} {v v' : Value} (h : Below w.heap.size w w') (hB : ∀ b, b < w.heap.size → B' b → B b) (hv : ∀ b, v'.ownBlock = some b → w.heap.size ≤ b) : Kept (Free B w v) (Free B' w' v') w w' := fun b hb hl =>
  ⟨⟨Nat.lt_of_lt_of_le hl h.size, fun h' => hb.2.1 (hB b hl h'), fun h' => by have := hv b h'; omega⟩, h.block b hl⟩
theorem kept_from {B : Nat → Prop} {w w' : World} {v : Value} (h : Below w.heap.size w w') : Kept (Free B w v) (Free B w' v) w w' := fun b hb hl =>
  ⟨⟨Nat.lt_of_lt_of_le hl h.size, hb.2.1, hb.2.2⟩, h.block b hl⟩
/-- The same place in memory may be read, whatever else is excluded. -/
theorem kept_free2 {B B' : Nat → Prop} {w : World} {v v' : Value} (hB : ∀ b, b < w.heap.size → B' b → B b) (hv : ∀ b, b < w.heap.size → v'.ownBlock = some b → B b ∨ v.ownBlock = some b) : Kept (Free B w v) (Free B' w v') w w := fun b hb hl =>
  ⟨⟨hl, fun h => hb.2.1 (hB b hl h), fun h => (hv b hl h).elim hb.2.1 hb.2.2⟩, rfl⟩
theorem grown_trans {w w' w'' : World} {row : Option Nat} (h : w.grownBy w' row) (k : w'.grownBy w'' row) : w.grownBy w'' row :=
  ⟨k.os.trans h.os, k.tape.trans h.tape, k.output.trans h.output, Nat.le_trans h.size k.size, fun b hl hne => (k.block b (Nat.lt_of_lt_of_le hl h.size) hne).trans (h.block b hl hne)⟩

section
variable {P : Program} {α : Type} {e : TypeId} {sz : Nat} {R : Rp α} {B B' : Nat → Prop} {base : Nat} {v : Value} {l : List α}
/-- append of one element, which the run lays in a new block first. -/
theorem wpList_grow1 (W : World) (ys : List Value) {ops : Array Oper} {rest : List Oper} {o : Oper} {a : Act} {Q : Exit → Act → World → Prop} (hgd : o.guard = none) (s x : Operand) (t : TypeId)
    (ho : o.op = .call { callee := .builtin .append, args := #[s, x], argTypes := #[t, t] })
    (e : TypeId) (i : TypeInfo) (z : Value) (sz bytes : Nat) (ht : P.underlying t = some (.slice e)) (hi : P.info? e = some i) (hz : i.zero = some z)
    (hsize : i.size = sz) (hby : i.bytes = bytes) (hzs : z.cells.size = sz) (hsz : 0 < sz) (ok : RpOk sz R) (base : Nat) (hbase : base ≤ W.heap.size) (v : Value) (l : List α) (hs : a.eval s = v) (hown : Grow e sz R B W base v l)
    (c N : Nat) (hx : a.eval x = .slice (some ⟨N, 0, none⟩) 1 c) (hN : N = W.heap.size) (x0 : α) (hB : ∀ b, B b → b < W.heap.size) (hR : R (Free B W v) W ys x0) (hbytes : (l.length + 1) * bytes ≤ 140737488355328) (hb0 : 0 < bytes)
    (h : ∀ v' w', Grow e sz R B w' base v' (l ++ [x0]) → W.grownBy w' v.ownBlock → (v'.ownBlock = v.ownBlock ∨ v'.ownBlock = some (W.heap.size + 1)) → wpList P ops Q rest (a.put o.dst v') w') : wpList P ops Q (o :: rest) a (W.alloc (.cells ys.toArray e)) := by
  subst hN
  refine wpList_grow (B := B) (W.alloc (.cells ys.toArray e)) hgd s x t ho e i z sz bytes ht hi hz hsize hby hzs hsz ok base (by simp; omega) v l hs (hown.alloc ok _) _ 1 c hx [x0] rfl ?_ hbytes hb0 ?_
  · refine SlAt_one ys ⟨by simp, fun h => ?_, fun h => ?_⟩ (ok.len hR) (fun j y hj => ?_) (ok.keep hR (kept_alloc _))
    · have := hB _ h; omega
    · have := (hown.base_le _ h).2; omega
    · rw [cell_of_row _ W.heap.size _ ys.toArray e (0, 0) (heap_alloc_new W _)]
      simpa using hj
  · intro v' w' g1 g2 g3
    refine h v' w' g1 (grown_trans (World.grownBy_alloc W _ _) g2) ?_
    simpa using g3
end

end Go.Proofs.YtkapaafbnbnpjaaGreatDoor
