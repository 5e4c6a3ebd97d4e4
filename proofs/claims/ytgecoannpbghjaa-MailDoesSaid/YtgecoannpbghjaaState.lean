/- Layer mail: three boxes beside the document's three: one state, kept by each operation. Condition: all their blocks lie behind the call's own world. -/
import Derived.Test.YtgecoannpbghjaaRefBox
namespace Go.Proofs.Ytgecoannpbghjaa
open Go.RowKit Go.Deep Go.Conc

/-- A box and the document's: where they lie, and what is in them. -/
structure Bx where
  b : Nat
  c : Nat
  r : Nat
  v : Value
  room : Nat
  lm : List Int
  lr : List Int
/-- .. as the law sees them. -/
structure Ab where
  b : Nat
  r : Nat
  room : Nat
  lm : List Int
  lr : List Int
def Bx.ab (x : Bx) : Ab := ⟨x.b, x.r, x.room, x.lm, x.lr⟩
def Uses (x : Bx) (k : Nat) : Prop := k = x.b ∨ k = x.c ∨ k = x.r ∨ x.v.ownBlock = some k
structure OneOk (w : World) (x : Bx) : Prop where
  box : BoxI w x.b x.c x.room x.lm
  ref : RBox w x.r x.v x.room x.lr
  br : x.b ≠ x.r
  cr : x.c ≠ x.r
  bv : x.v.ownBlock ≠ some x.b
  cv : x.v.ownBlock ≠ some x.c
  m64 : ∀ n ∈ x.lm, I64 n
  r64 : ∀ n ∈ x.lr, I64 n
theorem OneOk.lt {w : World} {x : Bx} (h : OneOk w x) {k : Nat} (hk : Uses x k) : k < w.heap.size := by
  obtain ⟨hbc, hb, _, _, _, hc⟩ := h.box
  obtain ⟨hr, hrow, _⟩ := h.ref
  rcases hk with rfl | rfl | rfl | hk
  · exact blk_lt hb
  · exact blk_lt hc
  · exact blk_lt hr
  · exact hrow.lt _ hk
theorem OneOk.keep {w w' : World} {x : Bx} (h : OneOk w x) (k : ∀ j, Uses x j → w'.heap[j]? = w.heap[j]?) : OneOk w' x := by
  obtain ⟨⟨hbc, hb, hl, s, r, hc⟩, ⟨hr, hrow, hne, hlr, h9⟩, h1, h2, h3, h4, h5, h6⟩ := h
  exact ⟨⟨hbc, (k _ (.inl rfl)).trans hb, hl, s, r, (k _ (.inr (.inl rfl))).trans hc⟩, ⟨(k _ (.inr (.inr (.inl rfl)))).trans hr, hrow.keep fun b hb' => k b (.inr (.inr (.inr hb'))), hne, hlr, h9⟩, h1, h2, h3, h4, h5, h6⟩

/-- The state: 'pb', 'pw': the rows of the two slices of pointers. -/
structure Inv (w0 : World) (pb pw : Nat) (D : Option (Nat × Obj)) (w : World) (xs : List Bx) : Prop where
  below : Below w0.heap.size w0 w
  each : ∀ (i : Nat) (x : Bx), xs[i]? = some x → OneOk w x
  apart : ∀ (i j : Nat) (x y : Bx), i ≠ j → xs[i]? = some x → xs[j]? = some y → ∀ k, Uses x k → ¬ Uses y k
  base : ∀ (i : Nat) (x : Bx), xs[i]? = some x → ∀ k, Uses x k → w0.heap.size ≤ k
  rows : ∀ (i : Nat) (x : Bx), xs[i]? = some x → ¬ Uses x pb ∧ ¬ Uses x pw
  cells : ∀ (i : Nat) (x : Bx), xs[i]? = some x → w.cell? ⟨pb, i, none⟩ = some (.pointer (some ⟨x.b, 0, none⟩)) ∧ w.cell? ⟨pw, i, none⟩ = some (.pointer (some ⟨x.r, 0, none⟩))
  fixed : ∀ (k : Nat) (o : Obj), D = some (k, o) → w.heap[k]? = some o ∧ ∀ (i : Nat) (x : Bx), xs[i]? = some x → ¬ Uses x k
def St (w0 : World) (pb pw : Nat) (D : Option (Nat × Obj)) (w : World) (ab : List Ab) : Prop := ∃ xs : List Bx, ab = xs.map Bx.ab ∧ Inv w0 pb pw D w xs

section
variable {w0 w w' : World} {pb pw : Nat} {D : Option (Nat × Obj)} {xs : List Bx} {ab : List Ab}
theorem Inv.size (h : Inv w0 pb pw D w xs) : w0.heap.size ≤ w.heap.size := h.below.size
theorem Inv.turn (h : Inv w0 pb pw D w xs) (hk : Below w.heap.size w w') : Inv w0 pb pw D w' xs where
  below := bel_call h.below hk
  each i x hx := (h.each i x hx).keep fun j hj => hk.block j ((h.each i x hx).lt hj)
  apart := h.apart
  base := h.base
  rows := h.rows
  cells i x hx := by
    obtain ⟨a, b⟩ := h.cells i x hx
    exact ⟨(hk.cell (p := ⟨pb, i, none⟩) (cell_lt a)).trans a, (hk.cell (p := ⟨pw, i, none⟩) (cell_lt b)).trans b⟩
  fixed k o hD := by
    obtain ⟨a, b⟩ := h.fixed k o hD
    exact ⟨(hk.block k (blk_lt a)).trans a, b⟩
theorem Inv.one (h : Inv w0 pb pw D w xs) {a : Nat} {x x' : Bx} (hx : xs[a]? = some x) {r : Nat} {row : Option Nat} (ht : Touch r row w w') (hr : Uses x r) (hw : ∀ k, row = some k → Uses x k) (hx' : OneOk w' x') (hb : x'.b = x.b) (hrr : x'.r = x.r) (hu : ∀ k, Uses x' k → Uses x k ∨ w.heap.size ≤ k) : Inv w0 pb pw D w' (xs.set a x') where
  below := below_touch h.below ht (h.base a x hx _ hr) (fun k hk => h.base a x hx _ (hw k hk)) h.size
  each i y hy := by
    rw [List.getElem?_set] at hy
    by_cases hai : a = i
    · subst hai
      rw [if_pos rfl, if_pos (List.getElem?_eq_some_iff.1 hx).1] at hy
      cases hy
      exact hx'
    · rw [if_neg hai] at hy
      exact (h.each i y hy).keep fun j hj => ht.block j ((h.each i y hy).lt hj) (fun e => h.apart a i x y hai hx hy _ hr (e ▸ hj)) fun e => h.apart a i x y hai hx hy _ (hw _ e) hj
  apart i j y z hij hy hz k hk := by
    rw [List.getElem?_set] at hy hz
    by_cases hai : a = i
    · subst hai
      rw [if_pos rfl, if_pos (List.getElem?_eq_some_iff.1 hx).1] at hy
      cases hy
      rw [if_neg hij] at hz
      rcases hu k hk with h1 | h1
      · exact h.apart a j x z hij hx hz k h1
      · exact fun h2 => by have := (h.each j z hz).lt h2; omega
    · rw [if_neg hai] at hy
      by_cases haj : a = j
      · subst haj
        rw [if_pos rfl, if_pos (List.getElem?_eq_some_iff.1 hx).1] at hz
        cases hz
        intro h2
        rcases hu k h2 with h1 | h1
        · exact h.apart i a y x hij hy hx k hk h1
        · have := (h.each i y hy).lt hk; omega
      · rw [if_neg haj] at hz
        exact h.apart i j y z hij hy hz k hk
  base i y hy k hk := by
    rw [List.getElem?_set] at hy
    by_cases hai : a = i
    · subst hai
      rw [if_pos rfl, if_pos (List.getElem?_eq_some_iff.1 hx).1] at hy
      cases hy
      rcases hu k hk with h1 | h1
      · exact h.base a x hx k h1
      · have := h.size; omega
    · rw [if_neg hai] at hy
      exact h.base i y hy k hk
  rows i y hy := by
    rw [List.getElem?_set] at hy
    by_cases hai : a = i
    · subst hai
      rw [if_pos rfl, if_pos (List.getElem?_eq_some_iff.1 hx).1] at hy
      cases hy
      obtain ⟨c1, c2⟩ := h.cells a x hx
      have l1 := cell_lt c1
      have l2 := cell_lt c2
      obtain ⟨r1, r2⟩ := h.rows a x hx
      refine ⟨fun h1 => ?_, fun h1 => ?_⟩
      · rcases hu _ h1 with h2 | h2
        · exact r1 h2
        · dsimp only at l1; omega
      · rcases hu _ h1 with h2 | h2
        · exact r2 h2
        · dsimp only at l2; omega
    · rw [if_neg hai] at hy
      exact h.rows i y hy
  cells i y hy := by
    have key : ∀ (z : Bx), xs[i]? = some z → w'.cell? ⟨pb, i, none⟩ = some (.pointer (some ⟨z.b, 0, none⟩)) ∧ w'.cell? ⟨pw, i, none⟩ = some (.pointer (some ⟨z.r, 0, none⟩)) := by
      intro z hz
      obtain ⟨c1, c2⟩ := h.cells i z hz
      obtain ⟨r1, r2⟩ := h.rows a x hx
      exact ⟨(World.cell?_of_block (ht.block pb (cell_lt c1) (fun e => r1 (e ▸ hr)) (fun e => r1 (hw _ e)))).trans c1, (World.cell?_of_block (ht.block pw (cell_lt c2) (fun e => r2 (e ▸ hr)) (fun e => r2 (hw _ e)))).trans c2⟩
    rw [List.getElem?_set] at hy
    by_cases hai : a = i
    · subst hai
      rw [if_pos rfl, if_pos (List.getElem?_eq_some_iff.1 hx).1] at hy
      cases hy
      rw [hb, hrr]
      exact key x hx
    · rw [if_neg hai] at hy
      exact key y hy
  fixed k o hD := by
    obtain ⟨f1, f2⟩ := h.fixed k o hD
    have fx := f2 a x hx
    refine ⟨(ht.block k (blk_lt f1) (fun e => fx (e ▸ hr)) (fun e => fx (hw _ e))).trans f1, fun i y hy => ?_⟩
    rw [List.getElem?_set] at hy
    by_cases hai : a = i
    · subst hai
      rw [if_pos rfl, if_pos (List.getElem?_eq_some_iff.1 hx).1] at hy
      cases hy
      intro h1
      rcases hu k h1 with h2 | h2
      · exact fx h2
      · have := blk_lt f1; omega
    · rw [if_neg hai] at hy
      exact f2 i y hy
theorem St.turn (h : St w0 pb pw D w ab) (hk : Below w.heap.size w w') : St w0 pb pw D w' ab := by
  obtain ⟨xs, e, h⟩ := h
  exact ⟨xs, e, h.turn hk⟩
theorem St.fix {k : Nat} {o : Obj} (h : St w0 pb pw (some (k, o)) w ab) : w.heap[k]? = some o := by
  obtain ⟨xs, e, h⟩ := h
  exact (h.fixed k o rfl).1
theorem St.drop (h : St w0 pb pw D w ab) : St w0 pb pw none w ab := by
  obtain ⟨xs, e, h⟩ := h
  exact ⟨xs, e, h.below, h.each, h.apart, h.base, h.rows, h.cells, fun k o hD => by cases hD⟩
theorem St.add (o : Obj) (h : St w0 pb pw none w ab) : St w0 pb pw (some (w.heap.size, o)) (w.alloc o) ab := by
  obtain ⟨xs, e, h⟩ := h
  have h' := h.turn ((Below.refl w.heap.size w).alloc (Nat.le_refl _) o)
  refine ⟨xs, e, h'.below, h'.each, h'.apart, h'.base, h'.rows, h'.cells, fun k o' hD => ?_⟩
  cases hD
  exact ⟨heap_alloc_new w o, fun i x hx hu => by have := (h.each i x hx).lt hu; omega⟩
theorem St.below (h : St w0 pb pw D w ab) : Below w0.heap.size w0 w := by
  obtain ⟨xs, e, h⟩ := h
  exact h.below
theorem St.at (h : St w0 pb pw D w ab) {a : Nat} {x : Ab} (hx : ab[a]? = some x) : w.cell? ⟨pb, a, none⟩ = some (.pointer (some ⟨x.b, 0, none⟩)) ∧ w.cell? ⟨pw, a, none⟩ = some (.pointer (some ⟨x.r, 0, none⟩)) := by
  obtain ⟨xs, rfl, h⟩ := h
  rw [List.getElem?_map] at hx
  obtain ⟨y, hy, rfl⟩ := Option.map_eq_some_iff.1 hx
  exact h.cells a y hy
end

theorem touch_only {c : Nat} {w w' : World} (h : OnlyChan c w w') : Touch c none w w' := ⟨h.os, h.tape, h.output, by rw [h.size]; exact Nat.le_refl _, fun k _ hk _ => h.block k hk⟩
section
variable {w0 w w' : World} {pb pw : Nat} {D : Option (Nat × Obj)} {ab : List Ab} {a : Nat} {x : Ab}
/-- What St says of one box. -/
theorem St.box (h : St w0 pb pw D w ab) (hx : ab[a]? = some x) : ∃ c, BoxI w x.b c x.room x.lm ∧ ∃ v, RBox w x.r v x.room x.lr ∧ (∀ n ∈ x.lm, I64 n) ∧ (∀ n ∈ x.lr, I64 n) ∧ w0.heap.size ≤ c ∧ c < w.heap.size ∧
    (∀ w' l', Touch c none w w' → BoxI w' x.b c x.room l' → (∀ n ∈ l', I64 n) → St w0 pb pw D w' (ab.set a { x with lm := l' })) ∧
    (∀ w' v' l' row, Touch x.r row w w' → (row = none ∨ row = v.ownBlock) → RBox w' x.r v' x.room l' → (v'.ownBlock = v.ownBlock ∨ v'.ownBlock = none ∨ ∃ k, v'.ownBlock = some k ∧ w.heap.size ≤ k) → (∀ n ∈ l', I64 n) → St w0 pb pw D w' (ab.set a { x with lr := l' })) := by
  obtain ⟨xs, rfl, h⟩ := h
  rw [List.getElem?_map] at hx
  obtain ⟨y, hy, rfl⟩ := Option.map_eq_some_iff.1 hx
  have ho := h.each a y hy
  refine ⟨y.c, ho.box, y.v, ho.ref, ho.m64, ho.r64, h.base a y hy _ (.inr (.inl rfl)), ho.lt (.inr (.inl rfl)), fun w' l' ht hb h64 => ?_, fun w' v' l' row ht hrow hb hv h64 => ?_⟩
  · refine ⟨xs.set a { y with lm := l' }, by rw [List.map_set]; rfl, h.one hy ht (.inr (.inl rfl)) (fun k hk => by cases hk) ?_ rfl rfl fun k hk => .inl hk⟩
    refine ⟨hb, ?_, ho.br, ho.cr, ho.bv, ho.cv, h64, ho.r64⟩
    obtain ⟨hr, hrw, hne, hlr, h9⟩ := ho.ref
    refine ⟨(ht.block _ (blk_lt hr) ho.cr.symm (by simp)).trans hr, hrw.keep fun b hb' => ht.block b (hrw.lt b hb') (fun e => ho.cv (by rw [← e]; exact hb')) (by simp), hne, hlr, h9⟩
  · have hcl := ho.lt (k := y.c) (.inr (.inl rfl))
    have hbl := ho.lt (k := y.b) (.inl rfl)
    have hwrow : ∀ k, row = some k → y.v.ownBlock = some k := fun k hk => by rcases hrow with h | h <;> rw [h] at hk <;> first | cases hk | exact hk
    refine ⟨xs.set a { y with v := v', lr := l' }, by rw [List.map_set]; rfl, h.one hy ht (.inr (.inr (.inl rfl))) (fun k hk => .inr (.inr (.inr (hwrow k hk)))) ?_ rfl rfl fun k hk => ?_⟩
    · have hnew : ∀ j, j < w.heap.size → y.v.ownBlock ≠ some j → v'.ownBlock ≠ some j := fun j hj hne he => by
        rcases hv with h | h | ⟨k, h, hk⟩
        · exact hne (h ▸ he)
        · rw [h] at he; cases he
        · rw [h] at he; have := Option.some.inj he; omega
      refine ⟨?_, hb, ho.br, ho.cr, hnew _ hbl ho.bv, hnew _ hcl ho.cv, ho.m64, h64⟩
      obtain ⟨hbc, hbb, hl, s, r, hc⟩ := ho.box
      exact ⟨hbc, (ht.block _ hbl ho.br (fun e => ho.bv (hwrow _ e))).trans hbb, hl, s, r, (ht.block _ hcl ho.cr (fun e => ho.cv (hwrow _ e))).trans hc⟩
    · rcases hk with h1 | h1 | h1 | h1
      · exact .inl (.inl h1)
      · exact .inl (.inr (.inl h1))
      · exact .inl (.inr (.inr (.inl h1)))
      · rcases hv with h | h | ⟨k', h, hk'⟩
        · exact .inl (.inr (.inr (.inr (by rw [← h]; exact h1))))
        · have h1' : v'.ownBlock = some k := h1
          rw [h] at h1'; cases h1'
        · have h1' : v'.ownBlock = some k := h1
          rw [h] at h1'
          have := Option.some.inj h1'
          exact .inr (by omega)
end
end Go.Proofs.Ytgecoannpbghjaa
