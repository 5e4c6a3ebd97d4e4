/- Lists that a call builds by append: what its slice value reads as while it grows. No condition but those that each lemma names. -/
import Derived.Test.YtkapaafbnbnpjaaGreatDoorRep
import Derived.Maps.AppendAt
import Derived.OwnWalk
import Derived.Lib.AppendZeros
namespace Go.Proofs.YtkapaafbnbnpjaaGreatDoor
open Go.RowKit Go.Deep

/-- The cells xs of a row are those of the list l. -/
def Elems {α : Type} (sz : Nat) (R : Rp α) (S : Nat → Prop) (w : World) (xs : List Value) (l : List α) : Prop :=
  ∀ i x, l[i]? = some x → ∃ ys : List Value, ys.length = sz ∧ (∀ j y, ys[j]? = some y → xs[i * sz + j]? = some y) ∧ R S w ys x

/-- The slice value v, grown by this call, reads as l; its own row is no block of S. -/
def Own {α : Type} (e : TypeId) (sz : Nat) (R : Rp α) (S : Nat → Prop) (w : World) (base : Nat) (v : Value) (l : List α) : Prop :=
  l.length ≤ 140737488355328 ∧ (∀ b, S b → b < w.heap.size ∧ v.ownBlock ≠ some b) ∧ ∃ xs : List Value, w.ownsRow base e sz v l.length xs ∧ Elems sz R S w xs l

section
variable {α : Type} {e : TypeId} {sz : Nat} {R : Rp α} {S : Nat → Prop} {w w' : World} {base : Nat} {v : Value} {l : List α}

theorem Own.nil (hS : ∀ b, S b → b < w.heap.size) : Own e sz R S w base (.slice none 0 0) ([] : List α) :=
  ⟨by simp, fun b hb => ⟨hS b hb, by simp [Value.ownBlock]⟩, [], World.ownsRow_nil w base e sz, fun i x hi => by simp at hi⟩
/-- An empty slice over an array of no elements. -/
theorem Own.empty {g : Nat} (hg : w.heap[g]? = some (.cells #[] e (0, 0))) (hb : base ≤ g) (hS : ∀ b, S b → b < w.heap.size ∧ b ≠ g) : Own e sz R S w base (.slice (some ⟨g, 0, none⟩) 0 0) ([] : List α) :=
  ⟨by simp, fun b hb => ⟨(hS b hb).1, by simp only [Value.ownBlock, ne_eq, Option.some.injEq]; exact fun h => (hS b hb).2 h.symm⟩, [], ⟨by simp, .inr ⟨g, 0, #[], rfl, hb, hg, Nat.le_refl _, Nat.zero_le _, by simp, by simp⟩⟩, fun i x hi => by simp at hi⟩

theorem Elems.keep (ok : RpOk sz R) {S' : Nat → Prop} {xs : List Value} (h : Elems sz R S w xs l) (k : Kept S S' w w') : Elems sz R S' w' xs l := fun i x hx => by
  obtain ⟨ys, h1, h2, h3⟩ := h i x hx
  exact ⟨ys, h1, h2, ok.keep h3 k⟩

/-- Another world in which the row, and what lies in S, is as it was. -/
theorem Own.keep (ok : RpOk sz R) {S' : Nat → Prop} (h : Own e sz R S w base v l) (hk : ∀ b, v.ownBlock = some b → w'.heap[b]? = w.heap[b]?) (k : Kept S S' w w') (hS : ∀ b, S' b → b < w'.heap.size ∧ v.ownBlock ≠ some b) : Own e sz R S' w' base v l := by
  obtain ⟨h1, _, xs, ⟨h3, h4⟩, h5⟩ := h
  refine ⟨h1, hS, xs, ⟨h3, ?_⟩, h5.keep ok k⟩
  rcases h4 with h4 | ⟨g, cap, cur, hv, hb, hg, r⟩
  · exact .inl h4
  · exact .inr ⟨g, cap, cur, hv, hb, (hk g (by rw [hv]; rfl)).trans hg, r⟩
theorem Own.below (ok : RpOk sz R) (h : Own e sz R S w base v l) (hb : Below w.heap.size w w') : Own e sz R S w' base v l := by
  have hS := h.2.1
  refine h.keep ok (fun b hv => hb.block b ?_) (Kept.below hb fun _ h => h) fun b hb' => ⟨Nat.lt_of_lt_of_le (hS b hb').1 hb.size, (hS b hb').2⟩
  obtain ⟨_, _, xs, hown, _⟩ := h
  exact (hown.lt b hv).2
/-- In the end: the slice reads as the list. -/
theorem Own.sl (ok : RpOk sz R) (h : Own e sz R S w base v l) : Sl sz R (fun _ => True) w v l := by
  obtain ⟨h1, h2, xs, ⟨h3, h4⟩, h5⟩ := h
  rcases h4 with ⟨hv, hn⟩ | ⟨g, cap, cur, hv, hb, hg, hnc, hcm, hcs, htk⟩
  · have : l = [] := List.eq_nil_of_length_eq_zero hn
    subst this
    subst hv
    exact Sl_nil _ _ _ _
  · refine ⟨some ⟨g, 0, none⟩, cap, hv, hnc, hcm, h1, fun i x hx => ?_⟩
    obtain ⟨ys, y1, y2, y3⟩ := h5 i x hx
    refine ⟨g, 0, ys, rfl, trivial, y1, fun j y hj => ?_, ok.keep y3 (Kept.refl w fun _ _ => trivial)⟩
    have hx' := y2 j y hj
    rw [cell_of_row w g _ cur e (0, 0) hg]
    rw [← htk, List.getElem?_take] at hx'
    split at hx'
    · simpa using hx'
    · cases hx'
theorem Own.base_le (h : Own e sz R S w base v l) : ∀ b, v.ownBlock = some b → base ≤ b ∧ b < w.heap.size := by
  obtain ⟨_, _, xs, hown, _⟩ := h
  exact hown.lt
/-- The value's shape. -/
theorem Own.shape (h : Own e sz R S w base v l) : ∃ A c, v = .slice A l.length c := by
  obtain ⟨_, _, xs, ⟨_, h4⟩, _⟩ := h
  rcases h4 with ⟨hv, hn⟩ | ⟨g, cap, cur, hv, _⟩
  · exact ⟨none, 0, by rw [hv, hn]⟩
  · exact ⟨_, _, hv⟩
end

/-- The cells of a whole list, out of what is known of each element. -/
theorem cells_all {α : Type} {sz : Nat} {R : Rp α} {S : Nat → Prop} {w : World} : ∀ (l : List α) (f : Nat → List Value), (∀ i, i < l.length → (f i).length = sz) → ∃ news : List Value, news.length = l.length * sz ∧ ∀ i j, i < l.length → j < sz → news[i * sz + j]? = (f i)[j]?
  | [], _, _ => ⟨[], by simp, fun i j hi => by simp at hi⟩
  | x :: l, f, h => by
    obtain ⟨news, h1, h2⟩ := cells_all (R := R) (S := S) (w := w) l (fun i => f (i + 1)) (fun i hi => h (i + 1) (by simp; omega))
    have h0 := h 0 (by simp)
    refine ⟨f 0 ++ news, by simp [h0, h1, Nat.add_mul, Nat.add_comm], fun i j hi hj => ?_⟩
    rcases i with _ | i
    · rw [Nat.zero_mul, Nat.zero_add, List.getElem?_append_left (by omega)]
    · have e : (i + 1) * sz + j - (f 0).length = i * sz + j := by rw [h0, Nat.add_mul]; omega
      rw [List.getElem?_append_right (by rw [h0, Nat.add_mul]; omega), e]
      exact h2 i j (by simp at hi; omega) hj

theorem mul_add_lt {n sz q : Nat} (hsz : 0 < sz) (h : q < n * sz) : q / sz < n ∧ q % sz < sz ∧ q = q / sz * sz + q % sz := by
  have h2 := Nat.mod_lt q hsz
  have h3 := Nat.div_add_mod q sz
  refine ⟨(Nat.div_lt_iff_lt_mul hsz).2 h, h2, ?_⟩
  rw [Nat.mul_comm] at h3; omega

section
variable {P : Program} {α : Type} {R : Rp α} {S : Nat → Prop}

/-- append of a slice that reads as a list onto one that this call has grown. -/
theorem run_own_append (w : World) (t ty e : TypeId) (i : TypeInfo) (z : Value) (sz bytes : Nat) (ht : P.underlying t = some (.slice e)) (hi : P.info? e = some i) (hz : i.zero = some z)
    (hsize : i.size = sz) (hby : i.bytes = bytes) (hzs : z.cells.size = sz) (hsz : 0 < sz) (ok : RpOk sz R) (base : Nat) (hbase : base ≤ w.heap.size) (v : Value) (l : List α) (hown : Own e sz R S w base v l)
    (A : Option Addr) (m c : Nat) (l2 : List α) (hm : m = l2.length) (hs : SlAt sz R S w A l2) (hbytes : (l.length + m) * bytes ≤ 140737488355328) (hb0 : 0 < bytes) :
    ∃ v' w', (Builtin.append_ #[t, t] ty #[v, .slice A m c]).run P w = .ok v' w' ∧ Own e sz R S w' base v' (l ++ l2) ∧ w.grownBy w' v.ownBlock ∧ (v'.ownBlock = v.ownBlock ∨ v'.ownBlock = some w.heap.size) := by
  obtain ⟨h1, h2, xs, h3, h4⟩ := hown
  have hlen : l.length + m ≤ 140737488355328 := Nat.le_trans (Nat.le_mul_of_pos_right _ hb0) hbytes
  -- the elements, cell by cell
  have hf : ∃ f : Nat → List Value, ∀ k, k < l2.length → (f k).length = sz ∧ (∃ b o, A = some ⟨b, o, none⟩ ∧ ∀ j y, (f k)[j]? = some y → w.cell? ⟨b, o + (k * sz + j), none⟩ = some y) ∧ ∀ x, l2[k]? = some x → R S w (f k) x := by
    classical
    have hk : ∀ k, ∃ ys : List Value, k < l2.length → ys.length = sz ∧ (∃ b o, A = some ⟨b, o, none⟩ ∧ ∀ j y, ys[j]? = some y → w.cell? ⟨b, o + (k * sz + j), none⟩ = some y) ∧ ∀ x, l2[k]? = some x → R S w ys x := by
      intro k
      by_cases hk : k < l2.length
      · obtain ⟨b, o, ys, hA, _, hl, hc, hR⟩ := hs k _ (List.getElem?_eq_getElem hk)
        exact ⟨ys, fun _ => ⟨hl, ⟨b, o, hA, hc⟩, fun x hx => by rw [List.getElem?_eq_getElem hk] at hx; cases hx; exact hR⟩⟩
      · exact ⟨[], fun h => absurd h hk⟩
    exact ⟨fun k => Classical.choose (hk k), fun k h => Classical.choose_spec (hk k) h⟩
  obtain ⟨f, hf⟩ := hf
  obtain ⟨news, n1, n2⟩ := cells_all (R := R) (S := S) (w := w) l2 f (fun k hk => (hf k hk).1)
  have hnews : ∀ q u, news[q]? = some u → ∃ k j, k < l2.length ∧ j < sz ∧ q = k * sz + j ∧ (f k)[j]? = some u := by
    intro q u hq
    have hql : q < l2.length * sz := by rw [← n1]; exact (List.getElem?_eq_some_iff.1 hq).1
    obtain ⟨a1, a2, a3⟩ := mul_add_lt hsz hql
    refine ⟨q / sz, q % sz, a1, a2, a3, ?_⟩
    rw [← n2 _ _ a1 a2, ← a3]
    exact hq
  have hone : ∀ u ∈ news, u.oneCell' = true := by
    intro u hu
    obtain ⟨q, hq⟩ := List.getElem?_of_mem hu
    obtain ⟨k, j, hk, hj, _, hu'⟩ := hnews q u hq
    exact ok.one ((hf k hk).2.2 _ (List.getElem?_eq_getElem hk)) u (List.mem_of_getElem? hu')
  have hrun : ∃ v' w', (Builtin.append_ #[t, t] ty #[v, .slice A m c]).run P w = .ok v' w' ∧ w'.ownsRow base e sz v' (l.length + m) (xs ++ news) ∧ w.grownBy w' v.ownBlock ∧ (v'.ownBlock = v.ownBlock ∨ v'.ownBlock = some w.heap.size) := by
    rcases A with _ | ad
    · have hm0 : m = 0 := by
        rcases Nat.eq_zero_or_pos m with h0 | h0
        · exact h0
        · obtain ⟨_, ⟨b, o, h, _⟩, _⟩ := hf 0 (by omega)
          cases h
      have hl0 : l2 = [] := List.eq_nil_of_length_eq_zero (by omega)
      subst hl0
      subst hm0
      have hn0 : news = [] := List.eq_nil_of_length_eq_zero (by simpa using n1)
      subst hn0
      refine ⟨v, w, ?_, by simpa using h3, World.grownBy.refl w _, .inl rfl⟩
      rcases h3.2 with ⟨rfl, hn⟩ | ⟨g, cap, cur, rfl, _, _, hnc, _⟩
      · simp [Builtin.append_, run_underlying ht, sizeOf, typeInfo, hi, Builtin.lenOf, Builtin.firstCells]
      · simp [Builtin.append_, run_underlying ht, sizeOf, typeInfo, hi, Builtin.lenOf, Builtin.firstCells, hnc, storeCells]
    · have hcells : ∀ q u, news[q]? = some u → w.cell? (ad.add q) = some u := by
        intro q u hq
        obtain ⟨k, j, hk, hj, rfl, hu⟩ := hnews q u hq
        obtain ⟨_, ⟨b, o, hA, hc⟩, _⟩ := hf k hk
        cases hA
        have := hc j u hu
        unfold Addr.add
        split
        · rename_i h0; rw [h0] at this; exact this
        · exact this
      obtain ⟨v', w', r1, r2, r3, _, r5⟩ := run_append_own_at (P := P) w base t ty e i z sz bytes ht hi hz hsize hby hzs hsz v l.length xs h3 ad m c news (by rw [n1, hm]) hcells hone (by simp only [maxLen]; omega) hbytes hbase
      exact ⟨v', w', r1, r2, r3, r5⟩
  obtain ⟨v', w', r1, r2, r3, r4⟩ := hrun
  have hSk : Kept S S w w' := fun b hb hl => ⟨hb, r3.block b hl (fun h => (h2 b hb).2 h.symm)⟩
  refine ⟨v', w', r1, ⟨by simp [← hm]; omega, fun b hb => ⟨Nat.lt_of_lt_of_le (h2 b hb).1 r3.size, ?_⟩, xs ++ news, by simpa [← hm] using r2, ?_⟩, r3, r4⟩
  · rcases r4 with h | h
    · rw [h]; exact (h2 b hb).2
    · rw [h]; simp only [ne_eq, Option.some.injEq]; have := (h2 b hb).1; omega
  · intro k x hx
    rcases Nat.lt_or_ge k l.length with hlt | hge
    · rw [List.getElem?_append_left hlt] at hx
      obtain ⟨ys, y1, y2, y3⟩ := h4 k x hx
      refine ⟨ys, y1, fun j y hj => ?_, ok.keep y3 hSk⟩
      have hyl := (List.getElem?_eq_some_iff.1 (y2 j y hj)).1
      rw [List.getElem?_append_left hyl]
      exact y2 j y hj
    · rw [List.getElem?_append_right hge] at hx
      have hkl : k - l.length < l2.length := (List.getElem?_eq_some_iff.1 hx).1
      obtain ⟨f1, _, f3⟩ := hf _ hkl
      refine ⟨f (k - l.length), f1, fun j y hj => ?_, ok.keep (f3 x hx) hSk⟩
      have hjl : j < sz := by have := (List.getElem?_eq_some_iff.1 hj).1; omega
      have hxl : xs.length = l.length * sz := h3.1
      have hksz : l.length * sz ≤ k * sz := Nat.mul_le_mul_right _ hge
      rw [List.getElem?_append_right (by omega), hxl]
      have e1 : k * sz + j - l.length * sz = (k - l.length) * sz + j := by rw [Nat.sub_mul]; omega
      rw [e1, n2 _ _ hkl hjl]
      exact hj

theorem wpList_own_append (w : World) {ops : Array Oper} {rest : List Oper} {o : Oper} {a : Act} {Q : Exit → Act → World → Prop} (hgd : o.guard = none) (s x : Operand) (t : TypeId)
    (ho : o.op = .call { callee := .builtin .append, args := #[s, x], argTypes := #[t, t] })
    (e : TypeId) (i : TypeInfo) (z : Value) (sz bytes : Nat) (ht : P.underlying t = some (.slice e)) (hi : P.info? e = some i) (hz : i.zero = some z)
    (hsize : i.size = sz) (hby : i.bytes = bytes) (hzs : z.cells.size = sz) (hsz : 0 < sz) (ok : RpOk sz R) (base : Nat) (hbase : base ≤ w.heap.size) (v : Value) (l : List α) (hs : a.eval s = v) (hown : Own e sz R S w base v l)
    (A : Option Addr) (m c : Nat) (hx : a.eval x = .slice A m c) (l2 : List α) (hm : m = l2.length) (hsl : SlAt sz R S w A l2) (hbytes : (l.length + m) * bytes ≤ 140737488355328) (hb0 : 0 < bytes)
    (h : ∀ v' w', Own e sz R S w' base v' (l ++ l2) → w.grownBy w' v.ownBlock → (v'.ownBlock = v.ownBlock ∨ v'.ownBlock = some w.heap.size) → wpList P ops Q rest (a.put o.dst v') w') : wpList P ops Q (o :: rest) a w := by
  obtain ⟨v', w', r1, r2, r3, r4⟩ := run_own_append (P := P) w t o.type e i z sz bytes ht hi hz hsize hby hzs hsz ok base hbase v l hown A m c l2 hm hsl hbytes hb0
  exact Lib.wpList_append_run w hgd s x t t ho _ _ hs hx v' w' r1 (h v' w' r2 r3 r4)
end
end Go.Proofs.YtkapaafbnbnpjaaGreatDoor
