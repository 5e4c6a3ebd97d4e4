/- A slice of elements of several cells that may begin within its row ('l[1:]'), and append of one element to it. Condition: the list is at most ten thousand long. -/
import Derived.Test.YtalhilelbebfbaaDoorBlk
import Derived.ArgAppend
namespace Go.Proofs.YtalhilelbebfbaaDoor
open Go.RowKit Go.Deep

theorem blk_setCells {b : Nat} {T : TypeId} : ∀ (vs : List Value) (w : World) (o : Nat) (cs : Array Value), w.heap[b]? = some (.cells cs T (0, 0)) → o + vs.length ≤ cs.size →
    ∃ cs', (w.setCells b o vs).heap[b]? = some (.cells cs' T (0, 0)) ∧ cs'.size = cs.size ∧ (∀ j, j < vs.length → cs'[o + j]? = vs[j]?) ∧ ∀ j, (j < o ∨ o + vs.length ≤ j) → cs'[j]? = cs[j]?
  | [], w, o, cs, h, _ => ⟨cs, h, rfl, fun j hj => by simp at hj, fun j _ => rfl⟩
  | v :: vs, w, o, cs, h, hl => by
    simp only [List.length_cons] at hl
    obtain ⟨cs', h1, h2, h3, h4⟩ := blk_setCells vs (w.setCell ⟨b, o, none⟩ v) (o + 1) (cs.setIfInBounds o v) (blk_set_same v h rfl) (by rw [Array.size_setIfInBounds]; omega)
    refine ⟨cs', by simpa only [World.setCells] using h1, by rw [h2, Array.size_setIfInBounds], fun j hj => ?_, fun j hj => ?_⟩
    · rcases j with _ | j
      · rw [Nat.add_zero, h4 o (.inl (by omega)), Array.getElem?_setIfInBounds, if_pos rfl, if_pos (by omega)]
        rfl
      · simp only [List.length_cons] at hj
        have := h3 j (by omega)
        rw [show o + (j + 1) = o + 1 + j by omega, this]
        rfl
    · simp only [List.length_cons] at hj
      rw [h4 j (by omega), Array.getElem?_setIfInBounds, if_neg (by omega)]
theorem setCells_other (b : Nat) : ∀ (vs : List Value) (w : World) (o : Nat), (w.setCells b o vs).os = w.os ∧ (w.setCells b o vs).tape = w.tape ∧ (w.setCells b o vs).output = w.output ∧ (w.setCells b o vs).heap.size = w.heap.size ∧ ∀ k, k ≠ b → (w.setCells b o vs).heap[k]? = w.heap[k]?
  | [], w, o => ⟨rfl, rfl, rfl, rfl, fun _ _ => rfl⟩
  | v :: vs, w, o => by
    have h := setCells_other b vs (w.setCell ⟨b, o, none⟩ v) (o + 1)
    have e : w.setCells b o (v :: vs) = (w.setCell ⟨b, o, none⟩ v).setCells b (o + 1) vs := rfl
    have B := (Below.refl 0 w).setCell (p := ⟨b, o, none⟩) (Nat.zero_le _) v
    rw [e]
    exact ⟨h.1.trans B.os, h.2.1.trans B.tape, h.2.2.1.trans B.output, h.2.2.2.1.trans (by simp), fun k hk => (h.2.2.2.2 k hk).trans (Below.heap_setCell _ _ _ _ hk)⟩

theorem flat_len {sz : Nat} : ∀ {l : List (List Value)}, (∀ x ∈ l, x.length = sz) → l.flatten.length = l.length * sz
  | [], _ => by simp
  | x :: l, h => by
    have := flat_len (sz := sz) (l := l) fun y hy => h y (List.mem_cons_of_mem _ hy)
    rw [List.flatten_cons, List.length_append, this, h x (List.mem_cons_self ..), List.length_cons, Nat.add_mul]
    omega

/-- The slice value v reads as the elements l, each of sz cells. -/
def RowC (e : TypeId) (sz : Nat) (w : World) (v : Value) (l : List (List Value)) : Prop :=
  (∀ x ∈ l, x.length = sz ∧ ∀ u ∈ x, u.oneCell' = true) ∧ ((v = .slice none 0 0 ∧ l = []) ∨ ∃ g off cap cur, v = .slice (some ⟨g, off, none⟩) l.length cap ∧ w.heap[g]? = some (.cells cur e (0, 0)) ∧ l.length ≤ cap ∧ cap ≤ maxLen ∧ off + cap * sz ≤ cur.size ∧ ∀ q u, l.flatten[q]? = some u → cur[off + q]? = some u)
section
variable {e : TypeId} {sz : Nat}
theorem RowC.nil (w : World) : RowC e sz w (.slice none 0 0) [] := ⟨fun x hx => by simp at hx, .inl ⟨rfl, rfl⟩⟩
theorem RowC.keep {w w' : World} {v : Value} {l : List (List Value)} (h : RowC e sz w v l) (k : ∀ b, v.ownBlock = some b → w'.heap[b]? = w.heap[b]?) : RowC e sz w' v l := by
  obtain ⟨h0, h⟩ := h
  refine ⟨h0, ?_⟩
  rcases h with h | ⟨g, off, cap, cur, hv, hg, r⟩
  · exact .inl h
  · exact .inr ⟨g, off, cap, cur, hv, (k g (by rw [hv]; rfl)).trans hg, r⟩
theorem RowC.lt {w : World} {v : Value} {l : List (List Value)} (h : RowC e sz w v l) : ∀ b, v.ownBlock = some b → b < w.heap.size := by
  rcases h.2 with ⟨rfl, _⟩ | ⟨g, off, cap, cur, rfl, hg, r⟩
  · intro b hb; cases hb
  · intro b hb
    obtain rfl : g = b := Option.some.inj hb
    exact blk_lt hg
theorem RowC.shape {w : World} {v : Value} {l : List (List Value)} (h : RowC e sz w v l) : ∃ A c, v = .slice A l.length c ∧ (l ≠ [] → ∃ g o, A = some ⟨g, o, none⟩) := by
  rcases h.2 with ⟨rfl, rfl⟩ | ⟨g, off, cap, cur, rfl, _⟩
  · exact ⟨_, _, rfl, fun h => absurd rfl h⟩
  · exact ⟨_, _, rfl, fun _ => ⟨_, _, rfl⟩⟩
/-- The first element, and what is behind it. -/
theorem RowC.tail {w : World} {g off cap : Nat} {x : List Value} {l : List (List Value)} (h : RowC e sz w (.slice (some ⟨g, off, none⟩) (l.length + 1) cap) (x :: l)) :
    RowC e sz w (.slice (if cap = 1 then some ⟨g, off, none⟩ else some ⟨g, off + sz, none⟩) l.length (cap - 1)) l ∧ (∀ j u, x[j]? = some u → w.cell? ⟨g, off + j, none⟩ = some u) ∧ l.length + 1 ≤ cap ∧ cap ≤ maxLen := by
  obtain ⟨h0, h⟩ := h
  rcases h with ⟨h, _⟩ | ⟨g', off', cap', cur, hv, hg, h1, h2, h3, h4⟩
  · cases h
  · simp only [List.length_cons, Value.slice.injEq, Option.some.injEq, Addr.mk.injEq, and_true, true_and] at hv
    obtain ⟨⟨rfl, rfl⟩, rfl⟩ := hv
    simp only [List.length_cons] at h1
    have hx := (h0 x (List.mem_cons_self ..)).1
    have hc : ∀ j u, x[j]? = some u → w.cell? ⟨g, off + j, none⟩ = some u := by
      intro j u hj
      rw [cell_of_row w g _ cur _ (0, 0) hg]
      refine h4 j u ?_
      rw [List.flatten_cons, List.getElem?_append_left (List.getElem?_eq_some_iff.1 hj).1]
      exact hj
    refine ⟨⟨fun y hy => h0 y (List.mem_cons_of_mem _ hy), .inr ?_⟩, hc, h1, h2⟩
    by_cases h9 : cap = 1
    · have hl0 : l = [] := List.eq_nil_of_length_eq_zero (by omega)
      subst hl0
      subst h9
      exact ⟨g, off, 0, cur, by rw [if_pos rfl], hg, by simp, by omega, by omega, fun q y hy => by simp at hy⟩
    · refine ⟨g, off + sz, cap - 1, cur, by rw [if_neg h9], hg, by omega, by omega, ?_, fun q y hy => ?_⟩
      · have : cap * sz = (cap - 1) * sz + sz := by
          rw [← Nat.succ_mul]
          congr 1
          omega
        omega
      · have := h4 (sz + q) y (by rw [List.flatten_cons, List.getElem?_append_right (by omega), hx, Nat.add_sub_cancel_left]; exact hy)
        rw [show off + sz + q = off + (sz + q) by omega]
        exact this

theorem rowC_append {P : Program} {t : TypeId} (i : TypeInfo) (z : Value) (bytes : Nat) (ht : P.underlying t = some (.slice e)) (hi : P.info? e = some i) (hz : i.zero = some z) (h1 : i.size = sz) (h2 : i.bytes = bytes) (hzs : z.cells.size = sz) (hsz : 0 < sz) (hb128 : bytes ≤ 1000) (ty : TypeId) {W : World} {v : Value} {l : List (List Value)} (h : RowC e sz W v l) (hl : l.length ≤ 10000) (x : List Value) (hx : x.length = sz) (hx1 : ∀ u ∈ x, u.oneCell' = true) (c : Nat) :
    ∃ v' w', (Builtin.append_ #[t, t] ty #[v, .slice (some ⟨W.heap.size, 0, none⟩) 1 c]).run P (W.alloc (.cells x.toArray e)) = .ok v' w' ∧ RowC e sz w' v' (l ++ [x]) ∧ W.grownBy w' v.ownBlock ∧ (v'.ownBlock = v.ownBlock ∨ ∃ k, v'.ownBlock = some k ∧ W.heap.size ≤ k) := by
  have hnew : ∀ (j : Nat) (u : Value), x[j]? = some u → (W.alloc (.cells x.toArray e)).cell? ((⟨W.heap.size, 0, none⟩ : Addr).add j) = some u := by
    intro j u hj
    rw [Addr.add_lit]
    rw [cell_of_row _ W.heap.size _ x.toArray _ (0, 0) (heap_alloc_new W _)]
    simpa using hj
  have hal := World.grownBy_alloc W (.cells x.toArray e) v.ownBlock
  have hall : ∀ y ∈ l ++ [x], y.length = sz ∧ ∀ u ∈ y, u.oneCell' = true := by
    intro y hy
    rcases List.mem_append.1 hy with hy | hy
    · exact h.1 y hy
    · obtain rfl : y = x := by simpa using hy
      exact ⟨hx, hx1⟩
  have hflat : (l ++ [x]).flatten = l.flatten ++ x := by simp
  have hfl : l.flatten.length = l.length * sz := flat_len fun y hy => (h.1 y hy).1
  rcases h.2 with ⟨rfl, rfl⟩ | ⟨g, off, cap, cur, rfl, hg, hlc, hcm, hoc, hcell⟩
  · obtain ⟨v', w', r1, r2, r3, _, r5⟩ := run_append_own_at (P := P) (W.alloc (.cells x.toArray e)) W.heap.size t ty e i z sz bytes ht hi hz h1 h2 hzs hsz (.slice none 0 0) 0 [] (World.ownsRow_nil _ _ _ _) ⟨W.heap.size, 0, none⟩ 1 c x (by rw [hx]; omega) hnew hx1 (by simp only [maxLen]; omega) (by omega) (by simp)
    refine ⟨v', w', r1, ⟨hall, ?_⟩, grown_trans hal r3, ?_⟩
    · rcases r2.2 with ⟨_, h0⟩ | ⟨g, cap, cur, hv, hb, hg, hnc, hcm, hcs, htk⟩
      · omega
      · refine .inr ⟨g, 0, cap, cur, by simpa using hv, hg, by simpa using hnc, hcm, by omega, fun j y hy => ?_⟩
        rw [hflat] at hy
        have hy' : x[j]? = some y := by simpa using hy
        have hj := (List.getElem?_eq_some_iff.1 hy').1
        have h3 : (cur.toList.take ((0 + 1) * sz))[j]? = some y := by rw [htk]; simpa using hy'
        rw [List.getElem?_take, if_pos (by omega)] at h3
        simpa using h3
    · rcases r5 with h | h
      · exact .inl h
      · exact .inr ⟨_, h, by simp⟩
  · have hlt := blk_lt hg
    have hg1 : (W.alloc (.cells x.toArray e)).heap[g]? = some (.cells cur e (0, 0)) := blk_alloc_old _ hg
    by_cases hroom : l.length + 1 ≤ cap
    · have hfit : off + l.length * sz + sz ≤ cur.size := by
        have := Nat.mul_le_mul_right sz hroom
        rw [Nat.add_mul, Nat.one_mul] at this
        omega
      have hs : ∀ j, j < x.length → ((W.alloc (.cells x.toArray e)).cell? ⟨g, off + l.length * i.size + j, none⟩).isSome = true := by
        intro j hj
        rw [h1, cell_of_row _ g _ cur _ (0, 0) hg1, Array.getElem?_eq_getElem (by omega)]
        rfl
      have hf : ∀ j, j < x.length → (W.alloc (.cells x.toArray e)).frozen? ⟨g, off + l.length * i.size + j, none⟩ = false := fun j _ => (blk_cells hg1).2 _
      have hr := run_append_room_cells (P := P) (W.alloc (.cells x.toArray e)) t ty e i ht hi g off l.length cap ⟨W.heap.size, 0, none⟩ 1 c x (by rw [h1, hx]; omega) hnew hx1 hroom hs hf
      rw [h1] at hr
      obtain ⟨cur', k1, k2, k3, k4⟩ := blk_setCells x _ (off + l.length * sz) cur hg1 (by omega)
      obtain ⟨o1, o2, o3, o4, o5⟩ := setCells_other g x (W.alloc (.cells x.toArray e)) (off + l.length * sz)
      refine ⟨_, _, hr, ⟨hall, .inr ⟨g, off, cap, cur', by simp, k1, by simpa using hroom, hcm, by omega, fun q y hy => ?_⟩⟩, ?_, .inl rfl⟩
      · rw [hflat] at hy
        by_cases hjl : q < l.length * sz
        · rw [List.getElem?_append_left (by omega)] at hy
          rw [k4 _ (.inl (by omega))]
          exact hcell q y hy
        · rw [List.getElem?_append_right (by omega), hfl] at hy
          have hq := (List.getElem?_eq_some_iff.1 hy).1
          have := k3 (q - l.length * sz) hq
          rw [show off + l.length * sz + (q - l.length * sz) = off + q by omega] at this
          rw [this]
          exact hy
      · exact grown_trans hal ⟨o1, o2, o3, by rw [o4]; exact Nat.le_refl _, fun q _ hq => o5 q fun e => hq (by rw [e]; rfl)⟩
    · have hlc' : l.length = cap := by omega
      have holds : ∀ j u, l.flatten[j]? = some u → (W.alloc (.cells x.toArray e)).cell? ((⟨g, off, none⟩ : Addr).add j) = some u := by
        intro j u hj
        rw [Addr.add_lit, cell_of_row _ g _ cur _ (0, 0) hg1]
        exact hcell j u hj
      have hr := run_append_grow (P := P) (W.alloc (.cells x.toArray e)) t ty e i z ht hi hz ⟨g, off, none⟩ l.length cap l.flatten (by rw [h1]; exact hfl) holds ⟨W.heap.size, 0, none⟩ 1 c x (by rw [h1, hx]; omega) hnew (by omega) (by omega) (growslice_fits (by omega) (by rw [h2]; have := Nat.mul_le_mul (show l.length + 1 ≤ 10001 by omega) hb128; omega))
      have hge := grownCap_ge (W.alloc (.cells x.toArray e)) (l.length + 1) cap e
      refine ⟨_, _, hr, ⟨hall, .inr ⟨_, 0, grownCap (W.alloc (.cells x.toArray e)) (l.length + 1) cap e, _, by simp, heap_alloc_new _ _, by simpa using hge, grownCap_le_maxLen _ _ _ _ (by simp only [maxLen]; omega), ?_, fun j y hy => ?_⟩⟩, ?_, .inr ⟨_, rfl, by simp⟩⟩
      · simp only [Array.size_append, List.size_toArray, size_zeroCells, hzs, hfl, hx]
        rw [Nat.zero_add]
        generalize grownCap _ _ _ _ = G at hge ⊢
        obtain ⟨d, rfl⟩ : ∃ d, G = l.length + 1 + d := ⟨G - (l.length + 1), by omega⟩
        rw [Nat.add_sub_cancel_left, Nat.add_mul, Nat.add_mul, Nat.one_mul]
        exact Nat.le_refl _
      · have hj1 := (List.getElem?_eq_some_iff.1 hy).1
        rw [hflat] at hy hj1
        rw [List.length_append] at hj1
        rw [Nat.zero_add, Array.getElem?_append_left (by simp only [Array.size_append, List.size_toArray]; omega)]
        rw [show l.flatten.toArray ++ x.toArray = (l.flatten ++ x).toArray by simp]
        simpa using hy
      · exact grown_trans hal ⟨rfl, rfl, rfl, by simp, fun q hq _ => Below.heap_alloc _ _ q hq⟩
theorem wpList_rowC {P : Program} (W : World) (x : List Value) {ops : Array Oper} {rest : List Oper} {o : Oper} {a : Act} {Q : Exit → Act → World → Prop} (hgd : o.guard = none) (s xo : Operand) (t : TypeId)
    (ho : o.op = .call { callee := .builtin .append, args := #[s, xo], argTypes := #[t, t] })
    (i : TypeInfo) (z : Value) (bytes : Nat) (ht : P.underlying t = some (.slice e)) (hi : P.info? e = some i) (hz : i.zero = some z) (h1 : i.size = sz) (h2 : i.bytes = bytes) (hzs : z.cells.size = sz) (hsz : 0 < sz) (hb128 : bytes ≤ 1000)
    (v : Value) (l : List (List Value)) (hs : a.eval s = v) (h : RowC e sz W v l) (hl : l.length ≤ 10000) (hx : x.length = sz) (hx1 : ∀ u ∈ x, u.oneCell' = true) (N c : Nat) (hxo : a.eval xo = .slice (some ⟨N, 0, none⟩) 1 c) (hN : N = W.heap.size)
    (hK : ∀ v' w', RowC e sz w' v' (l ++ [x]) → W.grownBy w' v.ownBlock → (v'.ownBlock = v.ownBlock ∨ ∃ k, v'.ownBlock = some k ∧ W.heap.size ≤ k) → wpList P ops Q rest (a.put o.dst v') w') : wpList P ops Q (o :: rest) a (W.alloc (.cells x.toArray e)) := by
  subst hN
  obtain ⟨v', w', r1, r2, r3, r4⟩ := rowC_append (P := P) i z bytes ht hi hz h1 h2 hzs hsz hb128 o.type h hl x hx hx1 c
  exact Lib.wpList_append_run _ hgd s xo t t ho _ _ hs hxo v' w' r1 (hK v' w' r2 r3 r4)
end
end Go.Proofs.YtalhilelbebfbaaDoor
