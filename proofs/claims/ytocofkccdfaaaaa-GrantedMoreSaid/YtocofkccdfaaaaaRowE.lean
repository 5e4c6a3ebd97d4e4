/- append of one element to a slice of elements of several cells, the element in a block of its own: in a walk, and as one step of a region that draws its order. Condition: the list is at most ten thousand long. -/
import Derived.Test.YtocofkccdfaaaaaRowD
import Derived.Test.YtocofkccdfaaaaaButB
import Derived.Deep.AppendLies
namespace Go.Proofs.Ytocofkccdfaaaaa
open Go.RowKit Go.Deep

section
variable {e : TypeId} {sz : Nat}
theorem RowC.shape3 {w : World} {v : Value} {l : List (List Value)} (h : RowC e sz w v l) : ∃ A n c, v = .slice A n c := by
  obtain ⟨A, c, h, _⟩ := h.shape
  exact ⟨A, _, c, h⟩
theorem RowC.below {w w' : World} {v : Value} {l : List (List Value)} (h : RowC e sz w v l) (hb : Below w.heap.size w w') : RowC e sz w' v l := h.keep fun b hv => hb.block b (h.lt b hv)
theorem rowE_append {P : Program} {t : TypeId} (i : TypeInfo) (z : Value) (bytes : Nat) (ht : P.underlying t = some (.slice e)) (hi : P.info? e = some i) (hz : i.zero = some z) (h1 : i.size = sz) (h2 : i.bytes = bytes) (hzs : z.cells.size = sz) (hsz : 0 < sz) (hb128 : bytes ≤ 1000) (ty : TypeId) {W : World} {v : Value} {l : List (List Value)} (h : RowC e sz W v l) (hl : l.length ≤ 10000) (x : List Value) (hx : x.length = sz) (hx1 : ∀ u ∈ x, u.oneCell' = true) (N c : Nat) (hN : W.heap[N]? = some (.cells x.toArray e (0, 0))) :
    ∃ v' w', (Builtin.append_ #[t, t] ty #[v, .slice (some ⟨N, 0, none⟩) 1 c]).run P W = .ok v' w' ∧ RowC e sz w' v' (l ++ [x]) ∧ W.grownBy w' v.ownBlock ∧ (v'.ownBlock = v.ownBlock ∨ ∃ k, v'.ownBlock = some k ∧ W.heap.size ≤ k) := by
  have hnew : ∀ (j : Nat) (u : Value), x[j]? = some u → W.cell? ((⟨N, 0, none⟩ : Addr).add j) = some u := by
    intro j u hj
    rw [Addr.add_lit]
    rw [cell_of_row _ N _ x.toArray _ (0, 0) hN]
    simpa using hj
  have hall : ∀ y ∈ l ++ [x], y.length = sz ∧ ∀ u ∈ y, u.oneCell' = true := by
    intro y hy
    rcases List.mem_append.1 hy with hy | hy
    · exact h.1 y hy
    · obtain rfl : y = x := by simpa using hy
      exact ⟨hx, hx1⟩
  have hflat : (l ++ [x]).flatten = l.flatten ++ x := by simp
  have hfl : l.flatten.length = l.length * sz := flat_len fun y hy => (h.1 y hy).1
  rcases h.2 with ⟨rfl, rfl⟩ | ⟨g, off, cap, cur, rfl, hg, hlc, hcm, hoc, hcell⟩
  · obtain ⟨v', w', r1, r2, r3, _, r5⟩ := run_append_own_at (P := P) W W.heap.size t ty e i z sz bytes ht hi hz h1 h2 hzs hsz (.slice none 0 0) 0 [] (World.ownsRow_nil _ _ _ _) ⟨N, 0, none⟩ 1 c x (by rw [hx]; omega) hnew hx1 (by simp only [maxLen]; omega) (by omega) (by simp)
    refine ⟨v', w', r1, ⟨hall, ?_⟩, r3, ?_⟩
    · rcases r2.2 with ⟨_, h0⟩ | ⟨g, cap, cur, hv, hb, hg, hnc, hcm, hcs, htk⟩
      · omega
      · refine .inr ⟨g, 0, cap, cur, by simpa using hv, hg, by simpa using hnc, hcm, by omega, fun j y hy => ?_⟩
        rw [hflat] at hy
        have hy' : x[j]? = some y := by simpa using hy
        have hj := (List.getElem?_eq_some_iff.1 hy').1
        have h3 : (cur.toList.take ((0 + 1) * sz))[j]? = some y := by rw [htk]; simpa using hy'
        rw [List.getElem?_take, if_pos (by omega)] at h3
        simpa using h3
    · rcases r5 with h | h
      · exact .inl h
      · exact .inr ⟨_, h, by simp⟩
  · have hlt := blk_lt hg
    have hg1 := hg
    by_cases hroom : l.length + 1 ≤ cap
    · have hfit : off + l.length * sz + sz ≤ cur.size := by
        have := Nat.mul_le_mul_right sz hroom
        rw [Nat.add_mul, Nat.one_mul] at this
        omega
      have hs : ∀ j, j < x.length → (W.cell? ⟨g, off + l.length * i.size + j, none⟩).isSome = true := by
        intro j hj
        rw [h1, cell_of_row _ g _ cur _ (0, 0) hg1, Array.getElem?_eq_getElem (by omega)]
        rfl
      have hf : ∀ j, j < x.length → W.frozen? ⟨g, off + l.length * i.size + j, none⟩ = false := fun j _ => (blk_cells hg1).2 _
      have hr := run_append_room_cells (P := P) W t ty e i ht hi g off l.length cap ⟨N, 0, none⟩ 1 c x (by rw [h1, hx]; omega) hnew hx1 hroom hs hf
      rw [h1] at hr
      obtain ⟨cur', k1, k2, k3, k4⟩ := blk_setCells x _ (off + l.length * sz) cur hg1 (by omega)
      obtain ⟨o1, o2, o3, o4, o5⟩ := setCells_other g x W (off + l.length * sz)
      refine ⟨_, _, hr, ⟨hall, .inr ⟨g, off, cap, cur', by simp, k1, by simpa using hroom, hcm, by omega, fun q y hy => ?_⟩⟩, ?_, .inl rfl⟩
      · rw [hflat] at hy
        by_cases hjl : q < l.length * sz
        · rw [List.getElem?_append_left (by omega)] at hy
          rw [k4 _ (.inl (by omega))]
          exact hcell q y hy
        · rw [List.getElem?_append_right (by omega), hfl] at hy
          have hq := (List.getElem?_eq_some_iff.1 hy).1
          have := k3 (q - l.length * sz) hq
          rw [show off + l.length * sz + (q - l.length * sz) = off + q by omega] at this
          rw [this]
          exact hy
      · exact ⟨o1, o2, o3, by rw [o4]; exact Nat.le_refl _, fun q _ hq => o5 q fun e => hq (by rw [e]; rfl)⟩
    · have hlc' : l.length = cap := by omega
      have holds : ∀ j u, l.flatten[j]? = some u → W.cell? ((⟨g, off, none⟩ : Addr).add j) = some u := by
        intro j u hj
        rw [Addr.add_lit, cell_of_row _ g _ cur _ (0, 0) hg1]
        exact hcell j u hj
      have hr := run_append_grow (P := P) W t ty e i z ht hi hz ⟨g, off, none⟩ l.length cap l.flatten (by rw [h1]; exact hfl) holds ⟨N, 0, none⟩ 1 c x (by rw [h1, hx]; omega) hnew (by omega) (by omega) (growslice_fits (by omega) (by rw [h2]; have := Nat.mul_le_mul (show l.length + 1 ≤ 10001 by omega) hb128; omega))
      have hge := grownCap_ge W (l.length + 1) cap e
      refine ⟨_, _, hr, ⟨hall, .inr ⟨_, 0, grownCap W (l.length + 1) cap e, _, by simp, heap_alloc_new _ _, by simpa using hge, grownCap_le_maxLen _ _ _ _ (by simp only [maxLen]; omega), ?_, fun j y hy => ?_⟩⟩, ?_, .inr ⟨_, rfl, by simp⟩⟩
      · simp only [Array.size_append, List.size_toArray, size_zeroCells, hzs, hfl, hx]
        rw [Nat.zero_add]
        generalize grownCap _ _ _ _ = G at hge ⊢
        obtain ⟨d, rfl⟩ : ∃ d, G = l.length + 1 + d := ⟨G - (l.length + 1), by omega⟩
        rw [Nat.add_sub_cancel_left, Nat.add_mul, Nat.add_mul, Nat.one_mul]
        exact Nat.le_refl _
      · have hj1 := (List.getElem?_eq_some_iff.1 hy).1
        rw [hflat] at hy hj1
        rw [List.length_append] at hj1
        rw [Nat.zero_add, Array.getElem?_append_left (by simp only [Array.size_append, List.size_toArray]; omega)]
        rw [show l.flatten.toArray ++ x.toArray = (l.flatten ++ x).toArray by simp]
        simpa using hy
      · exact ⟨rfl, rfl, rfl, by simp, fun q hq _ => Below.heap_alloc _ _ q hq⟩
theorem wpList_rowE {P : Program} (W : World) (x : List Value) {ops : Array Oper} {rest : List Oper} {o : Oper} {a : Act} {Q : Exit → Act → World → Prop} (hgd : o.guard = none) (s xo : Operand) (t : TypeId)
    (ho : o.op = .call { callee := .builtin .append, args := #[s, xo], argTypes := #[t, t] })
    (i : TypeInfo) (z : Value) (bytes : Nat) (ht : P.underlying t = some (.slice e)) (hi : P.info? e = some i) (hz : i.zero = some z) (h1 : i.size = sz) (h2 : i.bytes = bytes) (hzs : z.cells.size = sz) (hsz : 0 < sz) (hb128 : bytes ≤ 1000)
    (v : Value) (l : List (List Value)) (hs : a.eval s = v) (N c : Nat) (hxo : a.eval xo = .slice (some ⟨N, 0, none⟩) 1 c) (h : RowC e sz W v l) (hl : l.length ≤ 10000) (hx : x.length = sz) (hx1 : ∀ u ∈ x, u.oneCell' = true) (hN : W.heap[N]? = some (.cells x.toArray e (0, 0)))
    (hK : ∀ v' w', RowC e sz w' v' (l ++ [x]) → W.grownBy w' v.ownBlock → (v'.ownBlock = v.ownBlock ∨ ∃ k, v'.ownBlock = some k ∧ W.heap.size ≤ k) → wpList P ops Q rest (a.put o.dst v') w') : wpList P ops Q (o :: rest) a W := by
  obtain ⟨v', w', r1, r2, r3, r4⟩ := rowE_append (P := P) i z bytes ht hi hz h1 h2 hzs hsz hb128 o.type h hl x hx hx1 N c hN
  exact Lib.wpList_append_run _ hgd s xo t t ho _ _ hs hxo v' w' r1 (hK v' w' r2 r3 r4)
theorem step_rowE {P : Program} (W : World) (x : List Value) {ops : Array Oper} {o : Oper} {a : Act} {K : Act → World → Prop} {Q : Exit → Act → World → Prop} {E : Prop} (hgd : o.guard = none) (s xo : Operand) (t : TypeId)
    (ho : o.op = .call { callee := .builtin .append, args := #[s, xo], argTypes := #[t, t] })
    (i : TypeInfo) (z : Value) (bytes : Nat) (ht : P.underlying t = some (.slice e)) (hi : P.info? e = some i) (hz : i.zero = some z) (h1 : i.size = sz) (h2 : i.bytes = bytes) (hzs : z.cells.size = sz) (hsz : 0 < sz) (hb128 : bytes ≤ 1000)
    (v : Value) (l : List (List Value)) (hs : a.eval s = v) (N c : Nat) (hxo : a.eval xo = .slice (some ⟨N, 0, none⟩) 1 c) (h : RowC e sz W v l) (hl : l.length ≤ 10000) (hx : x.length = sz) (hx1 : ∀ u ∈ x, u.oneCell' = true) (hN : W.heap[N]? = some (.cells x.toArray e (0, 0)))
    (hK : ∀ v' w', RowC e sz w' v' (l ++ [x]) → W.grownBy w' v.ownBlock → (v'.ownBlock = v.ownBlock ∨ ∃ k, v'.ownBlock = some k ∧ W.heap.size ≤ k) → K (a.put o.dst v') w') : if Region.wanted o (yielded ops a.tmps) = true then Oper.wp P o a W K Q else E := by
  have hw : Region.wanted o (yielded ops a.tmps) = true := by simp [Region.wanted, hgd]
  rw [if_pos hw]
  obtain ⟨v', w', r1, r2, r3, r4⟩ := rowE_append (P := P) i z bytes ht hi hz h1 h2 hzs hsz hb128 o.type h hl x hx hx1 N c hN
  exact Lib.wp_append_run W s xo t t ho _ _ hs hxo v' w' r1 (hK v' w' r2 r3 r4)
theorem ButB.row {w5 W w6 : World} {row : Option Nat} (g : W.grownBy w6 row) (B : Below w5.heap.size w5 W) : ButB (fun x => row = some x) w5 w6 :=
  ⟨g.os.trans B.os, g.tape.trans B.tape, g.output.trans B.output, Nat.le_trans B.size g.size, fun b hb hc => (g.block b (Nat.lt_of_lt_of_le hb B.size) fun e => hc e.symm).trans (B.block b hb)⟩
theorem wpList_rowB {P : Program} (w5 W : World) (x : List Value) {ops : Array Oper} {rest : List Oper} {o : Oper} {a : Act} {Q : Exit → Act → World → Prop} (hgd : o.guard = none) (s xo : Operand) (t : TypeId)
    (ho : o.op = .call { callee := .builtin .append, args := #[s, xo], argTypes := #[t, t] })
    (i : TypeInfo) (z : Value) (bytes : Nat) (ht : P.underlying t = some (.slice e)) (hi : P.info? e = some i) (hz : i.zero = some z) (h1 : i.size = sz) (h2 : i.bytes = bytes) (hzs : z.cells.size = sz) (hsz : 0 < sz) (hb128 : bytes ≤ 1000)
    (v : Value) (l : List (List Value)) (hs : a.eval s = v) (N c : Nat) (hxo : a.eval xo = .slice (some ⟨N, 0, none⟩) 1 c) (h : RowC e sz w5 v l) (hB : Below w5.heap.size w5 W) (hl : l.length ≤ 10000) (hx : x.length = sz) (hx1 : ∀ u ∈ x, u.oneCell' = true) (hN : W.heap[N]? = some (.cells x.toArray e (0, 0)))
    (hK : ∀ v' w', RowC e sz w' v' (l ++ [x]) → ButB (fun z => v.ownBlock = some z) w5 w' → (v'.ownBlock = v.ownBlock ∨ ∃ k, v'.ownBlock = some k ∧ w5.heap.size ≤ k) → wpList P ops Q rest (a.put o.dst v') w') : wpList P ops Q (o :: rest) a W := by
  obtain ⟨v', w', r1, r2, r3, r4⟩ := rowE_append (P := P) i z bytes ht hi hz h1 h2 hzs hsz hb128 o.type (h.below hB) hl x hx hx1 N c hN
  exact Lib.wpList_append_run _ hgd s xo t t ho _ _ hs hxo v' w' r1 (hK v' w' r2 (ButB.row r3 hB) (r4.imp id fun ⟨k, e, hk⟩ => ⟨k, e, Nat.le_trans hB.size hk⟩))
theorem step_rowB {P : Program} (w5 W : World) (x : List Value) {ops : Array Oper} {o : Oper} {a : Act} {K : Act → World → Prop} {Q : Exit → Act → World → Prop} {E : Prop} (hgd : o.guard = none) (s xo : Operand) (t : TypeId)
    (ho : o.op = .call { callee := .builtin .append, args := #[s, xo], argTypes := #[t, t] })
    (i : TypeInfo) (z : Value) (bytes : Nat) (ht : P.underlying t = some (.slice e)) (hi : P.info? e = some i) (hz : i.zero = some z) (h1 : i.size = sz) (h2 : i.bytes = bytes) (hzs : z.cells.size = sz) (hsz : 0 < sz) (hb128 : bytes ≤ 1000)
    (v : Value) (l : List (List Value)) (hs : a.eval s = v) (N c : Nat) (hxo : a.eval xo = .slice (some ⟨N, 0, none⟩) 1 c) (h : RowC e sz w5 v l) (hB : Below w5.heap.size w5 W) (hl : l.length ≤ 10000) (hx : x.length = sz) (hx1 : ∀ u ∈ x, u.oneCell' = true) (hN : W.heap[N]? = some (.cells x.toArray e (0, 0)))
    (hK : ∀ v' w', RowC e sz w' v' (l ++ [x]) → ButB (fun z => v.ownBlock = some z) w5 w' → (v'.ownBlock = v.ownBlock ∨ ∃ k, v'.ownBlock = some k ∧ w5.heap.size ≤ k) → K (a.put o.dst v') w') : if Region.wanted o (yielded ops a.tmps) = true then Oper.wp P o a W K Q else E := by
  have hw : Region.wanted o (yielded ops a.tmps) = true := by simp [Region.wanted, hgd]
  rw [if_pos hw]
  obtain ⟨v', w', r1, r2, r3, r4⟩ := rowE_append (P := P) i z bytes ht hi hz h1 h2 hzs hsz hb128 o.type (h.below hB) hl x hx hx1 N c hN
  exact Lib.wp_append_run W s xo t t ho _ _ hs hxo v' w' r1 (hK v' w' r2 (ButB.row r3 hB) (r4.imp id fun ⟨k, e, hk⟩ => ⟨k, e, Nat.le_trans hB.size hk⟩))
end
end Go.Proofs.Ytocofkccdfaaaaa
