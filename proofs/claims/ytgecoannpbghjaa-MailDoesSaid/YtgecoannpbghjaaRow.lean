/- A slice of numbers that may begin within its row ('l[1:]'), and append of one number to it. Condition: the list is at most 100 long. -/
import Derived.Test.YtgecoannpbghjaaBoxI
import Derived.ArgAppend
namespace Go.Proofs.Ytgecoannpbghjaa
open Go.RowKit Go.Deep

/-- The slice value v reads as the numbers l. -/
def Row (w : World) (v : Value) (l : List Int) : Prop :=
  (v = .slice none 0 0 ∧ l = []) ∨ ∃ g off cap cur, v = .slice (some ⟨g, off, none⟩) l.length cap ∧ w.heap[g]? = some (.cells cur 3 (0, 0)) ∧ l.length ≤ cap ∧ cap ≤ maxLen ∧ off + cap ≤ cur.size ∧ ∀ i x, l[i]? = some x → cur[off + i]? = some (.int .i64 x)
theorem Row.keep {w w' : World} {v : Value} {l : List Int} (h : Row w v l) (k : ∀ b, v.ownBlock = some b → w'.heap[b]? = w.heap[b]?) : Row w' v l := by
  rcases h with h | ⟨g, off, cap, cur, hv, hg, r⟩
  · exact .inl h
  · exact .inr ⟨g, off, cap, cur, hv, (k g (by rw [hv]; rfl)).trans hg, r⟩
theorem Row.lt {w : World} {v : Value} {l : List Int} (h : Row w v l) : ∀ b, v.ownBlock = some b → b < w.heap.size := by
  rcases h with ⟨rfl, _⟩ | ⟨g, off, cap, cur, rfl, hg, r⟩
  · intro b hb; cases hb
  · intro b hb
    obtain rfl : g = b := Option.some.inj hb
    exact blk_lt hg
theorem Row.shape {w : World} {v : Value} {l : List Int} (h : Row w v l) : ∃ A c, v = .slice A l.length c := by
  rcases h with ⟨rfl, rfl⟩ | ⟨g, off, cap, cur, rfl, _⟩
  · exact ⟨_, _, rfl⟩
  · exact ⟨_, _, rfl⟩
theorem Row.sl {w : World} {v : Value} {l : List Int} (h : Row w v l) (hl : l.length ≤ 1000) (h64 : ∀ x ∈ l, I64 x) : Sl 1 rInt (fun _ => True) w v l := by
  rcases h with ⟨rfl, rfl⟩ | ⟨g, off, cap, cur, rfl, hg, h1, h2, h3, h4⟩
  · exact Sl_nil _ _ _ _
  · refine ⟨some ⟨g, off, none⟩, cap, rfl, h1, h2, by omega, fun i x hx => ⟨g, off, [.int .i64 x], rfl, trivial, rfl, fun j y hj => ?_, rfl, h64 x (List.mem_of_getElem? hx)⟩⟩
    have hj0 : j = 0 := by have := (List.getElem?_eq_some_iff.1 hj).1; simpa using this
    subst hj0
    simp at hj
    subst hj
    rw [cell_of_row w g _ cur _ (0, 0) hg, Nat.mul_one, Nat.add_zero]
    exact h4 i x hx
/-- The first number is taken away. -/
theorem Row.tail {w : World} {g off cap : Nat} {x : Int} {l : List Int} (h : Row w (.slice (some ⟨g, off, none⟩) (l.length + 1) cap) (x :: l)) :
    Row w (.slice (if cap = 1 then some ⟨g, off, none⟩ else some ⟨g, off + 1, none⟩) l.length (cap - 1)) l ∧ w.cell? ⟨g, off, none⟩ = some (.int .i64 x) ∧ l.length + 1 ≤ cap ∧ cap ≤ maxLen := by
  rcases h with ⟨h, _⟩ | ⟨g', off', cap', cur, hv, hg, h1, h2, h3, h4⟩
  · cases h
  · simp only [List.length_cons, Value.slice.injEq, Option.some.injEq, Addr.mk.injEq, and_true, true_and] at hv
    obtain ⟨⟨rfl, rfl⟩, rfl⟩ := hv
    simp only [List.length_cons] at h1
    have hc : w.cell? ⟨g, off, none⟩ = some (.int .i64 x) := by
      rw [cell_of_row w g _ cur _ (0, 0) hg]
      simpa using h4 0 x rfl
    refine ⟨.inr ?_, hc, h1, h2⟩
    by_cases h0 : cap = 1
    · have hl0 : l = [] := List.eq_nil_of_length_eq_zero (by omega)
      subst hl0
      exact ⟨g, off, cap - 1, cur, by rw [if_pos h0], hg, by simp, by omega, by omega, fun i y hy => by simp at hy⟩
    · refine ⟨g, off + 1, cap - 1, cur, by rw [if_neg h0], hg, by omega, by omega, by omega, fun i y hy => ?_⟩
      have := h4 (i + 1) y (by simpa using hy)
      rw [show off + 1 + i = off + (i + 1) by omega]
      exact this

theorem row_append (i : TypeInfo) (hi : Try.prog.info? 3 = some i) (hz : i.zero = some (.int .i64 0)) (h1 : i.size = 1) (h2 : i.bytes = 8) (ty : TypeId) {W : World} {v : Value} {l : List Int} (h : Row W v l) (hl : l.length ≤ 100) (x : Int) (c : Nat) :
    ∃ v' w', (Builtin.append_ #[43, 43] ty #[v, .slice (some ⟨W.heap.size, 0, none⟩) 1 c]).run Try.prog (W.alloc (.cells #[.int .i64 x] 3)) = .ok v' w' ∧ Row w' v' (l ++ [x]) ∧ W.grownBy w' v.ownBlock ∧ (v'.ownBlock = v.ownBlock ∨ ∃ k, v'.ownBlock = some k ∧ W.heap.size ≤ k) := by
  have hnew : ∀ (j : Nat) (u : Value), [Value.int .i64 x][j]? = some u → (W.alloc (.cells #[.int .i64 x] 3)).cell? ((⟨W.heap.size, 0, none⟩ : Addr).add j) = some u := by
    intro j u hj
    have hj0 : j = 0 := by have := (List.getElem?_eq_some_iff.1 hj).1; simpa using this
    subst hj0
    simp at hj
    subst hj
    rw [Addr.add_lit]
    rw [cell_of_row _ W.heap.size _ #[.int .i64 x] _ (0, 0) (heap_alloc_new W _)]
    rfl
  have hone : ∀ u ∈ [Value.int .i64 x], u.oneCell' = true := by intro u hu; simp at hu; subst hu; rfl
  have hal := World.grownBy_alloc W (.cells #[.int .i64 x] 3) v.ownBlock
  rcases h with ⟨rfl, rfl⟩ | ⟨g, off, cap, cur, rfl, hg, hlc, hcm, hoc, hcell⟩
  · obtain ⟨v', w', r1, r2, r3, _, r5⟩ := run_append_own_at (P := Try.prog) (W.alloc (.cells #[.int .i64 x] 3)) W.heap.size 43 ty 3 i (.int .i64 0) 1 8 Try.underlying43 hi hz h1 h2 rfl (by decide) (.slice none 0 0) 0 [] (World.ownsRow_nil _ _ _ _) ⟨W.heap.size, 0, none⟩ 1 c [.int .i64 x] rfl hnew hone (by simp only [maxLen]; omega) (by decide) (by simp)
    refine ⟨v', w', r1, ?_, grown_trans hal r3, ?_⟩
    · rcases r2.2 with ⟨_, h0⟩ | ⟨g, cap, cur, hv, hb, hg, hnc, hcm, hcs, htk⟩
      · omega
      · refine .inr ⟨g, 0, cap, cur, by simpa using hv, hg, by simpa using hnc, hcm, by omega, fun j y hy => ?_⟩
        have hj0 : j = 0 := by have := (List.getElem?_eq_some_iff.1 hy).1; simpa using this
        subst hj0
        simp at hy
        subst hy
        have h3 : (cur.toList.take ((0 + 1) * 1))[0]? = some (.int .i64 x) := by rw [htk]; rfl
        rw [List.getElem?_take] at h3
        simpa using h3
    · rcases r5 with h | h
      · exact .inl h
      · exact .inr ⟨_, h, by simp⟩
  · have hlt := blk_lt hg
    have hg1 : (W.alloc (.cells #[.int .i64 x] 3)).heap[g]? = some (.cells cur 3 (0, 0)) := blk_alloc_old _ hg
    by_cases hroom : l.length + 1 ≤ cap
    · have hs : ∀ j, j < [Value.int .i64 x].length → ((W.alloc (.cells #[.int .i64 x] 3)).cell? ⟨g, off + l.length * i.size + j, none⟩).isSome = true := by
        intro j hj
        simp at hj
        subst hj
        rw [h1, Nat.mul_one, Nat.add_zero, cell_of_row _ g _ cur _ (0, 0) hg1, Array.getElem?_eq_getElem (by omega)]
        rfl
      have hf : ∀ j, j < [Value.int .i64 x].length → (W.alloc (.cells #[.int .i64 x] 3)).frozen? ⟨g, off + l.length * i.size + j, none⟩ = false := fun j _ => (blk_cells hg1).2 _
      have hr := run_append_room_cells (P := Try.prog) (W.alloc (.cells #[.int .i64 x] 3)) 43 ty 3 i Try.underlying43 hi g off l.length cap ⟨W.heap.size, 0, none⟩ 1 c [.int .i64 x] (by rw [h1]; rfl) hnew hone hroom hs hf
      rw [h1, Nat.mul_one] at hr
      refine ⟨_, _, hr, .inr ⟨g, off, cap, cur.setIfInBounds (off + l.length) (.int .i64 x), by simp, ?_, by simpa using hroom, hcm, by simpa using hoc, fun j y hy => ?_⟩, ?_, .inl rfl⟩
      · exact blk_set_same _ hg1 rfl
      · rw [Array.getElem?_setIfInBounds]
        by_cases hjl : j < l.length
        · rw [List.getElem?_append_left hjl] at hy
          rw [if_neg (by omega)]
          exact hcell j y hy
        · have hj1 : j < (l ++ [x]).length := (List.getElem?_eq_some_iff.1 hy).1
          simp only [List.length_append, List.length_singleton] at hj1
          obtain rfl : j = l.length := by omega
          rw [List.getElem?_append_right (Nat.le_refl _), Nat.sub_self] at hy
          simp at hy
          subst hy
          rw [if_pos rfl, if_pos (by omega)]
      · refine grown_trans hal ⟨rfl, rfl, rfl, by simp [World.setCells], fun q _ hq => ?_⟩
        simp only [World.setCells]
        exact Below.heap_setCell _ _ _ _ fun e => hq (by rw [e]; rfl)
    · have hlc' : l.length = cap := by omega
      have holds : ∀ j u, (l.map (Value.int .i64))[j]? = some u → (W.alloc (.cells #[.int .i64 x] 3)).cell? ((⟨g, off, none⟩ : Addr).add j) = some u := by
        intro j u hj
        rw [List.getElem?_map] at hj
        cases hy : l[j]? with
        | none => rw [hy] at hj; cases hj
        | some y =>
          rw [hy] at hj
          simp at hj
          subst hj
          rw [Addr.add_lit, cell_of_row _ g _ cur _ (0, 0) hg1]
          exact hcell j y hy
      have hr := run_append_grow (P := Try.prog) (W.alloc (.cells #[.int .i64 x] 3)) 43 ty 3 i (.int .i64 0) Try.underlying43 hi hz ⟨g, off, none⟩ l.length cap (l.map (Value.int .i64)) (by rw [h1]; simp) holds ⟨W.heap.size, 0, none⟩ 1 c [.int .i64 x] (by rw [h1]; rfl) hnew (by omega) (by omega) (growslice_fits (by omega) (by rw [h2]; omega))
      have hge := grownCap_ge (W.alloc (.cells #[.int .i64 x] 3)) (l.length + 1) cap 3
      refine ⟨_, _, hr, .inr ⟨_, 0, grownCap (W.alloc (.cells #[.int .i64 x] 3)) (l.length + 1) cap 3, _, by simp, heap_alloc_new _ _, by simpa using hge, grownCap_le_maxLen _ _ _ _ (by simp only [maxLen]; omega), ?_, fun j y hy => ?_⟩, ?_, .inr ⟨_, rfl, by simp⟩⟩
      · simp only [Array.size_append, List.size_toArray, List.length_map, List.length_singleton, size_zeroCells]
        show 0 + _ ≤ _
        simp [Value.cells]
        omega
      · have hj1 : j < l.length + 1 := by have := (List.getElem?_eq_some_iff.1 hy).1; simpa using this
        rw [Nat.zero_add, Array.getElem?_append_left (by simp; omega)]
        rw [show (l.map (Value.int .i64)).toArray ++ [Value.int .i64 x].toArray = ((l ++ [x]).map (Value.int .i64)).toArray by simp]
        have h9 := congrArg (Option.map (Value.int .i64)) hy
        rw [← List.getElem?_map] at h9
        simpa using h9
      · exact grown_trans hal ⟨rfl, rfl, rfl, by simp, fun q hq _ => Below.heap_alloc _ _ q hq⟩
end Go.Proofs.Ytgecoannpbghjaa
