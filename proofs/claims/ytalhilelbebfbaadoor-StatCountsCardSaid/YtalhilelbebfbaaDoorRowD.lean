/- A slice of elements of several cells: one element read, one cell of it written. No condition but those that each lemma names. -/
import Derived.Test.YtalhilelbebfbaaDoorRowC
namespace Go.Proofs.YtalhilelbebfbaaDoor
open Go.RowKit Go.Deep

theorem flat_at {sz : Nat} : ∀ {l : List (List Value)} {i : Nat} {x : List Value} {j : Nat}, (∀ y ∈ l, y.length = sz) → l[i]? = some x → j < sz → l.flatten[i * sz + j]? = x[j]?
  | [], i, x, j, _, hi, _ => by simp at hi
  | y :: l, 0, x, j, h, hi, hj => by
    obtain rfl : y = x := by simpa using hi
    rw [List.flatten_cons, List.getElem?_append_left (by have := h y (List.mem_cons_self ..); omega)]
    congr 1
    omega
  | y :: l, i + 1, x, j, h, hi, hj => by
    have hy := h y (List.mem_cons_self ..)
    have e : (i + 1) * sz + j - y.length = i * sz + j := by rw [hy, Nat.add_mul]; omega
    rw [List.flatten_cons, List.getElem?_append_right (by rw [hy, Nat.add_mul]; omega), e]
    exact flat_at (fun z hz => h z (List.mem_cons_of_mem _ hz)) (by simpa using hi) hj
theorem flat_get {sz : Nat} (hsz : 0 < sz) {l : List (List Value)} (h : ∀ y ∈ l, y.length = sz) {q : Nat} {u : Value} (hq : l.flatten[q]? = some u) : ∃ i j x, q = i * sz + j ∧ j < sz ∧ l[i]? = some x ∧ x[j]? = some u := by
  have hl : q < l.length * sz := by
    have := (List.getElem?_eq_some_iff.1 hq).1
    rwa [flat_len h] at this
  have h2 := Nat.mod_lt q hsz
  have h3 := Nat.div_add_mod q sz
  have h4 : q / sz < l.length := (Nat.div_lt_iff_lt_mul hsz).2 hl
  refine ⟨q / sz, q % sz, l[q / sz], by rw [Nat.mul_comm] at h3; omega, h2, List.getElem?_eq_getElem h4, ?_⟩
  rw [← flat_at (sz := sz) h (List.getElem?_eq_getElem h4) h2]
  rw [show q / sz * sz + q % sz = q by rw [Nat.mul_comm] at h3; omega]
  exact hq
section
variable {e : TypeId} {sz : Nat}
/-- One element's cells. -/
theorem RowC.at {w : World} {v : Value} {l : List (List Value)} (h : RowC e sz w v l) {i : Nat} {x : List Value} (hi : l[i]? = some x) : ∃ g off cap, v = .slice (some ⟨g, off, none⟩) l.length cap ∧ l.length ≤ cap ∧ cap ≤ maxLen ∧ g < w.heap.size ∧ (∀ j u, x[j]? = some u → w.cell? ⟨g, off + i * sz + j, none⟩ = some u) ∧ ∀ o, w.frozen? ⟨g, o, none⟩ = false := by
  obtain ⟨h0, h⟩ := h
  rcases h with ⟨_, rfl⟩ | ⟨g, off, cap, cur, hv, hg, h1, h2, h3, h4⟩
  · simp at hi
  · refine ⟨g, off, cap, hv, h1, h2, blk_lt hg, fun j u hj => ?_, (blk_cells hg).2⟩
    have hx := (h0 x (List.mem_of_getElem? hi)).1
    have hjl := (List.getElem?_eq_some_iff.1 hj).1
    rw [cell_of_row w g _ cur _ (0, 0) hg, Nat.add_assoc]
    exact h4 _ u (by rw [flat_at (fun y hy => (h0 y hy).1) hi (by omega)]; exact hj)
theorem RowC.here {w : World} {g off n cap : Nat} {l : List (List Value)} (h : RowC e sz w (.slice (some ⟨g, off, none⟩) n cap) l) {i : Nat} {x : List Value} (hi : l[i]? = some x) : n = l.length ∧ n ≤ cap ∧ cap ≤ 9223372036854775807 ∧ (∀ j u, x[j]? = some u → w.cell? ⟨g, off + i * sz + j, none⟩ = some u) ∧ ∀ o, w.frozen? ⟨g, o, none⟩ = false := by
  obtain ⟨g', off', cap', hv, h1, h2, _, hc, hf⟩ := h.at hi
  simp only [Value.slice.injEq, Option.some.injEq, Addr.mk.injEq, and_true] at hv
  obtain ⟨⟨rfl, rfl⟩, rfl, rfl⟩ := hv
  unfold maxLen at h2
  exact ⟨rfl, h1, h2, hc, hf⟩
/-- One cell written. -/
theorem RowC.write {w : World} {g off len cap : Nat} {l : List (List Value)} (h : RowC e sz w (.slice (some ⟨g, off, none⟩) len cap) l) (hsz : 0 < sz) {i j : Nat} {x : List Value} (hi : l[i]? = some x) (hj : j < sz) (u : Value) (hu : u.oneCell' = true) : RowC e sz (w.setCell ⟨g, off + i * sz + j, none⟩ u) (.slice (some ⟨g, off, none⟩) len cap) (l.set i (x.set j u)) := by
  obtain ⟨h0, h⟩ := h
  have hx := h0 x (List.mem_of_getElem? hi)
  have hil := (List.getElem?_eq_some_iff.1 hi).1
  have h0' : ∀ y ∈ l.set i (x.set j u), y.length = sz ∧ ∀ z ∈ y, z.oneCell' = true := by
    intro y hy
    rcases List.mem_or_eq_of_mem_set hy with hy | rfl
    · exact h0 y hy
    · refine ⟨by rw [List.length_set]; exact hx.1, fun z hz => ?_⟩
      rcases List.mem_or_eq_of_mem_set hz with hz | rfl
      · exact hx.2 z hz
      · exact hu
  refine ⟨h0', .inr ?_⟩
  rcases h with ⟨h, _⟩ | ⟨g', off', cap', cur, hv, hg, h1, h2, h3, h4⟩
  · cases h
  · simp only [Value.slice.injEq, Option.some.injEq, Addr.mk.injEq, and_true] at hv
    obtain ⟨⟨rfl, rfl⟩, rfl, rfl⟩ := hv
    refine ⟨g, off, cap, cur.setIfInBounds (off + i * sz + j) u, by rw [List.length_set], blk_set_same _ hg rfl, by rw [List.length_set]; exact h1, h2, by rw [Array.size_setIfInBounds]; exact h3, fun q z hq => ?_⟩
    obtain ⟨a, b, y, rfl, hb, ha, hz⟩ := flat_get hsz (fun y hy => (h0' y hy).1) hq
    rw [Array.getElem?_setIfInBounds]
    have hfit : i * sz + sz ≤ l.length * sz := by
      have := Nat.mul_le_mul_right sz (show i + 1 ≤ l.length by omega)
      rw [Nat.add_mul] at this
      omega
    have hcap : l.length * sz ≤ cap * sz := Nat.mul_le_mul_right _ h1
    by_cases hai : a = i
    · subst hai
      rw [List.getElem?_set_self hil] at ha
      obtain rfl := Option.some.inj ha
      by_cases hbj : b = j
      · subst hbj
        rw [if_pos (by omega), if_pos (by omega)]
        rw [List.getElem?_set_self (by rw [hx.1]; exact hb)] at hz
        exact hz
      · rw [if_neg (by omega)]
        rw [List.getElem?_set_ne (by omega)] at hz
        exact h4 _ z (by rw [flat_at (fun y hy => (h0 y hy).1) hi hb]; exact hz)
    · rw [List.getElem?_set_ne (Ne.symm hai)] at ha
      have : off + i * sz + j ≠ off + (a * sz + b) := by
        intro h9
        rcases Nat.lt_or_gt_of_ne hai with h8 | h8
        · have := Nat.mul_le_mul_right sz (show a + 1 ≤ i by omega)
          rw [Nat.add_mul] at this
          omega
        · have := Nat.mul_le_mul_right sz (show i + 1 ≤ a by omega)
          rw [Nat.add_mul] at this
          omega
      rw [if_neg this]
      exact h4 _ z (by rw [flat_at (fun y hy => (h0 y hy).1) ha hb]; exact hz)
end
end Go.Proofs.YtalhilelbebfbaaDoor
