/- Layer mail: three boxes while they are made: two slices of pointers that grow. Condition: the blocks lie behind the call's own world. -/
import Derived.Test.YtgecoannpbghjaaState
namespace Go.Proofs.Ytgecoannpbghjaa
open Go.RowKit Go.Deep Go.Conc

def rPtr : Rp Nat := fun _ _ cs b => cs = [.pointer (some ⟨b, 0, none⟩)]
theorem rPtr_ok : RpOk 1 rPtr := ⟨fun h => by rw [h]; rfl, fun h _ => h, fun h u hu => by rw [h] at hu; simp at hu; subst hu; rfl⟩
def Gp (e : TypeId) (w : World) (base : Nat) (v : Value) (l : List Nat) : Prop := Grow e 1 rPtr (fun _ => False) w base v l
theorem Gp.keep {e : TypeId} {w w' : World} {base : Nat} {v : Value} {l : List Nat} (h : Gp e w base v l) (hz : w.heap.size ≤ w'.heap.size) (hk : ∀ b, v.ownBlock = some b → w'.heap[b]? = w.heap[b]?) : Gp e w' base v l := by
  obtain ⟨h1, _, xs, ⟨h3, h4⟩, h5⟩ := h
  refine ⟨h1, fun b hb => ⟨hb.1, hb.2.2⟩, xs, ⟨h3, ?_⟩, fun i x hx => h5 i x hx⟩
  rcases h4 with h4 | ⟨g, cap, cur, hv, hb, hg, r⟩
  · exact .inl h4
  · exact .inr ⟨g, cap, cur, hv, hb, (hk g (by rw [hv]; rfl)).trans hg, r⟩
/-- What is read out of such a slice. -/
theorem Gp.at {e : TypeId} {w : World} {base : Nat} {v : Value} {l : List Nat} (h : Gp e w base v l) (hl : l ≠ []) : ∃ p c, v = .slice (some ⟨p, 0, none⟩) l.length c ∧ v.ownBlock = some p ∧ base ≤ p ∧ p < w.heap.size ∧ l.length ≤ c ∧ ∀ i b, l[i]? = some b → w.cell? ⟨p, i, none⟩ = some (.pointer (some ⟨b, 0, none⟩)) := by
  have hb := Grow.base_le h
  have hs := Own.sl rPtr_ok h
  obtain ⟨A, c, hv, h1, h2, h3, h4⟩ := hs
  obtain ⟨_, _, xs, ⟨h5, h6⟩, _⟩ := h
  rcases h6 with ⟨_, hn⟩ | ⟨g, cap, cur, hv', hb', _⟩
  · exact absurd (List.eq_nil_of_length_eq_zero hn) hl
  · rw [hv'] at hv
    simp only [Value.slice.injEq, true_and] at hv
    obtain ⟨rfl, rfl⟩ := hv
    have ho : v.ownBlock = some g := by rw [hv']; rfl
    refine ⟨g, cap, hv', ho, (hb g ho).1, (hb g ho).2, h1, fun i b hi => ?_⟩
    obtain ⟨b', o, ys, hA, _, _, hc, hR⟩ := h4 i b hi
    simp only [Option.some.injEq, Addr.mk.injEq, and_true] at hA
    obtain ⟨rfl, rfl⟩ := hA
    obtain rfl : ys = [.pointer (some ⟨b, 0, none⟩)] := hR
    have := hc 0 _ rfl
    rw [Nat.mul_one, Nat.add_zero, Nat.zero_add] at this
    exact this

structure Pre (e1 e2 : TypeId) (w0 w : World) (v5 : Value) (bs : List Nat) (v6 : Value) (rs : List Nat) (xs : List Bx) : Prop where
  below : Below w0.heap.size w0 w
  g5 : Gp e1 w w0.heap.size v5 bs
  g6 : Gp e2 w w0.heap.size v6 rs
  ne : ∀ p, v5.ownBlock = some p → v6.ownBlock ≠ some p
  each : ∀ (i : Nat) (x : Bx), xs[i]? = some x → OneOk w x
  apart : ∀ (i j : Nat) (x y : Bx), i ≠ j → xs[i]? = some x → xs[j]? = some y → ∀ k, Uses x k → ¬ Uses y k
  base : ∀ (i : Nat) (x : Bx), xs[i]? = some x → ∀ k, Uses x k → w0.heap.size ≤ k
  rows : ∀ (i : Nat) (x : Bx), xs[i]? = some x → ∀ k, Uses x k → v5.ownBlock ≠ some k ∧ v6.ownBlock ≠ some k

section
variable {e1 e2 : TypeId} {w0 w w' : World} {v5 v6 v' : Value} {bs rs ls : List Nat} {xs : List Bx}
theorem Pre.start (h : Below w0.heap.size w0 w) : Pre e1 e2 w0 w (.slice none 0 0) [] (.slice none 0 0) [] [] :=
  ⟨h, Grow.nil, Grow.nil, fun p hp => by simp [Value.ownBlock] at hp, fun i x hx => by simp at hx, fun i j x y _ hx => by simp at hx, fun i x hx => by simp at hx, fun i x hx => by simp at hx⟩
theorem Pre.turn (h : Pre e1 e2 w0 w v5 bs v6 rs xs) (hb : Below w.heap.size w w') : Pre e1 e2 w0 w' v5 bs v6 rs xs :=
  ⟨bel_call h.below hb, h.g5.keep hb.size fun b hv => hb.block b (Grow.base_le h.g5 b hv).2, h.g6.keep hb.size fun b hv => hb.block b (Grow.base_le h.g6 b hv).2, h.ne, fun i x hx => (h.each i x hx).keep fun j hj => hb.block j ((h.each i x hx).lt hj), h.apart, h.base, h.rows⟩
theorem Pre.add (h : Pre e1 e2 w0 w v5 bs v6 rs xs) {x : Bx} (hx : OneOk w x) (hu : ∀ k, Uses x k → w0.heap.size ≤ k ∧ v5.ownBlock ≠ some k ∧ v6.ownBlock ≠ some k ∧ ∀ (i : Nat) (y : Bx), xs[i]? = some y → ¬ Uses y k) : Pre e1 e2 w0 w v5 bs v6 rs (xs ++ [x]) := by
  have key : ∀ {i : Nat} {z : Bx}, (xs ++ [x])[i]? = some z → xs[i]? = some z ∨ (i = xs.length ∧ z = x) := by
    intro i z hz
    rw [List.getElem?_append] at hz
    split at hz
    · exact .inl hz
    · rename_i hn
      have hi : i - xs.length = 0 := by
        have := (List.getElem?_eq_some_iff.1 hz).1
        simp at this
        omega
      rw [hi] at hz
      simp at hz
      exact .inr ⟨by omega, hz.symm⟩
  refine ⟨h.below, h.g5, h.g6, h.ne, fun i z hz => ?_, fun i j z z' hij hz hz' k hk => ?_, fun i z hz k hk => ?_, fun i z hz k hk => ?_⟩
  · rcases key hz with hz | ⟨_, rfl⟩
    · exact h.each i z hz
    · exact hx
  · rcases key hz with hz1 | ⟨hi, rfl⟩
    · rcases key hz' with hz2 | ⟨hj, rfl⟩
      · exact h.apart i j z z' hij hz1 hz2 k hk
      · exact fun h2 => (hu k h2).2.2.2 i z hz1 hk
    · rcases key hz' with hz2 | ⟨hj, rfl⟩
      · exact (hu k hk).2.2.2 j z' hz2
      · exact absurd (hi.trans hj.symm) hij
  · rcases key hz with hz | ⟨_, rfl⟩
    · exact h.base i z hz k hk
    · exact (hu k hk).1
  · rcases key hz with hz | ⟨_, rfl⟩
    · exact h.rows i z hz k hk
    · exact ⟨(hu k hk).2.1, (hu k hk).2.2.1⟩
theorem below_gr {n : Nat} {row : Option Nat} {w1 w2 : World} (h : Below n w w1) (g : w1.grownBy w2 row) (hn : n ≤ w1.heap.size) (hr : ∀ b, row = some b → n ≤ b) : Below n w w2 := Below.grown h g hn hr
theorem Pre.app5 (h : Pre e1 e2 w0 w v5 bs v6 rs xs) (g : w.grownBy w' v5.ownBlock) (hg : Gp e1 w' w0.heap.size v' ls) (ho : v'.ownBlock = v5.ownBlock ∨ ∃ k, v'.ownBlock = some k ∧ w.heap.size ≤ k) : Pre e1 e2 w0 w' v' ls v6 rs xs := by
  have b5 := Grow.base_le h.g5
  have b6 := Grow.base_le h.g6
  have new : ∀ k, k < w.heap.size → v5.ownBlock ≠ some k → v'.ownBlock ≠ some k := fun k hk hne he => by
    rcases ho with ho | ⟨k', ho, hk'⟩
    · exact hne (ho ▸ he)
    · have := Option.some.inj (ho.symm.trans he); omega
  refine ⟨Below.grown h.below g h.below.size fun b hb => (b5 b hb).1, hg, h.g6.keep g.size fun b hv => g.block b (b6 b hv).2 fun e => h.ne b e.symm hv, fun p hp hq => ?_, fun i x hx => (h.each i x hx).keep fun j hj => g.block j ((h.each i x hx).lt hj) fun e => (h.rows i x hx j hj).1 e.symm, h.apart, h.base, fun i x hx k hk => ⟨new k ((h.each i x hx).lt hk) (h.rows i x hx k hk).1, (h.rows i x hx k hk).2⟩⟩
  exact new p (b6 p hq).2 (fun e => h.ne p e hq) hp
theorem Pre.app6 (h : Pre e1 e2 w0 w v5 bs v6 rs xs) (g : w.grownBy w' v6.ownBlock) (hg : Gp e2 w' w0.heap.size v' ls) (ho : v'.ownBlock = v6.ownBlock ∨ ∃ k, v'.ownBlock = some k ∧ w.heap.size ≤ k) : Pre e1 e2 w0 w' v5 bs v' ls xs := by
  have b5 := Grow.base_le h.g5
  have b6 := Grow.base_le h.g6
  have new : ∀ k, k < w.heap.size → v6.ownBlock ≠ some k → v'.ownBlock ≠ some k := fun k hk hne he => by
    rcases ho with ho | ⟨k', ho, hk'⟩
    · exact hne (ho ▸ he)
    · have := Option.some.inj (ho.symm.trans he); omega
  refine ⟨Below.grown h.below g h.below.size fun b hb => (b6 b hb).1, h.g5.keep g.size fun b hv => g.block b (b5 b hv).2 fun e => h.ne b hv e.symm, hg, fun p hp hq => ?_, fun i x hx => (h.each i x hx).keep fun j hj => g.block j ((h.each i x hx).lt hj) fun e => (h.rows i x hx j hj).2 e.symm, h.apart, h.base, fun i x hx k hk => ⟨(h.rows i x hx k hk).1, new k ((h.each i x hx).lt hk) (h.rows i x hx k hk).2⟩⟩
  exact new p (b5 p hp).2 (fun e => h.ne p hp e) hq
/-- The three are made: the state. -/
theorem Pre.done (h : Pre e1 e2 w0 w v5 (xs.map Bx.b) v6 (xs.map Bx.r) xs) (hn : xs ≠ []) : ∃ pb cb pw cw, v5 = .slice (some ⟨pb, 0, none⟩) xs.length cb ∧ v6 = .slice (some ⟨pw, 0, none⟩) xs.length cw ∧ xs.length ≤ cb ∧ xs.length ≤ cw ∧ St w0 pb pw none w (xs.map Bx.ab) := by
  obtain ⟨pb, cb, h1, h2, h3, h4, h5, h6⟩ := h.g5.at (by simpa using hn)
  obtain ⟨pw, cw, k1, k2, k3, k4, k5, k6⟩ := h.g6.at (by simpa using hn)
  rw [List.length_map] at h1 h5 k1 k5
  refine ⟨pb, cb, pw, cw, h1, k1, h5, k5, xs, rfl, h.below, h.each, h.apart, h.base, fun i x hx => ⟨fun hu => (h.rows i x hx pb hu).1 h2, fun hu => (h.rows i x hx pw hu).2 k2⟩, fun i x hx => ⟨h6 i x.b (by rw [List.getElem?_map, hx]; rfl), k6 i x.r (by rw [List.getElem?_map, hx]; rfl)⟩, fun k o hD => by cases hD⟩
theorem box_grown {b c room : Nat} {l : List Int} {row : Option Nat} (h : BoxI w b c room l) (g : w.grownBy w' row) (hb : row ≠ some b) (hc : row ≠ some c) : BoxI w' b c room l := by
  obtain ⟨hbc, h1, hl, s, r, h2⟩ := h
  exact ⟨hbc, blk_grown g h1 hb, hl, s, r, (g.block c (blk_lt h2) (fun e => hc e.symm)).trans h2⟩
theorem own_new {b c room : Nat} {l : List Int} {v v' : Value} (h : BoxI w b c room l) (hb : v.ownBlock ≠ some b ∧ v.ownBlock ≠ some c) (ho : v'.ownBlock = v.ownBlock ∨ v'.ownBlock = some (w.heap.size + 1)) : v'.ownBlock ≠ some b ∧ v'.ownBlock ≠ some c := by
  obtain ⟨hbc, h1, hl, s, r, h2⟩ := h
  have l1 := blk_lt h1
  have l2 := blk_lt h2
  rcases ho with ho | ho <;> rw [ho]
  · exact hb
  · exact ⟨fun e => by have := Option.some.inj e; omega, fun e => by have := Option.some.inj e; omega⟩
/-- Two blocks that are new. -/
theorem Pre.fresh {b c : Nat} (h : Pre e1 e2 w0 w v5 bs v6 rs xs) (hb : w.heap.size ≤ b) (hc : w.heap.size ≤ c) : (v5.ownBlock ≠ some b ∧ v5.ownBlock ≠ some c) ∧ (v6.ownBlock ≠ some b ∧ v6.ownBlock ≠ some c) ∧ ∀ (i : Nat) (y : Bx), xs[i]? = some y → ¬ Uses y b ∧ ¬ Uses y c := by
  have b5 := Grow.base_le h.g5
  have b6 := Grow.base_le h.g6
  exact ⟨⟨fun e => by have := (b5 _ e).2; omega, fun e => by have := (b5 _ e).2; omega⟩, ⟨fun e => by have := (b6 _ e).2; omega, fun e => by have := (b6 _ e).2; omega⟩, fun i y hy => ⟨fun hu => by have := (h.each i y hy).lt hu; omega, fun hu => by have := (h.each i y hy).lt hu; omega⟩⟩
theorem Pre.push {b c m : Nat} (h : Pre e1 e2 w0 w v5 bs v6 rs xs) (X : BoxI w b c m []) (hm : m ≤ 9) (hb : w0.heap.size ≤ b) (hc : w0.heap.size ≤ c) (f5 : v5.ownBlock ≠ some b ∧ v5.ownBlock ≠ some c) (f6 : v6.ownBlock ≠ some b ∧ v6.ownBlock ≠ some c) (fx : ∀ (i : Nat) (y : Bx), xs[i]? = some y → ¬ Uses y b ∧ ¬ Uses y c) :
    Pre e1 e2 w0 (w.alloc (.cells #[.slice none 0 0, .int .i64 m] 45)) v5 bs v6 rs (xs ++ [⟨b, c, w.heap.size, .slice none 0 0, m, [], []⟩]) := by
  obtain ⟨hbc, h1, hl, s, r, h2⟩ := X
  have l1 := blk_lt h1
  have l2 := blk_lt h2
  have b5 := Grow.base_le h.g5
  have b6 := Grow.base_le h.g6
  have hs := h.below.size
  refine (h.turn ((Below.refl _ _).alloc (Nat.le_refl _) _)).add ⟨⟨hbc, blk_alloc_old _ h1, hl, s, r, blk_alloc_old _ h2⟩, ⟨heap_alloc_new _ _, .inl ⟨rfl, rfl⟩, by simp [Value.ownBlock], by simp, hm⟩, by show b ≠ w.heap.size; omega, by show c ≠ w.heap.size; omega, by simp [Value.ownBlock], by simp [Value.ownBlock], by simp, by simp⟩ fun k hk => ?_
  have fin : ∀ k', k' = w.heap.size → w0.heap.size ≤ k' ∧ v5.ownBlock ≠ some k' ∧ v6.ownBlock ≠ some k' ∧ ∀ (i : Nat) (y : Bx), xs[i]? = some y → ¬ Uses y k' := fun k' e => ⟨by omega, fun e' => by have := (b5 _ e').2; omega, fun e' => by have := (b6 _ e').2; omega, fun i y hy hu => by have := (h.each i y hy).lt hu; omega⟩
  rcases hk with rfl | rfl | hk | hk
  · exact ⟨hb, f5.1, f6.1, fun i y hy => (fx i y hy).1⟩
  · exact ⟨hc, f5.2, f6.2, fun i y hy => (fx i y hy).2⟩
  · exact fin k hk
  · simp [Value.ownBlock] at hk
end
end Go.Proofs.Ytgecoannpbghjaa
