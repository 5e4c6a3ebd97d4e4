/- append(s, make([]T, n)...): the run hands the number n over in the place of a slice. No condition but those that each lemma names. -/
import Derived.Test.YtkapaafbnbnpjaaGreatDoorOwn
namespace Go.Proofs.YtkapaafbnbnpjaaGreatDoor
open Go.RowKit Go.Deep

section
variable {P : Program} (w : World)
theorem run_zeros_room (t tn ty e : TypeId) (i : TypeInfo) (z : Value) (k kn : IntKind) (ht : P.underlying t = some (.slice e)) (htn : P.underlying tn = some (.int kn)) (hi : P.info? e = some i) (hz : i.zero = some z) (hzs : z.cells.size = i.size)
    (h1 : ∀ u ∈ z.cells.toList, u.oneCell' = true) (g sLen sCap : Nat) (cur : Array Value) (hg : w.heap[g]? = some (.cells cur e (0, 0)))
    (n : Nat) (h63 : (n : Int) ≤ 9223372036854775807) (h48 : n * i.bytes ≤ 281474976710656) (hroom : sLen + n ≤ sCap) (hfit : sLen * i.size + n * i.size ≤ cur.size) :
    (Builtin.append_ #[t, tn] ty #[.slice (some ⟨g, 0, none⟩) sLen sCap, .int k n]).run P w =
      .ok (.slice (some ⟨g, 0, none⟩) (sLen + n) sCap) (w.setRow g (cur.toList.take (sLen * i.size) ++ (Builtin.zeroCells z.cells n).toList ++ cur.toList.drop (sLen * i.size + n * i.size)).toArray) := by
  have hw : IntKind.i64.wrap (n : Int) = n := by rw [IntKind.wrap_i64]; omega
  have hneg : ¬ ((n : Int) < 0) := by omega
  have h48i : ¬ (281474976710656 < (n : Int) * (i.bytes : Int)) := by
    rw [← Int.natCast_mul]
    omega
  have hl : (Builtin.zeroCells z.cells n).toList.length = n * i.size := by rw [Array.length_toList, size_zeroCells, hzs]
  have hone : ∀ u ∈ (Builtin.zeroCells z.cells n).toList, u.oneCell' = true := by
    intro u hu
    simp only [Builtin.zeroCells, Array.toList_map, Array.toList_range, List.mem_map, List.mem_range] at hu
    obtain ⟨q, hq, rfl⟩ := hu
    have hpos : 0 < z.cells.size := by
      rcases Nat.eq_zero_or_pos z.cells.size with h0 | h0
      · rw [h0] at hq; omega
      · exact h0
    have hlt := Nat.mod_lt q hpos
    rw [getElem!_pos z.cells (q % z.cells.size) hlt]
    exact h1 _ (by simp)
  have hst := run_storeCells_at P g (sLen * i.size) e (Builtin.zeroCells z.cells n).toList 0 cur w hg (by rw [hl]; simpa using hfit) hone
  simp only [Nat.add_zero] at hst
  rw [hl] at hst
  by_cases hns : n * i.size = 0
  · have hz0 : Builtin.zeroCells z.cells n = #[] := by
      apply Array.eq_empty_of_size_eq_zero
      rw [size_zeroCells, hzs, hns]
    rw [hz0] at hst ⊢
    simp [Builtin.append_, run_underlying ht, run_underlying htn, sizeOf, typeInfo, hi, asInt, asIntOf, hw, hneg, h48i, hns, hroom, Addr.add_lit]
    have hst' := hst
    rw [hns] at hst'
    simp at hst'
    rw [hst']
    rfl
  · simp [Builtin.append_, run_underlying ht, run_underlying htn, sizeOf, typeInfo, zeroValue, hi, hz, asInt, asIntOf, hw, hneg, h48i, hroom, Addr.add_lit, hst]
    intro h
    exact absurd h hns
theorem run_zeros_grow (t tn ty e : TypeId) (i : TypeInfo) (z : Value) (k kn : IntKind) (ht : P.underlying t = some (.slice e)) (htn : P.underlying tn = some (.int kn)) (hi : P.info? e = some i) (hz : i.zero = some z) (hs : 0 < i.size)
    (b : Addr) (sLen sCap : Nat) (olds : List Value) (hlo : olds.length = sLen * i.size) (holds : ∀ j v, olds[j]? = some v → w.cell? (b.add j) = some v)
    (n : Nat) (h0 : 0 < n) (hg : sCap < sLen + n) (h63 : ((sLen + n : Nat) : Int) ≤ 9223372036854775807) (h48 : n * i.bytes ≤ 281474976710656) (hfit : Builtin.nextslicecap (sLen + n) sCap * i.bytes ≤ 281474976710656) :
    (Builtin.append_ #[t, tn] ty #[.slice (some b) sLen sCap, .int k n]).run P w =
      .ok (.slice (some ⟨w.heap.size, 0, none⟩) (sLen + n) (grownCap w (sLen + n) sCap e))
        (w.drew.alloc (.cells (olds.toArray ++ Builtin.zeroCells z.cells n ++ Builtin.zeroCells z.cells (grownCap w (sLen + n) sCap e - (sLen + n))) e)) := by
  have hw : IntKind.i64.wrap (n : Int) = n := by rw [IntKind.wrap_i64]; omega
  have hneg : ¬ ((n : Int) < 0) := by omega
  have h48i : ¬ (281474976710656 < (n : Int) * (i.bytes : Int)) := by
    rw [← Int.natCast_mul]
    omega
  have hn : ¬ (sLen + n ≤ sCap) := by omega
  have h63' : ¬ (9223372036854775807 < ((sLen : Int) + (n : Int))) := by omega
  have h48' : ¬ (281474976710656 < Builtin.nextslicecap (sLen + n) sCap * i.bytes) := by omega
  have hns : ¬ (n * i.size = 0) := Nat.mul_ne_zero (by omega) (by omega)
  have hfo := run_firstCells_some (P := P) w.drew i.size sLen b sLen sCap olds hlo (by simpa using holds)
  simp [Builtin.append_, run_underlying ht, run_underlying htn, sizeOf, typeInfo, zeroValue, hi, hz, asInt, asIntOf, hw, hneg, h48i, hn, h63', h48', hns, Question.forced, hfo, newRow, grownCap]

/-- The cells of n zeros. -/
theorem zeroCells_get (zc : Array Value) (sz n k j : Nat) (hz : zc.size = sz) (hk : k < n) (hj : j < sz) : (Builtin.zeroCells zc n).toList[k * sz + j]? = zc[j]? := by
  have hlt : k * sz + j < n * sz := by
    have : (k + 1) * sz ≤ n * sz := Nat.mul_le_mul_right _ hk
    rw [Nat.add_mul] at this; omega
  have hm : (k * sz + j) % sz = j := by rw [Nat.add_comm, Nat.add_mul_mod_self_right]; exact Nat.mod_eq_of_lt hj
  simp only [Builtin.zeroCells, Array.getElem?_toList, Array.getElem?_map, hz]
  rw [Array.getElem?_eq_getElem (by simpa using hlt)]
  simp only [Array.getElem_range, Option.map_some, hm]
  rw [getElem!_pos zc j (by omega), Array.getElem?_eq_getElem (by omega)]

variable {α : Type} {R : Rp α} {S : Nat → Prop}
theorem run_own_zeros (t tn ty e : TypeId) (i : TypeInfo) (z : Value) (sz bytes : Nat) (k kn : IntKind) (ht : P.underlying t = some (.slice e)) (htn : P.underlying tn = some (.int kn)) (hi : P.info? e = some i) (hz : i.zero = some z)
    (hsize : i.size = sz) (hby : i.bytes = bytes) (hzs : z.cells.size = sz) (hsz : 0 < sz) (hb0 : 0 < bytes) (ok : RpOk sz R) (x0 : α) (hx0 : ∀ w : World, R S w z.cells.toList x0) (base : Nat) (hbase : base ≤ w.heap.size) (v : Value) (l : List α) (hown : Own e sz R S w base v l)
    (n : Nat) (hbytes : (l.length + n) * bytes ≤ 140737488355328) :
    ∃ v' w', (Builtin.append_ #[t, tn] ty #[v, .int k n]).run P w = .ok v' w' ∧ Own e sz R S w' base v' (l ++ List.replicate n x0) ∧ w.grownBy w' v.ownBlock ∧ (v'.ownBlock = v.ownBlock ∨ v'.ownBlock = some w.heap.size) := by
  obtain ⟨h1, h2, xs, h3, h4⟩ := hown
  have hlen : l.length + n ≤ 140737488355328 := Nat.le_trans (Nat.le_mul_of_pos_right _ hb0) hbytes
  have h48 : n * i.bytes ≤ 281474976710656 := by
    rw [hby]
    have : n * bytes ≤ (l.length + n) * bytes := Nat.mul_le_mul_right _ (by omega)
    omega
  have hzl : (Builtin.zeroCells z.cells n).toList.length = n * sz := by rw [Array.length_toList, size_zeroCells, hzs]
  have hone : ∀ u ∈ z.cells.toList, u.oneCell' = true := ok.one (hx0 w)
  have hxl : xs.length = l.length * sz := h3.1
  -- once the row holds xs and the zeros, all is said
  have fin : ∀ v' w', w'.ownsRow base e sz v' (l.length + n) (xs ++ (Builtin.zeroCells z.cells n).toList) → w.grownBy w' v.ownBlock → (v'.ownBlock = v.ownBlock ∨ v'.ownBlock = some w.heap.size) → Own e sz R S w' base v' (l ++ List.replicate n x0) := by
    intro v' w' hrow hg ho
    have hSk : Kept S S w w' := fun b hb _ => ⟨hb, hg.block b (h2 b hb).1 (fun h => (h2 b hb).2 h.symm)⟩
    refine ⟨by simp; omega, fun b hb => ⟨Nat.lt_of_lt_of_le (h2 b hb).1 hg.size, ?_⟩, _, by simpa using hrow, ?_⟩
    · rcases ho with h | h
      · rw [h]; exact (h2 b hb).2
      · rw [h]; simp only [ne_eq, Option.some.injEq]; have := (h2 b hb).1; omega
    · intro q x hx
      rcases Nat.lt_or_ge q l.length with hlt | hge
      · rw [List.getElem?_append_left hlt] at hx
        obtain ⟨ys, y1, y2, y3⟩ := h4 q x hx
        refine ⟨ys, y1, fun j y hj => ?_, ok.keep y3 hSk⟩
        have hyl := (List.getElem?_eq_some_iff.1 (y2 j y hj)).1
        rw [List.getElem?_append_left hyl]
        exact y2 j y hj
      · rw [List.getElem?_append_right hge] at hx
        have hql : q - l.length < n := by have := (List.getElem?_eq_some_iff.1 hx).1; simpa using this
        rw [List.getElem?_replicate, if_pos hql] at hx
        cases hx
        refine ⟨z.cells.toList, by simp [hzs], fun j y hj => ?_, hx0 w'⟩
        have hjl : j < sz := by have := (List.getElem?_eq_some_iff.1 hj).1; simpa [hzs] using this
        have hksz : l.length * sz ≤ q * sz := Nat.mul_le_mul_right _ hge
        rw [List.getElem?_append_right (by omega), hxl]
        have e1 : q * sz + j - l.length * sz = (q - l.length) * sz + j := by rw [Nat.sub_mul]; omega
        rw [e1, zeroCells_get z.cells sz n _ j hzs hql hjl]
        simpa using hj
  rcases h3.2 with ⟨hv, hn0⟩ | ⟨g, cap, cur, hv, hbg, hg, hnc, hcm, hcs, htk⟩
  · -- nil
    subst hv
    have hl0 : l = [] := List.eq_nil_of_length_eq_zero hn0
    subst hl0
    have hx00 : xs = [] := List.eq_nil_of_length_eq_zero (by simpa using hxl)
    subst hx00
    rcases Nat.eq_zero_or_pos n with h0 | h0
    · subst h0
      refine ⟨.slice none 0 0, w, ?_, fin _ _ (by simpa [Builtin.zeroCells] using World.ownsRow_nil w base e sz) (World.grownBy.refl w _) (.inl rfl), World.grownBy.refl w _, .inl rfl⟩
      have hw : IntKind.i64.wrap (0 : Int) = 0 := by rw [IntKind.wrap_i64]; omega
      simp [Builtin.append_, run_underlying ht, run_underlying htn, sizeOf, typeInfo, hi, asInt, asIntOf, hw]
    · have hr := Lib.run_append_nil_zeros (P := P) w t tn ty e i z k kn ht htn hi hz n h0 (by omega) (by omega) h48
      refine ⟨_, _, hr, ?_, ⟨rfl, rfl, rfl, by simp, fun q hq _ => Below.heap_alloc w.drew _ q hq⟩, .inr rfl⟩
      refine fin _ _ ?_ ⟨rfl, rfl, rfl, by simp, fun q hq _ => Below.heap_alloc w.drew _ q hq⟩ (.inr rfl)
      refine ⟨by simp [hzl], .inr ⟨w.heap.size, _, _, by simp, hbase, heap_alloc_new w.drew _, by simpa using grownCap_ge w n 0 e, grownCap_le_maxLen w n 0 e (by simp only [maxLen]; omega), ?_, ?_⟩⟩
      · have := grownCap_ge w n 0 e
        simp only [Array.size_append, size_zeroCells, hzs, ← Nat.add_mul]
        congr 1; omega
      · simp only [Array.toList_append, List.nil_append, List.length_nil, Nat.zero_add]
        rw [← hzl]
        exact List.take_left
  · subst hv
    by_cases hroom : l.length + n ≤ cap
    · have hfit : l.length * i.size + n * i.size ≤ cur.size := by rw [hsize, hcs, ← Nat.add_mul]; exact Nat.mul_le_mul_right _ hroom
      have hr := run_zeros_room (P := P) w t tn ty e i z k kn ht htn hi hz (by rw [hzs, hsize]) hone g l.length cap cur hg n (by omega) h48 hroom hfit
      have hgr : w.grownBy (w.setRow g (cur.toList.take (l.length * i.size) ++ (Builtin.zeroCells z.cells n).toList ++ cur.toList.drop (l.length * i.size + n * i.size)).toArray) (Value.slice (some ⟨g, 0, none⟩) l.length cap).ownBlock :=
        ⟨rfl, rfl, rfl, by simp, fun q _ hq => setRow_other w g q _ (fun e => hq (by simp [Value.ownBlock, e]))⟩
      refine ⟨_, _, hr, fin _ _ ?_ hgr (.inl rfl), hgr, .inl rfl⟩
      refine ⟨by rw [List.length_append, hxl, hzl, Nat.add_mul], .inr ⟨g, cap, _, rfl, hbg, setRow_heap w g cur _ e _ hg, hroom, hcm, ?_, ?_⟩⟩
      · rw [hsize]
        simp only [List.size_toArray, List.length_append, List.length_take, List.length_drop, Array.length_toList, hzl]
        rw [hsize] at hfit
        have h5 := Array.length_toList (xs := Builtin.zeroCells z.cells n)
        rw [hzl] at h5
        omega
      · rw [hsize, htk]
        have h6 : (l.length + n) * sz = (xs ++ (Builtin.zeroCells z.cells n).toList).length := by rw [List.length_append, hxl, hzl, Nat.add_mul]
        rw [h6]
        exact List.take_left
    · have holds : ∀ j u, xs[j]? = some u → w.cell? ((⟨g, 0, none⟩ : Addr).add j) = some u := h3.cells (g := g) rfl
      have hr := run_zeros_grow (P := P) w t tn ty e i z k kn ht htn hi hz (by omega) ⟨g, 0, none⟩ l.length cap xs (by rw [hsize]; exact hxl) holds n (by omega) (by omega) (by omega) h48 (growslice_fits (by omega) (by rw [hby]; exact hbytes))
      have hgr : w.grownBy (w.drew.alloc (.cells (xs.toArray ++ Builtin.zeroCells z.cells n ++ Builtin.zeroCells z.cells (grownCap w (l.length + n) cap e - (l.length + n))) e)) (Value.slice (some ⟨g, 0, none⟩) l.length cap).ownBlock :=
        ⟨rfl, rfl, rfl, by simp, fun q hq _ => Below.heap_alloc w.drew _ q hq⟩
      refine ⟨_, _, hr, fin _ _ ?_ hgr (.inr rfl), hgr, .inr rfl⟩
      have hge := grownCap_ge w (l.length + n) cap e
      refine ⟨by rw [List.length_append, hxl, hzl, Nat.add_mul], .inr ⟨w.heap.size, _, _, rfl, hbase, heap_alloc_new w.drew _, hge, grownCap_le_maxLen w _ cap e (by simp only [maxLen]; omega), ?_, ?_⟩⟩
      · simp only [Array.size_append, List.size_toArray, size_zeroCells, hzs, hxl, ← Nat.add_mul]
        congr 1; omega
      · simp only [Array.toList_append, List.append_assoc]
        rw [← List.append_assoc]
        have h6 : (l.length + n) * sz = (xs ++ (Builtin.zeroCells z.cells n).toList).length := by rw [List.length_append, hxl, hzl, Nat.add_mul]
        rw [h6]
        exact List.take_left
end
end Go.Proofs.YtkapaafbnbnpjaaGreatDoor
