/- Layer tree: slices.Sort of names, by the kit's contract. Condition: the slice is the call's own. -/
import Derived.Shelf.Slices.In.SortAlone
import Derived.Shelf.Slices.In.SortNone
import Derived.Sort.OwnSorted
import Derived.Sort.EveryDepth
import Derived.Test.YthcmlakifdoneaaTrB
namespace Go.Proofs.Ythcmlakifdoneaa
open Go.RowKit Go.Deep Go.Shelf Go.Sort Go.Proofs

def laySort_ren : Go.Shelf.Ren := ⟨fun | 190 => 38 | 125 => 40 | 258 => 39 | 128 => 50 | 129 => 51 | 302 => 41 | 303 => 42 | 304 => 43 | 305 => 44 | 306 => 45 | 307 => 46 | 308 => 47 | 309 => 48 | 310 => 49 | 333 => 52 | 329 => 53 | 330 => 54 | 334 => 55 | 335 => 56 | 336 => 57 | 344 => 58 | n => n, fun | 31 => 31 | 9 => 9 | 3 => 3 | 46 => 60 | 0 => 0 | 51 => 71 | 53 => 73 | 4 => 4 | 183 => 63 | 182 => 62 | 131 => 68 | 5 => 5 | 218 => 74 | 222 => 78 | 228 => 80 | 229 => 81 | n => n, fun | n => n⟩
theorem laySort : Go.Proofs.Lays.n190 Try.prog laySort_ren := {
  mixed := by kernel_rfl,
  f125 := Try.func40.trans (congrArg some (by kernel_rfl)),
  f128 := Try.func50.trans (congrArg some (by kernel_rfl)),
  f129 := Try.func51.trans (congrArg some (by kernel_rfl)),
  f190 := Try.func38.trans (congrArg some (by kernel_rfl)),
  f258 := Try.func39.trans (congrArg some (by kernel_rfl)),
  f302 := Try.func41.trans (congrArg some (by kernel_rfl)),
  f303 := Try.func42.trans (congrArg some (by kernel_rfl)),
  f304 := Try.func43.trans (congrArg some (by kernel_rfl)),
  f305 := Try.func44.trans (congrArg some (by kernel_rfl)),
  f306 := Try.func45.trans (congrArg some (by kernel_rfl)),
  f307 := Try.func46.trans (congrArg some (by kernel_rfl)),
  f308 := Try.func47.trans (congrArg some (by kernel_rfl)),
  f309 := Try.func48.trans (congrArg some (by kernel_rfl)),
  f310 := Try.func49.trans (congrArg some (by kernel_rfl)),
  f329 := Try.func53.trans (congrArg some (by kernel_rfl)),
  f330 := Try.func54.trans (congrArg some (by kernel_rfl)),
  f333 := Try.func52.trans (congrArg some (by kernel_rfl)),
  f334 := Try.func55.trans (congrArg some (by kernel_rfl)),
  f335 := Try.func56.trans (congrArg some (by kernel_rfl)),
  f336 := Try.func57.trans (congrArg some (by kernel_rfl)),
  f344 := Try.func58.trans (congrArg some (by kernel_rfl)),
  t0 := Try.underlying0,
  a0 := Try.isAgg0,
  z0 := Try.sizeOf0,
  v0 := Try.zeroValue0,
  t3 := Try.underlying3,
  a3 := Try.isAgg3,
  z3 := Try.sizeOf3,
  v3 := Try.zeroValue3,
  t4 := Try.underlying4,
  a4 := Try.isAgg4,
  z4 := Try.sizeOf4,
  v4 := Try.zeroValue4,
  t5 := Try.underlying5,
  a5 := Try.isAgg5,
  z5 := Try.sizeOf5,
  v5 := Try.zeroValue5,
  t9 := Try.underlying9,
  a9 := Try.isAgg9,
  z9 := Try.sizeOf9,
  v9 := Try.zeroValue9,
  t31 := Try.underlying31,
  a31 := Try.isAgg31,
  z31 := Try.sizeOf31,
  v31 := Try.zeroValue31,
  t46 := Try.underlying60,
  a46 := Try.isAgg60,
  z46 := Try.sizeOf60,
  v46 := Try.zeroValue60,
  t51 := Try.underlying71,
  a51 := Try.isAgg71,
  z51 := Try.sizeOf71,
  v51 := Try.zeroValue71,
  t53 := Try.underlying73,
  a53 := Try.isAgg73,
  z53 := Try.sizeOf73,
  v53 := Try.zeroValue73,
  t131 := Try.underlying68,
  a131 := Try.isAgg68,
  z131 := Try.sizeOf68,
  v131 := Try.zeroValue68,
  t182 := Try.underlying62,
  a182 := Try.isAgg62,
  z182 := Try.sizeOf62,
  v182 := Try.zeroValue62,
  t183 := Try.underlying63,
  a183 := Try.isAgg63,
  z183 := Try.sizeOf63,
  v183 := Try.zeroValue63,
  t218 := Try.underlying74,
  a218 := Try.isAgg74,
  z218 := Try.sizeOf74,
  v218 := Try.zeroValue74,
  t222 := Try.underlying78,
  a222 := Try.isAgg78,
  z222 := Try.sizeOf78,
  v222 := Try.zeroValue78,
  t228 := Try.underlying80,
  a228 := Try.isAgg80,
  z228 := Try.sizeOf80,
  v228 := Try.zeroValue80,
  t229 := Try.underlying81,
  a229 := Try.isAgg81,
  z229 := Try.sizeOf81,
  v229 := Try.zeroValue81 }

theorem less_lt : ∀ x y : List UInt8, Op.bytesLess x y = true ↔ x < y
  | [], [] => by simp [Op.bytesLess]
  | [], _ :: _ => by simp [Op.bytesLess]
  | _ :: _, [] => by simp [Op.bytesLess]
  | a :: x, b :: y => by
    rw [List.cons_lt_cons_iff, ← less_lt x y]
    simp [Op.bytesLess]
theorem le_ltS {a b : Nm} (h : a.data.toList ≤ b.data.toList) (hne : a ≠ b) : ltS a b = true := by
  rcases ltS_total a b with h1 | h1 | h1
  · exact h1
  · exact absurd h1 hne
  · unfold ltS at h1
    rw [less_lt, Lib.toList_data, Lib.toList_data] at h1
    exact absurd h1 (List.not_lt.2 h)
theorem strs_eq {S : Nat → Prop} {w : World} {xs : List Value} {l : List Nm} (hl : xs.length = l.length) (h : Elems 1 rStr S w xs l) : xs = (l.map fun s => s.data.toList).map encStr := by
  apply List.ext_getElem?
  intro i
  rw [List.getElem?_map, List.getElem?_map]
  cases hx : l[i]? with
  | none =>
    rw [List.getElem?_eq_none_iff] at hx
    rw [List.getElem?_eq_none (by omega)]
    rfl
  | some x =>
    obtain ⟨ys, _, h2, rfl, _⟩ := h i x hx
    have := h2 0 _ rfl
    rw [Nat.mul_one, Nat.add_zero] at this
    rw [this]
    rfl
theorem map_back (l : List (List UInt8)) : (l.map fun x => (⟨x.toArray⟩ : Nm)).map (fun s => s.data.toList) = l := by
  rw [List.map_map]
  conv => rhs; rw [← List.map_id l]
  exact List.map_congr_left fun x _ => by simp

/-- Sort of a slice of names of the call's own, none twice. -/
theorem sort_any {w : World} {base : Nat} {v : Value} {l : List Nm} (hG : Grow 9 1 rStr (fun _ => False) w base v l) (hl : l.length ≤ 1000) (hnd : l.Nodup) (hsz : ∀ s ∈ l, s.size ≤ 1000) :
    Calls Try.prog 38 #[v] w fun e w' => e = .returned (.tuple #[]) ∧ (∃ l', Sl 1 rStr (fun _ => True) w' v l' ∧ l'.Pairwise (fun a b => ltS a b = true) ∧ ∀ x, x ∈ l' ↔ x ∈ l) ∧ w.grownBy w' v.ownBlock := by
  obtain ⟨h1, h2, xs, hrow, hel⟩ := id hG
  have hxl : xs.length = l.length := by rw [hrow.1, Nat.mul_one]
  have hxs := strs_eq hxl hel
  subst hxs
  rcases hrow.2 with ⟨rfl, h0⟩ | ⟨g, cap, cur, rfl, hb, hg, hnc, hcm, hcs, htk⟩
  · obtain rfl : l = [] := List.eq_nil_of_length_eq_zero h0
    refine Calls.mono (calls_of_every_depth fun D => AnyS.slices_Sort_string_none_alone laySort D none 0 w) ?_
    rintro e w' ⟨rfl, rfl⟩
    exact ⟨rfl, ⟨[], Sl_nil _ _ _ _, List.Pairwise.nil, fun x => by simp⟩, World.grownBy.refl _ _⟩
  · have hH := holds_of_block hg (ss := l.map fun s => s.data.toList) (by rw [List.length_map, ← htk, Nat.mul_one])
    have hc := calls_of_every_depth fun D => AnyS.slices_Sort_string_alone laySort D g 0 cap (l.map fun s => s.data.toList) w hH (blk_lt hg) (by rw [List.length_map]; omega)
    rw [List.length_map] at hc
    refine Calls.mono hc ?_
    rintro e w' ⟨rfl, n, os, rfl⟩
    have hperm := List.mergeSort_perm (l.map fun s => s.data.toList) fun x y => decide (x ≤ y)
    have hsorted := List.pairwise_mergeSort (le := fun x y : List UInt8 => decide (x ≤ y)) (fun a b c h k => by simp at *; exact List.le_trans h k) (fun a b => by simp; exact List.le_total a b) (l.map fun s => s.data.toList)
    generalize (l.map fun s => s.data.toList).mergeSort (fun x y => decide (x ≤ y)) = ts at hperm hsorted ⊢
    have htl : ts.length = l.length := by rw [hperm.length_eq, List.length_map]
    have hown := ownsRow_sorted (w := w) (base := base) (n := n) (os := os) (ss := l.map fun s => s.data.toList) (ts := ts) (by rw [htl, List.length_map]) hb hg (by rw [List.length_map]; exact hnc) hcm hcs
    have hmem : ∀ x : Nm, x ∈ ts.map (fun x => (⟨x.toArray⟩ : Nm)) ↔ x ∈ l := fun x => by
      rw [List.mem_map]
      constructor
      · rintro ⟨y, hy, rfl⟩
        obtain ⟨z, hz, rfl⟩ := List.mem_map.1 (hperm.mem_iff.1 hy)
        simpa using hz
      · intro hx
        exact ⟨x.data.toList, hperm.mem_iff.2 (List.mem_map.2 ⟨x, hx, rfl⟩), by simp⟩
    refine ⟨rfl, ⟨ts.map fun x => (⟨x.toArray⟩ : Nm), ?_, ?_, hmem⟩, grownBy_sorted _⟩
    · rcases hown.2 with ⟨hv, _⟩ | ⟨g', cap', cur', hv, hb', hg', hnc', hcm', hcs', htk'⟩
      · cases hv
      · simp only [Value.slice.injEq, Option.some.injEq, Addr.mk.injEq, and_true] at hv
        obtain ⟨rfl, _, rfl⟩ := hv
        refine Sl_of (by rw [List.length_map, htl]) hnc hcm (by omega) trivial fun i x hx => ?_
        have hxl' := (hmem x).1 (List.mem_of_getElem? hx)
        refine ⟨[.string x], rfl, fun j y hj => ?_, rfl, by have := hsz x hxl'; omega⟩
        have hj0 : j = 0 := by have := (List.getElem?_eq_some_iff.1 hj).1; simpa using this
        subst hj0
        obtain rfl : Value.string x = y := by simpa using hj
        rw [cell_of_row _ g _ cur' _ (0, 0) hg', Nat.zero_add, Nat.mul_one, Nat.add_zero]
        rw [List.getElem?_map] at hx
        cases hy : ts[i]? with
        | none => rw [hy] at hx; cases hx
        | some z =>
          rw [hy] at hx
          obtain rfl : (⟨z.toArray⟩ : Nm) = x := by simpa using hx
          have hil := (List.getElem?_eq_some_iff.1 hy).1
          have h9 : (cur'.toList.take ((l.map fun s => s.data.toList).length * 1))[i]? = some (.string ⟨z.toArray⟩) := by rw [htk', List.getElem?_map, hy]; rfl
          rw [List.getElem?_take, if_pos (by rw [List.length_map]; omega)] at h9
          simpa using h9
    · have hnd' : (ts.map fun x => (⟨x.toArray⟩ : Nm)).Nodup := by
        have : (l.map fun s => s.data.toList).Nodup := by
          refine List.pairwise_map.2 (hnd.imp fun hne e => hne (ByteArray.ext (Array.toList_inj.1 e)))
        exact List.pairwise_map.2 ((hperm.nodup_iff.2 this).imp fun hne e => hne (by have := congrArg (fun s : Nm => s.data.toList) e; simpa using this))
      have hle : (ts.map fun x => (⟨x.toArray⟩ : Nm)).Pairwise (fun a b : Nm => a.data.toList ≤ b.data.toList) := List.pairwise_map.2 (hsorted.imp fun {a b} h => by simpa using h)
      exact (hle.and hnd').imp fun h => le_ltS h.1 h.2
end Go.Proofs.Ythcmlakifdoneaa
