/- Layer granted: slices.Sort and slices.Compact of names, by the kit's contracts. Condition: the slice is the call's own. -/
import Derived.Shelf.Slices.In.SortAlone
import Derived.Shelf.Slices.In.SortNone
import Derived.Shelf.Slices.CompactS
import Derived.Sort.OwnSorted
import Derived.Sort.EveryDepth
import Derived.Test.YtkapaafbnbnpjaaGreatDoorGrPlain
import Derived.Test.YtkapaafbnbnpjaaGreatDoorBlk
namespace Go.Proofs.YtkapaafbnbnpjaaGreatDoor
open Go.RowKit Go.Deep Go.Shelf Go.Sort Go.Proofs

def laySort_ren : Go.Shelf.Ren := ⟨fun | 190 => 29 | 125 => 49 | 258 => 48 | 128 => 71 | 129 => 72 | 302 => 62 | 303 => 63 | 304 => 64 | 305 => 65 | 306 => 66 | 307 => 67 | 308 => 68 | 309 => 69 | 310 => 70 | 333 => 81 | 329 => 82 | 330 => 83 | 334 => 84 | 335 => 85 | 336 => 86 | 344 => 94 | n => n, fun | 31 => 37 | 9 => 9 | 3 => 3 | 46 => 99 | 0 => 0 | 51 => 117 | 53 => 120 | 4 => 4 | 183 => 129 | 182 => 128 | 131 => 133 | 5 => 5 | 218 => 141 | 222 => 145 | 228 => 151 | 229 => 152 | n => n, fun | n => n⟩
theorem laySort : Go.Proofs.Lays.n190 Tryz.prog laySort_ren := {
  mixed := by kernel_rfl,
  f125 := Tryz.func49.trans (congrArg some (by kernel_rfl)),
  f128 := Tryz.func71.trans (congrArg some (by kernel_rfl)),
  f129 := Tryz.func72.trans (congrArg some (by kernel_rfl)),
  f190 := Tryz.func29.trans (congrArg some (by kernel_rfl)),
  f258 := Tryz.func48.trans (congrArg some (by kernel_rfl)),
  f302 := Tryz.func62.trans (congrArg some (by kernel_rfl)),
  f303 := Tryz.func63.trans (congrArg some (by kernel_rfl)),
  f304 := Tryz.func64.trans (congrArg some (by kernel_rfl)),
  f305 := Tryz.func65.trans (congrArg some (by kernel_rfl)),
  f306 := Tryz.func66.trans (congrArg some (by kernel_rfl)),
  f307 := Tryz.func67.trans (congrArg some (by kernel_rfl)),
  f308 := Tryz.func68.trans (congrArg some (by kernel_rfl)),
  f309 := Tryz.func69.trans (congrArg some (by kernel_rfl)),
  f310 := Tryz.func70.trans (congrArg some (by kernel_rfl)),
  f329 := Tryz.func82.trans (congrArg some (by kernel_rfl)),
  f330 := Tryz.func83.trans (congrArg some (by kernel_rfl)),
  f333 := Tryz.func81.trans (congrArg some (by kernel_rfl)),
  f334 := Tryz.func84.trans (congrArg some (by kernel_rfl)),
  f335 := Tryz.func85.trans (congrArg some (by kernel_rfl)),
  f336 := Tryz.func86.trans (congrArg some (by kernel_rfl)),
  f344 := Tryz.func94.trans (congrArg some (by kernel_rfl)),
  t0 := Tryz.underlying0,
  a0 := Tryz.isAgg0,
  z0 := Tryz.sizeOf0,
  v0 := Tryz.zeroValue0,
  t3 := Tryz.underlying3,
  a3 := Tryz.isAgg3,
  z3 := Tryz.sizeOf3,
  v3 := Tryz.zeroValue3,
  t4 := Tryz.underlying4,
  a4 := Tryz.isAgg4,
  z4 := Tryz.sizeOf4,
  v4 := Tryz.zeroValue4,
  t5 := Tryz.underlying5,
  a5 := Tryz.isAgg5,
  z5 := Tryz.sizeOf5,
  v5 := Tryz.zeroValue5,
  t9 := Tryz.underlying9,
  a9 := Tryz.isAgg9,
  z9 := Tryz.sizeOf9,
  v9 := Tryz.zeroValue9,
  t31 := Tryz.underlying37,
  a31 := Tryz.isAgg37,
  z31 := Tryz.sizeOf37,
  v31 := Tryz.zeroValue37,
  t46 := Tryz.underlying99,
  a46 := Tryz.isAgg99,
  z46 := Tryz.sizeOf99,
  v46 := Tryz.zeroValue99,
  t51 := Tryz.underlying117,
  a51 := Tryz.isAgg117,
  z51 := Tryz.sizeOf117,
  v51 := Tryz.zeroValue117,
  t53 := Tryz.underlying120,
  a53 := Tryz.isAgg120,
  z53 := Tryz.sizeOf120,
  v53 := Tryz.zeroValue120,
  t131 := Tryz.underlying133,
  a131 := Tryz.isAgg133,
  z131 := Tryz.sizeOf133,
  v131 := Tryz.zeroValue133,
  t182 := Tryz.underlying128,
  a182 := Tryz.isAgg128,
  z182 := Tryz.sizeOf128,
  v182 := Tryz.zeroValue128,
  t183 := Tryz.underlying129,
  a183 := Tryz.isAgg129,
  z183 := Tryz.sizeOf129,
  v183 := Tryz.zeroValue129,
  t218 := Tryz.underlying141,
  a218 := Tryz.isAgg141,
  z218 := Tryz.sizeOf141,
  v218 := Tryz.zeroValue141,
  t222 := Tryz.underlying145,
  a222 := Tryz.isAgg145,
  z222 := Tryz.sizeOf145,
  v222 := Tryz.zeroValue145,
  t228 := Tryz.underlying151,
  a228 := Tryz.isAgg151,
  z228 := Tryz.sizeOf151,
  v228 := Tryz.zeroValue151,
  t229 := Tryz.underlying152,
  a229 := Tryz.isAgg152,
  z229 := Tryz.sizeOf152,
  v229 := Tryz.zeroValue152 }
def layComp_ren : Go.Shelf.Ren := ⟨fun | 194 => 30 | n => n, fun | 31 => 37 | 9 => 9 | 3 => 3 | 4 => 4 | 0 => 0 | n => n, fun | n => n⟩
theorem layComp : Go.Proofs.Lays.n194 Tryz.prog layComp_ren := {
  mixed := by kernel_rfl,
  f194 := Tryz.func30.trans (congrArg some (by kernel_rfl)),
  t0 := Tryz.underlying0,
  a0 := Tryz.isAgg0,
  z0 := Tryz.sizeOf0,
  v0 := Tryz.zeroValue0,
  t3 := Tryz.underlying3,
  a3 := Tryz.isAgg3,
  z3 := Tryz.sizeOf3,
  v3 := Tryz.zeroValue3,
  t4 := Tryz.underlying4,
  a4 := Tryz.isAgg4,
  z4 := Tryz.sizeOf4,
  v4 := Tryz.zeroValue4,
  t9 := Tryz.underlying9,
  a9 := Tryz.isAgg9,
  z9 := Tryz.sizeOf9,
  v9 := Tryz.zeroValue9,
  t31 := Tryz.underlying37,
  a31 := Tryz.isAgg37,
  z31 := Tryz.sizeOf37,
  v31 := Tryz.zeroValue37 }

theorem less_lt : ∀ x y : List UInt8, Op.bytesLess x y = true ↔ x < y
  | [], [] => by simp [Op.bytesLess]
  | [], _ :: _ => by simp [Op.bytesLess]
  | _ :: _, [] => by simp [Op.bytesLess]
  | a :: x, b :: y => by
    rw [List.cons_lt_cons_iff, ← less_lt x y]
    simp [Op.bytesLess]
theorem le_ltS {a b : Nm} (h : a.data.toList ≤ b.data.toList) (hne : a ≠ b) : ltS a b = true := by
  rcases ltS_total a b with h1 | h1 | h1
  · exact h1
  · exact absurd h1 hne
  · unfold ltS at h1
    rw [less_lt, Lib.toList_data, Lib.toList_data] at h1
    exact absurd h1 (List.not_lt.2 h)
theorem strs_eq {S : Nat → Prop} {w : World} {xs : List Value} {l : List Nm} (hl : xs.length = l.length) (h : Elems 1 rStr S w xs l) : xs = (l.map fun s => s.data.toList).map encStr := by
  apply List.ext_getElem?
  intro i
  rw [List.getElem?_map, List.getElem?_map]
  cases hx : l[i]? with
  | none =>
    rw [List.getElem?_eq_none_iff] at hx
    rw [List.getElem?_eq_none (by omega)]
    rfl
  | some x =>
    obtain ⟨ys, _, h2, rfl, _⟩ := h i x hx
    have := h2 0 _ rfl
    rw [Nat.mul_one, Nat.add_zero] at this
    rw [this]
    rfl
theorem map_back (l : List (List UInt8)) : (l.map fun x => (⟨x.toArray⟩ : Nm)).map (fun s => s.data.toList) = l := by
  rw [List.map_map]
  conv => rhs; rw [← List.map_id l]
  exact List.map_congr_left fun x _ => by simp


/-! Plain: a rising list without its repeats. -/
abbrev Bs := List UInt8
theorem compact_up (d : Array Bs) (hd : d.toList.Pairwise (fun a b => a ≤ b)) : ∀ m, m ≤ d.size → (Lib.compactUpTo d m).Pairwise (fun a b => a < b) ∧ (∀ x, x ∈ Lib.compactUpTo d m ↔ x ∈ d.toList.take m) ∧ (Lib.compactUpTo d m).length ≤ m
  | 0, _ => by simp [Lib.compactUpTo]
  | m + 1, hm => by
    obtain ⟨h1, h2, h3⟩ := compact_up d hd m (by omega)
    have hg : d.toList[m]? = some d[m]! := by
      rw [Array.getElem?_toList, Array.getElem?_eq_getElem (by omega), getElem!_pos d m (by omega)]
    have htk : d.toList.take (m + 1) = d.toList.take m ++ [d[m]!] := by rw [List.take_add_one, hg]; rfl
    have hle : ∀ x ∈ d.toList.take m, x ≤ d[m]! := fun x hx => by
      have hp : (d.toList.take (m + 1)).Pairwise (fun a b => a ≤ b) := hd.sublist (List.take_sublist _ _)
      rw [htk, List.pairwise_append] at hp
      exact hp.2.2 x hx _ (by simp)
    rw [Lib.compactUpTo_succ, htk]
    by_cases hk : Lib.keeps d m = true
    · rw [if_pos hk]
      refine ⟨List.pairwise_append.2 ⟨h1, by simp, fun x hx y hy => ?_⟩, fun x => ?_, by simp; omega⟩
      · obtain rfl := List.mem_singleton.1 hy
        have hx2 := (h2 x).1 hx
        unfold Lib.keeps at hk
        rcases of_decide_eq_true hk with rfl | hne
        · simp at hx2
        · have hm0 : 0 < m := by
            rcases Nat.eq_zero_or_pos m with rfl | h
            · simp at hx2
            · exact h
          have hg' : d.toList[m - 1]? = some d[m - 1]! := by
            rw [Array.getElem?_toList, Array.getElem?_eq_getElem (by omega), getElem!_pos d (m - 1) (by omega)]
          have htk' : d.toList.take m = d.toList.take (m - 1) ++ [d[m - 1]!] := by
            have := List.take_add_one (l := d.toList) (i := m - 1)
            rw [hg'] at this
            rw [show m - 1 + 1 = m by omega] at this
            exact this
          have hl1 : x ≤ d[m - 1]! := by
            rw [htk'] at hx2
            rcases List.mem_append.1 hx2 with hx3 | hx3
            · have hp : (d.toList.take m).Pairwise (fun a b => a ≤ b) := hd.sublist (List.take_sublist _ _)
              rw [htk', List.pairwise_append] at hp
              exact hp.2.2 x hx3 _ (by simp)
            · rw [List.mem_singleton.1 hx3]; exact List.le_refl _
          have hl2 : d[m - 1]! ≤ d[m]! := hle _ (by rw [htk']; simp)
          by_cases h : x < d[m]!
          · exact h
          · have h4 := List.le_trans (List.not_lt.1 h) hl1
            exact absurd (List.le_antisymm h4 hl2) hne
      · rw [List.mem_append, List.mem_append, h2]
    · rw [if_neg hk, List.append_nil]
      refine ⟨h1, fun x => ?_, by omega⟩
      rw [h2, List.mem_append, List.mem_singleton]
      constructor
      · exact .inl
      · rintro (h | rfl)
        · exact h
        · unfold Lib.keeps at hk
          have hk2 : ¬ (m = 0 ∨ d[m]! ≠ d[m - 1]!) := fun h => hk (decide_eq_true h)
          have hm0 : m ≠ 0 := fun e => hk2 (.inl e)
          have he : d[m]! = d[m - 1]! := Classical.not_not.1 fun e => hk2 (.inr e)
          rw [he]
          refine List.mem_of_getElem? (i := m - 1) ?_
          rw [List.getElem?_take, if_pos (by omega), Array.getElem?_toList, Array.getElem?_eq_getElem (by omega), getElem!_pos d (m - 1) (by omega)]
theorem compact_is {zs : List Bs} (h : zs.Pairwise (fun a b => a ≤ b)) : (Lib.compact zs).Pairwise (fun a b => a < b) ∧ (∀ x, x ∈ Lib.compact zs ↔ x ∈ zs) ∧ (Lib.compact zs).length ≤ zs.length := by
  have := compact_up zs.toArray (by simpa using h) zs.length (by simp)
  simpa [Lib.compact] using this
theorem nm_lt {a b : Bs} (h : a < b) : ltS (⟨a.toArray⟩ : Nm) ⟨b.toArray⟩ = true := by
  unfold ltS
  rw [less_lt, Lib.toList_data, Lib.toList_data]
  simpa using h
/-- Sort, then Compact: of a slice of the call's own. -/
theorem sortRow {w : World} {base : Nat} {e : TypeId} {v : Value} {ss : List Bs} (h : w.ownsRow base e 1 v ss.length (ss.map encStr)) (hl : ss.length ≤ 2000) :
    Calls Tryz.prog 29 #[v] w fun e' w' => e' = .returned (.tuple #[]) ∧ (∃ ts : List Bs, w'.ownsRow base e 1 v ts.length (ts.map encStr) ∧ ts.Pairwise (fun a b => a ≤ b) ∧ (∀ x, x ∈ ts ↔ x ∈ ss) ∧ ts.length = ss.length) ∧ w.grownBy w' v.ownBlock := by
  rcases h.2 with ⟨rfl, h0⟩ | ⟨g, cap, cur, rfl, hb, hg, hnc, hcm, hcs, htk⟩
  · obtain rfl : ss = [] := List.eq_nil_of_length_eq_zero h0
    refine Calls.mono (calls_of_every_depth fun D => AnyS.slices_Sort_string_none_alone laySort D none 0 w) ?_
    rintro e' w' ⟨rfl, rfl⟩
    exact ⟨rfl, ⟨[], h, List.Pairwise.nil, fun x => by simp, rfl⟩, World.grownBy.refl _ _⟩
  · have hH := holds_of_block hg (ss := ss) (by rw [← htk, Nat.mul_one])
    refine Calls.mono (calls_of_every_depth fun D => AnyS.slices_Sort_string_alone laySort D g 0 cap ss w hH (blk_lt hg) (by omega)) ?_
    rintro e' w' ⟨rfl, n, os, rfl⟩
    have hperm := List.mergeSort_perm ss fun x y => decide (x ≤ y)
    have hsorted := List.pairwise_mergeSort (le := fun x y : Bs => decide (x ≤ y)) (fun a b c h k => by simp at *; exact List.le_trans h k) (fun a b => by simp; exact List.le_total a b) ss
    generalize ss.mergeSort (fun x y => decide (x ≤ y)) = ts at hperm hsorted ⊢
    have htl : ts.length = ss.length := hperm.length_eq
    have hown := ownsRow_sorted (w := w) (base := base) (n := n) (os := os) (ss := ss) (ts := ts) htl hb hg hnc hcm hcs
    exact ⟨rfl, ⟨ts, by rw [htl]; exact hown, hsorted.imp fun h => by simpa using h, fun x => hperm.mem_iff, htl⟩, grownBy_sorted _⟩
theorem compactRow {w : World} {base : Nat} {e : TypeId} {v : Value} {ss : List Bs} (h : w.ownsRow base e 1 v ss.length (ss.map encStr)) (hl : ss.length ≤ 2000) (hs : ss.Pairwise fun a b => a ≤ b) (hz : ∀ s ∈ ss, s.length ≤ 1000) :
    Calls Tryz.prog 30 #[v] w fun e' w' => (∃ v' : Value, e' = .returned v' ∧ ∃ R : List Nm, Sl 1 rStr (fun z => v.ownBlock = some z) w' v' R ∧ R.Pairwise (fun a b => ltS a b = true) ∧ (∀ x : Nm, x ∈ R ↔ x.data.toList ∈ ss) ∧ R.length ≤ ss.length) ∧ w.grownBy w' v.ownBlock := by
  rcases h.2 with ⟨rfl, h0⟩ | ⟨g, cap, cur, rfl, hb, hg, hnc, hcm, hcs, htk⟩
  · obtain rfl : ss = [] := List.eq_nil_of_length_eq_zero h0
    refine Calls.mono (Any.slices_Compact_string_empty layComp none 0 w) ?_
    rintro e' w' ⟨rfl, rfl⟩
    exact ⟨⟨_, rfl, [], Sl_nil _ _ _ _, List.Pairwise.nil, fun x => by simp, Nat.le_refl _⟩, World.grownBy.refl _ _⟩
  · have hH := holds_of_block hg (ss := ss) (by rw [← htk, Nat.mul_one])
    refine Calls.mono (Any.slices_Compact_string layComp g 0 cap ss w hH (by omega) hnc) ?_
    rintro e' w' ⟨rfl, q, rfl⟩
    obtain ⟨c1, c2, c3⟩ := compact_is hs
    generalize hcp : Lib.compact ss = cs at c1 c2 c3 ⊢
    have hg2 := heap_sorted (n := q) (os := #[]) (cs ++ List.replicate (ss.length - cs.length) []).toArray hg
    have hgb := grownBy_sorted (w := w) (g := g) (n := q) (os := #[]) (cs ++ List.replicate (ss.length - cs.length) []).toArray
    rw [grow_empty] at hg2 hgb
    refine ⟨⟨_, rfl, cs.map (fun x => (⟨x.toArray⟩ : Nm)), ?_, List.pairwise_map.2 (c1.imp fun h => nm_lt h), fun x => ?_, by rw [List.length_map]; exact c3⟩, hgb⟩
    · refine Sl_of (by rw [List.length_map]) (by omega) hcm (by omega) rfl fun i x hx => ?_
      rw [List.getElem?_map] at hx
      cases hy : cs[i]? with
      | none => rw [hy] at hx; cases hx
      | some z =>
        rw [hy] at hx
        obtain rfl : (⟨z.toArray⟩ : Nm) = x := by simpa using hx
        have hil := (List.getElem?_eq_some_iff.1 hy).1
        have hzl := hz z ((c2 z).1 (List.mem_of_getElem? hy))
        refine ⟨[.string ⟨z.toArray⟩], rfl, fun j y hj => ?_, rfl, by simp [ByteArray.size]; omega⟩
        have hj0 : j = 0 := by have := (List.getElem?_eq_some_iff.1 hj).1; simpa using this
        subst hj0
        obtain rfl : Value.string ⟨z.toArray⟩ = y := by simpa using hj
        rw [cell_of_row _ g _ _ _ (0, 0) hg2, Nat.zero_add, Nat.mul_one, Nat.add_zero]
        have htc := take_putCells cur (cs ++ List.replicate (ss.length - cs.length) []) (by rw [List.length_append, List.length_replicate]; omega)
        have h9 := congrArg (fun l => l[i]?) htc
        rw [List.getElem?_take, if_pos (by rw [List.length_append]; omega), List.getElem?_map, List.getElem?_append_left hil, hy] at h9
        rw [← Array.getElem?_toList, h9]
        rfl
    · rw [List.mem_map, ← c2]
      constructor
      · rintro ⟨y, hy, rfl⟩
        simpa using hy
      · intro h
        exact ⟨_, h, by simp⟩
end Go.Proofs.YtkapaafbnbnpjaaGreatDoor
