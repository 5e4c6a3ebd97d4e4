/- Layer granted: slices.Sort and slices.Compact of names, by the kit's contracts. Condition: the slice is the call's own. -/
import Derived.Shelf.Slices.In.SortAlone
import Derived.Shelf.Slices.In.SortNone
import Derived.Shelf.Slices.CompactS
import Derived.Sort.OwnSorted
import Derived.Sort.EveryDepth
import Derived.Test.YtocofkccdfaaaaaGrReach
namespace Go.Proofs.Ytocofkccdfaaaaa
open Go.RowKit Go.Deep Go.Shelf Go.Sort Go.Proofs

def laySort_ren : Go.Shelf.Ren := ⟨fun | 190 => 54 | 125 => 65 | 258 => 64 | 128 => 76 | 129 => 77 | 302 => 67 | 303 => 68 | 304 => 69 | 305 => 70 | 306 => 71 | 307 => 72 | 308 => 73 | 309 => 74 | 310 => 75 | 333 => 79 | 329 => 80 | 330 => 81 | 334 => 82 | 335 => 83 | 336 => 84 | 344 => 85 | n => n, fun | 31 => 47 | 9 => 9 | 3 => 3 | 46 => 122 | 0 => 0 | 51 => 133 | 53 => 135 | 4 => 4 | 183 => 126 | 182 => 125 | 131 => 119 | 5 => 5 | 218 => 137 | 222 => 141 | 228 => 144 | 229 => 145 | n => n, fun | n => n⟩
theorem laySort : Go.Proofs.Lays.n190 Try.prog laySort_ren := {
  mixed := by kernel_rfl,
  f125 := Try.func65.trans (congrArg some (by kernel_rfl)),
  f128 := Try.func76.trans (congrArg some (by kernel_rfl)),
  f129 := Try.func77.trans (congrArg some (by kernel_rfl)),
  f190 := Try.func54.trans (congrArg some (by kernel_rfl)),
  f258 := Try.func64.trans (congrArg some (by kernel_rfl)),
  f302 := Try.func67.trans (congrArg some (by kernel_rfl)),
  f303 := Try.func68.trans (congrArg some (by kernel_rfl)),
  f304 := Try.func69.trans (congrArg some (by kernel_rfl)),
  f305 := Try.func70.trans (congrArg some (by kernel_rfl)),
  f306 := Try.func71.trans (congrArg some (by kernel_rfl)),
  f307 := Try.func72.trans (congrArg some (by kernel_rfl)),
  f308 := Try.func73.trans (congrArg some (by kernel_rfl)),
  f309 := Try.func74.trans (congrArg some (by kernel_rfl)),
  f310 := Try.func75.trans (congrArg some (by kernel_rfl)),
  f329 := Try.func80.trans (congrArg some (by kernel_rfl)),
  f330 := Try.func81.trans (congrArg some (by kernel_rfl)),
  f333 := Try.func79.trans (congrArg some (by kernel_rfl)),
  f334 := Try.func82.trans (congrArg some (by kernel_rfl)),
  f335 := Try.func83.trans (congrArg some (by kernel_rfl)),
  f336 := Try.func84.trans (congrArg some (by kernel_rfl)),
  f344 := Try.func85.trans (congrArg some (by kernel_rfl)),
  t0 := Try.underlying0,
  a0 := Try.isAgg0,
  z0 := Try.sizeOf0,
  v0 := Try.zeroValue0,
  t3 := Try.underlying3,
  a3 := Try.isAgg3,
  z3 := Try.sizeOf3,
  v3 := Try.zeroValue3,
  t4 := Try.underlying4,
  a4 := Try.isAgg4,
  z4 := Try.sizeOf4,
  v4 := Try.zeroValue4,
  t5 := Try.underlying5,
  a5 := Try.isAgg5,
  z5 := Try.sizeOf5,
  v5 := Try.zeroValue5,
  t9 := Try.underlying9,
  a9 := Try.isAgg9,
  z9 := Try.sizeOf9,
  v9 := Try.zeroValue9,
  t31 := Try.underlying47,
  a31 := Try.isAgg47,
  z31 := Try.sizeOf47,
  v31 := Try.zeroValue47,
  t46 := Try.underlying122,
  a46 := Try.isAgg122,
  z46 := Try.sizeOf122,
  v46 := Try.zeroValue122,
  t51 := Try.underlying133,
  a51 := Try.isAgg133,
  z51 := Try.sizeOf133,
  v51 := Try.zeroValue133,
  t53 := Try.underlying135,
  a53 := Try.isAgg135,
  z53 := Try.sizeOf135,
  v53 := Try.zeroValue135,
  t131 := Try.underlying119,
  a131 := Try.isAgg119,
  z131 := Try.sizeOf119,
  v131 := Try.zeroValue119,
  t182 := Try.underlying125,
  a182 := Try.isAgg125,
  z182 := Try.sizeOf125,
  v182 := Try.zeroValue125,
  t183 := Try.underlying126,
  a183 := Try.isAgg126,
  z183 := Try.sizeOf126,
  v183 := Try.zeroValue126,
  t218 := Try.underlying137,
  a218 := Try.isAgg137,
  z218 := Try.sizeOf137,
  v218 := Try.zeroValue137,
  t222 := Try.underlying141,
  a222 := Try.isAgg141,
  z222 := Try.sizeOf141,
  v222 := Try.zeroValue141,
  t228 := Try.underlying144,
  a228 := Try.isAgg144,
  z228 := Try.sizeOf144,
  v228 := Try.zeroValue144,
  t229 := Try.underlying145,
  a229 := Try.isAgg145,
  z229 := Try.sizeOf145,
  v229 := Try.zeroValue145 }
def layComp_ren : Go.Shelf.Ren := ⟨fun | 194 => 55 | n => n, fun | 31 => 47 | 9 => 9 | 3 => 3 | 4 => 4 | 0 => 0 | n => n, fun | n => n⟩
theorem layComp : Go.Proofs.Lays.n194 Try.prog layComp_ren := {
  mixed := by kernel_rfl,
  f194 := Try.func55.trans (congrArg some (by kernel_rfl)),
  t0 := Try.underlying0,
  a0 := Try.isAgg0,
  z0 := Try.sizeOf0,
  v0 := Try.zeroValue0,
  t3 := Try.underlying3,
  a3 := Try.isAgg3,
  z3 := Try.sizeOf3,
  v3 := Try.zeroValue3,
  t4 := Try.underlying4,
  a4 := Try.isAgg4,
  z4 := Try.sizeOf4,
  v4 := Try.zeroValue4,
  t9 := Try.underlying9,
  a9 := Try.isAgg9,
  z9 := Try.sizeOf9,
  v9 := Try.zeroValue9,
  t31 := Try.underlying47,
  a31 := Try.isAgg47,
  z31 := Try.sizeOf47,
  v31 := Try.zeroValue47 }

theorem less_lt : ∀ x y : List UInt8, Op.bytesLess x y = true ↔ x < y
  | [], [] => by simp [Op.bytesLess]
  | [], _ :: _ => by simp [Op.bytesLess]
  | _ :: _, [] => by simp [Op.bytesLess]
  | a :: x, b :: y => by
    rw [List.cons_lt_cons_iff, ← less_lt x y]
    simp [Op.bytesLess]
theorem le_ltS {a b : Nm} (h : a.data.toList ≤ b.data.toList) (hne : a ≠ b) : ltS a b = true := by
  rcases ltS_total a b with h1 | h1 | h1
  · exact h1
  · exact absurd h1 hne
  · unfold ltS at h1
    rw [less_lt, Lib.toList_data, Lib.toList_data] at h1
    exact absurd h1 (List.not_lt.2 h)
theorem strs_eq {S : Nat → Prop} {w : World} {xs : List Value} {l : List Nm} (hl : xs.length = l.length) (h : Elems 1 rStr S w xs l) : xs = (l.map fun s => s.data.toList).map encStr := by
  apply List.ext_getElem?
  intro i
  rw [List.getElem?_map, List.getElem?_map]
  cases hx : l[i]? with
  | none =>
    rw [List.getElem?_eq_none_iff] at hx
    rw [List.getElem?_eq_none (by omega)]
    rfl
  | some x =>
    obtain ⟨ys, _, h2, rfl, _⟩ := h i x hx
    have := h2 0 _ rfl
    rw [Nat.mul_one, Nat.add_zero] at this
    rw [this]
    rfl
theorem map_back (l : List (List UInt8)) : (l.map fun x => (⟨x.toArray⟩ : Nm)).map (fun s => s.data.toList) = l := by
  rw [List.map_map]
  conv => rhs; rw [← List.map_id l]
  exact List.map_congr_left fun x _ => by simp


/-! Plain: a rising list without its repeats. -/
abbrev Bs := List UInt8
theorem compact_up (d : Array Bs) (hd : d.toList.Pairwise (fun a b => a ≤ b)) : ∀ m, m ≤ d.size → (Lib.compactUpTo d m).Pairwise (fun a b => a < b) ∧ (∀ x, x ∈ Lib.compactUpTo d m ↔ x ∈ d.toList.take m) ∧ (Lib.compactUpTo d m).length ≤ m
  | 0, _ => by simp [Lib.compactUpTo]
  | m + 1, hm => by
    obtain ⟨h1, h2, h3⟩ := compact_up d hd m (by omega)
    have hg : d.toList[m]? = some d[m]! := by
      rw [Array.getElem?_toList, Array.getElem?_eq_getElem (by omega), getElem!_pos d m (by omega)]
    have htk : d.toList.take (m + 1) = d.toList.take m ++ [d[m]!] := by rw [List.take_add_one, hg]; rfl
    have hle : ∀ x ∈ d.toList.take m, x ≤ d[m]! := fun x hx => by
      have hp : (d.toList.take (m + 1)).Pairwise (fun a b => a ≤ b) := hd.sublist (List.take_sublist _ _)
      rw [htk, List.pairwise_append] at hp
      exact hp.2.2 x hx _ (by simp)
    rw [Lib.compactUpTo_succ, htk]
    by_cases hk : Lib.keeps d m = true
    · rw [if_pos hk]
      refine ⟨List.pairwise_append.2 ⟨h1, by simp, fun x hx y hy => ?_⟩, fun x => ?_, by simp; omega⟩
      · obtain rfl := List.mem_singleton.1 hy
        have hx2 := (h2 x).1 hx
        unfold Lib.keeps at hk
        rcases of_decide_eq_true hk with rfl | hne
        · simp at hx2
        · have hm0 : 0 < m := by
            rcases Nat.eq_zero_or_pos m with rfl | h
            · simp at hx2
            · exact h
          have hg' : d.toList[m - 1]? = some d[m - 1]! := by
            rw [Array.getElem?_toList, Array.getElem?_eq_getElem (by omega), getElem!_pos d (m - 1) (by omega)]
          have htk' : d.toList.take m = d.toList.take (m - 1) ++ [d[m - 1]!] := by
            have := List.take_add_one (l := d.toList) (i := m - 1)
            rw [hg'] at this
            rw [show m - 1 + 1 = m by omega] at this
            exact this
          have hl1 : x ≤ d[m - 1]! := by
            rw [htk'] at hx2
            rcases List.mem_append.1 hx2 with hx3 | hx3
            · have hp : (d.toList.take m).Pairwise (fun a b => a ≤ b) := hd.sublist (List.take_sublist _ _)
              rw [htk', List.pairwise_append] at hp
              exact hp.2.2 x hx3 _ (by simp)
            · rw [List.mem_singleton.1 hx3]; exact List.le_refl _
          have hl2 : d[m - 1]! ≤ d[m]! := hle _ (by rw [htk']; simp)
          by_cases h : x < d[m]!
          · exact h
          · have h4 := List.le_trans (List.not_lt.1 h) hl1
            exact absurd (List.le_antisymm h4 hl2) hne
      · rw [List.mem_append, List.mem_append, h2]
    · rw [if_neg hk, List.append_nil]
      refine ⟨h1, fun x => ?_, by omega⟩
      rw [h2, List.mem_append, List.mem_singleton]
      constructor
      · exact .inl
      · rintro (h | rfl)
        · exact h
        · unfold Lib.keeps at hk
          have hk2 : ¬ (m = 0 ∨ d[m]! ≠ d[m - 1]!) := fun h => hk (decide_eq_true h)
          have hm0 : m ≠ 0 := fun e => hk2 (.inl e)
          have he : d[m]! = d[m - 1]! := Classical.not_not.1 fun e => hk2 (.inr e)
          rw [he]
          refine List.mem_of_getElem? (i := m - 1) ?_
          rw [List.getElem?_take, if_pos (by omega), Array.getElem?_toList, Array.getElem?_eq_getElem (by omega), getElem!_pos d (m - 1) (by omega)]
theorem compact_is {zs : List Bs} (h : zs.Pairwise (fun a b => a ≤ b)) : (Lib.compact zs).Pairwise (fun a b => a < b) ∧ (∀ x, x ∈ Lib.compact zs ↔ x ∈ zs) ∧ (Lib.compact zs).length ≤ zs.length := by
  have := compact_up zs.toArray (by simpa using h) zs.length (by simp)
  simpa [Lib.compact] using this
theorem nm_lt {a b : Bs} (h : a < b) : ltS (⟨a.toArray⟩ : Nm) ⟨b.toArray⟩ = true := by
  unfold ltS
  rw [less_lt, Lib.toList_data, Lib.toList_data]
  simpa using h
/-- Sort, then Compact: of a slice of the call's own. -/
theorem sortRow {w : World} {base : Nat} {e : TypeId} {v : Value} {ss : List Bs} (h : w.ownsRow base e 1 v ss.length (ss.map encStr)) (hl : ss.length ≤ 2000) :
    Calls Try.prog 54 #[v] w fun e' w' => e' = .returned (.tuple #[]) ∧ (∃ ts : List Bs, w'.ownsRow base e 1 v ts.length (ts.map encStr) ∧ ts.Pairwise (fun a b => a ≤ b) ∧ (∀ x, x ∈ ts ↔ x ∈ ss) ∧ ts.length = ss.length) ∧ w.grownBy w' v.ownBlock := by
  rcases h.2 with ⟨rfl, h0⟩ | ⟨g, cap, cur, rfl, hb, hg, hnc, hcm, hcs, htk⟩
  · obtain rfl : ss = [] := List.eq_nil_of_length_eq_zero h0
    refine Calls.mono (calls_of_every_depth fun D => AnyS.slices_Sort_string_none_alone laySort D none 0 w) ?_
    rintro e' w' ⟨rfl, rfl⟩
    exact ⟨rfl, ⟨[], h, List.Pairwise.nil, fun x => by simp, rfl⟩, World.grownBy.refl _ _⟩
  · have hH := holds_of_block hg (ss := ss) (by rw [← htk, Nat.mul_one])
    refine Calls.mono (calls_of_every_depth fun D => AnyS.slices_Sort_string_alone laySort D g 0 cap ss w hH (blk_lt hg) (by omega)) ?_
    rintro e' w' ⟨rfl, n, os, rfl⟩
    have hperm := List.mergeSort_perm ss fun x y => decide (x ≤ y)
    have hsorted := List.pairwise_mergeSort (le := fun x y : Bs => decide (x ≤ y)) (fun a b c h k => by simp at *; exact List.le_trans h k) (fun a b => by simp; exact List.le_total a b) ss
    generalize ss.mergeSort (fun x y => decide (x ≤ y)) = ts at hperm hsorted ⊢
    have htl : ts.length = ss.length := hperm.length_eq
    have hown := ownsRow_sorted (w := w) (base := base) (n := n) (os := os) (ss := ss) (ts := ts) htl hb hg hnc hcm hcs
    exact ⟨rfl, ⟨ts, by rw [htl]; exact hown, hsorted.imp fun h => by simpa using h, fun x => hperm.mem_iff, htl⟩, grownBy_sorted _⟩
theorem compactRow {w : World} {base : Nat} {e : TypeId} {v : Value} {ss : List Bs} (h : w.ownsRow base e 1 v ss.length (ss.map encStr)) (hl : ss.length ≤ 2000) (hs : ss.Pairwise fun a b => a ≤ b) (hz : ∀ s ∈ ss, s.length ≤ 1000) :
    Calls Try.prog 55 #[v] w fun e' w' => (∃ v' : Value, e' = .returned v' ∧ ∃ R : List Nm, Sl 1 rStr (fun _ => True) w' v' R ∧ R.Pairwise (fun a b => ltS a b = true) ∧ (∀ x : Nm, x ∈ R ↔ x.data.toList ∈ ss) ∧ R.length ≤ ss.length) ∧ w.grownBy w' v.ownBlock := by
  rcases h.2 with ⟨rfl, h0⟩ | ⟨g, cap, cur, rfl, hb, hg, hnc, hcm, hcs, htk⟩
  · obtain rfl : ss = [] := List.eq_nil_of_length_eq_zero h0
    refine Calls.mono (Any.slices_Compact_string_empty layComp none 0 w) ?_
    rintro e' w' ⟨rfl, rfl⟩
    exact ⟨⟨_, rfl, [], Sl_nil _ _ _ _, List.Pairwise.nil, fun x => by simp, Nat.le_refl _⟩, World.grownBy.refl _ _⟩
  · have hH := holds_of_block hg (ss := ss) (by rw [← htk, Nat.mul_one])
    refine Calls.mono (Any.slices_Compact_string layComp g 0 cap ss w hH (by omega) hnc) ?_
    rintro e' w' ⟨rfl, q, rfl⟩
    obtain ⟨c1, c2, c3⟩ := compact_is hs
    generalize hcp : Lib.compact ss = cs at c1 c2 c3 ⊢
    have hg2 := heap_sorted (n := q) (os := #[]) (cs ++ List.replicate (ss.length - cs.length) []).toArray hg
    have hgb := grownBy_sorted (w := w) (g := g) (n := q) (os := #[]) (cs ++ List.replicate (ss.length - cs.length) []).toArray
    rw [grow_empty] at hg2 hgb
    refine ⟨⟨_, rfl, cs.map (fun x => (⟨x.toArray⟩ : Nm)), ?_, List.pairwise_map.2 (c1.imp fun h => nm_lt h), fun x => ?_, by rw [List.length_map]; exact c3⟩, hgb⟩
    · refine Sl_of (by rw [List.length_map]) (by omega) hcm (by omega) trivial fun i x hx => ?_
      rw [List.getElem?_map] at hx
      cases hy : cs[i]? with
      | none => rw [hy] at hx; cases hx
      | some z =>
        rw [hy] at hx
        obtain rfl : (⟨z.toArray⟩ : Nm) = x := by simpa using hx
        have hil := (List.getElem?_eq_some_iff.1 hy).1
        have hzl := hz z ((c2 z).1 (List.mem_of_getElem? hy))
        refine ⟨[.string ⟨z.toArray⟩], rfl, fun j y hj => ?_, rfl, by simp [ByteArray.size]; omega⟩
        have hj0 : j = 0 := by have := (List.getElem?_eq_some_iff.1 hj).1; simpa using this
        subst hj0
        obtain rfl : Value.string ⟨z.toArray⟩ = y := by simpa using hj
        rw [cell_of_row _ g _ _ _ (0, 0) hg2, Nat.zero_add, Nat.mul_one, Nat.add_zero]
        have htc := take_putCells cur (cs ++ List.replicate (ss.length - cs.length) []) (by rw [List.length_append, List.length_replicate]; omega)
        have h9 := congrArg (fun l => l[i]?) htc
        rw [List.getElem?_take, if_pos (by rw [List.length_append]; omega), List.getElem?_map, List.getElem?_append_left hil, hy] at h9
        rw [← Array.getElem?_toList, h9]
        rfl
    · rw [List.mem_map, ← c2]
      constructor
      · rintro ⟨y, hy, rfl⟩
        simpa using hy
      · intro h
        exact ⟨_, h, by simp⟩
theorem sorted_any {w : World} {base : Nat} {v : Value} {l : List Nm} (hG : Grow 9 1 rStr (fun _ => False) w base v l) (hl : l.length ≤ 2000) (hsz : ∀ s ∈ l, s.size ≤ 1000) :
    Calls Try.prog 39 #[v] w fun e w' => (∃ v' : Value, e = .returned v' ∧ ∃ R : List Nm, Sl 1 rStr (fun _ => True) w' v' R ∧ IsNames (fun x => x ∈ l) R ∧ R.length ≤ l.length) ∧ w.grownBy w' v.ownBlock := by
  obtain ⟨h1, h2, xs, hrow, hel⟩ := id hG
  have hxl : xs.length = l.length := by rw [hrow.1, Nat.mul_one]
  have hxs := strs_eq hxl hel
  subst hxs
  have hrow2 : w.ownsRow base 9 1 v (l.map fun s => s.data.toList).length ((l.map fun s => s.data.toList).map encStr) := by rw [List.length_map]; exact hrow
  have HS := Lib.hid (sortRow hrow2 (by rw [List.length_map]; exact hl))
  have HN := Lib.hid hsz
  have HL := Lib.hid hl
  clear hG hrow hel hrow2 h2 hsz hl
  go_enter Try.func39, Try.ntmps39
  go_wp2_with fail
  refine Calls.mono HS.out ?_
  rintro e1 w1 ⟨rfl, ⟨ts, ht, hso, hm, htl⟩, hg1⟩
  rw [List.length_map] at htl
  have HC := Lib.hid (compactRow ht (by rw [htl]; exact HL.out) hso fun s hs => by
    obtain ⟨x, hx, rfl⟩ := List.mem_map.1 ((hm s).1 hs)
    have := HN.out x hx
    rw [Array.length_toList]
    exact this)
  have HM := Lib.hid hm
  have HT := Lib.hid htl
  have HG1 := Lib.hid hg1
  clear ht hso hm htl hg1
  go_wp2_with fail
  refine Calls.mono HC.out ?_
  rintro e2 w2 ⟨⟨v', rfl, R, hR, hp, hq, hz⟩, hg2⟩
  have HR := Lib.hid hR
  have HP := Lib.hid (show IsNames (fun x => x ∈ l) R from ⟨hp, fun x => (hq x).trans ((HM.out _).trans (by
    rw [List.mem_map]
    constructor
    · rintro ⟨y, hy, e⟩
      obtain rfl : y = x := ByteArray.ext (Array.toList_inj.1 e)
      exact hy
    · exact fun hx => ⟨x, hx, rfl⟩))⟩)
  have HZ := Lib.hid (show R.length ≤ l.length by rw [← HT.out]; exact hz)
  have HG2 := Lib.hid (grown_trans HG1.out hg2)
  clear hR hp hq hz hg2
  go_wp2
  go_ret
  exact ⟨⟨v', rfl, R, HR.out, HP.out, HZ.out⟩, HG2.out⟩
end Go.Proofs.Ytocofkccdfaaaaa
