/- Layer show: the items of a folder, cloned and sorted. Condition: the list is at most a thousand long. -/
import Derived.Test.YtkapaafbnbnpjaaGreatDoorSbE
import Derived.Test.YtkapaafbnbnpjaaGreatDoorButB
import Derived.Test.YtkapaafbnbnpjaaGreatDoorApi
namespace Go.Proofs.YtkapaafbnbnpjaaGreatDoor
open Go.RowKit Go.Deep Go.Shelf Go.Sort Go.Proofs

theorem run_nil_items (w : World) (a : Option Addr) (n c : Nat) : (binOp .eql 31 (.slice a n c) (.slice none 0 0)).run Tryz.prog w = .ok (.bool a.isNone) w := by
  simp only [binOp]
  simp [run_equal_slice_nil w _ _ a n c Tryz.underlying31]
theorem cloneI_any (l : List Item) (v : Value) (w : World) (S : Nat → Prop) (h : Sl 2 rItem S w v l) (hl0 : l.length ≤ 1000000) :
    Calls Tryz.prog 35 #[v] w fun e w' => (∃ v', e = .returned v' ∧ Grow 84 2 rItem (fun _ => False) w' w.heap.size v' l) ∧ Below w.heap.size w w' := by
  obtain ⟨iItem, hiItem, hzItem, h1Item, h2Item⟩ := info_parts (show (Tryz.prog.info? 84).map (fun i => (i.zero, i.size, i.bytes)) = some (some (.agg #[.string ⟨#[]⟩, .slice none 0 0]), 2, 40) from by kernel_rfl)
  obtain ⟨A, c, rfl, hl, hc, hn, hs⟩ := h
  unfold maxLen at hc
  have q22 := run_nil_items
  rcases A with _ | ad
  · obtain rfl : l = [] := by
      cases l with
      | nil => rfl
      | cons x r => obtain ⟨_, _, _, h, _⟩ := hs 0 x rfl; cases h
    clear hs
    go_enter Tryz.func35, Tryz.ntmps35
    go_wp2
    go_ret
    exact ⟨⟨_, rfl, Grow.nil⟩, Below.refl _ _⟩
  · have hsl : SlAt 2 rItem (Free (fun _ => False) (w.alloc (.cells #[] 84)) (.slice (some ⟨w.heap.size, 0, none⟩) 0 0)) (w.alloc (.cells #[] 84)) (some ad) l :=
      hs.keep rItem_ok (by decide) (fun b hb hl => ⟨⟨by simp; omega, fun h => h, fun hb' => by simp only [Value.ownBlock, Option.some.injEq] at hb'; omega⟩, heap_alloc_old _ _ hl⟩)
    clear hs
    go_enter Tryz.func35, Tryz.ntmps35
    go_wp2_with (at_builtin; go_loud (refine wpList_grow (R := rItem) _ rfl (.tmp 5) (.tmp 6) 31 rfl 84 iItem _ 2 40 Tryz.underlying31 hiItem hzItem h1Item h2Item rfl (by decide) rItem_ok w.heap.size (by go_size) _ _ rfl (Grow.empty (heap_alloc_new _ _) (Nat.le_refl _)) _ _ _ rfl _ rfl hsl (by simp; omega) (by decide) ?_); intro v1 w1 g1 gg1 go1; rw [List.nil_append] at g1; obtain ⟨A1, n1, c1, rfl, hn1⟩ := g1.shape'; clear hn1)
    go_ret
    exact ⟨⟨_, rfl, g1⟩, Below.grown (Below.alloc (Below.refl _ _) (Nat.le_refl _) _) gg1 (by simp) fun b hb => by have := Option.some.inj (show some w.heap.size = some b from hb); omega⟩

theorem flatI (d : Array RawI) (i j : Nat) (hi : i < d.size) (hj : j < 2) : (Go.Sort.flatK encI 2 d)[i * 2 + j]! = (encI d[i]!)[j]! := by
  rw [Go.Sort.get_flatK _ _ _ _ (by omega), show (i * 2 + j) / 2 = i by omega, show (i * 2 + j) % 2 = j by omega]
theorem holds_ofI {w : World} {g : Nat} {d : Array RawI} (h : ∀ i, i < d.size → ∀ j y, (encI d[i]!)[j]? = some y → w.cell? ⟨g, i * 2 + j, none⟩ = some y) (hf : ∀ j, w.frozen? ⟨g, j, none⟩ = false) : Go.Sort.HoldsK encI 2 w g 0 d := by
  intro j hj
  rw [Go.Sort.size_flatK] at hj
  refine ⟨?_, hf _⟩
  have e1 := flatI d (j / 2) (j % 2) (by omega) (by omega)
  rw [show j / 2 * 2 + j % 2 = j by omega] at e1
  show w.cell? ⟨g, 0 + j, none⟩ = some (id _)
  rw [Nat.zero_add, id, e1]
  have := h (j / 2) (by omega) (j % 2)
  rw [show j / 2 * 2 + j % 2 = j by omega] at this
  refine this _ ?_
  rcases (show j % 2 = 0 ∨ j % 2 = 1 by omega) with h | h <;> rw [h] <;> rfl
theorem raw_of_grow {w : World} {base : Nat} {v : Value} {l : List Item} (hG : Grow 84 2 rItem (fun _ => False) w base v l) (hne : 0 < l.length) :
    ∃ (g cap : Nat) (d0 : Array RawI), v = .slice (some ⟨g, 0, none⟩) l.length cap ∧ base ≤ g ∧ g < w.heap.size ∧ l.length ≤ cap ∧ cap ≤ maxLen ∧ d0.size = l.length ∧ HoldsK encI 2 w g 0 d0 ∧ ∀ y ∈ d0, ∃ x ∈ l, rItem (fun z => z ≠ g) w (encI y) x := by
  obtain ⟨_, _, xs, ⟨hxl, h4⟩, hel⟩ := hG
  rcases h4 with ⟨_, h0⟩ | ⟨g, cap, cur, rfl, hb, hg, hnc, hcm, hcs, htk⟩
  · omega
  have hraw : ∀ i, ∃ y : RawI, ∀ x, l[i]? = some x → (∀ j u, (encI y)[j]? = some u → xs[i * 2 + j]? = some u) ∧ rItem (fun z => z ≠ g) w (encI y) x := by
    intro i
    cases hx : l[i]? with
    | none => exact ⟨(⟨#[]⟩, none, 0, 0), fun x h => by cases h⟩
    | some x =>
      obtain ⟨ys, h1, h2, h3⟩ := hel i x hx
      have h3' : rItem (fun z => z ≠ g) w ys x := rItem_keep h3 fun b hb hl => ⟨fun e => hb.2.2 (by rw [e]; rfl), rfl⟩
      obtain ⟨A1, c1, rfl, _⟩ := open_Item h3'
      refine ⟨(x.name, A1, x.versions.length, c1), fun z hz => ?_⟩
      obtain rfl := Option.some.inj hz
      exact ⟨h2, h3'⟩
  refine ⟨g, cap, (Array.ofFn fun i : Fin l.length => Classical.choose (hraw i.val)), rfl, hb, blk_lt hg, hnc, hcm, by simp, ?_, fun y hy => ?_⟩
  · refine holds_ofI (fun i hi j y hj => ?_) (blk_cells hg).2
    have hi' : i < l.length := by simpa using hi
    rw [getElem!_pos _ i hi, Array.getElem_ofFn] at hj
    have h9 := (Classical.choose_spec (hraw i) _ (List.getElem?_eq_getElem hi')).1 j y hj
    rw [← htk, List.getElem?_take] at h9
    split at h9
    · rw [cell_of_row w g _ cur _ (0, 0) hg]
      simpa using h9
    · cases h9
  · obtain ⟨i, hi, rfl⟩ := Array.mem_iff_getElem.1 hy
    have hi' : i < l.length := by simpa using hi
    rw [Array.getElem_ofFn]
    exact ⟨_, List.getElem_mem hi', (Classical.choose_spec (hraw i) _ (List.getElem?_eq_getElem hi')).2⟩
theorem SWK.but {w0 W : World} {g : Nat} {d : Array RawI} (h : SWK encI 2 w0 g 0 d W) : ButB (fun z => z = g) w0 W := by
  obtain ⟨n, os, rfl⟩ := h
  unfold Go.Proofs.sortWorldK
  refine ⟨rfl, rfl, rfl, ?_, fun b hb hne => ?_⟩
  · simp [Go.Sort.putRowK, Go.Sort.putRow, Go.Sort.mapBlock, Go.Sort.ahead]
  · rw [Go.Sort.heap_grow_old _ _ (by simp [Go.Sort.putRowK, Go.Sort.putRow, Go.Sort.mapBlock, Go.Sort.ahead]; omega)]
    simp only [Go.Sort.putRowK, Go.Sort.putRow, Go.Sort.mapBlock, Go.Sort.ahead, Array.getElem?_modify]
    rw [if_neg (fun e => hne e.symm)]
end Go.Proofs.YtkapaafbnbnpjaaGreatDoor
