/- Layer stat: a feed: is, Next, Lost, and each method of the feed that is none. Condition: the pointer is nil, or leads to a feed. -/
import Derived.Test.YtmkgiaheeebbbaaBoxT
import Derived.Test.YtmkgiaheeebbbaaStCount
import Derived.Carry
import Derived.Laws.Cover3
namespace Go.Proofs.Ytmkgiaheeebbbaa
open Go.RowKit Go.Conc Go.Maps

theorem run_neq_mapF (w : World) (a : Nat) : (binOp .neq 49 (.map (some a)) (.map none)).run Try.prog w = .ok (.bool true) w := by
  simp only [binOp]
  simp [run_equal_map_nil w _ _ _ (some a) Try.underlying49]

/-- A feed's own cells. -/
def FeedAt (w : World) (g b m : Nat) (lost : Int) : Prop := w.heap[g]? = some (.cells #[.pointer (some ⟨b, 0, none⟩), .int .i64 lost, .map (some m)] 54 (0, 0))
theorem feedis_nil (w : World) : Calls Try.prog 18 #[.pointer none] w fun e w' => e = .returned (.bool false) ∧ w' = w := by
  go_enter Try.func18, Try.ntmps18
  go_wp2
  go_ret
  exact ⟨rfl, rfl⟩
theorem feedis_any {w : World} {g b m : Nat} {lost : Int} (h : FeedAt w g b m lost) : Calls Try.prog 18 #[.pointer (some ⟨g, 0, none⟩)] w fun e w' => e = .returned (.bool true) ∧ w' = w := by
  obtain ⟨cb, fb⟩ := blk_cells h
  have c2 := cb 2 _ rfl
  clear cb
  have hq := run_neq_mapF
  go_enter Try.func18, Try.ntmps18
  go_wp2
  go_ret
  exact ⟨rfl, rfl⟩
theorem lost_nil (w : World) : Calls Try.prog 11 #[.pointer none] w fun e w' => e = .returned (.int .i64 0) ∧ w' = w := by
  go_enter Try.func11, Try.ntmps11
  go_wp2_with (go_at_call 18; refine Calls.mono (feedis_nil _) ?_; rintro e w1 ⟨rfl, rfl⟩)
  go_ret
  exact ⟨rfl, rfl⟩
theorem lost_any {w : World} {g b m : Nat} {lost : Int} (h : FeedAt w g b m lost) : Calls Try.prog 11 #[.pointer (some ⟨g, 0, none⟩)] w fun e w' => e = .returned (.int .i64 lost) ∧ w' = w := by
  have his := Lib.hid (feedis_any h)
  obtain ⟨cb, fb⟩ := blk_cells h
  have c1 := cb 1 _ rfl
  clear cb
  go_enter Try.func11, Try.ntmps11
  go_wp2_with (go_at_call 18; refine Calls.mono his.out ?_; rintro e w1 ⟨rfl, rfl⟩)
  go_ret
  exact ⟨rfl, rfl⟩
theorem fcounts_nil (w : World) : Calls Try.prog 12 #[.pointer none] w fun e w' => e = .returned (.slice none 0 0) ∧ w' = w := by
  go_enter Try.func12, Try.ntmps12
  go_wp2_with (go_at_call 18; refine Calls.mono (feedis_nil _) ?_; rintro e w1 ⟨rfl, rfl⟩)
  go_ret
  exact ⟨rfl, rfl⟩
theorem put_nil (e0 e1 : Int) (e2 : ByteArray) (A3 A4 A5 A6 : Option Addr) (n3 c3 n4 c4 n5 c5 n6 c6 : Nat) (w : World) : Calls Try.prog 10 #[.pointer none, .agg #[.int .i64 e0, .int .i64 e1, .string e2, .slice A3 n3 c3, .slice A4 n4 c4, .slice A5 n5 c5, .slice A6 n6 c6]] w fun e w' => e = .returned (.bool false) ∧ Below w.heap.size w w' := by
  go_enter Try.func10, Try.ntmps10
  go_wp2_with (go_at_call 18; refine Calls.mono (feedis_nil _) ?_; rintro e w1 ⟨rfl, rfl⟩)
  go_ret
  exact ⟨rfl, by go_grown⟩
theorem next_nil (w : World) : Calls Try.prog 9 #[.pointer none] w fun e w' => e = .returned (.tuple #[.agg #[.int .i64 0, .int .i64 0, .string ⟨#[]⟩, .slice none 0 0, .slice none 0 0, .slice none 0 0, .slice none 0 0], .bool false]) ∧ Below w.heap.size w w' := by
  go_enter Try.func9, Try.ntmps9
  go_wp2_with (go_at_call 18; refine Calls.mono (feedis_nil _) ?_; rintro e w1 ⟨rfl, rfl⟩)
  exact bodyPost_ret (by simp [results, Try.f9]; simp [go_sem, *]) rfl ⟨rfl, by go_grown⟩
/-- Seven cells that are stored into one block. -/
def set7 (w : World) (n : Nat) (v0 v1 v2 v3 v4 v5 v6 : Value) : World := (((((((w.setCell ⟨n, 0, none⟩ v0).setCell ⟨n, 1, none⟩ v1).setCell ⟨n, 2, none⟩ v2).setCell ⟨n, 3, none⟩ v3).setCell ⟨n, 4, none⟩ v4).setCell ⟨n, 5, none⟩ v5).setCell ⟨n, 6, none⟩ v6)
theorem set7_same {w : World} {n : Nat} {T : TypeId} {z0 z1 z2 z3 z4 z5 z6 : Value} (h : w.heap[n]? = some (.cells #[z0, z1, z2, z3, z4, z5, z6] T (0, 0))) (v0 v1 v2 v3 v4 v5 v6 : Value) :
    (set7 w n v0 v1 v2 v3 v4 v5 v6).heap[n]? = some (.cells #[v0, v1, v2, v3, v4, v5, v6] T (0, 0)) := by
  unfold set7
  have b1 := blk_set_same (i := 0) (cs' := #[v0, z1, z2, z3, z4, z5, z6]) v0 h (by simp)
  have b2 := blk_set_same (i := 1) (cs' := #[v0, v1, z2, z3, z4, z5, z6]) v1 b1 (by simp)
  have b3 := blk_set_same (i := 2) (cs' := #[v0, v1, v2, z3, z4, z5, z6]) v2 b2 (by simp)
  have b4 := blk_set_same (i := 3) (cs' := #[v0, v1, v2, v3, z4, z5, z6]) v3 b3 (by simp)
  have b5 := blk_set_same (i := 4) (cs' := #[v0, v1, v2, v3, v4, z5, z6]) v4 b4 (by simp)
  have b6 := blk_set_same (i := 5) (cs' := #[v0, v1, v2, v3, v4, v5, z6]) v5 b5 (by simp)
  exact blk_set_same (i := 6) v6 b6 (by simp)
theorem set7_other (w : World) (n : Nat) (v0 v1 v2 v3 v4 v5 v6 : Value) {k : Nat} (h : k ≠ n) : (set7 w n v0 v1 v2 v3 v4 v5 v6).heap[k]? = w.heap[k]? := by
  unfold set7
  iterate 7 rw [Below.heap_setCell _ _ _ _ h]
theorem set7_but {c : Nat} {w w' : World} (h : But c w w') {n : Nat} (hn : w.heap.size ≤ n) (v0 v1 v2 v3 v4 v5 v6 : Value) : But c w (set7 w' n v0 v1 v2 v3 v4 v5 v6) := by
  unfold set7
  exact But.set (But.set (But.set (But.set (But.set (But.set (But.set h _ _ hn) _ _ hn) _ _ hn) _ _ hn) _ _ hn) _ _ hn) _ _ hn
theorem BoxA.of {w w' : World} {b c room : Nat} {l : List Value} (h : BoxA w b c room l) (hb : w'.heap[b]? = w.heap[b]?) (hc : w'.heap[c]? = w.heap[c]?) : BoxA w' b c room l := by
  obtain ⟨h1, h2, h3, s, r, h4⟩ := h
  exact ⟨h1, hb.trans h2, h3, s, r, hc.trans h4⟩
/-- Next, where there is one. -/
theorem next_some {w : World} {g b c m room : Nat} {lost : Int} {e0 e1 : Int} {e2 : ByteArray} {A3 A4 A5 A6 : Option Addr} {n3 c3 n4 c4 n5 c5 n6 c6 : Nat} {l : List Value} (hf : FeedAt w g b m lost) (hgc : g ≠ c) (h : BoxA w b c room (.agg #[.int .i64 e0, .int .i64 e1, .string e2, .slice A3 n3 c3, .slice A4 n4 c4, .slice A5 n5 c5, .slice A6 n6 c6] :: l)) :
    Calls Try.prog 9 #[.pointer (some ⟨g, 0, none⟩)] w fun e w' => e = .returned (.tuple #[.agg #[.int .i64 e0, .int .i64 e1, .string e2, .slice A3 n3 c3, .slice A4 n4 c4, .slice A5 n5 c5, .slice A6 n6 c6], .bool true]) ∧ BoxA w' b c room l ∧ But c w w' := by
  obtain ⟨W1, hW1, b1, f1, B1, q1⟩ := boxed w #[.int .i64 0, .int .i64 0, .string ⟨#[]⟩, .slice none 0 0, .slice none 0 0, .slice none 0 0, .slice none 0 0] 39
  have hf1 : FeedAt W1 g b m lost := blk_below B1 hf (blk_lt hf)
  have h1 := h.alloc (.cells #[.int .i64 0, .int .i64 0, .string ⟨#[]⟩, .slice none 0 0, .slice none 0 0, .slice none 0 0, .slice none 0 0] 39)
  rw [hW1] at h1
  have his := Lib.hid (feedis_any hf1)
  have htk := Lib.hid (takeA_some h1)
  obtain ⟨cb, fb⟩ := blk_cells hf1
  have c0 := cb 0 _ rfl
  have HF := Lib.hid hf1
  have HG := Lib.hid h.2.1
  have HC : ∃ o, w.heap[c]? = some o := by obtain ⟨_, _, _, _, _, q⟩ := h; exact ⟨_, q⟩
  have hcl : c < w.heap.size := by obtain ⟨o, hc⟩ := HC; exact blk_lt hc
  have hws : W1.heap.size = w.heap.size + 1 := by rw [← hW1]; simp
  have HWS := Lib.hid hws
  have HW := Lib.hid hW1
  have HB := Lib.hid (show W1.heap[w.heap.size]? = some (.cells #[.int .i64 0, .int .i64 0, .string ⟨#[]⟩, .slice none 0 0, .slice none 0 0, .slice none 0 0, .slice none 0 0] 39 (0, 0)) by rw [← hW1]; exact heap_alloc_new w _)
  clear cb hf hf1 h h1 HC hW1 hws b1 f1 fb
  go_enter Try.func9, Try.ntmps9
  have hW1 := HW.out
  go_wp2_with fail
  refine Calls.mono his.out ?_
  rintro e w2 ⟨rfl, rfl⟩
  clear hW1
  go_wp2_with fail
  refine Calls.mono htk.out ?_
  rintro e w2 ⟨rfl, hbx, hbt⟩
  have hlt : w.heap.size < w2.heap.size := by have := hbt.size; omega
  have hn := (hbt.block w.heap.size (by omega) (by omega)).trans HB.out
  have HN := Lib.hid hn
  obtain ⟨cn, fn⟩ := blk_cells hn
  have y0 := cn 0 _ rfl
  have y1 := cn 1 _ rfl
  have y2 := cn 2 _ rfl
  have y3 := cn 3 _ rfl
  have y4 := cn 4 _ rfl
  have y5 := cn 5 _ rfl
  have y6 := cn 6 _ rfl
  have HBX := Lib.hid hbx
  have HBT := Lib.hid hbt
  clear hbx hbt c0 hn cn
  go_wp2
  have h7 := set7_same HN.out (.int .i64 e0) (.int .i64 e1) (.string e2) (.slice A3 n3 c3) (.slice A4 n4 c4) (.slice A5 n5 c5) (.slice A6 n6 c6)
  have hbl := blk_lt HG.out
  have hY : BoxA (set7 w2 w.heap.size (.int .i64 e0) (.int .i64 e1) (.string e2) (.slice A3 n3 c3) (.slice A4 n4 c4) (.slice A5 n5 c5) (.slice A6 n6 c6)) b c room l ∧ But c w (set7 w2 w.heap.size (.int .i64 e0) (.int .i64 e1) (.string e2) (.slice A3 n3 c3) (.slice A4 n4 c4) (.slice A5 n5 c5) (.slice A6 n6 c6)) :=
    ⟨HBX.out.of (set7_other _ _ _ _ _ _ _ _ _ (by omega)) (set7_other _ _ _ _ _ _ _ _ _ (by omega)), set7_but ((But.of c B1).trans HBT.out) (Nat.le_refl _) _ _ _ _ _ _ _⟩
  unfold set7 at h7 hY
  revert h7 hY
  generalize World.setCell (World.setCell (World.setCell (World.setCell (World.setCell (World.setCell (World.setCell w2 _ _) _ _) _ _) _ _) _ _) _ _) _ _ = Y
  intro h7 hY
  have g7 := (blk_cells h7).1
  have g0 := g7 0 _ rfl
  have g1 := g7 1 _ rfl
  have g2 := g7 2 _ rfl
  have g3 := g7 3 _ rfl
  have g4 := g7 4 _ rfl
  have g5 := g7 5 _ rfl
  have g6 := g7 6 _ rfl
  exact bodyPost_ret (by simp [results, Try.f9]; simp [go_sem, g0, g1, g2, g3, g4, g5, g6]) rfl ⟨rfl, hY⟩
/-- Next, where there is none. -/
theorem next_none {w : World} {g b c m room : Nat} {lost : Int} (hf : FeedAt w g b m lost) (hgc : g ≠ c) (h : BoxA w b c room []) :
    Calls Try.prog 9 #[.pointer (some ⟨g, 0, none⟩)] w fun e w' => e = .returned (.tuple #[.agg #[.int .i64 0, .int .i64 0, .string ⟨#[]⟩, .slice none 0 0, .slice none 0 0, .slice none 0 0, .slice none 0 0], .bool false]) ∧ BoxA w' b c room [] ∧ But c w w' := by
  obtain ⟨W1, hW1, b1, f1, B1, q1⟩ := boxed w #[.int .i64 0, .int .i64 0, .string ⟨#[]⟩, .slice none 0 0, .slice none 0 0, .slice none 0 0, .slice none 0 0] 39
  have hf1 : FeedAt W1 g b m lost := blk_below B1 hf (blk_lt hf)
  have h1 := h.alloc (.cells #[.int .i64 0, .int .i64 0, .string ⟨#[]⟩, .slice none 0 0, .slice none 0 0, .slice none 0 0, .slice none 0 0] 39)
  rw [hW1] at h1
  have his := Lib.hid (feedis_any hf1)
  have HA := Lib.hid h1
  have htk := Lib.hid (takeA_none h1)
  obtain ⟨cb, fb⟩ := blk_cells hf1
  have c0 := cb 0 _ rfl
  have HF := Lib.hid hf1
  have HG := Lib.hid h.2.1
  have HC : ∃ o, w.heap[c]? = some o := by obtain ⟨_, _, _, _, _, q⟩ := h; exact ⟨_, q⟩
  have hcl : c < w.heap.size := by obtain ⟨o, hc⟩ := HC; exact blk_lt hc
  have hws : W1.heap.size = w.heap.size + 1 := by rw [← hW1]; simp
  have HWS := Lib.hid hws
  have hbl := blk_lt HG.out
  have HW := Lib.hid hW1
  have HB := Lib.hid (show W1.heap[w.heap.size]? = some (.cells #[.int .i64 0, .int .i64 0, .string ⟨#[]⟩, .slice none 0 0, .slice none 0 0, .slice none 0 0, .slice none 0 0] 39 (0, 0)) by rw [← hW1]; exact heap_alloc_new w _)
  clear cb hf hf1 h h1 HC hW1 hws b1 f1 fb
  go_enter Try.func9, Try.ntmps9
  have hW1 := HW.out
  go_wp2_with fail
  refine Calls.mono his.out ?_
  rintro e w2 ⟨rfl, rfl⟩
  clear hW1
  go_wp2_with fail
  refine Calls.mono htk.out ?_
  rintro e w2 ⟨rfl, hbt, hbc⟩
  have hbx : BoxA w2 b c room [] := HA.out.of (hbt.block b (by omega) HA.out.1) hbc
  clear hbc
  have hlt : w.heap.size < w2.heap.size := by have := hbt.size; omega
  have hn := (hbt.block w.heap.size (by omega) (by omega)).trans HB.out
  have HN := Lib.hid hn
  obtain ⟨cn, fn⟩ := blk_cells hn
  have y0 := cn 0 _ rfl
  have y1 := cn 1 _ rfl
  have y2 := cn 2 _ rfl
  have y3 := cn 3 _ rfl
  have y4 := cn 4 _ rfl
  have y5 := cn 5 _ rfl
  have y6 := cn 6 _ rfl
  have HBX := Lib.hid hbx
  have HBT := Lib.hid hbt
  clear hbx hbt c0 hn cn
  go_wp2
  have h7 := set7_same HN.out (.int .i64 0) (.int .i64 0) (.string ⟨#[]⟩) (.slice none 0 0) (.slice none 0 0) (.slice none 0 0) (.slice none 0 0)
  have hY : BoxA (set7 w2 w.heap.size (.int .i64 0) (.int .i64 0) (.string ⟨#[]⟩) (.slice none 0 0) (.slice none 0 0) (.slice none 0 0) (.slice none 0 0)) b c room [] ∧ But c w (set7 w2 w.heap.size (.int .i64 0) (.int .i64 0) (.string ⟨#[]⟩) (.slice none 0 0) (.slice none 0 0) (.slice none 0 0) (.slice none 0 0)) :=
    ⟨HBX.out.of (set7_other _ _ _ _ _ _ _ _ _ (by omega)) (set7_other _ _ _ _ _ _ _ _ _ (by omega)), set7_but ((But.of c B1).trans HBT.out) (Nat.le_refl _) _ _ _ _ _ _ _⟩
  unfold set7 at h7 hY
  revert h7 hY
  generalize World.setCell (World.setCell (World.setCell (World.setCell (World.setCell (World.setCell (World.setCell w2 _ _) _ _) _ _) _ _) _ _) _ _) _ _ = Y
  intro h7 hY
  have g7 := (blk_cells h7).1
  have g0 := g7 0 _ rfl
  have g1 := g7 1 _ rfl
  have g2 := g7 2 _ rfl
  have g3 := g7 3 _ rfl
  have g4 := g7 4 _ rfl
  have g5 := g7 5 _ rfl
  have g6 := g7 6 _ rfl
  exact bodyPost_ret (by simp [results, Try.f9]; simp [go_sem, g0, g1, g2, g3, g4, g5, g6]) rfl ⟨rfl, hY⟩
end Go.Proofs.Ytmkgiaheeebbbaa
