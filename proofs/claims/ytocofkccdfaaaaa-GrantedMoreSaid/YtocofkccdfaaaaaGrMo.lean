/- GrantedMore: for every input the law returns true and leaves its arguments as they were. No condition. -/
import Derived.Test.YtocofkccdfaaaaaGrMoA
import Derived.Test.YtocofkccdfaaaaaGrAwk
import Derived.Test.YtocofkccdfaaaaaGrWho
import Derived.Deep.CutRange
import Derived.StillTailTactics
namespace Go.Proofs.Ytocofkccdfaaaaa
open Go.ChangeShapes Go.WideShapes Go.ChangeAt Go.RowKit Go.Deep

theorem held_cells {w0 : World} {b o : Nat} {v : Value} (h : w0.cell? ⟨b, o, none⟩ = some v) : ∀ W, Below w0.heap.size w0 W → W.cell? ⟨b, o, none⟩ = some v := fun _ hb => (hb.cell (p := ⟨b, o, none⟩) (cell_lt h)).trans h
theorem held_blk {w0 : World} {b : Nat} {o : Obj} (h : w0.heap[b]? = some o) {W : World} (hb : Below w0.heap.size w0 W) : W.heap[b]? = some o := (hb.block b (blk_lt h)).trans h
set_option maxRecDepth 100000 in
set_option maxHeartbeats 16000000 in
theorem walk_grantedMore (w : World) (st : State) (cs : List Value) (h : rState (fun _ => True) w cs st) (name : Nm) (wn : name.size ≤ 140737488355328) (x : Wrap) (l : Link) (p : Pair) (hx1 : x.name.size ≤ 140737488355328) (hx2 : I64 x.epoch) (hl1 : I64 l.epoch) (hl2 : l.to.size ≤ 140737488355328) (hl3 : I64 l.seq) (hp1 : p.frm.size ≤ 140737488355328) (hp2 : p.to.size ≤ 140737488355328) :
    Calls Try.prog 3 #[.agg cs.toArray, .string name, .agg #[.string x.name, .int .i64 x.epoch, .bool x.seed, .int .i64 l.epoch, .string l.to, .int .i64 l.seq, .string p.frm, .string p.to]] w fun e w' => e = .returned (.bool true) ∧ Below w.heap.size w w' := by
  have HR := Lib.hid h
  obtain ⟨st_A1, st_c1, st_A2, st_c2, st_A3, st_c3, rfl, st_turn_ok, st_users_l, st_users_m, st_users_n, st_users_s, st_deposits_l, st_deposits_m, st_deposits_n, st_deposits_s, st_folders_l, st_folders_m, st_folders_n, st_folders_s⟩ := open_State h
  obtain ⟨w0, hw0, cw0, fw0, Bw0, qw0⟩ := boxed w #[.int .i64 st.turn, .slice st_A1 st.users.length st_c1, .slice st_A2 st.deposits.length st_c2, .slice st_A3 st.folders.length st_c3] 26
  obtain ⟨w1, hw1, cw1, fw1, Bw1, qw1⟩ := boxed w0 #[.string x.name, .int .i64 x.epoch, .bool x.seed, .int .i64 l.epoch, .string l.to, .int .i64 l.seq, .string p.frm, .string p.to] 34
  have HB1 := Lib.hid (bel_call Bw0 Bw1)
  have k0 := held_cells ((Bw1.cell (p := ⟨w.heap.size, 0, none⟩) qw0).trans (cw0 0 _ rfl))
  have k1 := held_cells ((Bw1.cell (p := ⟨w.heap.size, 1, none⟩) qw0).trans (cw0 1 _ rfl))
  have k2 := held_cells ((Bw1.cell (p := ⟨w.heap.size, 2, none⟩) qw0).trans (cw0 2 _ rfl))
  have k3 := held_cells ((Bw1.cell (p := ⟨w.heap.size, 3, none⟩) qw0).trans (cw0 3 _ rfl))
  have d0 := Lib.hid (held_cells (cw1 0 _ rfl))
  have d1 := Lib.hid (held_cells (cw1 1 _ rfl))
  have d2 := Lib.hid (held_cells (cw1 2 _ rfl))
  have d3 := Lib.hid (held_cells (cw1 3 _ rfl))
  have d4 := Lib.hid (held_cells (cw1 4 _ rfl))
  have d5 := Lib.hid (held_cells (cw1 5 _ rfl))
  have d6 := Lib.hid (held_cells (cw1 6 _ rfl))
  have d7 := Lib.hid (held_cells (cw1 7 _ rfl))
  have HST := Lib.hid fun W (hW : Below w1.heap.size w1 W) => rState_keep HR.out (kept_of (bel_call HB1.out hW))
  clear cw0 fw0 Bw0 cw1 fw1 Bw1
  have HX1 := Lib.hid hx1
  have HX2 := Lib.hid hx2
  have HL := Lib.hid (show I64 l.epoch ∧ l.to.size ≤ 140737488355328 ∧ I64 l.seq from ⟨hl1, hl2, hl3⟩)
  have HP := Lib.hid (show p.frm.size ≤ 140737488355328 ∧ p.to.size ≤ 140737488355328 from ⟨hp1, hp2⟩)
  clear hx2 hl1 hl3
  go_enter Try.func3, Try.ntmps3
  go_wp2_with fail
  clear hw0 hw1
  refine Calls.mono (awake_any _) ?_
  rintro e w2 ⟨rfl, B2⟩
  go_upto_region 3 with fail
  go_cut [7, 8, 9] from 28 to 33 (fun s7 s8 s9 wx => ∃ b7 b8 b9, s7 = .pointer (some ⟨b7, 0, none⟩) ∧ s8 = .pointer (some ⟨b8, 0, none⟩) ∧ s9 = .pointer (some ⟨b9, 0, none⟩) ∧ Hid (wx.heap[b7]? = some (.cells #[.string x.name, .int .i64 x.epoch, .bool x.seed] 28 (0, 0))) ∧ Hid (wx.heap[b8]? = some (.cells #[.int .i64 l.epoch, .string l.to, .int .i64 l.seq] 30 (0, 0))) ∧ Hid (wx.heap[b9]? = some (.cells #[.string p.frm, .string p.to] 32 (0, 0))) ∧ Below w1.heap.size w1 wx)
  case first =>
    all_goals
      have HS := Lib.hid (show ∀ W, Below w1.heap.size w1 W → (fun W : World => W.cell? ⟨w0.heap.size, 0, none⟩ = some (.string x.name) ∧ W.cell? ⟨w0.heap.size, 1, none⟩ = some (.int .i64 x.epoch) ∧ W.cell? ⟨w0.heap.size, 2, none⟩ = some (.bool x.seed) ∧ W.cell? ⟨w0.heap.size, 3, none⟩ = some (.int .i64 l.epoch) ∧ W.cell? ⟨w0.heap.size, 4, none⟩ = some (.string l.to) ∧ W.cell? ⟨w0.heap.size, 5, none⟩ = some (.int .i64 l.seq) ∧ W.cell? ⟨w0.heap.size, 6, none⟩ = some (.string p.frm) ∧ W.cell? ⟨w0.heap.size, 7, none⟩ = some (.string p.to)) W from fun W hW => ⟨d0.out W hW, d1.out W hW, d2.out W hW, d3.out W hW, d4.out W hW, d5.out W hW, d6.out W hW, d7.out W hW⟩)
      have BD : Below w1.heap.size w1 w2.drew := B2.drew
      clear k0 k1 k2 k3
      refine wp_region_held_drew (S := (fun W : World => W.cell? ⟨w0.heap.size, 0, none⟩ = some (.string x.name) ∧ W.cell? ⟨w0.heap.size, 1, none⟩ = some (.int .i64 x.epoch) ∧ W.cell? ⟨w0.heap.size, 2, none⟩ = some (.bool x.seed) ∧ W.cell? ⟨w0.heap.size, 3, none⟩ = some (.int .i64 l.epoch) ∧ W.cell? ⟨w0.heap.size, 4, none⟩ = some (.string l.to) ∧ W.cell? ⟨w0.heap.size, 5, none⟩ = some (.int .i64 l.seq) ∧ W.cell? ⟨w0.heap.size, 6, none⟩ = some (.string p.frm) ∧ W.cell? ⟨w0.heap.size, 7, none⟩ = some (.string p.to))) (by kernel_rfl) (HS.out _ BD) (fun hHeld => ?_)
      refine wpAnyH_take (i := 0) (oi := ?_) (v := ?_) ?_ (by kernel_rfl) (by kernel_rfl) (by kernel_rfl) ?_ (Or.inl ⟨?_, ?_⟩) hHeld ?_
      rotate_left 2
      · simp only [List.getElem?_toArray, List.getElem?_cons_zero]; exact rfl
      · exact fun _ _ _ h => h
      · rfl
      · (intro W' hSw; (try dsimp only at hSw); go_simp; try with_reducible rfl)
      try simp only [Act.put, List.setIfInBounds_toArray, List.set_cons_zero, List.set_cons_succ]
      refine wpAnyH_take (i := 1) (oi := ?_) (v := ?_) ?_ (by kernel_rfl) (by kernel_rfl) (by kernel_rfl) ?_ (Or.inl ⟨?_, ?_⟩) hHeld ?_
      rotate_left 2
      · simp only [List.getElem?_toArray, List.getElem?_cons_succ, List.getElem?_cons_zero]; exact rfl
      · exact fun _ _ _ h => h
      · rfl
      · (intro W' hSw; (try dsimp only at hSw); go_simp; try with_reducible rfl)
      try simp only [Act.put, List.setIfInBounds_toArray, List.set_cons_zero, List.set_cons_succ]
      refine wpAnyH_take (i := 2) (oi := ?_) (v := ?_) ?_ (by kernel_rfl) (by kernel_rfl) (by kernel_rfl) ?_ (Or.inl ⟨?_, ?_⟩) hHeld ?_
      rotate_left 2
      · simp only [List.getElem?_toArray, List.getElem?_cons_succ, List.getElem?_cons_zero]; exact rfl
      · exact fun _ _ _ h => h
      · rfl
      · (intro W' hSw; (try dsimp only at hSw); go_simp; try with_reducible rfl)
      try simp only [Act.put, List.setIfInBounds_toArray, List.set_cons_zero, List.set_cons_succ]
      refine wpAnyH_take (i := 3) (oi := ?_) (v := ?_) ?_ (by kernel_rfl) (by kernel_rfl) (by kernel_rfl) ?_ (Or.inl ⟨?_, ?_⟩) hHeld ?_
      rotate_left 2
      · simp only [List.getElem?_toArray, List.getElem?_cons_succ, List.getElem?_cons_zero]; exact rfl
      · exact fun _ _ _ h => h
      · rfl
      · (intro W' hSw; (try dsimp only at hSw); go_simp; try with_reducible rfl)
      try simp only [Act.put, List.setIfInBounds_toArray, List.set_cons_zero, List.set_cons_succ]
      refine wpAnyH_take (i := 4) (oi := ?_) (v := ?_) ?_ (by kernel_rfl) (by kernel_rfl) (by kernel_rfl) ?_ (Or.inl ⟨?_, ?_⟩) hHeld ?_
      rotate_left 2
      · simp only [List.getElem?_toArray, List.getElem?_cons_succ, List.getElem?_cons_zero]; exact rfl
      · exact fun _ _ _ h => h
      · rfl
      · (intro W' hSw; (try dsimp only at hSw); go_simp; try with_reducible rfl)
      try simp only [Act.put, List.setIfInBounds_toArray, List.set_cons_zero, List.set_cons_succ]
      refine wpAnyH_take (i := 5) (oi := ?_) (v := ?_) ?_ (by kernel_rfl) (by kernel_rfl) (by kernel_rfl) ?_ (Or.inl ⟨?_, ?_⟩) hHeld ?_
      rotate_left 2
      · simp only [List.getElem?_toArray, List.getElem?_cons_succ, List.getElem?_cons_zero]; exact rfl
      · exact fun _ _ _ h => h
      · rfl
      · (intro W' hSw; (try dsimp only at hSw); go_simp; try with_reducible rfl)
      try simp only [Act.put, List.setIfInBounds_toArray, List.set_cons_zero, List.set_cons_succ]
      refine wpAnyH_ready (rs := [6, 7, 8]) (by kernel_rfl) (by simp) ?_
      refine AllReadyH.cons rfl (fun K hK => ?_) (AllReadyH.cons rfl (fun K hK => ?_) (AllReadyH.cons rfl (fun K hK => ?_) (AllReadyH.nil)))
      obtain ⟨wa1, hwa, cwa, fwa, Bwa, qwa1⟩ := boxed w2.drew #[.string ⟨#[]⟩, .int .i64 0, .bool false] 28
      have B1 := Lib.hid (show Below w1.heap.size w1 wa1 from bel_call BD Bwa)
      have T6 : wa1.heap[w2.heap.size]? = some (.cells #[.string ⟨#[]⟩, .int .i64 0, .bool false] 28 (0, 0)) := by rw [← hwa]; exact blk_alloc_new _ rfl
      have L1 := Lib.hid Bwa
      go_simp
      clear hHeld
      refine hK.out _ _ (HS.out _ B1.out) (fun hHeld => ?_)
      clear hK K hwa cwa fwa Bwa
      refine wpAnyH_ready (rs := [7, 8]) (by kernel_rfl) (by simp) ?_
      refine AllReadyH.cons rfl (fun K hK => ?_) (AllReadyH.cons rfl (fun K hK => ?_) (AllReadyH.nil))
      obtain ⟨wa2, hwa, cwa, fwa, Bwa, qwa2⟩ := boxed wa1 #[.int .i64 0, .string ⟨#[]⟩, .int .i64 0] 30
      have B2 := Lib.hid (show Below w1.heap.size w1 wa2 from bel_call B1.out Bwa)
      have T7 : wa2.heap[wa1.heap.size]? = some (.cells #[.int .i64 0, .string ⟨#[]⟩, .int .i64 0] 30 (0, 0)) := by rw [← hwa]; exact blk_alloc_new _ rfl
      have L2 := Lib.hid Bwa
      go_simp
      clear hHeld
      refine hK.out _ _ (HS.out _ B2.out) (fun hHeld => ?_)
      clear hK K hwa cwa fwa Bwa
      refine wpAnyH_ready (rs := [8]) (by kernel_rfl) (by simp) ?_
      refine AllReadyH.cons rfl (fun K hK => ?_) (AllReadyH.nil)
      obtain ⟨wa3, hwa, cwa, fwa, Bwa, qwa3⟩ := boxed wa2 #[.string ⟨#[]⟩, .string ⟨#[]⟩] 32
      have B3 := Lib.hid (show Below w1.heap.size w1 wa3 from bel_call B2.out Bwa)
      have T8 : wa3.heap[wa2.heap.size]? = some (.cells #[.string ⟨#[]⟩, .string ⟨#[]⟩] 32 (0, 0)) := by rw [← hwa]; exact blk_alloc_new _ rfl
      have L3 := Lib.hid Bwa
      go_simp
      clear hHeld
      refine hK.out _ _ (HS.out _ B3.out) (fun hHeld => ?_)
      clear hK K hwa cwa fwa Bwa
      have U6 := Lib.hid (((L2.out.trans (L3.out.mono L2.out.size)).block _ (blk_lt T6)).trans T6)
      have U7 := Lib.hid ((L3.out.block _ (blk_lt T7)).trans T7)
      have U8 := Lib.hid T8
      have hz0 : w1.heap.size ≤ w2.heap.size := BD.size
      have hz1 := L1.out.size
      have hz2 := L2.out.size
      have hz3 := L3.out.size
      have hz4 : w2.heap.size < wa1.heap.size := qwa1
      have hz5 : wa1.heap.size < wa2.heap.size := qwa2
      clear qwa1 qwa2 qwa3
      have HZ6 := Lib.hid (show w1.heap.size ≤ w2.heap.size by omega)
      have HZ7 := Lib.hid (show w1.heap.size ≤ wa1.heap.size by omega)
      have HZ8 := Lib.hid (show w1.heap.size ≤ wa2.heap.size by omega)
      have HN67 := Lib.hid (show w2.heap.size ≠ wa1.heap.size by omega)
      have HN68 := Lib.hid (show w2.heap.size ≠ wa2.heap.size by omega)
      have HN78 := Lib.hid (show wa1.heap.size ≠ wa2.heap.size by omega)
      clear hz0 hz1 hz2 hz3 hz4 hz5 L1 L2 L3
      clear T6 T7 T8 B1 B2
      generalize w2.heap.size = c6 at U6 HZ6 HN67 HN68 ⊢
      generalize wa1.heap.size = c7 at U7 HZ7 HN67 HN78 ⊢
      generalize wa2.heap.size = c8 at U8 HZ8 HN68 HN78 ⊢
      rotate_left
      obtain ⟨wa2, hwa, cwa, fwa, Bwa, qwa2⟩ := boxed wa1 #[.string ⟨#[]⟩, .string ⟨#[]⟩] 32
      have B2 := Lib.hid (show Below w1.heap.size w1 wa2 from bel_call B1.out Bwa)
      have T8 : wa2.heap[wa1.heap.size]? = some (.cells #[.string ⟨#[]⟩, .string ⟨#[]⟩] 32 (0, 0)) := by rw [← hwa]; exact blk_alloc_new _ rfl
      have L2 := Lib.hid Bwa
      go_simp
      clear hHeld
      refine hK.out _ _ (HS.out _ B2.out) (fun hHeld => ?_)
      clear hK K hwa cwa fwa Bwa
      refine wpAnyH_ready (rs := [7]) (by kernel_rfl) (by simp) ?_
      refine AllReadyH.cons rfl (fun K hK => ?_) (AllReadyH.nil)
      obtain ⟨wa3, hwa, cwa, fwa, Bwa, qwa3⟩ := boxed wa2 #[.int .i64 0, .string ⟨#[]⟩, .int .i64 0] 30
      have B3 := Lib.hid (show Below w1.heap.size w1 wa3 from bel_call B2.out Bwa)
      have T7 : wa3.heap[wa2.heap.size]? = some (.cells #[.int .i64 0, .string ⟨#[]⟩, .int .i64 0] 30 (0, 0)) := by rw [← hwa]; exact blk_alloc_new _ rfl
      have L3 := Lib.hid Bwa
      go_simp
      clear hHeld
      refine hK.out _ _ (HS.out _ B3.out) (fun hHeld => ?_)
      clear hK K hwa cwa fwa Bwa
      have U6 := Lib.hid (((L2.out.trans (L3.out.mono L2.out.size)).block _ (blk_lt T6)).trans T6)
      have U8 := Lib.hid ((L3.out.block _ (blk_lt T8)).trans T8)
      have U7 := Lib.hid T7
      have hz0 : w1.heap.size ≤ w2.heap.size := BD.size
      have hz1 := L1.out.size
      have hz2 := L2.out.size
      have hz3 := L3.out.size
      have hz4 : w2.heap.size < wa1.heap.size := qwa1
      have hz5 : wa1.heap.size < wa2.heap.size := qwa2
      clear qwa1 qwa2 qwa3
      have HZ6 := Lib.hid (show w1.heap.size ≤ w2.heap.size by omega)
      have HZ7 := Lib.hid (show w1.heap.size ≤ wa2.heap.size by omega)
      have HZ8 := Lib.hid (show w1.heap.size ≤ wa1.heap.size by omega)
      have HN67 := Lib.hid (show w2.heap.size ≠ wa2.heap.size by omega)
      have HN68 := Lib.hid (show w2.heap.size ≠ wa1.heap.size by omega)
      have HN78 := Lib.hid (show wa2.heap.size ≠ wa1.heap.size by omega)
      clear hz0 hz1 hz2 hz3 hz4 hz5 L1 L2 L3
      clear T6 T8 T7 B1 B2
      generalize w2.heap.size = c6 at U6 HZ6 HN67 HN68 ⊢
      generalize wa2.heap.size = c7 at U7 HZ7 HN67 HN78 ⊢
      generalize wa1.heap.size = c8 at U8 HZ8 HN68 HN78 ⊢
      rotate_left
      obtain ⟨wa1, hwa, cwa, fwa, Bwa, qwa1⟩ := boxed w2.drew #[.int .i64 0, .string ⟨#[]⟩, .int .i64 0] 30
      have B1 := Lib.hid (show Below w1.heap.size w1 wa1 from bel_call BD Bwa)
      have T7 : wa1.heap[w2.heap.size]? = some (.cells #[.int .i64 0, .string ⟨#[]⟩, .int .i64 0] 30 (0, 0)) := by rw [← hwa]; exact blk_alloc_new _ rfl
      have L1 := Lib.hid Bwa
      go_simp
      clear hHeld
      refine hK.out _ _ (HS.out _ B1.out) (fun hHeld => ?_)
      clear hK K hwa cwa fwa Bwa
      refine wpAnyH_ready (rs := [6, 8]) (by kernel_rfl) (by simp) ?_
      refine AllReadyH.cons rfl (fun K hK => ?_) (AllReadyH.cons rfl (fun K hK => ?_) (AllReadyH.nil))
      obtain ⟨wa2, hwa, cwa, fwa, Bwa, qwa2⟩ := boxed wa1 #[.string ⟨#[]⟩, .int .i64 0, .bool false] 28
      have B2 := Lib.hid (show Below w1.heap.size w1 wa2 from bel_call B1.out Bwa)
      have T6 : wa2.heap[wa1.heap.size]? = some (.cells #[.string ⟨#[]⟩, .int .i64 0, .bool false] 28 (0, 0)) := by rw [← hwa]; exact blk_alloc_new _ rfl
      have L2 := Lib.hid Bwa
      go_simp
      clear hHeld
      refine hK.out _ _ (HS.out _ B2.out) (fun hHeld => ?_)
      clear hK K hwa cwa fwa Bwa
      refine wpAnyH_ready (rs := [8]) (by kernel_rfl) (by simp) ?_
      refine AllReadyH.cons rfl (fun K hK => ?_) (AllReadyH.nil)
      obtain ⟨wa3, hwa, cwa, fwa, Bwa, qwa3⟩ := boxed wa2 #[.string ⟨#[]⟩, .string ⟨#[]⟩] 32
      have B3 := Lib.hid (show Below w1.heap.size w1 wa3 from bel_call B2.out Bwa)
      have T8 : wa3.heap[wa2.heap.size]? = some (.cells #[.string ⟨#[]⟩, .string ⟨#[]⟩] 32 (0, 0)) := by rw [← hwa]; exact blk_alloc_new _ rfl
      have L3 := Lib.hid Bwa
      go_simp
      clear hHeld
      refine hK.out _ _ (HS.out _ B3.out) (fun hHeld => ?_)
      clear hK K hwa cwa fwa Bwa
      have U7 := Lib.hid (((L2.out.trans (L3.out.mono L2.out.size)).block _ (blk_lt T7)).trans T7)
      have U6 := Lib.hid ((L3.out.block _ (blk_lt T6)).trans T6)
      have U8 := Lib.hid T8
      have hz0 : w1.heap.size ≤ w2.heap.size := BD.size
      have hz1 := L1.out.size
      have hz2 := L2.out.size
      have hz3 := L3.out.size
      have hz4 : w2.heap.size < wa1.heap.size := qwa1
      have hz5 : wa1.heap.size < wa2.heap.size := qwa2
      clear qwa1 qwa2 qwa3
      have HZ6 := Lib.hid (show w1.heap.size ≤ wa1.heap.size by omega)
      have HZ7 := Lib.hid (show w1.heap.size ≤ w2.heap.size by omega)
      have HZ8 := Lib.hid (show w1.heap.size ≤ wa2.heap.size by omega)
      have HN67 := Lib.hid (show wa1.heap.size ≠ w2.heap.size by omega)
      have HN68 := Lib.hid (show wa1.heap.size ≠ wa2.heap.size by omega)
      have HN78 := Lib.hid (show w2.heap.size ≠ wa2.heap.size by omega)
      clear hz0 hz1 hz2 hz3 hz4 hz5 L1 L2 L3
      clear T7 T6 T8 B1 B2
      generalize wa1.heap.size = c6 at U6 HZ6 HN67 HN68 ⊢
      generalize w2.heap.size = c7 at U7 HZ7 HN67 HN78 ⊢
      generalize wa2.heap.size = c8 at U8 HZ8 HN68 HN78 ⊢
      rotate_left
      obtain ⟨wa2, hwa, cwa, fwa, Bwa, qwa2⟩ := boxed wa1 #[.string ⟨#[]⟩, .string ⟨#[]⟩] 32
      have B2 := Lib.hid (show Below w1.heap.size w1 wa2 from bel_call B1.out Bwa)
      have T8 : wa2.heap[wa1.heap.size]? = some (.cells #[.string ⟨#[]⟩, .string ⟨#[]⟩] 32 (0, 0)) := by rw [← hwa]; exact blk_alloc_new _ rfl
      have L2 := Lib.hid Bwa
      go_simp
      clear hHeld
      refine hK.out _ _ (HS.out _ B2.out) (fun hHeld => ?_)
      clear hK K hwa cwa fwa Bwa
      refine wpAnyH_ready (rs := [6]) (by kernel_rfl) (by simp) ?_
      refine AllReadyH.cons rfl (fun K hK => ?_) (AllReadyH.nil)
      obtain ⟨wa3, hwa, cwa, fwa, Bwa, qwa3⟩ := boxed wa2 #[.string ⟨#[]⟩, .int .i64 0, .bool false] 28
      have B3 := Lib.hid (show Below w1.heap.size w1 wa3 from bel_call B2.out Bwa)
      have T6 : wa3.heap[wa2.heap.size]? = some (.cells #[.string ⟨#[]⟩, .int .i64 0, .bool false] 28 (0, 0)) := by rw [← hwa]; exact blk_alloc_new _ rfl
      have L3 := Lib.hid Bwa
      go_simp
      clear hHeld
      refine hK.out _ _ (HS.out _ B3.out) (fun hHeld => ?_)
      clear hK K hwa cwa fwa Bwa
      have U7 := Lib.hid (((L2.out.trans (L3.out.mono L2.out.size)).block _ (blk_lt T7)).trans T7)
      have U8 := Lib.hid ((L3.out.block _ (blk_lt T8)).trans T8)
      have U6 := Lib.hid T6
      have hz0 : w1.heap.size ≤ w2.heap.size := BD.size
      have hz1 := L1.out.size
      have hz2 := L2.out.size
      have hz3 := L3.out.size
      have hz4 : w2.heap.size < wa1.heap.size := qwa1
      have hz5 : wa1.heap.size < wa2.heap.size := qwa2
      clear qwa1 qwa2 qwa3
      have HZ6 := Lib.hid (show w1.heap.size ≤ wa2.heap.size by omega)
      have HZ7 := Lib.hid (show w1.heap.size ≤ w2.heap.size by omega)
      have HZ8 := Lib.hid (show w1.heap.size ≤ wa1.heap.size by omega)
      have HN67 := Lib.hid (show wa2.heap.size ≠ w2.heap.size by omega)
      have HN68 := Lib.hid (show wa2.heap.size ≠ wa1.heap.size by omega)
      have HN78 := Lib.hid (show w2.heap.size ≠ wa1.heap.size by omega)
      clear hz0 hz1 hz2 hz3 hz4 hz5 L1 L2 L3
      clear T7 T8 T6 B1 B2
      generalize wa2.heap.size = c6 at U6 HZ6 HN67 HN68 ⊢
      generalize w2.heap.size = c7 at U7 HZ7 HN67 HN78 ⊢
      generalize wa1.heap.size = c8 at U8 HZ8 HN68 HN78 ⊢
      rotate_left
      obtain ⟨wa1, hwa, cwa, fwa, Bwa, qwa1⟩ := boxed w2.drew #[.string ⟨#[]⟩, .string ⟨#[]⟩] 32
      have B1 := Lib.hid (show Below w1.heap.size w1 wa1 from bel_call BD Bwa)
      have T8 : wa1.heap[w2.heap.size]? = some (.cells #[.string ⟨#[]⟩, .string ⟨#[]⟩] 32 (0, 0)) := by rw [← hwa]; exact blk_alloc_new _ rfl
      have L1 := Lib.hid Bwa
      go_simp
      clear hHeld
      refine hK.out _ _ (HS.out _ B1.out) (fun hHeld => ?_)
      clear hK K hwa cwa fwa Bwa
      refine wpAnyH_ready (rs := [6, 7]) (by kernel_rfl) (by simp) ?_
      refine AllReadyH.cons rfl (fun K hK => ?_) (AllReadyH.cons rfl (fun K hK => ?_) (AllReadyH.nil))
      obtain ⟨wa2, hwa, cwa, fwa, Bwa, qwa2⟩ := boxed wa1 #[.string ⟨#[]⟩, .int .i64 0, .bool false] 28
      have B2 := Lib.hid (show Below w1.heap.size w1 wa2 from bel_call B1.out Bwa)
      have T6 : wa2.heap[wa1.heap.size]? = some (.cells #[.string ⟨#[]⟩, .int .i64 0, .bool false] 28 (0, 0)) := by rw [← hwa]; exact blk_alloc_new _ rfl
      have L2 := Lib.hid Bwa
      go_simp
      clear hHeld
      refine hK.out _ _ (HS.out _ B2.out) (fun hHeld => ?_)
      clear hK K hwa cwa fwa Bwa
      refine wpAnyH_ready (rs := [7]) (by kernel_rfl) (by simp) ?_
      refine AllReadyH.cons rfl (fun K hK => ?_) (AllReadyH.nil)
      obtain ⟨wa3, hwa, cwa, fwa, Bwa, qwa3⟩ := boxed wa2 #[.int .i64 0, .string ⟨#[]⟩, .int .i64 0] 30
      have B3 := Lib.hid (show Below w1.heap.size w1 wa3 from bel_call B2.out Bwa)
      have T7 : wa3.heap[wa2.heap.size]? = some (.cells #[.int .i64 0, .string ⟨#[]⟩, .int .i64 0] 30 (0, 0)) := by rw [← hwa]; exact blk_alloc_new _ rfl
      have L3 := Lib.hid Bwa
      go_simp
      clear hHeld
      refine hK.out _ _ (HS.out _ B3.out) (fun hHeld => ?_)
      clear hK K hwa cwa fwa Bwa
      have U8 := Lib.hid (((L2.out.trans (L3.out.mono L2.out.size)).block _ (blk_lt T8)).trans T8)
      have U6 := Lib.hid ((L3.out.block _ (blk_lt T6)).trans T6)
      have U7 := Lib.hid T7
      have hz0 : w1.heap.size ≤ w2.heap.size := BD.size
      have hz1 := L1.out.size
      have hz2 := L2.out.size
      have hz3 := L3.out.size
      have hz4 : w2.heap.size < wa1.heap.size := qwa1
      have hz5 : wa1.heap.size < wa2.heap.size := qwa2
      clear qwa1 qwa2 qwa3
      have HZ6 := Lib.hid (show w1.heap.size ≤ wa1.heap.size by omega)
      have HZ7 := Lib.hid (show w1.heap.size ≤ wa2.heap.size by omega)
      have HZ8 := Lib.hid (show w1.heap.size ≤ w2.heap.size by omega)
      have HN67 := Lib.hid (show wa1.heap.size ≠ wa2.heap.size by omega)
      have HN68 := Lib.hid (show wa1.heap.size ≠ w2.heap.size by omega)
      have HN78 := Lib.hid (show wa2.heap.size ≠ w2.heap.size by omega)
      clear hz0 hz1 hz2 hz3 hz4 hz5 L1 L2 L3
      clear T8 T6 T7 B1 B2
      generalize wa1.heap.size = c6 at U6 HZ6 HN67 HN68 ⊢
      generalize wa2.heap.size = c7 at U7 HZ7 HN67 HN78 ⊢
      generalize w2.heap.size = c8 at U8 HZ8 HN68 HN78 ⊢
      rotate_left
      obtain ⟨wa2, hwa, cwa, fwa, Bwa, qwa2⟩ := boxed wa1 #[.int .i64 0, .string ⟨#[]⟩, .int .i64 0] 30
      have B2 := Lib.hid (show Below w1.heap.size w1 wa2 from bel_call B1.out Bwa)
      have T7 : wa2.heap[wa1.heap.size]? = some (.cells #[.int .i64 0, .string ⟨#[]⟩, .int .i64 0] 30 (0, 0)) := by rw [← hwa]; exact blk_alloc_new _ rfl
      have L2 := Lib.hid Bwa
      go_simp
      clear hHeld
      refine hK.out _ _ (HS.out _ B2.out) (fun hHeld => ?_)
      clear hK K hwa cwa fwa Bwa
      refine wpAnyH_ready (rs := [6]) (by kernel_rfl) (by simp) ?_
      refine AllReadyH.cons rfl (fun K hK => ?_) (AllReadyH.nil)
      obtain ⟨wa3, hwa, cwa, fwa, Bwa, qwa3⟩ := boxed wa2 #[.string ⟨#[]⟩, .int .i64 0, .bool false] 28
      have B3 := Lib.hid (show Below w1.heap.size w1 wa3 from bel_call B2.out Bwa)
      have T6 : wa3.heap[wa2.heap.size]? = some (.cells #[.string ⟨#[]⟩, .int .i64 0, .bool false] 28 (0, 0)) := by rw [← hwa]; exact blk_alloc_new _ rfl
      have L3 := Lib.hid Bwa
      go_simp
      clear hHeld
      refine hK.out _ _ (HS.out _ B3.out) (fun hHeld => ?_)
      clear hK K hwa cwa fwa Bwa
      have U8 := Lib.hid (((L2.out.trans (L3.out.mono L2.out.size)).block _ (blk_lt T8)).trans T8)
      have U7 := Lib.hid ((L3.out.block _ (blk_lt T7)).trans T7)
      have U6 := Lib.hid T6
      have hz0 : w1.heap.size ≤ w2.heap.size := BD.size
      have hz1 := L1.out.size
      have hz2 := L2.out.size
      have hz3 := L3.out.size
      have hz4 : w2.heap.size < wa1.heap.size := qwa1
      have hz5 : wa1.heap.size < wa2.heap.size := qwa2
      clear qwa1 qwa2 qwa3
      have HZ6 := Lib.hid (show w1.heap.size ≤ wa2.heap.size by omega)
      have HZ7 := Lib.hid (show w1.heap.size ≤ wa1.heap.size by omega)
      have HZ8 := Lib.hid (show w1.heap.size ≤ w2.heap.size by omega)
      have HN67 := Lib.hid (show wa2.heap.size ≠ wa1.heap.size by omega)
      have HN68 := Lib.hid (show wa2.heap.size ≠ w2.heap.size by omega)
      have HN78 := Lib.hid (show wa1.heap.size ≠ w2.heap.size by omega)
      clear hz0 hz1 hz2 hz3 hz4 hz5 L1 L2 L3
      clear T8 T7 T6 B1 B2
      generalize wa2.heap.size = c6 at U6 HZ6 HN67 HN68 ⊢
      generalize wa1.heap.size = c7 at U7 HZ7 HN67 HN78 ⊢
      generalize w2.heap.size = c8 at U8 HZ8 HN68 HN78 ⊢
      rotate_left
      all_goals
        obtain ⟨cT, fT⟩ := blk_cells U6.out
        have c_0 := cT 0 _ rfl
        have c_1 := cT 1 _ rfl
        have c_2 := cT 2 _ rfl
        clear cT
        refine wpAnyH_ready (rs := [9]) (by kernel_rfl) (by simp) ?_
        refine AllReadyH.cons rfl (fun K hK => ?_) AllReadyH.nil
        go_simp
        clear c_0 c_1 c_2 fT hHeld
        obtain ⟨E1, E2⟩ := store3 U6.out (.string x.name) (.int .i64 x.epoch) (.bool x.seed)
        have BE := Lib.hid (ButB.below B3.out B3.out.size (fun z hz => by rw [hz]; exact HZ6.out) E2)
        have V7 := Lib.hid ((E2.block _ (blk_lt U7.out) HN67.out.symm).trans U7.out)
        have V8 := Lib.hid ((E2.block _ (blk_lt U8.out) HN68.out.symm).trans U8.out)
        generalize hW : World.setCell _ _ _ = wb0 at E1 E2 BE V7 V8 ⊢
        clear hW
        have V6 := Lib.hid E1
        clear E1 E2 U6 U7 U8
        refine hK.out _ _ (HS.out _ BE.out) (fun hHeld => ?_)
        clear hK K
        have U6 := V6
        clear V6
        have U7 := V7
        clear V7
        have U8 := V8
        clear V8
        have BE0 := BE
        clear BE
        obtain ⟨cT, fT⟩ := blk_cells U7.out
        have c_0 := cT 0 _ rfl
        have c_1 := cT 1 _ rfl
        have c_2 := cT 2 _ rfl
        clear cT
        refine wpAnyH_ready (rs := [10]) (by kernel_rfl) (by simp) ?_
        refine AllReadyH.cons rfl (fun K hK => ?_) AllReadyH.nil
        go_simp
        clear c_0 c_1 c_2 fT hHeld
        obtain ⟨E1, E2⟩ := store3 U7.out (.int .i64 l.epoch) (.string l.to) (.int .i64 l.seq)
        have BE := Lib.hid (ButB.below BE0.out BE0.out.size (fun z hz => by rw [hz]; exact HZ7.out) E2)
        have V6 := Lib.hid ((E2.block _ (blk_lt U6.out) HN67.out).trans U6.out)
        have V8 := Lib.hid ((E2.block _ (blk_lt U8.out) HN78.out.symm).trans U8.out)
        generalize hW : World.setCell _ _ _ = wb1 at E1 E2 BE V6 V8 ⊢
        clear hW
        have V7 := Lib.hid E1
        clear E1 E2 U6 U7 U8
        refine hK.out _ _ (HS.out _ BE.out) (fun hHeld => ?_)
        clear hK K
        have U6 := V6
        clear V6
        have U7 := V7
        clear V7
        have U8 := V8
        clear V8
        have BE1 := BE
        clear BE
        obtain ⟨cT, fT⟩ := blk_cells U8.out
        have c_0 := cT 0 _ rfl
        have c_1 := cT 1 _ rfl
        clear cT
        refine wpAnyH_ready (rs := [11]) (by kernel_rfl) (by simp) ?_
        refine AllReadyH.cons rfl (fun K hK => ?_) AllReadyH.nil
        go_simp
        clear c_0 c_1 fT hHeld
        obtain ⟨E1, E2⟩ := store2 U8.out (.string p.frm) (.string p.to)
        have BE := Lib.hid (ButB.below BE1.out BE1.out.size (fun z hz => by rw [hz]; exact HZ8.out) E2)
        have V6 := Lib.hid ((E2.block _ (blk_lt U6.out) HN68.out).trans U6.out)
        have V7 := Lib.hid ((E2.block _ (blk_lt U7.out) HN78.out).trans U7.out)
        generalize hW : World.setCell _ _ _ = wb2 at E1 E2 BE V6 V7 ⊢
        clear hW
        have V8 := Lib.hid E1
        clear E1 E2 U6 U7 U8
        refine hK.out _ _ (HS.out _ BE.out) (fun hHeld => ?_)
        clear hK K
        have U6 := V6
        clear V6
        have U7 := V7
        clear V7
        have U8 := V8
        clear V8
        have BE2 := BE
        clear BE
        refine wpAnyH_done (by kernel_rfl) ?_ _
        clear hHeld
        go_wp2
        go_meet
        case rel => exact ⟨_, _, _, rfl, rfl, rfl, U6, U7, U8, BE2.out⟩
  obtain ⟨b7, b8, b9, rfl, rfl, rfl, H7, H8, H9, hcb⟩ := hcut
  obtain ⟨wm, rfl⟩ : ∃ wm : World, wm = wc := ⟨_, rfl⟩
  clear B2
  have Q0 := k0 wm hcb
  have Q1 := k1 wm hcb
  have Q2 := k2 wm hcb
  have Q3 := k3 wm hcb
  clear k0 k1 k2 k3
  have k0 := held_cells Q0
  have k1 := held_cells Q1
  have k2 := held_cells Q2
  have k3 := held_cells Q3
  clear Q0 Q1 Q2 Q3
  have HSTM := Lib.hid fun W (hW : Below wm.heap.size wm W) => HST.out W (bel_call hcb hW)
  have HBM := Lib.hid (bel_call HB1.out hcb)
  have q70 := held_cells ((blk_cells H7.out).1 0 _ rfl)
  have q71 := held_cells ((blk_cells H7.out).1 1 _ rfl)
  have q72 := held_cells ((blk_cells H7.out).1 2 _ rfl)
  have q80 := held_cells ((blk_cells H8.out).1 0 _ rfl)
  have q81 := held_cells ((blk_cells H8.out).1 1 _ rfl)
  have q82 := held_cells ((blk_cells H8.out).1 2 _ rfl)
  have q90 := held_cells ((blk_cells H9.out).1 0 _ rfl)
  have q91 := held_cells ((blk_cells H9.out).1 1 _ rfl)
  clear hcb
  have BM0 := Below.refl wm.heap.size wm
  cases hf : few st with
  | false =>
    have HF := Lib.hid hf
    clear hf
    go_wp2_with fail
    refine Calls.mono (few_any st _ _ _ (HSTM.out _ (Below.refl _ _))) ?_
    rw [HF.out]
    rintro e w3 ⟨rfl, B3⟩
    have HB3 := Lib.hid (bel_call HBM.out B3)
    go_wp2
    go_ret
    exact ⟨rfl, HB3.out⟩
  | true =>
  have HSM := Lib.hid (few_true st hf)
  have HF := Lib.hid hf
  clear hf
  by_cases hn_0 : (20 : Int) < name.size
  · have hn' : decide ((20 : Int) < name.size) = true := decide_eq_true hn_0
    clear hn_0
    go_wp2_with fail
    refine Calls.mono (few_any st _ _ _ (HSTM.out _ (Below.refl _ _))) ?_
    rw [HF.out]
    rintro e w3 ⟨rfl, B3⟩
    have HB3 := Lib.hid (bel_call HBM.out B3)
    go_wp2
    go_ret
    exact ⟨rfl, HB3.out⟩
  have hn'_0 : decide ((20 : Int) < name.size) = false := decide_eq_false hn_0
  by_cases hn_1 : (20 : Int) < x.name.size
  · have hn' : decide ((20 : Int) < x.name.size) = true := decide_eq_true hn_1
    clear hn_1
    go_wp2_with fail
    refine Calls.mono (few_any st _ _ _ (HSTM.out _ (Below.refl _ _))) ?_
    rw [HF.out]
    rintro e w3 ⟨rfl, B3⟩
    have HB3 := Lib.hid (bel_call HBM.out B3)
    go_wp2
    go_ret
    exact ⟨rfl, HB3.out⟩
  have hn'_1 : decide ((20 : Int) < x.name.size) = false := decide_eq_false hn_1
  by_cases hn_2 : (20 : Int) < l.to.size
  · have hn' : decide ((20 : Int) < l.to.size) = true := decide_eq_true hn_2
    clear hn_2
    go_wp2_with fail
    refine Calls.mono (few_any st _ _ _ (HSTM.out _ (Below.refl _ _))) ?_
    rw [HF.out]
    rintro e w3 ⟨rfl, B3⟩
    have HB3 := Lib.hid (bel_call HBM.out B3)
    go_wp2
    go_ret
    exact ⟨rfl, HB3.out⟩
  have hn'_2 : decide ((20 : Int) < l.to.size) = false := decide_eq_false hn_2
  by_cases hn_3 : (20 : Int) < p.frm.size
  · have hn' : decide ((20 : Int) < p.frm.size) = true := decide_eq_true hn_3
    clear hn_3
    go_wp2_with fail
    refine Calls.mono (few_any st _ _ _ (HSTM.out _ (Below.refl _ _))) ?_
    rw [HF.out]
    rintro e w3 ⟨rfl, B3⟩
    have HB3 := Lib.hid (bel_call HBM.out B3)
    go_wp2
    go_ret
    exact ⟨rfl, HB3.out⟩
  have hn'_3 : decide ((20 : Int) < p.frm.size) = false := decide_eq_false hn_3
  by_cases hn_4 : (20 : Int) < p.to.size
  · have hn' : decide ((20 : Int) < p.to.size) = true := decide_eq_true hn_4
    clear hn_4
    go_wp2_with fail
    refine Calls.mono (few_any st _ _ _ (HSTM.out _ (Below.refl _ _))) ?_
    rw [HF.out]
    rintro e w3 ⟨rfl, B3⟩
    have HB3 := Lib.hid (bel_call HBM.out B3)
    go_wp2
    go_ret
    exact ⟨rfl, HB3.out⟩
  have hn'_4 : decide ((20 : Int) < p.to.size) = false := decide_eq_false hn_4
  have HOK := Lib.hid (small_ok HSM.out)
  have HMO := Lib.hid (more_ok (s := name) (w := x) (l := l) (p := p) HSM.out (by omega) (by omega) (by omega) (by omega))
  have HUS := Lib.hid (small_us HSM.out)
  have HXN := Lib.hid (show x.name.size ≤ 1000 by omega)
  have HPN := Lib.hid (show p.frm.size ≤ 1000 by omega)
  clear hn_0 hn_1 hn_2 hn_3 hn_4
  go_wp2_with fail
  refine Calls.mono (few_any st _ _ _ (HSTM.out _ (Below.refl _ _))) ?_
  rw [HF.out]
  rintro e w3 ⟨rfl, B3⟩
  go_wp2_with fail
  clear hn'_0 hn'_1 hn'_2 hn'_3 hn'_4
  refine Calls.mono (find_any st name _ w3 _ (HSTM.out _ B3)) ?_
  rintro e w4 ⟨⟨cf, rfl, hfd⟩, b4⟩
  have B4 := bel_call B3 b4
  clear b4 B3
  obtain ⟨f, hfe⟩ : ∃ f, (findF st name).getD zeroF = f := ⟨_, rfl⟩
  rw [hfe] at hfd
  obtain ⟨f_A2, f_c2, f_A3, f_c3, f_A4, f_c4, f_A5, f_c5, f_A6, f_c6, rfl, f_name_le, f_turn_ok, f_manifests_l, f_manifests_m, f_manifests_n, f_manifests_s, f_epochs_l, f_epochs_m, f_epochs_n, f_epochs_s, f_items_l, f_items_m, f_items_n, f_items_s, f_wraps_l, f_wraps_m, f_wraps_n, f_wraps_s, f_links_l, f_links_m, f_links_n, f_links_s⟩ := open_Folder hfd
  obtain ⟨w5, hw5, cw5, fw5, Bw5, qw5⟩ := boxed w4 #[.string f.name, .int .i64 f.turn, .slice f_A2 f.manifests.length f_c2, .slice f_A3 f.epochs.length f_c3, .slice f_A4 f.items.length f_c4, .slice f_A5 f.wraps.length f_c5, .slice f_A6 f.links.length f_c6] 43
  have B5 := bel_call B4 Bw5
  have HB45 := Lib.hid Bw5
  have g3 := held_cells (cw5 3 _ rfl)
  have g5 := held_cells (cw5 5 _ rfl)
  clear cw5 fw5 Bw5 f_manifests_s f_epochs_s f_items_s f_links_s B4 qw5
  cases hF : findF st name with
  | none =>
    simp only [Option.isSome_none]
    have HNO := Lib.hid hF
    clear hF hfe
    go_wp2_with fail
    clear hw5
    refine Calls.mono (reaches_any st x.name name _ _ _ (HSTM.out _ B5) HOK.out HXN.out) ?_
    rintro e w6 ⟨⟨n, rfl, hn⟩, b6⟩
    obtain rfl : n = 0 := by
      rcases hn with ⟨_, h⟩ | ⟨f, h, _⟩
      · exact h
      · rw [HNO.out] at h; cases h
    have B6 := bel_call B5 b6
    clear b6 hn B5
    go_wp2_with fail
    refine Calls.mono (who_any st name 1 _ _ _ (HSTM.out _ B6) HOK.out HUS.out.1 HUS.out.2) ?_
    rintro e w7 ⟨⟨v, R, rfl, s7, i7, _⟩, b7'⟩
    obtain rfl : R = [] := i7.ext (IsNames.nil (P := WhoP st name 1) (fun y hy => by obtain ⟨f, h1, _⟩ := hy; rw [HNO.out] at h1; cases h1)) fun _ => Iff.rfl
    obtain ⟨A7, c7, rfl, -, -, -, -⟩ := s7
    have HB7 := Lib.hid (bel_call HBM.out (bel_call B6 b7'))
    clear b7' i7 B6
    go_wp2
    go_ret
    exact ⟨rfl, HB7.out⟩
  | some f' =>
    have HFF := Lib.hid (show findF st name = some f by rw [hF] at hfe; rw [← hfe, hF]; rfl)
    simp only [Option.isSome_some]
    have B55 := Below.refl w5.heap.size w5
    clear hF hfe
    go_wp2
    clear hw5
    go_loopw [12, 90] (fun vb vi wr => ∃ (k : Nat) (fb : Bool), k ≤ f.wraps.length ∧ vi = .int .i64 k ∧ vb = .bool fb ∧ Hid (IsNew (f.wraps.take k) x.name fb) ∧ Below w5.heap.size w5 wr) (fun _ i _ => f.wraps.length - (RowKit.intOf i).toNat)
    case atStart => exact ⟨0, true, by omega, by go_num, rfl, isNew_zero _ _, Below.refl _ _⟩
    case round =>
      obtain ⟨wq, rfl⟩ : ∃ q, q = wr := ⟨_, rfl⟩
      obtain ⟨k, fb, hk, rfl, rfl, HFB, hbel⟩ := hrel
      have BQ := bel_call B5 hbel
      by_cases hlt : k < f.wraps.length
      · obtain ⟨y, hy⟩ : ∃ y, f.wraps[k]? = some y := ⟨_, List.getElem?_eq_getElem hlt⟩
        obtain ⟨by', oy, yy, hAy, hby, hRy, hcy⟩ := SlAt.elem f_wraps_s hy (by decide) (bel_call HB45.out hbel)
        obtain ⟨rfl, y_name_le, y_epoch_ok⟩ := open_Wrap hRy
        have v0 := hcy 0 _ rfl
        have v1 := hcy 1 _ rfl
        have v2 := hcy 2 _ rfl
        rw [Nat.add_zero] at v0
        subst hAy
        have HY := Lib.hid hy
        have hki : (k : Int) < (f.wraps.length : Int) := by omega
        obtain ⟨w6, hw6, cw6, fw6, Bw6, qw6⟩ := boxed wq #[.string y.name, .int .i64 y.epoch, .bool y.seed] 28
        have t0 := cw6 0 _ rfl
        have B6 := bel_call hbel Bw6
        have B6m := bel_call B5 B6
        clear hy hcy cw6 fw6 Bw6 hlt
        cases fb with
        | false =>
          have HN2 := Lib.hid (isNew_false HY.out (.inl HFB.out))
          go_wp2
          go_roundw
          case rel => exact ⟨k + 1, false, by omega, by go_num, rfl, HN2, B6⟩
          case measure => simp [RowKit.intOf]; omega
        | true =>
          by_cases hyx : y.name = x.name
          · have hse : (y.name.toList == x.name.toList) = true := by rw [hyx]; simp
            have HN2 := Lib.hid (isNew_false HY.out (.inr hyx))
            clear hyx
            go_wp2
            go_roundw
            case rel => exact ⟨k + 1, false, by omega, by go_num, rfl, HN2, B6⟩
            case measure => simp [RowKit.intOf]; omega
          · have hse : (y.name.toList == x.name.toList) = false := eqS_ne hyx
            have HN2 := Lib.hid (isNew_true HY.out HFB.out hyx)
            clear hyx
            go_wp2
            go_roundw
            case rel => exact ⟨k + 1, true, by omega, by go_num, rfl, HN2, B6⟩
            case measure => simp [RowKit.intOf]; omega
      · obtain rfl : k = f.wraps.length := by omega
        rw [List.take_length] at HFB
        have HBQ := Lib.hid BQ
        have HQB := Lib.hid hbel
        clear hlt hk f_wraps_s
        go_upto_region 15 with fail
        go_cut [15] from 103 to 112 (fun s15 wx => ∃ b15 AD cD, s15 = .pointer (some ⟨b15, 0, none⟩) ∧ wq.heap.size ≤ b15 ∧ Hid (wx.heap[b15]? = some (.cells #[.int .i64 0, .slice st_A1 st.users.length st_c1, .slice AD (st.deposits.length + 1) cD, .slice none 0 0] 26 (0, 0))) ∧ Hid (Sl 2 rPair (fun z => z ≠ b15) wx (.slice AD (st.deposits.length + 1) cD) (st.deposits ++ [p])) ∧ Below wq.heap.size wq wx)
        case first =>
          have HS := Lib.hid (show ∀ W, Below wq.heap.size wq W → (fun W : World => (W.cell? ⟨w.heap.size, 1, none⟩ = some (.slice st_A1 st.users.length st_c1) ∧ W.cell? ⟨w.heap.size, 2, none⟩ = some (.slice st_A2 st.deposits.length st_c2)) ∧ W.cell? ⟨b9, 0, none⟩ = some (.string p.frm) ∧ W.cell? ⟨b9, 1, none⟩ = some (.string p.to)) W from fun W hW => ⟨⟨k1 W (bel_call BQ hW), k2 W (bel_call BQ hW)⟩, q90 W (bel_call BQ hW), q91 W (bel_call BQ hW)⟩)
          have HSRC := Lib.hid (show ∀ (W : World) (v : Value), Below wq.heap.size wq W → (∀ b, v.ownBlock = some b → wq.heap.size ≤ b) → Sl 2 rPair (Free (fun _ => False) W v) W (.slice st_A2 st.deposits.length st_c2) st.deposits from fun W v hW hv => Sl.keep rPair_ok (by decide) ⟨_, _, rfl, st_deposits_l, st_deposits_m, st_deposits_n, st_deposits_s⟩ (kept_free (bel_call HBM.out (bel_call BQ hW)) (fun b h => h.elim) (fun b hb => Nat.le_trans (bel_call HBM.out BQ).size (hv b hb))))
          have hdl : st.deposits.length ≤ 100 := by have := HSM.out.all; omega
          clear k0 k1 k2 k3 q70 q71 q72 q80 q81 q82 q90 q91 g3 g5 B55 BM0 B5 BQ hbel st_users_s st_deposits_s st_folders_s
          obtain ⟨iPair, hiPair, hzPair, h1Pair, h2Pair⟩ := info_parts (show (Try.prog.info? 32).map (fun i => (i.zero, i.size, i.bytes)) = some (some (.agg #[.string ⟨#[]⟩, .string ⟨#[]⟩]), 2, 32) from by kernel_rfl)
          have NB0 := Lib.hid (show Below wq.heap.size wq wq.drew from (Below.refl _ _).drew)
          refine wp_region_held_drew (S := (fun W : World => (W.cell? ⟨w.heap.size, 1, none⟩ = some (.slice st_A1 st.users.length st_c1) ∧ W.cell? ⟨w.heap.size, 2, none⟩ = some (.slice st_A2 st.deposits.length st_c2)) ∧ W.cell? ⟨b9, 0, none⟩ = some (.string p.frm) ∧ W.cell? ⟨b9, 1, none⟩ = some (.string p.to))) (by kernel_rfl) (HS.out _ NB0.out) (fun hHeld => ?_)
          refine wpAnyH_take (i := 0) (oi := ?_) (v := ?_) ?_ (by kernel_rfl) (by kernel_rfl) (by kernel_rfl) ?_ (Or.inl ⟨?_, ?_⟩) hHeld ?_
          rotate_left 2
          · simp only [List.getElem?_toArray, List.getElem?_cons_zero]; exact rfl
          · exact fun _ _ _ h => h
          · rfl
          · (intro W' hSw; (try dsimp only at hSw); go_simp; try with_reducible rfl)
          try simp only [Act.put, List.setIfInBounds_toArray, List.set_cons_zero, List.set_cons_succ]
          refine wpAnyH_take (i := 1) (oi := ?_) (v := ?_) ?_ (by kernel_rfl) (by kernel_rfl) (by kernel_rfl) ?_ (Or.inl ⟨?_, ?_⟩) hHeld ?_
          rotate_left 2
          · simp only [List.getElem?_toArray, List.getElem?_cons_succ, List.getElem?_cons_zero]; exact rfl
          · exact fun _ _ _ h => h
          · rfl
          · (intro W' hSw; (try dsimp only at hSw); go_simp; try with_reducible rfl)
          try simp only [Act.put, List.setIfInBounds_toArray, List.set_cons_zero, List.set_cons_succ]
          refine wpAnyH_take (i := 3) (oi := ?_) (v := ?_) ?_ (by kernel_rfl) (by kernel_rfl) (by kernel_rfl) ?_ (Or.inl ⟨?_, ?_⟩) hHeld ?_
          rotate_left 2
          · simp only [List.getElem?_toArray, List.getElem?_cons_succ, List.getElem?_cons_zero]; exact rfl
          · exact fun _ _ _ h => h
          · rfl
          · (intro W' hSw; (try dsimp only at hSw); go_simp; try with_reducible rfl)
          try simp only [Act.put, List.setIfInBounds_toArray, List.set_cons_zero, List.set_cons_succ]
          refine wpAnyH_take (i := 4) (oi := ?_) (v := ?_) ?_ (by kernel_rfl) (by kernel_rfl) (by kernel_rfl) ?_ (Or.inl ⟨?_, ?_⟩) hHeld ?_
          rotate_left 2
          · simp only [List.getElem?_toArray, List.getElem?_cons_succ, List.getElem?_cons_zero]; exact rfl
          · exact fun _ _ _ h => h
          · rfl
          · (intro W' hSw; (try dsimp only at hSw); go_simp; try with_reducible rfl)
          try simp only [Act.put, List.setIfInBounds_toArray, List.set_cons_zero, List.set_cons_succ]
          refine wpAnyH_take (i := 6) (oi := ?_) (v := ?_) ?_ (by kernel_rfl) (by kernel_rfl) (by kernel_rfl) ?_ (Or.inl ⟨?_, ?_⟩) hHeld ?_
          rotate_left 2
          · simp only [List.getElem?_toArray, List.getElem?_cons_succ, List.getElem?_cons_zero]; exact rfl
          · exact fun _ _ _ h => h
          · rfl
          · (intro W' hSw; (try dsimp only at hSw); go_simp; try with_reducible rfl)
          try simp only [Act.put, List.setIfInBounds_toArray, List.set_cons_zero, List.set_cons_succ]
          refine wpAnyH_ready (rs := [2, 7, 10]) (by kernel_rfl) (by simp) ?_
          refine AllReadyH.cons rfl (fun K hK => ?_) (AllReadyH.cons rfl (fun K hK => ?_) (AllReadyH.cons rfl (fun K hK => ?_) (AllReadyH.nil)))
          obtain ⟨wn1, hwa, cwa, fwa, Bwa, qwa⟩ := boxed wq.drew #[] 32
          have NB1 := Lib.hid (show Below wq.heap.size wq wn1 from bel_call NB0.out Bwa)
          have HG1 := Lib.hid (show Grow 32 2 rPair (fun _ => False) wn1 wq.heap.size (.slice (some ⟨wq.heap.size, 0, none⟩) 0 0) [] from Grow.empty (show wn1.heap[wq.heap.size]? = _ by rw [← hwa]; exact blk_alloc_new _ rfl) (show wq.heap.size ≤ wq.drew.heap.size from (NB0.out).size))
          go_simp
          clear hHeld
          refine hK.out _ _ (HS.out _ NB1.out) (fun hHeld => ?_)
          clear hK K
          clear hwa cwa fwa Bwa qwa
          refine wpAnyH_ready (rs := [5, 7, 10]) (by kernel_rfl) (by simp) ?_
          refine AllReadyH.cons rfl (fun K hK => ?_) (AllReadyH.cons rfl (fun K hK => ?_) (AllReadyH.cons rfl (fun K hK => ?_) (AllReadyH.nil)))
          refine step_grow2 wn1 rfl (.tmp 105) (.tmp 107) 23 rfl 32 iPair _ 2 32 Try.underlying23 hiPair hzPair h1Pair h2Pair rfl (by decide) rPair_ok wq.heap.size (NB1.out).size (.slice (some ⟨wq.heap.size, 0, none⟩) 0 0) [] rfl HG1.out st_A2 _ st_c2 rfl st.deposits rfl (sl_at (HSRC.out wn1 (.slice (some ⟨wq.heap.size, 0, none⟩) 0 0) NB1.out (fun b hb => (HG1.out.base_le b hb).1))) (by (try simp only [List.length_nil, List.length_append, List.length_singleton]); omega) (by decide) ?_
          intro v2 wn2 gz go n1
          change K (Act.put _ (some 108) v2) _
          have NB2 := Lib.hid (Below.grown NB1.out go (NB1.out).size fun b hb => (HG1.out.base_le b hb).1)
          have HG2 := Lib.hid (show Grow 32 2 rPair (fun _ => False) wn2 wq.heap.size v2 st.deposits from gz)
          clear gz go n1
          clear hHeld
          refine hK.out _ _ (HS.out _ NB2.out) (fun hHeld => ?_)
          clear hK K
          refine wpAnyH_ready (rs := [7, 10]) (by kernel_rfl) (by simp) ?_
          refine AllReadyH.cons rfl (fun K hK => ?_) (AllReadyH.cons rfl (fun K hK => ?_) (AllReadyH.nil))
          obtain ⟨wn3, hwa, cwa, fwa, Bwa, qwa⟩ := boxed wn2 #[.string p.frm, .string p.to] 32
          have NB3 := Lib.hid (show Below wq.heap.size wq wn3 from bel_call NB2.out Bwa)
          have HC3 := Lib.hid (show wn3.heap[wn2.heap.size]? = some (.cells #[.string p.frm, .string p.to] 32 (0, 0)) by rw [← hwa]; exact blk_alloc_new _ rfl)
          have HNC3 := Lib.hid (show (v2 : Value).ownBlock ≠ some wn2.heap.size from fun h => by
            have h1 := (HG2.out.base_le _ h).2
            have h2 : wn2.heap.size = wn2.heap.size := rfl
            omega)
          have HG3 := Lib.hid (HG2.out.below rPair_ok Bwa)
          go_simp
          clear hHeld
          refine hK.out _ _ (HS.out _ NB3.out) (fun hHeld => ?_)
          clear hK K
          clear hwa cwa fwa Bwa qwa
          refine wpAnyH_ready (rs := [8, 10]) (by kernel_rfl) (by simp) ?_
          refine AllReadyH.cons rfl (fun K hK => ?_) (AllReadyH.cons rfl (fun K hK => ?_) (AllReadyH.nil))
          have HROW := Lib.hid (show SlAt 2 rPair (Free (fun _ => False) wn3 v2) wn3 (some ⟨wn2.heap.size, 0, none⟩) [p] from SlAt_one [.string p.frm, .string p.to] ⟨blk_lt HC3.out, fun h => h, HNC3.out⟩ rfl (fun j y hj => by rw [Nat.zero_add]; exact (blk_cells HC3.out).1 j y (by simpa using hj)) ⟨rfl, HP.out.1, HP.out.2⟩)
          refine step_grow2 wn3 rfl (.tmp 108) (.tmp 110) 23 rfl 32 iPair _ 2 32 Try.underlying23 hiPair hzPair h1Pair h2Pair rfl (by decide) rPair_ok wq.heap.size (NB3.out).size v2 st.deposits rfl HG3.out (some ⟨wn2.heap.size, 0, none⟩) 1 1 rfl [p] rfl (HROW.out) (by (try simp only [List.length_nil, List.length_append, List.length_singleton]); omega) (by decide) ?_
          intro v4 wn4 gz go n1
          change K (Act.put _ (some 111) v4) _
          have NB4 := Lib.hid (Below.grown NB3.out go (NB3.out).size fun b hb => (HG3.out.base_le b hb).1)
          have HG4 := Lib.hid (show Grow 32 2 rPair (fun _ => False) wn4 wq.heap.size v4 (st.deposits ++ [p]) from gz)
          obtain ⟨AD, nD, cD, hvD, hnD⟩ := HG4.out.shape'
          obtain rfl : nD = st.deposits.length + 1 := by rw [hnD]; simp
          subst hvD
          clear hnD
          have HC4 := Lib.hid (blk_grown go HC3.out HNC3.out)
          have HNC4 := Lib.hid (own_other n1 (blk_lt HC3.out) HNC3.out)
          clear gz go n1
          clear hHeld
          refine hK.out _ _ (HS.out _ NB4.out) (fun hHeld => ?_)
          clear hK K
          refine wpAnyH_take (i := 9) (oi := ?_) (v := ?_) ?_ (by kernel_rfl) (by kernel_rfl) (by kernel_rfl) ?_ (Or.inl ⟨?_, ?_⟩) hHeld ?_
          rotate_left 2
          · simp only [List.getElem?_toArray, List.getElem?_cons_succ, List.getElem?_cons_zero]; exact rfl
          · exact fun _ _ _ h => h
          · rfl
          · (intro W' hSw; (try dsimp only at hSw); go_simp; try with_reducible rfl)
          try simp only [Act.put, List.setIfInBounds_toArray, List.set_cons_zero, List.set_cons_succ]
          refine wpAnyH_ready (rs := [10]) (by kernel_rfl) (by simp) ?_
          refine AllReadyH.cons rfl (fun K hK => ?_) (AllReadyH.nil)
          obtain ⟨wn5, hwa, cwa, fwa, Bwa, qwa⟩ := boxed wn4 #[.int .i64 0, .slice none 0 0, .slice none 0 0, .slice none 0 0] 26
          have NB5 := Lib.hid (show Below wq.heap.size wq wn5 from bel_call NB4.out Bwa)
          have HE5 := Lib.hid (show wn5.heap[wn4.heap.size]? = some (.cells #[.int .i64 0, .slice none 0 0, .slice none 0 0, .slice none 0 0] 26 (0, 0)) by rw [← hwa]; exact blk_alloc_new _ rfl)
          have HNE5 := Lib.hid (show ((.slice AD (st.deposits.length + 1) cD) : Value).ownBlock ≠ some wn4.heap.size from fun h => by
            have h1 := (HG4.out.base_le _ h).2
            have h2 : wn4.heap.size = wn4.heap.size := rfl
            omega)
          have HG5 := Lib.hid (HG4.out.below rPair_ok Bwa)
          have HC5 := Lib.hid ((Bwa.block _ (blk_lt HC4.out)).trans HC4.out)
          go_simp
          clear hHeld
          refine hK.out _ _ (HS.out _ NB5.out) (fun hHeld => ?_)
          clear hK K
          clear hwa cwa fwa Bwa qwa
          obtain ⟨wz, rfl⟩ : ∃ q : World, q = wn5 := ⟨_, rfl⟩
          have NBz := NB5
          have HGz := HG5
          clear NB5 HG5
          have HEz := HE5
          have HNz := HNE5
          obtain ⟨bE, hbE, HLz⟩ : ∃ b, wn4.heap.size = b ∧ Hid (wq.heap.size ≤ b) := ⟨_, rfl, Lib.hid NB4.out.size⟩
          rw [hbE] at HEz HNz ⊢
          clear hbE HE5 HNE5
          rotate_left
          obtain ⟨wn6, hwa, cwa, fwa, Bwa, qwa⟩ := boxed wn3 #[.int .i64 0, .slice none 0 0, .slice none 0 0, .slice none 0 0] 26
          have NB6 := Lib.hid (show Below wq.heap.size wq wn6 from bel_call NB3.out Bwa)
          have HE6 := Lib.hid (show wn6.heap[wn3.heap.size]? = some (.cells #[.int .i64 0, .slice none 0 0, .slice none 0 0, .slice none 0 0] 26 (0, 0)) by rw [← hwa]; exact blk_alloc_new _ rfl)
          have HNE6 := Lib.hid (show (v2 : Value).ownBlock ≠ some wn3.heap.size from fun h => by
            have h1 := (HG3.out.base_le _ h).2
            have h2 : wn3.heap.size = wn3.heap.size := rfl
            omega)
          have HG6 := Lib.hid (HG3.out.below rPair_ok Bwa)
          have HC6 := Lib.hid ((Bwa.block _ (blk_lt HC3.out)).trans HC3.out)
          go_simp
          clear hHeld
          refine hK.out _ _ (HS.out _ NB6.out) (fun hHeld => ?_)
          clear hK K
          clear hwa cwa fwa Bwa qwa
          refine wpAnyH_ready (rs := [8]) (by kernel_rfl) (by simp) ?_
          refine AllReadyH.cons rfl (fun K hK => ?_) (AllReadyH.nil)
          have HROW := Lib.hid (show SlAt 2 rPair (Free (fun _ => False) wn6 v2) wn6 (some ⟨wn2.heap.size, 0, none⟩) [p] from SlAt_one [.string p.frm, .string p.to] ⟨blk_lt HC6.out, fun h => h, HNC3.out⟩ rfl (fun j y hj => by rw [Nat.zero_add]; exact (blk_cells HC6.out).1 j y (by simpa using hj)) ⟨rfl, HP.out.1, HP.out.2⟩)
          refine step_grow2 wn6 rfl (.tmp 108) (.tmp 110) 23 rfl 32 iPair _ 2 32 Try.underlying23 hiPair hzPair h1Pair h2Pair rfl (by decide) rPair_ok wq.heap.size (NB6.out).size v2 st.deposits rfl HG6.out (some ⟨wn2.heap.size, 0, none⟩) 1 1 rfl [p] rfl (HROW.out) (by (try simp only [List.length_nil, List.length_append, List.length_singleton]); omega) (by decide) ?_
          intro v7 wn7 gz go n1
          change K (Act.put _ (some 111) v7) _
          have NB7 := Lib.hid (Below.grown NB6.out go (NB6.out).size fun b hb => (HG6.out.base_le b hb).1)
          have HG7 := Lib.hid (show Grow 32 2 rPair (fun _ => False) wn7 wq.heap.size v7 (st.deposits ++ [p]) from gz)
          obtain ⟨AD, nD, cD, hvD, hnD⟩ := HG7.out.shape'
          obtain rfl : nD = st.deposits.length + 1 := by rw [hnD]; simp
          subst hvD
          clear hnD
          have HC7 := Lib.hid (blk_grown go HC6.out HNC3.out)
          have HNC7 := Lib.hid (own_other n1 (blk_lt HC6.out) HNC3.out)
          have HE7 := Lib.hid (blk_grown go HE6.out HNE6.out)
          have HNE7 := Lib.hid (own_other n1 (blk_lt HE6.out) HNE6.out)
          clear gz go n1
          clear hHeld
          refine hK.out _ _ (HS.out _ NB7.out) (fun hHeld => ?_)
          clear hK K
          refine wpAnyH_take (i := 9) (oi := ?_) (v := ?_) ?_ (by kernel_rfl) (by kernel_rfl) (by kernel_rfl) ?_ (Or.inl ⟨?_, ?_⟩) hHeld ?_
          rotate_left 2
          · simp only [List.getElem?_toArray, List.getElem?_cons_succ, List.getElem?_cons_zero]; exact rfl
          · exact fun _ _ _ h => h
          · rfl
          · (intro W' hSw; (try dsimp only at hSw); go_simp; try with_reducible rfl)
          try simp only [Act.put, List.setIfInBounds_toArray, List.set_cons_zero, List.set_cons_succ]
          obtain ⟨wz, rfl⟩ : ∃ q : World, q = wn7 := ⟨_, rfl⟩
          have NBz := NB7
          have HGz := HG7
          clear NB7 HG7
          have HEz := HE7
          have HNz := HNE7
          obtain ⟨bE, hbE, HLz⟩ : ∃ b, wn3.heap.size = b ∧ Hid (wq.heap.size ≤ b) := ⟨_, rfl, Lib.hid NB3.out.size⟩
          rw [hbE] at HEz HNz ⊢
          clear hbE HE7 HNE7
          rotate_left
          obtain ⟨wn8, hwa, cwa, fwa, Bwa, qwa⟩ := boxed wn2 #[.int .i64 0, .slice none 0 0, .slice none 0 0, .slice none 0 0] 26
          have NB8 := Lib.hid (show Below wq.heap.size wq wn8 from bel_call NB2.out Bwa)
          have HE8 := Lib.hid (show wn8.heap[wn2.heap.size]? = some (.cells #[.int .i64 0, .slice none 0 0, .slice none 0 0, .slice none 0 0] 26 (0, 0)) by rw [← hwa]; exact blk_alloc_new _ rfl)
          have HNE8 := Lib.hid (show (v2 : Value).ownBlock ≠ some wn2.heap.size from fun h => by
            have h1 := (HG2.out.base_le _ h).2
            have h2 : wn2.heap.size = wn2.heap.size := rfl
            omega)
          have HG8 := Lib.hid (HG2.out.below rPair_ok Bwa)
          go_simp
          clear hHeld
          refine hK.out _ _ (HS.out _ NB8.out) (fun hHeld => ?_)
          clear hK K
          clear hwa cwa fwa Bwa qwa
          refine wpAnyH_ready (rs := [7]) (by kernel_rfl) (by simp) ?_
          refine AllReadyH.cons rfl (fun K hK => ?_) (AllReadyH.nil)
          obtain ⟨wn9, hwa, cwa, fwa, Bwa, qwa⟩ := boxed wn8 #[.string p.frm, .string p.to] 32
          have NB9 := Lib.hid (show Below wq.heap.size wq wn9 from bel_call NB8.out Bwa)
          have HC9 := Lib.hid (show wn9.heap[wn8.heap.size]? = some (.cells #[.string p.frm, .string p.to] 32 (0, 0)) by rw [← hwa]; exact blk_alloc_new _ rfl)
          have HNC9 := Lib.hid (show (v2 : Value).ownBlock ≠ some wn8.heap.size from fun h => by
            have h1 := (HG8.out.base_le _ h).2
            have h2 : wn8.heap.size = wn8.heap.size := rfl
            omega)
          have HG9 := Lib.hid (HG8.out.below rPair_ok Bwa)
          have HE9 := Lib.hid ((Bwa.block _ (blk_lt HE8.out)).trans HE8.out)
          go_simp
          clear hHeld
          refine hK.out _ _ (HS.out _ NB9.out) (fun hHeld => ?_)
          clear hK K
          clear hwa cwa fwa Bwa qwa
          refine wpAnyH_ready (rs := [8]) (by kernel_rfl) (by simp) ?_
          refine AllReadyH.cons rfl (fun K hK => ?_) (AllReadyH.nil)
          have HROW := Lib.hid (show SlAt 2 rPair (Free (fun _ => False) wn9 v2) wn9 (some ⟨wn8.heap.size, 0, none⟩) [p] from SlAt_one [.string p.frm, .string p.to] ⟨blk_lt HC9.out, fun h => h, HNC9.out⟩ rfl (fun j y hj => by rw [Nat.zero_add]; exact (blk_cells HC9.out).1 j y (by simpa using hj)) ⟨rfl, HP.out.1, HP.out.2⟩)
          refine step_grow2 wn9 rfl (.tmp 108) (.tmp 110) 23 rfl 32 iPair _ 2 32 Try.underlying23 hiPair hzPair h1Pair h2Pair rfl (by decide) rPair_ok wq.heap.size (NB9.out).size v2 st.deposits rfl HG9.out (some ⟨wn8.heap.size, 0, none⟩) 1 1 rfl [p] rfl (HROW.out) (by (try simp only [List.length_nil, List.length_append, List.length_singleton]); omega) (by decide) ?_
          intro v10 wn10 gz go n1
          change K (Act.put _ (some 111) v10) _
          have NB10 := Lib.hid (Below.grown NB9.out go (NB9.out).size fun b hb => (HG9.out.base_le b hb).1)
          have HG10 := Lib.hid (show Grow 32 2 rPair (fun _ => False) wn10 wq.heap.size v10 (st.deposits ++ [p]) from gz)
          obtain ⟨AD, nD, cD, hvD, hnD⟩ := HG10.out.shape'
          obtain rfl : nD = st.deposits.length + 1 := by rw [hnD]; simp
          subst hvD
          clear hnD
          have HC10 := Lib.hid (blk_grown go HC9.out HNC9.out)
          have HNC10 := Lib.hid (own_other n1 (blk_lt HC9.out) HNC9.out)
          have HE10 := Lib.hid (blk_grown go HE9.out HNE8.out)
          have HNE10 := Lib.hid (own_other n1 (blk_lt HE9.out) HNE8.out)
          clear gz go n1
          clear hHeld
          refine hK.out _ _ (HS.out _ NB10.out) (fun hHeld => ?_)
          clear hK K
          refine wpAnyH_take (i := 9) (oi := ?_) (v := ?_) ?_ (by kernel_rfl) (by kernel_rfl) (by kernel_rfl) ?_ (Or.inl ⟨?_, ?_⟩) hHeld ?_
          rotate_left 2
          · simp only [List.getElem?_toArray, List.getElem?_cons_succ, List.getElem?_cons_zero]; exact rfl
          · exact fun _ _ _ h => h
          · rfl
          · (intro W' hSw; (try dsimp only at hSw); go_simp; try with_reducible rfl)
          try simp only [Act.put, List.setIfInBounds_toArray, List.set_cons_zero, List.set_cons_succ]
          obtain ⟨wz, rfl⟩ : ∃ q : World, q = wn10 := ⟨_, rfl⟩
          have NBz := NB10
          have HGz := HG10
          clear NB10 HG10
          have HEz := HE10
          have HNz := HNE10
          obtain ⟨bE, hbE, HLz⟩ : ∃ b, wn2.heap.size = b ∧ Hid (wq.heap.size ≤ b) := ⟨_, rfl, Lib.hid NB2.out.size⟩
          rw [hbE] at HEz HNz ⊢
          clear hbE HE10 HNE10
          rotate_left
          obtain ⟨wn11, hwa, cwa, fwa, Bwa, qwa⟩ := boxed wn1 #[.string p.frm, .string p.to] 32
          have NB11 := Lib.hid (show Below wq.heap.size wq wn11 from bel_call NB1.out Bwa)
          have HC11 := Lib.hid (show wn11.heap[wn1.heap.size]? = some (.cells #[.string p.frm, .string p.to] 32 (0, 0)) by rw [← hwa]; exact blk_alloc_new _ rfl)
          have HNC11 := Lib.hid (show ((.slice (some ⟨wq.heap.size, 0, none⟩) 0 0) : Value).ownBlock ≠ some wn1.heap.size from fun h => by
            have h1 := (HG1.out.base_le _ h).2
            have h2 : wn1.heap.size = wn1.heap.size := rfl
            omega)
          have HG11 := Lib.hid (HG1.out.below rPair_ok Bwa)
          go_simp
          clear hHeld
          refine hK.out _ _ (HS.out _ NB11.out) (fun hHeld => ?_)
          clear hK K
          clear hwa cwa fwa Bwa qwa
          refine wpAnyH_ready (rs := [5, 10]) (by kernel_rfl) (by simp) ?_
          refine AllReadyH.cons rfl (fun K hK => ?_) (AllReadyH.cons rfl (fun K hK => ?_) (AllReadyH.nil))
          refine step_grow2 wn11 rfl (.tmp 105) (.tmp 107) 23 rfl 32 iPair _ 2 32 Try.underlying23 hiPair hzPair h1Pair h2Pair rfl (by decide) rPair_ok wq.heap.size (NB11.out).size (.slice (some ⟨wq.heap.size, 0, none⟩) 0 0) [] rfl HG11.out st_A2 _ st_c2 rfl st.deposits rfl (sl_at (HSRC.out wn11 (.slice (some ⟨wq.heap.size, 0, none⟩) 0 0) NB11.out (fun b hb => (HG11.out.base_le b hb).1))) (by (try simp only [List.length_nil, List.length_append, List.length_singleton]); omega) (by decide) ?_
          intro v12 wn12 gz go n1
          change K (Act.put _ (some 108) v12) _
          have NB12 := Lib.hid (Below.grown NB11.out go (NB11.out).size fun b hb => (HG11.out.base_le b hb).1)
          have HG12 := Lib.hid (show Grow 32 2 rPair (fun _ => False) wn12 wq.heap.size v12 st.deposits from gz)
          have HC12 := Lib.hid (blk_grown go HC11.out HNC11.out)
          have HNC12 := Lib.hid (own_other n1 (blk_lt HC11.out) HNC11.out)
          clear gz go n1
          clear hHeld
          refine hK.out _ _ (HS.out _ NB12.out) (fun hHeld => ?_)
          clear hK K
          refine wpAnyH_ready (rs := [8, 10]) (by kernel_rfl) (by simp) ?_
          refine AllReadyH.cons rfl (fun K hK => ?_) (AllReadyH.cons rfl (fun K hK => ?_) (AllReadyH.nil))
          have HROW := Lib.hid (show SlAt 2 rPair (Free (fun _ => False) wn12 v12) wn12 (some ⟨wn1.heap.size, 0, none⟩) [p] from SlAt_one [.string p.frm, .string p.to] ⟨blk_lt HC12.out, fun h => h, HNC12.out⟩ rfl (fun j y hj => by rw [Nat.zero_add]; exact (blk_cells HC12.out).1 j y (by simpa using hj)) ⟨rfl, HP.out.1, HP.out.2⟩)
          refine step_grow2 wn12 rfl (.tmp 108) (.tmp 110) 23 rfl 32 iPair _ 2 32 Try.underlying23 hiPair hzPair h1Pair h2Pair rfl (by decide) rPair_ok wq.heap.size (NB12.out).size v12 st.deposits rfl HG12.out (some ⟨wn1.heap.size, 0, none⟩) 1 1 rfl [p] rfl (HROW.out) (by (try simp only [List.length_nil, List.length_append, List.length_singleton]); omega) (by decide) ?_
          intro v13 wn13 gz go n1
          change K (Act.put _ (some 111) v13) _
          have NB13 := Lib.hid (Below.grown NB12.out go (NB12.out).size fun b hb => (HG12.out.base_le b hb).1)
          have HG13 := Lib.hid (show Grow 32 2 rPair (fun _ => False) wn13 wq.heap.size v13 (st.deposits ++ [p]) from gz)
          obtain ⟨AD, nD, cD, hvD, hnD⟩ := HG13.out.shape'
          obtain rfl : nD = st.deposits.length + 1 := by rw [hnD]; simp
          subst hvD
          clear hnD
          have HC13 := Lib.hid (blk_grown go HC12.out HNC12.out)
          have HNC13 := Lib.hid (own_other n1 (blk_lt HC12.out) HNC12.out)
          clear gz go n1
          clear hHeld
          refine hK.out _ _ (HS.out _ NB13.out) (fun hHeld => ?_)
          clear hK K
          refine wpAnyH_take (i := 9) (oi := ?_) (v := ?_) ?_ (by kernel_rfl) (by kernel_rfl) (by kernel_rfl) ?_ (Or.inl ⟨?_, ?_⟩) hHeld ?_
          rotate_left 2
          · simp only [List.getElem?_toArray, List.getElem?_cons_succ, List.getElem?_cons_zero]; exact rfl
          · exact fun _ _ _ h => h
          · rfl
          · (intro W' hSw; (try dsimp only at hSw); go_simp; try with_reducible rfl)
          try simp only [Act.put, List.setIfInBounds_toArray, List.set_cons_zero, List.set_cons_succ]
          refine wpAnyH_ready (rs := [10]) (by kernel_rfl) (by simp) ?_
          refine AllReadyH.cons rfl (fun K hK => ?_) (AllReadyH.nil)
          obtain ⟨wn14, hwa, cwa, fwa, Bwa, qwa⟩ := boxed wn13 #[.int .i64 0, .slice none 0 0, .slice none 0 0, .slice none 0 0] 26
          have NB14 := Lib.hid (show Below wq.heap.size wq wn14 from bel_call NB13.out Bwa)
          have HE14 := Lib.hid (show wn14.heap[wn13.heap.size]? = some (.cells #[.int .i64 0, .slice none 0 0, .slice none 0 0, .slice none 0 0] 26 (0, 0)) by rw [← hwa]; exact blk_alloc_new _ rfl)
          have HNE14 := Lib.hid (show ((.slice AD (st.deposits.length + 1) cD) : Value).ownBlock ≠ some wn13.heap.size from fun h => by
            have h1 := (HG13.out.base_le _ h).2
            have h2 : wn13.heap.size = wn13.heap.size := rfl
            omega)
          have HG14 := Lib.hid (HG13.out.below rPair_ok Bwa)
          have HC14 := Lib.hid ((Bwa.block _ (blk_lt HC13.out)).trans HC13.out)
          go_simp
          clear hHeld
          refine hK.out _ _ (HS.out _ NB14.out) (fun hHeld => ?_)
          clear hK K
          clear hwa cwa fwa Bwa qwa
          obtain ⟨wz, rfl⟩ : ∃ q : World, q = wn14 := ⟨_, rfl⟩
          have NBz := NB14
          have HGz := HG14
          clear NB14 HG14
          have HEz := HE14
          have HNz := HNE14
          obtain ⟨bE, hbE, HLz⟩ : ∃ b, wn13.heap.size = b ∧ Hid (wq.heap.size ≤ b) := ⟨_, rfl, Lib.hid NB13.out.size⟩
          rw [hbE] at HEz HNz ⊢
          clear hbE HE14 HNE14
          rotate_left
          obtain ⟨wn15, hwa, cwa, fwa, Bwa, qwa⟩ := boxed wn12 #[.int .i64 0, .slice none 0 0, .slice none 0 0, .slice none 0 0] 26
          have NB15 := Lib.hid (show Below wq.heap.size wq wn15 from bel_call NB12.out Bwa)
          have HE15 := Lib.hid (show wn15.heap[wn12.heap.size]? = some (.cells #[.int .i64 0, .slice none 0 0, .slice none 0 0, .slice none 0 0] 26 (0, 0)) by rw [← hwa]; exact blk_alloc_new _ rfl)
          have HNE15 := Lib.hid (show (v12 : Value).ownBlock ≠ some wn12.heap.size from fun h => by
            have h1 := (HG12.out.base_le _ h).2
            have h2 : wn12.heap.size = wn12.heap.size := rfl
            omega)
          have HG15 := Lib.hid (HG12.out.below rPair_ok Bwa)
          have HC15 := Lib.hid ((Bwa.block _ (blk_lt HC12.out)).trans HC12.out)
          go_simp
          clear hHeld
          refine hK.out _ _ (HS.out _ NB15.out) (fun hHeld => ?_)
          clear hK K
          clear hwa cwa fwa Bwa qwa
          refine wpAnyH_ready (rs := [8]) (by kernel_rfl) (by simp) ?_
          refine AllReadyH.cons rfl (fun K hK => ?_) (AllReadyH.nil)
          have HROW := Lib.hid (show SlAt 2 rPair (Free (fun _ => False) wn15 v12) wn15 (some ⟨wn1.heap.size, 0, none⟩) [p] from SlAt_one [.string p.frm, .string p.to] ⟨blk_lt HC15.out, fun h => h, HNC12.out⟩ rfl (fun j y hj => by rw [Nat.zero_add]; exact (blk_cells HC15.out).1 j y (by simpa using hj)) ⟨rfl, HP.out.1, HP.out.2⟩)
          refine step_grow2 wn15 rfl (.tmp 108) (.tmp 110) 23 rfl 32 iPair _ 2 32 Try.underlying23 hiPair hzPair h1Pair h2Pair rfl (by decide) rPair_ok wq.heap.size (NB15.out).size v12 st.deposits rfl HG15.out (some ⟨wn1.heap.size, 0, none⟩) 1 1 rfl [p] rfl (HROW.out) (by (try simp only [List.length_nil, List.length_append, List.length_singleton]); omega) (by decide) ?_
          intro v16 wn16 gz go n1
          change K (Act.put _ (some 111) v16) _
          have NB16 := Lib.hid (Below.grown NB15.out go (NB15.out).size fun b hb => (HG15.out.base_le b hb).1)
          have HG16 := Lib.hid (show Grow 32 2 rPair (fun _ => False) wn16 wq.heap.size v16 (st.deposits ++ [p]) from gz)
          obtain ⟨AD, nD, cD, hvD, hnD⟩ := HG16.out.shape'
          obtain rfl : nD = st.deposits.length + 1 := by rw [hnD]; simp
          subst hvD
          clear hnD
          have HC16 := Lib.hid (blk_grown go HC15.out HNC12.out)
          have HNC16 := Lib.hid (own_other n1 (blk_lt HC15.out) HNC12.out)
          have HE16 := Lib.hid (blk_grown go HE15.out HNE15.out)
          have HNE16 := Lib.hid (own_other n1 (blk_lt HE15.out) HNE15.out)
          clear gz go n1
          clear hHeld
          refine hK.out _ _ (HS.out _ NB16.out) (fun hHeld => ?_)
          clear hK K
          refine wpAnyH_take (i := 9) (oi := ?_) (v := ?_) ?_ (by kernel_rfl) (by kernel_rfl) (by kernel_rfl) ?_ (Or.inl ⟨?_, ?_⟩) hHeld ?_
          rotate_left 2
          · simp only [List.getElem?_toArray, List.getElem?_cons_succ, List.getElem?_cons_zero]; exact rfl
          · exact fun _ _ _ h => h
          · rfl
          · (intro W' hSw; (try dsimp only at hSw); go_simp; try with_reducible rfl)
          try simp only [Act.put, List.setIfInBounds_toArray, List.set_cons_zero, List.set_cons_succ]
          obtain ⟨wz, rfl⟩ : ∃ q : World, q = wn16 := ⟨_, rfl⟩
          have NBz := NB16
          have HGz := HG16
          clear NB16 HG16
          have HEz := HE16
          have HNz := HNE16
          obtain ⟨bE, hbE, HLz⟩ : ∃ b, wn12.heap.size = b ∧ Hid (wq.heap.size ≤ b) := ⟨_, rfl, Lib.hid NB12.out.size⟩
          rw [hbE] at HEz HNz ⊢
          clear hbE HE16 HNE16
          rotate_left
          obtain ⟨wn17, hwa, cwa, fwa, Bwa, qwa⟩ := boxed wn11 #[.int .i64 0, .slice none 0 0, .slice none 0 0, .slice none 0 0] 26
          have NB17 := Lib.hid (show Below wq.heap.size wq wn17 from bel_call NB11.out Bwa)
          have HE17 := Lib.hid (show wn17.heap[wn11.heap.size]? = some (.cells #[.int .i64 0, .slice none 0 0, .slice none 0 0, .slice none 0 0] 26 (0, 0)) by rw [← hwa]; exact blk_alloc_new _ rfl)
          have HNE17 := Lib.hid (show ((.slice (some ⟨wq.heap.size, 0, none⟩) 0 0) : Value).ownBlock ≠ some wn11.heap.size from fun h => by
            have h1 := (HG11.out.base_le _ h).2
            have h2 : wn11.heap.size = wn11.heap.size := rfl
            omega)
          have HG17 := Lib.hid (HG11.out.below rPair_ok Bwa)
          have HC17 := Lib.hid ((Bwa.block _ (blk_lt HC11.out)).trans HC11.out)
          go_simp
          clear hHeld
          refine hK.out _ _ (HS.out _ NB17.out) (fun hHeld => ?_)
          clear hK K
          clear hwa cwa fwa Bwa qwa
          refine wpAnyH_ready (rs := [5]) (by kernel_rfl) (by simp) ?_
          refine AllReadyH.cons rfl (fun K hK => ?_) (AllReadyH.nil)
          refine step_grow2 wn17 rfl (.tmp 105) (.tmp 107) 23 rfl 32 iPair _ 2 32 Try.underlying23 hiPair hzPair h1Pair h2Pair rfl (by decide) rPair_ok wq.heap.size (NB17.out).size (.slice (some ⟨wq.heap.size, 0, none⟩) 0 0) [] rfl HG17.out st_A2 _ st_c2 rfl st.deposits rfl (sl_at (HSRC.out wn17 (.slice (some ⟨wq.heap.size, 0, none⟩) 0 0) NB17.out (fun b hb => (HG17.out.base_le b hb).1))) (by (try simp only [List.length_nil, List.length_append, List.length_singleton]); omega) (by decide) ?_
          intro v18 wn18 gz go n1
          change K (Act.put _ (some 108) v18) _
          have NB18 := Lib.hid (Below.grown NB17.out go (NB17.out).size fun b hb => (HG17.out.base_le b hb).1)
          have HG18 := Lib.hid (show Grow 32 2 rPair (fun _ => False) wn18 wq.heap.size v18 st.deposits from gz)
          have HC18 := Lib.hid (blk_grown go HC17.out HNC11.out)
          have HNC18 := Lib.hid (own_other n1 (blk_lt HC17.out) HNC11.out)
          have HE18 := Lib.hid (blk_grown go HE17.out HNE17.out)
          have HNE18 := Lib.hid (own_other n1 (blk_lt HE17.out) HNE17.out)
          clear gz go n1
          clear hHeld
          refine hK.out _ _ (HS.out _ NB18.out) (fun hHeld => ?_)
          clear hK K
          refine wpAnyH_ready (rs := [8]) (by kernel_rfl) (by simp) ?_
          refine AllReadyH.cons rfl (fun K hK => ?_) (AllReadyH.nil)
          have HROW := Lib.hid (show SlAt 2 rPair (Free (fun _ => False) wn18 v18) wn18 (some ⟨wn1.heap.size, 0, none⟩) [p] from SlAt_one [.string p.frm, .string p.to] ⟨blk_lt HC18.out, fun h => h, HNC18.out⟩ rfl (fun j y hj => by rw [Nat.zero_add]; exact (blk_cells HC18.out).1 j y (by simpa using hj)) ⟨rfl, HP.out.1, HP.out.2⟩)
          refine step_grow2 wn18 rfl (.tmp 108) (.tmp 110) 23 rfl 32 iPair _ 2 32 Try.underlying23 hiPair hzPair h1Pair h2Pair rfl (by decide) rPair_ok wq.heap.size (NB18.out).size v18 st.deposits rfl HG18.out (some ⟨wn1.heap.size, 0, none⟩) 1 1 rfl [p] rfl (HROW.out) (by (try simp only [List.length_nil, List.length_append, List.length_singleton]); omega) (by decide) ?_
          intro v19 wn19 gz go n1
          change K (Act.put _ (some 111) v19) _
          have NB19 := Lib.hid (Below.grown NB18.out go (NB18.out).size fun b hb => (HG18.out.base_le b hb).1)
          have HG19 := Lib.hid (show Grow 32 2 rPair (fun _ => False) wn19 wq.heap.size v19 (st.deposits ++ [p]) from gz)
          obtain ⟨AD, nD, cD, hvD, hnD⟩ := HG19.out.shape'
          obtain rfl : nD = st.deposits.length + 1 := by rw [hnD]; simp
          subst hvD
          clear hnD
          have HC19 := Lib.hid (blk_grown go HC18.out HNC18.out)
          have HNC19 := Lib.hid (own_other n1 (blk_lt HC18.out) HNC18.out)
          have HE19 := Lib.hid (blk_grown go HE18.out HNE18.out)
          have HNE19 := Lib.hid (own_other n1 (blk_lt HE18.out) HNE18.out)
          clear gz go n1
          clear hHeld
          refine hK.out _ _ (HS.out _ NB19.out) (fun hHeld => ?_)
          clear hK K
          refine wpAnyH_take (i := 9) (oi := ?_) (v := ?_) ?_ (by kernel_rfl) (by kernel_rfl) (by kernel_rfl) ?_ (Or.inl ⟨?_, ?_⟩) hHeld ?_
          rotate_left 2
          · simp only [List.getElem?_toArray, List.getElem?_cons_succ, List.getElem?_cons_zero]; exact rfl
          · exact fun _ _ _ h => h
          · rfl
          · (intro W' hSw; (try dsimp only at hSw); go_simp; try with_reducible rfl)
          try simp only [Act.put, List.setIfInBounds_toArray, List.set_cons_zero, List.set_cons_succ]
          obtain ⟨wz, rfl⟩ : ∃ q : World, q = wn19 := ⟨_, rfl⟩
          have NBz := NB19
          have HGz := HG19
          clear NB19 HG19
          have HEz := HE19
          have HNz := HNE19
          obtain ⟨bE, hbE, HLz⟩ : ∃ b, wn11.heap.size = b ∧ Hid (wq.heap.size ≤ b) := ⟨_, rfl, Lib.hid NB11.out.size⟩
          rw [hbE] at HEz HNz ⊢
          clear hbE HE19 HNE19
          rotate_left
          obtain ⟨wn20, hwa, cwa, fwa, Bwa, qwa⟩ := boxed wn1 #[.int .i64 0, .slice none 0 0, .slice none 0 0, .slice none 0 0] 26
          have NB20 := Lib.hid (show Below wq.heap.size wq wn20 from bel_call NB1.out Bwa)
          have HE20 := Lib.hid (show wn20.heap[wn1.heap.size]? = some (.cells #[.int .i64 0, .slice none 0 0, .slice none 0 0, .slice none 0 0] 26 (0, 0)) by rw [← hwa]; exact blk_alloc_new _ rfl)
          have HNE20 := Lib.hid (show ((.slice (some ⟨wq.heap.size, 0, none⟩) 0 0) : Value).ownBlock ≠ some wn1.heap.size from fun h => by
            have h1 := (HG1.out.base_le _ h).2
            have h2 : wn1.heap.size = wn1.heap.size := rfl
            omega)
          have HG20 := Lib.hid (HG1.out.below rPair_ok Bwa)
          go_simp
          clear hHeld
          refine hK.out _ _ (HS.out _ NB20.out) (fun hHeld => ?_)
          clear hK K
          clear hwa cwa fwa Bwa qwa
          refine wpAnyH_ready (rs := [5, 7]) (by kernel_rfl) (by simp) ?_
          refine AllReadyH.cons rfl (fun K hK => ?_) (AllReadyH.cons rfl (fun K hK => ?_) (AllReadyH.nil))
          refine step_grow2 wn20 rfl (.tmp 105) (.tmp 107) 23 rfl 32 iPair _ 2 32 Try.underlying23 hiPair hzPair h1Pair h2Pair rfl (by decide) rPair_ok wq.heap.size (NB20.out).size (.slice (some ⟨wq.heap.size, 0, none⟩) 0 0) [] rfl HG20.out st_A2 _ st_c2 rfl st.deposits rfl (sl_at (HSRC.out wn20 (.slice (some ⟨wq.heap.size, 0, none⟩) 0 0) NB20.out (fun b hb => (HG20.out.base_le b hb).1))) (by (try simp only [List.length_nil, List.length_append, List.length_singleton]); omega) (by decide) ?_
          intro v21 wn21 gz go n1
          change K (Act.put _ (some 108) v21) _
          have NB21 := Lib.hid (Below.grown NB20.out go (NB20.out).size fun b hb => (HG20.out.base_le b hb).1)
          have HG21 := Lib.hid (show Grow 32 2 rPair (fun _ => False) wn21 wq.heap.size v21 st.deposits from gz)
          have HE21 := Lib.hid (blk_grown go HE20.out HNE20.out)
          have HNE21 := Lib.hid (own_other n1 (blk_lt HE20.out) HNE20.out)
          clear gz go n1
          clear hHeld
          refine hK.out _ _ (HS.out _ NB21.out) (fun hHeld => ?_)
          clear hK K
          refine wpAnyH_ready (rs := [7]) (by kernel_rfl) (by simp) ?_
          refine AllReadyH.cons rfl (fun K hK => ?_) (AllReadyH.nil)
          obtain ⟨wn22, hwa, cwa, fwa, Bwa, qwa⟩ := boxed wn21 #[.string p.frm, .string p.to] 32
          have NB22 := Lib.hid (show Below wq.heap.size wq wn22 from bel_call NB21.out Bwa)
          have HC22 := Lib.hid (show wn22.heap[wn21.heap.size]? = some (.cells #[.string p.frm, .string p.to] 32 (0, 0)) by rw [← hwa]; exact blk_alloc_new _ rfl)
          have HNC22 := Lib.hid (show (v21 : Value).ownBlock ≠ some wn21.heap.size from fun h => by
            have h1 := (HG21.out.base_le _ h).2
            have h2 : wn21.heap.size = wn21.heap.size := rfl
            omega)
          have HG22 := Lib.hid (HG21.out.below rPair_ok Bwa)
          have HE22 := Lib.hid ((Bwa.block _ (blk_lt HE21.out)).trans HE21.out)
          go_simp
          clear hHeld
          refine hK.out _ _ (HS.out _ NB22.out) (fun hHeld => ?_)
          clear hK K
          clear hwa cwa fwa Bwa qwa
          refine wpAnyH_ready (rs := [8]) (by kernel_rfl) (by simp) ?_
          refine AllReadyH.cons rfl (fun K hK => ?_) (AllReadyH.nil)
          have HROW := Lib.hid (show SlAt 2 rPair (Free (fun _ => False) wn22 v21) wn22 (some ⟨wn21.heap.size, 0, none⟩) [p] from SlAt_one [.string p.frm, .string p.to] ⟨blk_lt HC22.out, fun h => h, HNC22.out⟩ rfl (fun j y hj => by rw [Nat.zero_add]; exact (blk_cells HC22.out).1 j y (by simpa using hj)) ⟨rfl, HP.out.1, HP.out.2⟩)
          refine step_grow2 wn22 rfl (.tmp 108) (.tmp 110) 23 rfl 32 iPair _ 2 32 Try.underlying23 hiPair hzPair h1Pair h2Pair rfl (by decide) rPair_ok wq.heap.size (NB22.out).size v21 st.deposits rfl HG22.out (some ⟨wn21.heap.size, 0, none⟩) 1 1 rfl [p] rfl (HROW.out) (by (try simp only [List.length_nil, List.length_append, List.length_singleton]); omega) (by decide) ?_
          intro v23 wn23 gz go n1
          change K (Act.put _ (some 111) v23) _
          have NB23 := Lib.hid (Below.grown NB22.out go (NB22.out).size fun b hb => (HG22.out.base_le b hb).1)
          have HG23 := Lib.hid (show Grow 32 2 rPair (fun _ => False) wn23 wq.heap.size v23 (st.deposits ++ [p]) from gz)
          obtain ⟨AD, nD, cD, hvD, hnD⟩ := HG23.out.shape'
          obtain rfl : nD = st.deposits.length + 1 := by rw [hnD]; simp
          subst hvD
          clear hnD
          have HC23 := Lib.hid (blk_grown go HC22.out HNC22.out)
          have HNC23 := Lib.hid (own_other n1 (blk_lt HC22.out) HNC22.out)
          have HE23 := Lib.hid (blk_grown go HE22.out HNE21.out)
          have HNE23 := Lib.hid (own_other n1 (blk_lt HE22.out) HNE21.out)
          clear gz go n1
          clear hHeld
          refine hK.out _ _ (HS.out _ NB23.out) (fun hHeld => ?_)
          clear hK K
          refine wpAnyH_take (i := 9) (oi := ?_) (v := ?_) ?_ (by kernel_rfl) (by kernel_rfl) (by kernel_rfl) ?_ (Or.inl ⟨?_, ?_⟩) hHeld ?_
          rotate_left 2
          · simp only [List.getElem?_toArray, List.getElem?_cons_succ, List.getElem?_cons_zero]; exact rfl
          · exact fun _ _ _ h => h
          · rfl
          · (intro W' hSw; (try dsimp only at hSw); go_simp; try with_reducible rfl)
          try simp only [Act.put, List.setIfInBounds_toArray, List.set_cons_zero, List.set_cons_succ]
          obtain ⟨wz, rfl⟩ : ∃ q : World, q = wn23 := ⟨_, rfl⟩
          have NBz := NB23
          have HGz := HG23
          clear NB23 HG23
          have HEz := HE23
          have HNz := HNE23
          obtain ⟨bE, hbE, HLz⟩ : ∃ b, wn1.heap.size = b ∧ Hid (wq.heap.size ≤ b) := ⟨_, rfl, Lib.hid NB1.out.size⟩
          rw [hbE] at HEz HNz ⊢
          clear hbE HE23 HNE23
          rotate_left
          obtain ⟨wn24, hwa, cwa, fwa, Bwa, qwa⟩ := boxed wn20 #[.string p.frm, .string p.to] 32
          have NB24 := Lib.hid (show Below wq.heap.size wq wn24 from bel_call NB20.out Bwa)
          have HC24 := Lib.hid (show wn24.heap[wn20.heap.size]? = some (.cells #[.string p.frm, .string p.to] 32 (0, 0)) by rw [← hwa]; exact blk_alloc_new _ rfl)
          have HNC24 := Lib.hid (show ((.slice (some ⟨wq.heap.size, 0, none⟩) 0 0) : Value).ownBlock ≠ some wn20.heap.size from fun h => by
            have h1 := (HG20.out.base_le _ h).2
            have h2 : wn20.heap.size = wn20.heap.size := rfl
            omega)
          have HG24 := Lib.hid (HG20.out.below rPair_ok Bwa)
          have HE24 := Lib.hid ((Bwa.block _ (blk_lt HE20.out)).trans HE20.out)
          go_simp
          clear hHeld
          refine hK.out _ _ (HS.out _ NB24.out) (fun hHeld => ?_)
          clear hK K
          clear hwa cwa fwa Bwa qwa
          refine wpAnyH_ready (rs := [5]) (by kernel_rfl) (by simp) ?_
          refine AllReadyH.cons rfl (fun K hK => ?_) (AllReadyH.nil)
          refine step_grow2 wn24 rfl (.tmp 105) (.tmp 107) 23 rfl 32 iPair _ 2 32 Try.underlying23 hiPair hzPair h1Pair h2Pair rfl (by decide) rPair_ok wq.heap.size (NB24.out).size (.slice (some ⟨wq.heap.size, 0, none⟩) 0 0) [] rfl HG24.out st_A2 _ st_c2 rfl st.deposits rfl (sl_at (HSRC.out wn24 (.slice (some ⟨wq.heap.size, 0, none⟩) 0 0) NB24.out (fun b hb => (HG24.out.base_le b hb).1))) (by (try simp only [List.length_nil, List.length_append, List.length_singleton]); omega) (by decide) ?_
          intro v25 wn25 gz go n1
          change K (Act.put _ (some 108) v25) _
          have NB25 := Lib.hid (Below.grown NB24.out go (NB24.out).size fun b hb => (HG24.out.base_le b hb).1)
          have HG25 := Lib.hid (show Grow 32 2 rPair (fun _ => False) wn25 wq.heap.size v25 st.deposits from gz)
          have HC25 := Lib.hid (blk_grown go HC24.out HNC24.out)
          have HNC25 := Lib.hid (own_other n1 (blk_lt HC24.out) HNC24.out)
          have HE25 := Lib.hid (blk_grown go HE24.out HNE20.out)
          have HNE25 := Lib.hid (own_other n1 (blk_lt HE24.out) HNE20.out)
          clear gz go n1
          clear hHeld
          refine hK.out _ _ (HS.out _ NB25.out) (fun hHeld => ?_)
          clear hK K
          refine wpAnyH_ready (rs := [8]) (by kernel_rfl) (by simp) ?_
          refine AllReadyH.cons rfl (fun K hK => ?_) (AllReadyH.nil)
          have HROW := Lib.hid (show SlAt 2 rPair (Free (fun _ => False) wn25 v25) wn25 (some ⟨wn20.heap.size, 0, none⟩) [p] from SlAt_one [.string p.frm, .string p.to] ⟨blk_lt HC25.out, fun h => h, HNC25.out⟩ rfl (fun j y hj => by rw [Nat.zero_add]; exact (blk_cells HC25.out).1 j y (by simpa using hj)) ⟨rfl, HP.out.1, HP.out.2⟩)
          refine step_grow2 wn25 rfl (.tmp 108) (.tmp 110) 23 rfl 32 iPair _ 2 32 Try.underlying23 hiPair hzPair h1Pair h2Pair rfl (by decide) rPair_ok wq.heap.size (NB25.out).size v25 st.deposits rfl HG25.out (some ⟨wn20.heap.size, 0, none⟩) 1 1 rfl [p] rfl (HROW.out) (by (try simp only [List.length_nil, List.length_append, List.length_singleton]); omega) (by decide) ?_
          intro v26 wn26 gz go n1
          change K (Act.put _ (some 111) v26) _
          have NB26 := Lib.hid (Below.grown NB25.out go (NB25.out).size fun b hb => (HG25.out.base_le b hb).1)
          have HG26 := Lib.hid (show Grow 32 2 rPair (fun _ => False) wn26 wq.heap.size v26 (st.deposits ++ [p]) from gz)
          obtain ⟨AD, nD, cD, hvD, hnD⟩ := HG26.out.shape'
          obtain rfl : nD = st.deposits.length + 1 := by rw [hnD]; simp
          subst hvD
          clear hnD
          have HC26 := Lib.hid (blk_grown go HC25.out HNC25.out)
          have HNC26 := Lib.hid (own_other n1 (blk_lt HC25.out) HNC25.out)
          have HE26 := Lib.hid (blk_grown go HE25.out HNE25.out)
          have HNE26 := Lib.hid (own_other n1 (blk_lt HE25.out) HNE25.out)
          clear gz go n1
          clear hHeld
          refine hK.out _ _ (HS.out _ NB26.out) (fun hHeld => ?_)
          clear hK K
          refine wpAnyH_take (i := 9) (oi := ?_) (v := ?_) ?_ (by kernel_rfl) (by kernel_rfl) (by kernel_rfl) ?_ (Or.inl ⟨?_, ?_⟩) hHeld ?_
          rotate_left 2
          · simp only [List.getElem?_toArray, List.getElem?_cons_succ, List.getElem?_cons_zero]; exact rfl
          · exact fun _ _ _ h => h
          · rfl
          · (intro W' hSw; (try dsimp only at hSw); go_simp; try with_reducible rfl)
          try simp only [Act.put, List.setIfInBounds_toArray, List.set_cons_zero, List.set_cons_succ]
          obtain ⟨wz, rfl⟩ : ∃ q : World, q = wn26 := ⟨_, rfl⟩
          have NBz := NB26
          have HGz := HG26
          clear NB26 HG26
          have HEz := HE26
          have HNz := HNE26
          obtain ⟨bE, hbE, HLz⟩ : ∃ b, wn1.heap.size = b ∧ Hid (wq.heap.size ≤ b) := ⟨_, rfl, Lib.hid NB1.out.size⟩
          rw [hbE] at HEz HNz ⊢
          clear hbE HE26 HNE26
          rotate_left
          obtain ⟨wn27, hwa, cwa, fwa, Bwa, qwa⟩ := boxed wq.drew #[.string p.frm, .string p.to] 32
          have NB27 := Lib.hid (show Below wq.heap.size wq wn27 from bel_call NB0.out Bwa)
          have HC27 := Lib.hid (show wn27.heap[wq.heap.size]? = some (.cells #[.string p.frm, .string p.to] 32 (0, 0)) by rw [← hwa]; exact blk_alloc_new _ rfl)
          go_simp
          clear hHeld
          refine hK.out _ _ (HS.out _ NB27.out) (fun hHeld => ?_)
          clear hK K
          clear hwa cwa fwa Bwa qwa
          refine wpAnyH_ready (rs := [2, 10]) (by kernel_rfl) (by simp) ?_
          refine AllReadyH.cons rfl (fun K hK => ?_) (AllReadyH.cons rfl (fun K hK => ?_) (AllReadyH.nil))
          obtain ⟨wn28, hwa, cwa, fwa, Bwa, qwa⟩ := boxed wn27 #[] 32
          have NB28 := Lib.hid (show Below wq.heap.size wq wn28 from bel_call NB27.out Bwa)
          have HG28 := Lib.hid (show Grow 32 2 rPair (fun _ => False) wn28 wq.heap.size (.slice (some ⟨wn27.heap.size, 0, none⟩) 0 0) [] from Grow.empty (show wn28.heap[wn27.heap.size]? = _ by rw [← hwa]; exact blk_alloc_new _ rfl) (show wq.heap.size ≤ wn27.heap.size from (NB27.out).size))
          have HNC28 := Lib.hid (show (Value.slice (some ⟨wn27.heap.size, 0, none⟩) 0 0).ownBlock ≠ some wq.heap.size from fun h => by
            have h1 := blk_lt HC27.out
            have h2 : wn27.heap.size = wq.heap.size := Option.some.inj h
            omega)
          have HC28 := Lib.hid ((Bwa.block _ (blk_lt HC27.out)).trans HC27.out)
          go_simp
          clear hHeld
          refine hK.out _ _ (HS.out _ NB28.out) (fun hHeld => ?_)
          clear hK K
          clear hwa cwa fwa Bwa qwa
          refine wpAnyH_ready (rs := [5, 10]) (by kernel_rfl) (by simp) ?_
          refine AllReadyH.cons rfl (fun K hK => ?_) (AllReadyH.cons rfl (fun K hK => ?_) (AllReadyH.nil))
          refine step_grow2 wn28 rfl (.tmp 105) (.tmp 107) 23 rfl 32 iPair _ 2 32 Try.underlying23 hiPair hzPair h1Pair h2Pair rfl (by decide) rPair_ok wq.heap.size (NB28.out).size (.slice (some ⟨wn27.heap.size, 0, none⟩) 0 0) [] rfl HG28.out st_A2 _ st_c2 rfl st.deposits rfl (sl_at (HSRC.out wn28 (.slice (some ⟨wn27.heap.size, 0, none⟩) 0 0) NB28.out (fun b hb => (HG28.out.base_le b hb).1))) (by (try simp only [List.length_nil, List.length_append, List.length_singleton]); omega) (by decide) ?_
          intro v29 wn29 gz go n1
          change K (Act.put _ (some 108) v29) _
          have NB29 := Lib.hid (Below.grown NB28.out go (NB28.out).size fun b hb => (HG28.out.base_le b hb).1)
          have HG29 := Lib.hid (show Grow 32 2 rPair (fun _ => False) wn29 wq.heap.size v29 st.deposits from gz)
          have HC29 := Lib.hid (blk_grown go HC28.out HNC28.out)
          have HNC29 := Lib.hid (own_other n1 (blk_lt HC28.out) HNC28.out)
          clear gz go n1
          clear hHeld
          refine hK.out _ _ (HS.out _ NB29.out) (fun hHeld => ?_)
          clear hK K
          refine wpAnyH_ready (rs := [8, 10]) (by kernel_rfl) (by simp) ?_
          refine AllReadyH.cons rfl (fun K hK => ?_) (AllReadyH.cons rfl (fun K hK => ?_) (AllReadyH.nil))
          have HROW := Lib.hid (show SlAt 2 rPair (Free (fun _ => False) wn29 v29) wn29 (some ⟨wq.heap.size, 0, none⟩) [p] from SlAt_one [.string p.frm, .string p.to] ⟨blk_lt HC29.out, fun h => h, HNC29.out⟩ rfl (fun j y hj => by rw [Nat.zero_add]; exact (blk_cells HC29.out).1 j y (by simpa using hj)) ⟨rfl, HP.out.1, HP.out.2⟩)
          refine step_grow2 wn29 rfl (.tmp 108) (.tmp 110) 23 rfl 32 iPair _ 2 32 Try.underlying23 hiPair hzPair h1Pair h2Pair rfl (by decide) rPair_ok wq.heap.size (NB29.out).size v29 st.deposits rfl HG29.out (some ⟨wq.heap.size, 0, none⟩) 1 1 rfl [p] rfl (HROW.out) (by (try simp only [List.length_nil, List.length_append, List.length_singleton]); omega) (by decide) ?_
          intro v30 wn30 gz go n1
          change K (Act.put _ (some 111) v30) _
          have NB30 := Lib.hid (Below.grown NB29.out go (NB29.out).size fun b hb => (HG29.out.base_le b hb).1)
          have HG30 := Lib.hid (show Grow 32 2 rPair (fun _ => False) wn30 wq.heap.size v30 (st.deposits ++ [p]) from gz)
          obtain ⟨AD, nD, cD, hvD, hnD⟩ := HG30.out.shape'
          obtain rfl : nD = st.deposits.length + 1 := by rw [hnD]; simp
          subst hvD
          clear hnD
          have HC30 := Lib.hid (blk_grown go HC29.out HNC29.out)
          have HNC30 := Lib.hid (own_other n1 (blk_lt HC29.out) HNC29.out)
          clear gz go n1
          clear hHeld
          refine hK.out _ _ (HS.out _ NB30.out) (fun hHeld => ?_)
          clear hK K
          refine wpAnyH_take (i := 9) (oi := ?_) (v := ?_) ?_ (by kernel_rfl) (by kernel_rfl) (by kernel_rfl) ?_ (Or.inl ⟨?_, ?_⟩) hHeld ?_
          rotate_left 2
          · simp only [List.getElem?_toArray, List.getElem?_cons_succ, List.getElem?_cons_zero]; exact rfl
          · exact fun _ _ _ h => h
          · rfl
          · (intro W' hSw; (try dsimp only at hSw); go_simp; try with_reducible rfl)
          try simp only [Act.put, List.setIfInBounds_toArray, List.set_cons_zero, List.set_cons_succ]
          refine wpAnyH_ready (rs := [10]) (by kernel_rfl) (by simp) ?_
          refine AllReadyH.cons rfl (fun K hK => ?_) (AllReadyH.nil)
          obtain ⟨wn31, hwa, cwa, fwa, Bwa, qwa⟩ := boxed wn30 #[.int .i64 0, .slice none 0 0, .slice none 0 0, .slice none 0 0] 26
          have NB31 := Lib.hid (show Below wq.heap.size wq wn31 from bel_call NB30.out Bwa)
          have HE31 := Lib.hid (show wn31.heap[wn30.heap.size]? = some (.cells #[.int .i64 0, .slice none 0 0, .slice none 0 0, .slice none 0 0] 26 (0, 0)) by rw [← hwa]; exact blk_alloc_new _ rfl)
          have HNE31 := Lib.hid (show ((.slice AD (st.deposits.length + 1) cD) : Value).ownBlock ≠ some wn30.heap.size from fun h => by
            have h1 := (HG30.out.base_le _ h).2
            have h2 : wn30.heap.size = wn30.heap.size := rfl
            omega)
          have HG31 := Lib.hid (HG30.out.below rPair_ok Bwa)
          have HC31 := Lib.hid ((Bwa.block _ (blk_lt HC30.out)).trans HC30.out)
          go_simp
          clear hHeld
          refine hK.out _ _ (HS.out _ NB31.out) (fun hHeld => ?_)
          clear hK K
          clear hwa cwa fwa Bwa qwa
          obtain ⟨wz, rfl⟩ : ∃ q : World, q = wn31 := ⟨_, rfl⟩
          have NBz := NB31
          have HGz := HG31
          clear NB31 HG31
          have HEz := HE31
          have HNz := HNE31
          obtain ⟨bE, hbE, HLz⟩ : ∃ b, wn30.heap.size = b ∧ Hid (wq.heap.size ≤ b) := ⟨_, rfl, Lib.hid NB30.out.size⟩
          rw [hbE] at HEz HNz ⊢
          clear hbE HE31 HNE31
          rotate_left
          obtain ⟨wn32, hwa, cwa, fwa, Bwa, qwa⟩ := boxed wn29 #[.int .i64 0, .slice none 0 0, .slice none 0 0, .slice none 0 0] 26
          have NB32 := Lib.hid (show Below wq.heap.size wq wn32 from bel_call NB29.out Bwa)
          have HE32 := Lib.hid (show wn32.heap[wn29.heap.size]? = some (.cells #[.int .i64 0, .slice none 0 0, .slice none 0 0, .slice none 0 0] 26 (0, 0)) by rw [← hwa]; exact blk_alloc_new _ rfl)
          have HNE32 := Lib.hid (show (v29 : Value).ownBlock ≠ some wn29.heap.size from fun h => by
            have h1 := (HG29.out.base_le _ h).2
            have h2 : wn29.heap.size = wn29.heap.size := rfl
            omega)
          have HG32 := Lib.hid (HG29.out.below rPair_ok Bwa)
          have HC32 := Lib.hid ((Bwa.block _ (blk_lt HC29.out)).trans HC29.out)
          go_simp
          clear hHeld
          refine hK.out _ _ (HS.out _ NB32.out) (fun hHeld => ?_)
          clear hK K
          clear hwa cwa fwa Bwa qwa
          refine wpAnyH_ready (rs := [8]) (by kernel_rfl) (by simp) ?_
          refine AllReadyH.cons rfl (fun K hK => ?_) (AllReadyH.nil)
          have HROW := Lib.hid (show SlAt 2 rPair (Free (fun _ => False) wn32 v29) wn32 (some ⟨wq.heap.size, 0, none⟩) [p] from SlAt_one [.string p.frm, .string p.to] ⟨blk_lt HC32.out, fun h => h, HNC29.out⟩ rfl (fun j y hj => by rw [Nat.zero_add]; exact (blk_cells HC32.out).1 j y (by simpa using hj)) ⟨rfl, HP.out.1, HP.out.2⟩)
          refine step_grow2 wn32 rfl (.tmp 108) (.tmp 110) 23 rfl 32 iPair _ 2 32 Try.underlying23 hiPair hzPair h1Pair h2Pair rfl (by decide) rPair_ok wq.heap.size (NB32.out).size v29 st.deposits rfl HG32.out (some ⟨wq.heap.size, 0, none⟩) 1 1 rfl [p] rfl (HROW.out) (by (try simp only [List.length_nil, List.length_append, List.length_singleton]); omega) (by decide) ?_
          intro v33 wn33 gz go n1
          change K (Act.put _ (some 111) v33) _
          have NB33 := Lib.hid (Below.grown NB32.out go (NB32.out).size fun b hb => (HG32.out.base_le b hb).1)
          have HG33 := Lib.hid (show Grow 32 2 rPair (fun _ => False) wn33 wq.heap.size v33 (st.deposits ++ [p]) from gz)
          obtain ⟨AD, nD, cD, hvD, hnD⟩ := HG33.out.shape'
          obtain rfl : nD = st.deposits.length + 1 := by rw [hnD]; simp
          subst hvD
          clear hnD
          have HC33 := Lib.hid (blk_grown go HC32.out HNC29.out)
          have HNC33 := Lib.hid (own_other n1 (blk_lt HC32.out) HNC29.out)
          have HE33 := Lib.hid (blk_grown go HE32.out HNE32.out)
          have HNE33 := Lib.hid (own_other n1 (blk_lt HE32.out) HNE32.out)
          clear gz go n1
          clear hHeld
          refine hK.out _ _ (HS.out _ NB33.out) (fun hHeld => ?_)
          clear hK K
          refine wpAnyH_take (i := 9) (oi := ?_) (v := ?_) ?_ (by kernel_rfl) (by kernel_rfl) (by kernel_rfl) ?_ (Or.inl ⟨?_, ?_⟩) hHeld ?_
          rotate_left 2
          · simp only [List.getElem?_toArray, List.getElem?_cons_succ, List.getElem?_cons_zero]; exact rfl
          · exact fun _ _ _ h => h
          · rfl
          · (intro W' hSw; (try dsimp only at hSw); go_simp; try with_reducible rfl)
          try simp only [Act.put, List.setIfInBounds_toArray, List.set_cons_zero, List.set_cons_succ]
          obtain ⟨wz, rfl⟩ : ∃ q : World, q = wn33 := ⟨_, rfl⟩
          have NBz := NB33
          have HGz := HG33
          clear NB33 HG33
          have HEz := HE33
          have HNz := HNE33
          obtain ⟨bE, hbE, HLz⟩ : ∃ b, wn29.heap.size = b ∧ Hid (wq.heap.size ≤ b) := ⟨_, rfl, Lib.hid NB29.out.size⟩
          rw [hbE] at HEz HNz ⊢
          clear hbE HE33 HNE33
          rotate_left
          obtain ⟨wn34, hwa, cwa, fwa, Bwa, qwa⟩ := boxed wn28 #[.int .i64 0, .slice none 0 0, .slice none 0 0, .slice none 0 0] 26
          have NB34 := Lib.hid (show Below wq.heap.size wq wn34 from bel_call NB28.out Bwa)
          have HE34 := Lib.hid (show wn34.heap[wn28.heap.size]? = some (.cells #[.int .i64 0, .slice none 0 0, .slice none 0 0, .slice none 0 0] 26 (0, 0)) by rw [← hwa]; exact blk_alloc_new _ rfl)
          have HNE34 := Lib.hid (show ((.slice (some ⟨wn27.heap.size, 0, none⟩) 0 0) : Value).ownBlock ≠ some wn28.heap.size from fun h => by
            have h1 := (HG28.out.base_le _ h).2
            have h2 : wn28.heap.size = wn28.heap.size := rfl
            omega)
          have HG34 := Lib.hid (HG28.out.below rPair_ok Bwa)
          have HC34 := Lib.hid ((Bwa.block _ (blk_lt HC28.out)).trans HC28.out)
          go_simp
          clear hHeld
          refine hK.out _ _ (HS.out _ NB34.out) (fun hHeld => ?_)
          clear hK K
          clear hwa cwa fwa Bwa qwa
          refine wpAnyH_ready (rs := [5]) (by kernel_rfl) (by simp) ?_
          refine AllReadyH.cons rfl (fun K hK => ?_) (AllReadyH.nil)
          refine step_grow2 wn34 rfl (.tmp 105) (.tmp 107) 23 rfl 32 iPair _ 2 32 Try.underlying23 hiPair hzPair h1Pair h2Pair rfl (by decide) rPair_ok wq.heap.size (NB34.out).size (.slice (some ⟨wn27.heap.size, 0, none⟩) 0 0) [] rfl HG34.out st_A2 _ st_c2 rfl st.deposits rfl (sl_at (HSRC.out wn34 (.slice (some ⟨wn27.heap.size, 0, none⟩) 0 0) NB34.out (fun b hb => (HG34.out.base_le b hb).1))) (by (try simp only [List.length_nil, List.length_append, List.length_singleton]); omega) (by decide) ?_
          intro v35 wn35 gz go n1
          change K (Act.put _ (some 108) v35) _
          have NB35 := Lib.hid (Below.grown NB34.out go (NB34.out).size fun b hb => (HG34.out.base_le b hb).1)
          have HG35 := Lib.hid (show Grow 32 2 rPair (fun _ => False) wn35 wq.heap.size v35 st.deposits from gz)
          have HC35 := Lib.hid (blk_grown go HC34.out HNC28.out)
          have HNC35 := Lib.hid (own_other n1 (blk_lt HC34.out) HNC28.out)
          have HE35 := Lib.hid (blk_grown go HE34.out HNE34.out)
          have HNE35 := Lib.hid (own_other n1 (blk_lt HE34.out) HNE34.out)
          clear gz go n1
          clear hHeld
          refine hK.out _ _ (HS.out _ NB35.out) (fun hHeld => ?_)
          clear hK K
          refine wpAnyH_ready (rs := [8]) (by kernel_rfl) (by simp) ?_
          refine AllReadyH.cons rfl (fun K hK => ?_) (AllReadyH.nil)
          have HROW := Lib.hid (show SlAt 2 rPair (Free (fun _ => False) wn35 v35) wn35 (some ⟨wq.heap.size, 0, none⟩) [p] from SlAt_one [.string p.frm, .string p.to] ⟨blk_lt HC35.out, fun h => h, HNC35.out⟩ rfl (fun j y hj => by rw [Nat.zero_add]; exact (blk_cells HC35.out).1 j y (by simpa using hj)) ⟨rfl, HP.out.1, HP.out.2⟩)
          refine step_grow2 wn35 rfl (.tmp 108) (.tmp 110) 23 rfl 32 iPair _ 2 32 Try.underlying23 hiPair hzPair h1Pair h2Pair rfl (by decide) rPair_ok wq.heap.size (NB35.out).size v35 st.deposits rfl HG35.out (some ⟨wq.heap.size, 0, none⟩) 1 1 rfl [p] rfl (HROW.out) (by (try simp only [List.length_nil, List.length_append, List.length_singleton]); omega) (by decide) ?_
          intro v36 wn36 gz go n1
          change K (Act.put _ (some 111) v36) _
          have NB36 := Lib.hid (Below.grown NB35.out go (NB35.out).size fun b hb => (HG35.out.base_le b hb).1)
          have HG36 := Lib.hid (show Grow 32 2 rPair (fun _ => False) wn36 wq.heap.size v36 (st.deposits ++ [p]) from gz)
          obtain ⟨AD, nD, cD, hvD, hnD⟩ := HG36.out.shape'
          obtain rfl : nD = st.deposits.length + 1 := by rw [hnD]; simp
          subst hvD
          clear hnD
          have HC36 := Lib.hid (blk_grown go HC35.out HNC35.out)
          have HNC36 := Lib.hid (own_other n1 (blk_lt HC35.out) HNC35.out)
          have HE36 := Lib.hid (blk_grown go HE35.out HNE35.out)
          have HNE36 := Lib.hid (own_other n1 (blk_lt HE35.out) HNE35.out)
          clear gz go n1
          clear hHeld
          refine hK.out _ _ (HS.out _ NB36.out) (fun hHeld => ?_)
          clear hK K
          refine wpAnyH_take (i := 9) (oi := ?_) (v := ?_) ?_ (by kernel_rfl) (by kernel_rfl) (by kernel_rfl) ?_ (Or.inl ⟨?_, ?_⟩) hHeld ?_
          rotate_left 2
          · simp only [List.getElem?_toArray, List.getElem?_cons_succ, List.getElem?_cons_zero]; exact rfl
          · exact fun _ _ _ h => h
          · rfl
          · (intro W' hSw; (try dsimp only at hSw); go_simp; try with_reducible rfl)
          try simp only [Act.put, List.setIfInBounds_toArray, List.set_cons_zero, List.set_cons_succ]
          obtain ⟨wz, rfl⟩ : ∃ q : World, q = wn36 := ⟨_, rfl⟩
          have NBz := NB36
          have HGz := HG36
          clear NB36 HG36
          have HEz := HE36
          have HNz := HNE36
          obtain ⟨bE, hbE, HLz⟩ : ∃ b, wn28.heap.size = b ∧ Hid (wq.heap.size ≤ b) := ⟨_, rfl, Lib.hid NB28.out.size⟩
          rw [hbE] at HEz HNz ⊢
          clear hbE HE36 HNE36
          rotate_left
          obtain ⟨wn37, hwa, cwa, fwa, Bwa, qwa⟩ := boxed wn27 #[.int .i64 0, .slice none 0 0, .slice none 0 0, .slice none 0 0] 26
          have NB37 := Lib.hid (show Below wq.heap.size wq wn37 from bel_call NB27.out Bwa)
          have HE37 := Lib.hid (show wn37.heap[wn27.heap.size]? = some (.cells #[.int .i64 0, .slice none 0 0, .slice none 0 0, .slice none 0 0] 26 (0, 0)) by rw [← hwa]; exact blk_alloc_new _ rfl)
          have HC37 := Lib.hid ((Bwa.block _ (blk_lt HC27.out)).trans HC27.out)
          go_simp
          clear hHeld
          refine hK.out _ _ (HS.out _ NB37.out) (fun hHeld => ?_)
          clear hK K
          clear hwa cwa fwa Bwa qwa
          refine wpAnyH_ready (rs := [2]) (by kernel_rfl) (by simp) ?_
          refine AllReadyH.cons rfl (fun K hK => ?_) (AllReadyH.nil)
          obtain ⟨wn38, hwa, cwa, fwa, Bwa, qwa⟩ := boxed wn37 #[] 32
          have NB38 := Lib.hid (show Below wq.heap.size wq wn38 from bel_call NB37.out Bwa)
          have HG38 := Lib.hid (show Grow 32 2 rPair (fun _ => False) wn38 wq.heap.size (.slice (some ⟨wn37.heap.size, 0, none⟩) 0 0) [] from Grow.empty (show wn38.heap[wn37.heap.size]? = _ by rw [← hwa]; exact blk_alloc_new _ rfl) (show wq.heap.size ≤ wn37.heap.size from (NB37.out).size))
          have HNC38 := Lib.hid (show (Value.slice (some ⟨wn37.heap.size, 0, none⟩) 0 0).ownBlock ≠ some wq.heap.size from fun h => by
            have h1 := blk_lt HC37.out
            have h2 : wn37.heap.size = wq.heap.size := Option.some.inj h
            omega)
          have HNE38 := Lib.hid (show (Value.slice (some ⟨wn37.heap.size, 0, none⟩) 0 0).ownBlock ≠ some wn27.heap.size from fun h => by
            have h1 := blk_lt HE37.out
            have h2 : wn37.heap.size = wn27.heap.size := Option.some.inj h
            omega)
          have HC38 := Lib.hid ((Bwa.block _ (blk_lt HC37.out)).trans HC37.out)
          have HE38 := Lib.hid ((Bwa.block _ (blk_lt HE37.out)).trans HE37.out)
          go_simp
          clear hHeld
          refine hK.out _ _ (HS.out _ NB38.out) (fun hHeld => ?_)
          clear hK K
          clear hwa cwa fwa Bwa qwa
          refine wpAnyH_ready (rs := [5]) (by kernel_rfl) (by simp) ?_
          refine AllReadyH.cons rfl (fun K hK => ?_) (AllReadyH.nil)
          refine step_grow2 wn38 rfl (.tmp 105) (.tmp 107) 23 rfl 32 iPair _ 2 32 Try.underlying23 hiPair hzPair h1Pair h2Pair rfl (by decide) rPair_ok wq.heap.size (NB38.out).size (.slice (some ⟨wn37.heap.size, 0, none⟩) 0 0) [] rfl HG38.out st_A2 _ st_c2 rfl st.deposits rfl (sl_at (HSRC.out wn38 (.slice (some ⟨wn37.heap.size, 0, none⟩) 0 0) NB38.out (fun b hb => (HG38.out.base_le b hb).1))) (by (try simp only [List.length_nil, List.length_append, List.length_singleton]); omega) (by decide) ?_
          intro v39 wn39 gz go n1
          change K (Act.put _ (some 108) v39) _
          have NB39 := Lib.hid (Below.grown NB38.out go (NB38.out).size fun b hb => (HG38.out.base_le b hb).1)
          have HG39 := Lib.hid (show Grow 32 2 rPair (fun _ => False) wn39 wq.heap.size v39 st.deposits from gz)
          have HC39 := Lib.hid (blk_grown go HC38.out HNC38.out)
          have HNC39 := Lib.hid (own_other n1 (blk_lt HC38.out) HNC38.out)
          have HE39 := Lib.hid (blk_grown go HE38.out HNE38.out)
          have HNE39 := Lib.hid (own_other n1 (blk_lt HE38.out) HNE38.out)
          clear gz go n1
          clear hHeld
          refine hK.out _ _ (HS.out _ NB39.out) (fun hHeld => ?_)
          clear hK K
          refine wpAnyH_ready (rs := [8]) (by kernel_rfl) (by simp) ?_
          refine AllReadyH.cons rfl (fun K hK => ?_) (AllReadyH.nil)
          have HROW := Lib.hid (show SlAt 2 rPair (Free (fun _ => False) wn39 v39) wn39 (some ⟨wq.heap.size, 0, none⟩) [p] from SlAt_one [.string p.frm, .string p.to] ⟨blk_lt HC39.out, fun h => h, HNC39.out⟩ rfl (fun j y hj => by rw [Nat.zero_add]; exact (blk_cells HC39.out).1 j y (by simpa using hj)) ⟨rfl, HP.out.1, HP.out.2⟩)
          refine step_grow2 wn39 rfl (.tmp 108) (.tmp 110) 23 rfl 32 iPair _ 2 32 Try.underlying23 hiPair hzPair h1Pair h2Pair rfl (by decide) rPair_ok wq.heap.size (NB39.out).size v39 st.deposits rfl HG39.out (some ⟨wq.heap.size, 0, none⟩) 1 1 rfl [p] rfl (HROW.out) (by (try simp only [List.length_nil, List.length_append, List.length_singleton]); omega) (by decide) ?_
          intro v40 wn40 gz go n1
          change K (Act.put _ (some 111) v40) _
          have NB40 := Lib.hid (Below.grown NB39.out go (NB39.out).size fun b hb => (HG39.out.base_le b hb).1)
          have HG40 := Lib.hid (show Grow 32 2 rPair (fun _ => False) wn40 wq.heap.size v40 (st.deposits ++ [p]) from gz)
          obtain ⟨AD, nD, cD, hvD, hnD⟩ := HG40.out.shape'
          obtain rfl : nD = st.deposits.length + 1 := by rw [hnD]; simp
          subst hvD
          clear hnD
          have HC40 := Lib.hid (blk_grown go HC39.out HNC39.out)
          have HNC40 := Lib.hid (own_other n1 (blk_lt HC39.out) HNC39.out)
          have HE40 := Lib.hid (blk_grown go HE39.out HNE39.out)
          have HNE40 := Lib.hid (own_other n1 (blk_lt HE39.out) HNE39.out)
          clear gz go n1
          clear hHeld
          refine hK.out _ _ (HS.out _ NB40.out) (fun hHeld => ?_)
          clear hK K
          refine wpAnyH_take (i := 9) (oi := ?_) (v := ?_) ?_ (by kernel_rfl) (by kernel_rfl) (by kernel_rfl) ?_ (Or.inl ⟨?_, ?_⟩) hHeld ?_
          rotate_left 2
          · simp only [List.getElem?_toArray, List.getElem?_cons_succ, List.getElem?_cons_zero]; exact rfl
          · exact fun _ _ _ h => h
          · rfl
          · (intro W' hSw; (try dsimp only at hSw); go_simp; try with_reducible rfl)
          try simp only [Act.put, List.setIfInBounds_toArray, List.set_cons_zero, List.set_cons_succ]
          obtain ⟨wz, rfl⟩ : ∃ q : World, q = wn40 := ⟨_, rfl⟩
          have NBz := NB40
          have HGz := HG40
          clear NB40 HG40
          have HEz := HE40
          have HNz := HNE40
          obtain ⟨bE, hbE, HLz⟩ : ∃ b, wn27.heap.size = b ∧ Hid (wq.heap.size ≤ b) := ⟨_, rfl, Lib.hid NB27.out.size⟩
          rw [hbE] at HEz HNz ⊢
          clear hbE HE40 HNE40
          rotate_left
          obtain ⟨wn41, hwa, cwa, fwa, Bwa, qwa⟩ := boxed wq.drew #[.int .i64 0, .slice none 0 0, .slice none 0 0, .slice none 0 0] 26
          have NB41 := Lib.hid (show Below wq.heap.size wq wn41 from bel_call NB0.out Bwa)
          have HE41 := Lib.hid (show wn41.heap[wq.heap.size]? = some (.cells #[.int .i64 0, .slice none 0 0, .slice none 0 0, .slice none 0 0] 26 (0, 0)) by rw [← hwa]; exact blk_alloc_new _ rfl)
          go_simp
          clear hHeld
          refine hK.out _ _ (HS.out _ NB41.out) (fun hHeld => ?_)
          clear hK K
          clear hwa cwa fwa Bwa qwa
          refine wpAnyH_ready (rs := [2, 7]) (by kernel_rfl) (by simp) ?_
          refine AllReadyH.cons rfl (fun K hK => ?_) (AllReadyH.cons rfl (fun K hK => ?_) (AllReadyH.nil))
          obtain ⟨wn42, hwa, cwa, fwa, Bwa, qwa⟩ := boxed wn41 #[] 32
          have NB42 := Lib.hid (show Below wq.heap.size wq wn42 from bel_call NB41.out Bwa)
          have HG42 := Lib.hid (show Grow 32 2 rPair (fun _ => False) wn42 wq.heap.size (.slice (some ⟨wn41.heap.size, 0, none⟩) 0 0) [] from Grow.empty (show wn42.heap[wn41.heap.size]? = _ by rw [← hwa]; exact blk_alloc_new _ rfl) (show wq.heap.size ≤ wn41.heap.size from (NB41.out).size))
          have HNE42 := Lib.hid (show (Value.slice (some ⟨wn41.heap.size, 0, none⟩) 0 0).ownBlock ≠ some wq.heap.size from fun h => by
            have h1 := blk_lt HE41.out
            have h2 : wn41.heap.size = wq.heap.size := Option.some.inj h
            omega)
          have HE42 := Lib.hid ((Bwa.block _ (blk_lt HE41.out)).trans HE41.out)
          go_simp
          clear hHeld
          refine hK.out _ _ (HS.out _ NB42.out) (fun hHeld => ?_)
          clear hK K
          clear hwa cwa fwa Bwa qwa
          refine wpAnyH_ready (rs := [5, 7]) (by kernel_rfl) (by simp) ?_
          refine AllReadyH.cons rfl (fun K hK => ?_) (AllReadyH.cons rfl (fun K hK => ?_) (AllReadyH.nil))
          refine step_grow2 wn42 rfl (.tmp 105) (.tmp 107) 23 rfl 32 iPair _ 2 32 Try.underlying23 hiPair hzPair h1Pair h2Pair rfl (by decide) rPair_ok wq.heap.size (NB42.out).size (.slice (some ⟨wn41.heap.size, 0, none⟩) 0 0) [] rfl HG42.out st_A2 _ st_c2 rfl st.deposits rfl (sl_at (HSRC.out wn42 (.slice (some ⟨wn41.heap.size, 0, none⟩) 0 0) NB42.out (fun b hb => (HG42.out.base_le b hb).1))) (by (try simp only [List.length_nil, List.length_append, List.length_singleton]); omega) (by decide) ?_
          intro v43 wn43 gz go n1
          change K (Act.put _ (some 108) v43) _
          have NB43 := Lib.hid (Below.grown NB42.out go (NB42.out).size fun b hb => (HG42.out.base_le b hb).1)
          have HG43 := Lib.hid (show Grow 32 2 rPair (fun _ => False) wn43 wq.heap.size v43 st.deposits from gz)
          have HE43 := Lib.hid (blk_grown go HE42.out HNE42.out)
          have HNE43 := Lib.hid (own_other n1 (blk_lt HE42.out) HNE42.out)
          clear gz go n1
          clear hHeld
          refine hK.out _ _ (HS.out _ NB43.out) (fun hHeld => ?_)
          clear hK K
          refine wpAnyH_ready (rs := [7]) (by kernel_rfl) (by simp) ?_
          refine AllReadyH.cons rfl (fun K hK => ?_) (AllReadyH.nil)
          obtain ⟨wn44, hwa, cwa, fwa, Bwa, qwa⟩ := boxed wn43 #[.string p.frm, .string p.to] 32
          have NB44 := Lib.hid (show Below wq.heap.size wq wn44 from bel_call NB43.out Bwa)
          have HC44 := Lib.hid (show wn44.heap[wn43.heap.size]? = some (.cells #[.string p.frm, .string p.to] 32 (0, 0)) by rw [← hwa]; exact blk_alloc_new _ rfl)
          have HNC44 := Lib.hid (show (v43 : Value).ownBlock ≠ some wn43.heap.size from fun h => by
            have h1 := (HG43.out.base_le _ h).2
            have h2 : wn43.heap.size = wn43.heap.size := rfl
            omega)
          have HG44 := Lib.hid (HG43.out.below rPair_ok Bwa)
          have HE44 := Lib.hid ((Bwa.block _ (blk_lt HE43.out)).trans HE43.out)
          go_simp
          clear hHeld
          refine hK.out _ _ (HS.out _ NB44.out) (fun hHeld => ?_)
          clear hK K
          clear hwa cwa fwa Bwa qwa
          refine wpAnyH_ready (rs := [8]) (by kernel_rfl) (by simp) ?_
          refine AllReadyH.cons rfl (fun K hK => ?_) (AllReadyH.nil)
          have HROW := Lib.hid (show SlAt 2 rPair (Free (fun _ => False) wn44 v43) wn44 (some ⟨wn43.heap.size, 0, none⟩) [p] from SlAt_one [.string p.frm, .string p.to] ⟨blk_lt HC44.out, fun h => h, HNC44.out⟩ rfl (fun j y hj => by rw [Nat.zero_add]; exact (blk_cells HC44.out).1 j y (by simpa using hj)) ⟨rfl, HP.out.1, HP.out.2⟩)
          refine step_grow2 wn44 rfl (.tmp 108) (.tmp 110) 23 rfl 32 iPair _ 2 32 Try.underlying23 hiPair hzPair h1Pair h2Pair rfl (by decide) rPair_ok wq.heap.size (NB44.out).size v43 st.deposits rfl HG44.out (some ⟨wn43.heap.size, 0, none⟩) 1 1 rfl [p] rfl (HROW.out) (by (try simp only [List.length_nil, List.length_append, List.length_singleton]); omega) (by decide) ?_
          intro v45 wn45 gz go n1
          change K (Act.put _ (some 111) v45) _
          have NB45 := Lib.hid (Below.grown NB44.out go (NB44.out).size fun b hb => (HG44.out.base_le b hb).1)
          have HG45 := Lib.hid (show Grow 32 2 rPair (fun _ => False) wn45 wq.heap.size v45 (st.deposits ++ [p]) from gz)
          obtain ⟨AD, nD, cD, hvD, hnD⟩ := HG45.out.shape'
          obtain rfl : nD = st.deposits.length + 1 := by rw [hnD]; simp
          subst hvD
          clear hnD
          have HC45 := Lib.hid (blk_grown go HC44.out HNC44.out)
          have HNC45 := Lib.hid (own_other n1 (blk_lt HC44.out) HNC44.out)
          have HE45 := Lib.hid (blk_grown go HE44.out HNE43.out)
          have HNE45 := Lib.hid (own_other n1 (blk_lt HE44.out) HNE43.out)
          clear gz go n1
          clear hHeld
          refine hK.out _ _ (HS.out _ NB45.out) (fun hHeld => ?_)
          clear hK K
          refine wpAnyH_take (i := 9) (oi := ?_) (v := ?_) ?_ (by kernel_rfl) (by kernel_rfl) (by kernel_rfl) ?_ (Or.inl ⟨?_, ?_⟩) hHeld ?_
          rotate_left 2
          · simp only [List.getElem?_toArray, List.getElem?_cons_succ, List.getElem?_cons_zero]; exact rfl
          · exact fun _ _ _ h => h
          · rfl
          · (intro W' hSw; (try dsimp only at hSw); go_simp; try with_reducible rfl)
          try simp only [Act.put, List.setIfInBounds_toArray, List.set_cons_zero, List.set_cons_succ]
          obtain ⟨wz, rfl⟩ : ∃ q : World, q = wn45 := ⟨_, rfl⟩
          have NBz := NB45
          have HGz := HG45
          clear NB45 HG45
          have HEz := HE45
          have HNz := HNE45
          obtain ⟨bE, hbE, HLz⟩ : ∃ b, wq.heap.size = b ∧ Hid (wq.heap.size ≤ b) := ⟨_, rfl, Lib.hid (Nat.le_refl _)⟩
          rw [hbE] at HEz HNz ⊢
          clear hbE HE45 HNE45
          rotate_left
          obtain ⟨wn46, hwa, cwa, fwa, Bwa, qwa⟩ := boxed wn42 #[.string p.frm, .string p.to] 32
          have NB46 := Lib.hid (show Below wq.heap.size wq wn46 from bel_call NB42.out Bwa)
          have HC46 := Lib.hid (show wn46.heap[wn42.heap.size]? = some (.cells #[.string p.frm, .string p.to] 32 (0, 0)) by rw [← hwa]; exact blk_alloc_new _ rfl)
          have HNC46 := Lib.hid (show ((.slice (some ⟨wn41.heap.size, 0, none⟩) 0 0) : Value).ownBlock ≠ some wn42.heap.size from fun h => by
            have h1 := (HG42.out.base_le _ h).2
            have h2 : wn42.heap.size = wn42.heap.size := rfl
            omega)
          have HG46 := Lib.hid (HG42.out.below rPair_ok Bwa)
          have HE46 := Lib.hid ((Bwa.block _ (blk_lt HE42.out)).trans HE42.out)
          go_simp
          clear hHeld
          refine hK.out _ _ (HS.out _ NB46.out) (fun hHeld => ?_)
          clear hK K
          clear hwa cwa fwa Bwa qwa
          refine wpAnyH_ready (rs := [5]) (by kernel_rfl) (by simp) ?_
          refine AllReadyH.cons rfl (fun K hK => ?_) (AllReadyH.nil)
          refine step_grow2 wn46 rfl (.tmp 105) (.tmp 107) 23 rfl 32 iPair _ 2 32 Try.underlying23 hiPair hzPair h1Pair h2Pair rfl (by decide) rPair_ok wq.heap.size (NB46.out).size (.slice (some ⟨wn41.heap.size, 0, none⟩) 0 0) [] rfl HG46.out st_A2 _ st_c2 rfl st.deposits rfl (sl_at (HSRC.out wn46 (.slice (some ⟨wn41.heap.size, 0, none⟩) 0 0) NB46.out (fun b hb => (HG46.out.base_le b hb).1))) (by (try simp only [List.length_nil, List.length_append, List.length_singleton]); omega) (by decide) ?_
          intro v47 wn47 gz go n1
          change K (Act.put _ (some 108) v47) _
          have NB47 := Lib.hid (Below.grown NB46.out go (NB46.out).size fun b hb => (HG46.out.base_le b hb).1)
          have HG47 := Lib.hid (show Grow 32 2 rPair (fun _ => False) wn47 wq.heap.size v47 st.deposits from gz)
          have HC47 := Lib.hid (blk_grown go HC46.out HNC46.out)
          have HNC47 := Lib.hid (own_other n1 (blk_lt HC46.out) HNC46.out)
          have HE47 := Lib.hid (blk_grown go HE46.out HNE42.out)
          have HNE47 := Lib.hid (own_other n1 (blk_lt HE46.out) HNE42.out)
          clear gz go n1
          clear hHeld
          refine hK.out _ _ (HS.out _ NB47.out) (fun hHeld => ?_)
          clear hK K
          refine wpAnyH_ready (rs := [8]) (by kernel_rfl) (by simp) ?_
          refine AllReadyH.cons rfl (fun K hK => ?_) (AllReadyH.nil)
          have HROW := Lib.hid (show SlAt 2 rPair (Free (fun _ => False) wn47 v47) wn47 (some ⟨wn42.heap.size, 0, none⟩) [p] from SlAt_one [.string p.frm, .string p.to] ⟨blk_lt HC47.out, fun h => h, HNC47.out⟩ rfl (fun j y hj => by rw [Nat.zero_add]; exact (blk_cells HC47.out).1 j y (by simpa using hj)) ⟨rfl, HP.out.1, HP.out.2⟩)
          refine step_grow2 wn47 rfl (.tmp 108) (.tmp 110) 23 rfl 32 iPair _ 2 32 Try.underlying23 hiPair hzPair h1Pair h2Pair rfl (by decide) rPair_ok wq.heap.size (NB47.out).size v47 st.deposits rfl HG47.out (some ⟨wn42.heap.size, 0, none⟩) 1 1 rfl [p] rfl (HROW.out) (by (try simp only [List.length_nil, List.length_append, List.length_singleton]); omega) (by decide) ?_
          intro v48 wn48 gz go n1
          change K (Act.put _ (some 111) v48) _
          have NB48 := Lib.hid (Below.grown NB47.out go (NB47.out).size fun b hb => (HG47.out.base_le b hb).1)
          have HG48 := Lib.hid (show Grow 32 2 rPair (fun _ => False) wn48 wq.heap.size v48 (st.deposits ++ [p]) from gz)
          obtain ⟨AD, nD, cD, hvD, hnD⟩ := HG48.out.shape'
          obtain rfl : nD = st.deposits.length + 1 := by rw [hnD]; simp
          subst hvD
          clear hnD
          have HC48 := Lib.hid (blk_grown go HC47.out HNC47.out)
          have HNC48 := Lib.hid (own_other n1 (blk_lt HC47.out) HNC47.out)
          have HE48 := Lib.hid (blk_grown go HE47.out HNE47.out)
          have HNE48 := Lib.hid (own_other n1 (blk_lt HE47.out) HNE47.out)
          clear gz go n1
          clear hHeld
          refine hK.out _ _ (HS.out _ NB48.out) (fun hHeld => ?_)
          clear hK K
          refine wpAnyH_take (i := 9) (oi := ?_) (v := ?_) ?_ (by kernel_rfl) (by kernel_rfl) (by kernel_rfl) ?_ (Or.inl ⟨?_, ?_⟩) hHeld ?_
          rotate_left 2
          · simp only [List.getElem?_toArray, List.getElem?_cons_succ, List.getElem?_cons_zero]; exact rfl
          · exact fun _ _ _ h => h
          · rfl
          · (intro W' hSw; (try dsimp only at hSw); go_simp; try with_reducible rfl)
          try simp only [Act.put, List.setIfInBounds_toArray, List.set_cons_zero, List.set_cons_succ]
          obtain ⟨wz, rfl⟩ : ∃ q : World, q = wn48 := ⟨_, rfl⟩
          have NBz := NB48
          have HGz := HG48
          clear NB48 HG48
          have HEz := HE48
          have HNz := HNE48
          obtain ⟨bE, hbE, HLz⟩ : ∃ b, wq.heap.size = b ∧ Hid (wq.heap.size ≤ b) := ⟨_, rfl, Lib.hid (Nat.le_refl _)⟩
          rw [hbE] at HEz HNz ⊢
          clear hbE HE48 HNE48
          rotate_left
          obtain ⟨wn49, hwa, cwa, fwa, Bwa, qwa⟩ := boxed wn41 #[.string p.frm, .string p.to] 32
          have NB49 := Lib.hid (show Below wq.heap.size wq wn49 from bel_call NB41.out Bwa)
          have HC49 := Lib.hid (show wn49.heap[wn41.heap.size]? = some (.cells #[.string p.frm, .string p.to] 32 (0, 0)) by rw [← hwa]; exact blk_alloc_new _ rfl)
          have HE49 := Lib.hid ((Bwa.block _ (blk_lt HE41.out)).trans HE41.out)
          go_simp
          clear hHeld
          refine hK.out _ _ (HS.out _ NB49.out) (fun hHeld => ?_)
          clear hK K
          clear hwa cwa fwa Bwa qwa
          refine wpAnyH_ready (rs := [2]) (by kernel_rfl) (by simp) ?_
          refine AllReadyH.cons rfl (fun K hK => ?_) (AllReadyH.nil)
          obtain ⟨wn50, hwa, cwa, fwa, Bwa, qwa⟩ := boxed wn49 #[] 32
          have NB50 := Lib.hid (show Below wq.heap.size wq wn50 from bel_call NB49.out Bwa)
          have HG50 := Lib.hid (show Grow 32 2 rPair (fun _ => False) wn50 wq.heap.size (.slice (some ⟨wn49.heap.size, 0, none⟩) 0 0) [] from Grow.empty (show wn50.heap[wn49.heap.size]? = _ by rw [← hwa]; exact blk_alloc_new _ rfl) (show wq.heap.size ≤ wn49.heap.size from (NB49.out).size))
          have HNC50 := Lib.hid (show (Value.slice (some ⟨wn49.heap.size, 0, none⟩) 0 0).ownBlock ≠ some wn41.heap.size from fun h => by
            have h1 := blk_lt HC49.out
            have h2 : wn49.heap.size = wn41.heap.size := Option.some.inj h
            omega)
          have HNE50 := Lib.hid (show (Value.slice (some ⟨wn49.heap.size, 0, none⟩) 0 0).ownBlock ≠ some wq.heap.size from fun h => by
            have h1 := blk_lt HE49.out
            have h2 : wn49.heap.size = wq.heap.size := Option.some.inj h
            omega)
          have HC50 := Lib.hid ((Bwa.block _ (blk_lt HC49.out)).trans HC49.out)
          have HE50 := Lib.hid ((Bwa.block _ (blk_lt HE49.out)).trans HE49.out)
          go_simp
          clear hHeld
          refine hK.out _ _ (HS.out _ NB50.out) (fun hHeld => ?_)
          clear hK K
          clear hwa cwa fwa Bwa qwa
          refine wpAnyH_ready (rs := [5]) (by kernel_rfl) (by simp) ?_
          refine AllReadyH.cons rfl (fun K hK => ?_) (AllReadyH.nil)
          refine step_grow2 wn50 rfl (.tmp 105) (.tmp 107) 23 rfl 32 iPair _ 2 32 Try.underlying23 hiPair hzPair h1Pair h2Pair rfl (by decide) rPair_ok wq.heap.size (NB50.out).size (.slice (some ⟨wn49.heap.size, 0, none⟩) 0 0) [] rfl HG50.out st_A2 _ st_c2 rfl st.deposits rfl (sl_at (HSRC.out wn50 (.slice (some ⟨wn49.heap.size, 0, none⟩) 0 0) NB50.out (fun b hb => (HG50.out.base_le b hb).1))) (by (try simp only [List.length_nil, List.length_append, List.length_singleton]); omega) (by decide) ?_
          intro v51 wn51 gz go n1
          change K (Act.put _ (some 108) v51) _
          have NB51 := Lib.hid (Below.grown NB50.out go (NB50.out).size fun b hb => (HG50.out.base_le b hb).1)
          have HG51 := Lib.hid (show Grow 32 2 rPair (fun _ => False) wn51 wq.heap.size v51 st.deposits from gz)
          have HC51 := Lib.hid (blk_grown go HC50.out HNC50.out)
          have HNC51 := Lib.hid (own_other n1 (blk_lt HC50.out) HNC50.out)
          have HE51 := Lib.hid (blk_grown go HE50.out HNE50.out)
          have HNE51 := Lib.hid (own_other n1 (blk_lt HE50.out) HNE50.out)
          clear gz go n1
          clear hHeld
          refine hK.out _ _ (HS.out _ NB51.out) (fun hHeld => ?_)
          clear hK K
          refine wpAnyH_ready (rs := [8]) (by kernel_rfl) (by simp) ?_
          refine AllReadyH.cons rfl (fun K hK => ?_) (AllReadyH.nil)
          have HROW := Lib.hid (show SlAt 2 rPair (Free (fun _ => False) wn51 v51) wn51 (some ⟨wn41.heap.size, 0, none⟩) [p] from SlAt_one [.string p.frm, .string p.to] ⟨blk_lt HC51.out, fun h => h, HNC51.out⟩ rfl (fun j y hj => by rw [Nat.zero_add]; exact (blk_cells HC51.out).1 j y (by simpa using hj)) ⟨rfl, HP.out.1, HP.out.2⟩)
          refine step_grow2 wn51 rfl (.tmp 108) (.tmp 110) 23 rfl 32 iPair _ 2 32 Try.underlying23 hiPair hzPair h1Pair h2Pair rfl (by decide) rPair_ok wq.heap.size (NB51.out).size v51 st.deposits rfl HG51.out (some ⟨wn41.heap.size, 0, none⟩) 1 1 rfl [p] rfl (HROW.out) (by (try simp only [List.length_nil, List.length_append, List.length_singleton]); omega) (by decide) ?_
          intro v52 wn52 gz go n1
          change K (Act.put _ (some 111) v52) _
          have NB52 := Lib.hid (Below.grown NB51.out go (NB51.out).size fun b hb => (HG51.out.base_le b hb).1)
          have HG52 := Lib.hid (show Grow 32 2 rPair (fun _ => False) wn52 wq.heap.size v52 (st.deposits ++ [p]) from gz)
          obtain ⟨AD, nD, cD, hvD, hnD⟩ := HG52.out.shape'
          obtain rfl : nD = st.deposits.length + 1 := by rw [hnD]; simp
          subst hvD
          clear hnD
          have HC52 := Lib.hid (blk_grown go HC51.out HNC51.out)
          have HNC52 := Lib.hid (own_other n1 (blk_lt HC51.out) HNC51.out)
          have HE52 := Lib.hid (blk_grown go HE51.out HNE51.out)
          have HNE52 := Lib.hid (own_other n1 (blk_lt HE51.out) HNE51.out)
          clear gz go n1
          clear hHeld
          refine hK.out _ _ (HS.out _ NB52.out) (fun hHeld => ?_)
          clear hK K
          refine wpAnyH_take (i := 9) (oi := ?_) (v := ?_) ?_ (by kernel_rfl) (by kernel_rfl) (by kernel_rfl) ?_ (Or.inl ⟨?_, ?_⟩) hHeld ?_
          rotate_left 2
          · simp only [List.getElem?_toArray, List.getElem?_cons_succ, List.getElem?_cons_zero]; exact rfl
          · exact fun _ _ _ h => h
          · rfl
          · (intro W' hSw; (try dsimp only at hSw); go_simp; try with_reducible rfl)
          try simp only [Act.put, List.setIfInBounds_toArray, List.set_cons_zero, List.set_cons_succ]
          obtain ⟨wz, rfl⟩ : ∃ q : World, q = wn52 := ⟨_, rfl⟩
          have NBz := NB52
          have HGz := HG52
          clear NB52 HG52
          have HEz := HE52
          have HNz := HNE52
          obtain ⟨bE, hbE, HLz⟩ : ∃ b, wq.heap.size = b ∧ Hid (wq.heap.size ≤ b) := ⟨_, rfl, Lib.hid (Nat.le_refl _)⟩
          rw [hbE] at HEz HNz ⊢
          clear hbE HE52 HNE52
          rotate_left
          all_goals
            obtain ⟨cT, fT⟩ := blk_cells HEz.out
            have c_0 := cT 0 _ rfl
            have c_1 := cT 1 _ rfl
            have c_2 := cT 2 _ rfl
            have c_3 := cT 3 _ rfl
            clear cT
            refine wpAnyH_ready (rs := [11]) (by kernel_rfl) (by simp) ?_
            refine AllReadyH.cons rfl (fun K hK => ?_) AllReadyH.nil
            go_simp
            clear c_0 c_1 c_2 c_3 fT hHeld
            obtain ⟨E1, E2⟩ := store4 HEz.out (.int .i64 0) (.slice st_A1 st.users.length st_c1) (.slice AD (st.deposits.length + 1) cD) (.slice none 0 0)
            have BE := Lib.hid (ButB.below NBz.out (NBz.out).size (fun z hz => by rw [hz]; exact HLz.out) E2)
            have HSL := Lib.hid (Sl.keep rPair_ok (by decide) (flat_sl (S' := fun z => z ≠ bE) flat_pair (HGz.out.sl (S := fun _ => True) rPair_ok (fun _ _ _ => trivial) (fun _ _ => trivial)) (fun b hb e => HNz.out (hb.trans (by rw [e])))) (show Kept (fun z => z ≠ bE) (fun z => z ≠ bE) _ _ from E2.kept fun z hz => ⟨hz, hz⟩))
            generalize hW : World.setCell _ _ _ = wE at E1 E2 BE HSL ⊢
            clear hW
            refine hK.out _ _ (HS.out _ BE.out) (fun hHeld => ?_)
            clear hK K
            refine wpAnyH_done (by kernel_rfl) ?_ _
            clear hHeld
            have HE1 := Lib.hid E1
            clear E1 E2
            go_wp2
            go_meet
            case rel => exact ⟨_, AD, cD, rfl, HLz.out, HE1, HSL, BE.out⟩
        obtain ⟨b15, AD, cD, rfl, hq15, H15, HDS, hcb⟩ := hcut
        obtain ⟨wk, rfl⟩ : ∃ wk : World, wk = wc := ⟨_, rfl⟩
        have BK := bel_call BQ hcb
        have HBK := Lib.hid BK
        have hz15 : wm.heap.size ≤ b15 := Nat.le_trans BQ.size hq15
        have HZ15 := Lib.hid hz15
        have HL15 := Lib.hid (blk_lt H15.out)
        have HB5K := Lib.hid (bel_call HQB.out hcb)
        have HZ5 := Lib.hid (Nat.le_trans HQB.out.size hq15)
        have HQW := Lib.hid (bel_call HBM.out BQ).size
        clear hz15 hbel
        go_wp2
        go_loopw [16, 116] (fun vd vi wr => ∃ (k : Nat) (A : Option Addr) (n c : Nat), k ≤ st.folders.length ∧ vi = .int .i64 k ∧ vd = .bool ((st.folders.take k).any (isF name)) ∧ Hid (wr.heap[b15]? = some (.cells #[.int .i64 0, .slice st_A1 st.users.length st_c1, .slice AD (st.deposits.length + 1) cD, .slice A n c] 26 (0, 0))) ∧ Hid (Grow 43 7 rFolder (fun z => z = b15) wr wk.heap.size (.slice A n c) (addF name x l (st.folders.take k))) ∧ Hid ((Value.slice A n c).ownBlock ≠ some b15) ∧ ButB (fun z => z = b15) wk wr) (fun _ i _ => st.folders.length - (RowKit.intOf i).toNat)
        case atStart => exact ⟨0, none, 0, 0, by omega, by go_num, rfl, H15, Grow.nil, (fun h => by cases h), ButB.refl _ _⟩
        case round =>
          clear BK BQ hcb H15
          obtain ⟨wr1, rfl⟩ : ∃ q, q = wr := ⟨_, rfl⟩
          obtain ⟨k, A8, n8, c8, hk, rfl, rfl, H15, HG, HNV, hbut⟩ := hrel
          have HBU := Lib.hid hbut
          have BR : Below wm.heap.size wm wr1 := ButB.below HBK.out HBK.out.size (fun z hz => by rw [hz]; exact HZ15.out) hbut
          have HBR := Lib.hid BR
          have hzk : wk.heap.size ≤ wr1.heap.size := hbut.size
          clear hbut
          by_cases hlt : k < st.folders.length
          · obtain ⟨g, hg⟩ : ∃ g, st.folders[k]? = some g := ⟨_, List.getElem?_eq_getElem hlt⟩
            have HGM := Lib.hid (List.mem_of_getElem? hg)
            have HTK := Lib.hid (show st.folders.take (k + 1) = st.folders.take k ++ [g] by rw [List.take_add_one, hg]; rfl)
            have hLL : (addF name x l (st.folders.take k)).length ≤ 8 := by
              rw [addF_len]
              have h1 := len_take st.folders k
              have h2 := HSM.out.few8
              omega
            obtain ⟨bg, og, yg, hAg, hbg, hRg, hcg⟩ := SlAt.elem st_folders_s hg (by decide) (bel_call HBM.out HBR.out)
            have HGR := Lib.hid hRg
            obtain ⟨g_A2, g_c2, g_A3, g_c3, g_A4, g_c4, g_A5, g_c5, g_A6, g_c6, rfl, g_name_le, g_turn_ok, g_manifests_l, g_manifests_m, g_manifests_n, g_manifests_s, g_epochs_l, g_epochs_m, g_epochs_n, g_epochs_s, g_items_l, g_items_m, g_items_n, g_items_s, g_wraps_l, g_wraps_m, g_wraps_n, g_wraps_s, g_links_l, g_links_m, g_links_n, g_links_s⟩ := open_Folder hRg
            have u0 := hcg 0 _ rfl
            have u1 := hcg 1 _ rfl
            have u2 := hcg 2 _ rfl
            have u3 := hcg 3 _ rfl
            have u4 := hcg 4 _ rfl
            have u5 := hcg 5 _ rfl
            have u6 := hcg 6 _ rfl
            rw [Nat.add_zero] at u0
            subst hAg
            have hki : (k : Int) < (st.folders.length : Int) := by omega
            obtain ⟨w6, hw6, cw6, fw6, Bw6, qw6⟩ := boxed wr1 #[.string g.name, .int .i64 g.turn, .slice g_A2 g.manifests.length g_c2, .slice g_A3 g.epochs.length g_c3, .slice g_A4 g.items.length g_c4, .slice g_A5 g.wraps.length g_c5, .slice g_A6 g.links.length g_c6] 43
            have H18 := Lib.hid (show w6.heap[wr1.heap.size]? = some (.cells #[.string g.name, .int .i64 g.turn, .slice g_A2 g.manifests.length g_c2, .slice g_A3 g.epochs.length g_c3, .slice g_A4 g.items.length g_c4, .slice g_A5 g.wraps.length g_c5, .slice g_A6 g.links.length g_c6] 43 (0, 0)) from by rw [← hw6]; exact blk_alloc_new _ rfl)
            have HB6 := Lib.hid Bw6
            have HG6 := Lib.hid (HG.out.below rFolder_ok Bw6)
            have H156 := Lib.hid ((Bw6.block _ (blk_lt H15.out)).trans H15.out)
            have hz6 : wr1.heap.size < w6.heap.size := qw6
            have n0 := cw6 0 _ rfl
            clear hg hcg cw6 fw6 Bw6 hlt qw6
            obtain ⟨dn, hdn⟩ : ∃ b, (st.folders.take k).any (isF name) = b := ⟨_, rfl⟩
            rw [hdn]
            have HDN := Lib.hid hdn
            clear hdn
            have HRK := Lib.hid (show ∀ W, Below wr1.heap.size wr1 W → Kept (fun _ => True) (Free (fun z => z = b15) W (.slice A8 n8 c8)) w W from fun W hW => kept_free (bel_call HBM.out (bel_call HBR.out hW)) (fun b hb => by rw [hb]; exact Nat.le_trans HBM.out.size HZ15.out) (fun b hb => Nat.le_trans (bel_call HBM.out HBK.out).size (HG.out.base_le b hb).1))
            by_cases hnm : g.name = name
            rotate_left
            · have hse : (g.name.toList == name.toList) = false := eqS_ne hnm
              have HNM := Lib.hid hnm
              clear hnm
              have HBM6 := bel_call HBR.out HB6.out
              go_upto_region 24 with fail
              clear hw6 n0 u0 u1 u2 u3 u4 u5 u6
              have HADD := Lib.hid (show addF name x l (st.folders.take (k + 1)) = addF name x l (st.folders.take k) ++ [g] by rw [HTK.out, addF_snoc, HDN.out]; rw [if_neg HNM.out]; cases dn <;> rfl)
              have HANY := Lib.hid (show Value.bool dn = .bool ((st.folders.take (k + 1)).any (isF name)) by rw [HTK.out, List.any_append, HDN.out]; rw [List.any_cons, List.any_nil, Bool.or_false, show isF name g = false from decide_eq_false HNM.out, Bool.or_false])
              have HRL := Lib.hid (show rFolder (Free (fun z => z = b15) w6 (.slice A8 n8 c8)) w6 [.string g.name, .int .i64 g.turn, .slice g_A2 g.manifests.length g_c2, .slice g_A3 g.epochs.length g_c3, .slice g_A4 g.items.length g_c4, .slice g_A5 g.wraps.length g_c5, .slice g_A6 g.links.length g_c6] g from rFolder_keep HGR.out (HRK.out w6 HB6.out))
              have HBW := Lib.hid (show ButB (fun z => z = b15) wk w6 from HBU.out.trans (ButB.of HB6.out))
              have HLW := Lib.hid (blk_lt H156.out)
              obtain ⟨p18, f18⟩ := blk_cells H18.out
              have e0 := p18 0 _ rfl
              have e1 := p18 1 _ rfl
              have e2 := p18 2 _ rfl
              have e3 := p18 3 _ rfl
              have e4 := p18 4 _ rfl
              have e5 := p18 5 _ rfl
              have e6 := p18 6 _ rfl
              obtain ⟨p15, f15⟩ := blk_cells H156.out
              have z3 := p15 3 _ rfl
              have hzW : wk.heap.size ≤ w6.heap.size := by omega
              clear p18 p15
              obtain ⟨iFolder, hiFolder, hzFolder, h1Folder, h2Folder⟩ := info_parts (show (Try.prog.info? 43).map (fun i => (i.zero, i.size, i.bytes)) = some (some (.agg #[.string ⟨#[]⟩, .int .i64 0, .slice none 0 0, .slice none 0 0, .slice none 0 0, .slice none 0 0, .slice none 0 0]), 7, 144) from by kernel_rfl)
              go_wp2_with (at_builtin; go_loud (refine wpList_grow1 (R := rFolder) _ _ rfl (.tmp 145) (.tmp 147) 24 rfl 43 iFolder _ 7 144 Try.underlying24 hiFolder hzFolder h1Folder h2Folder rfl (by decide) rFolder_ok wk.heap.size hzW _ _ rfl HG6.out _ _ rfl (by simp only [World.size_alloc, World.size_setCell, World.size_drew]) _ (by intro b hb; rw [hb]; exact HLW.out) HRL.out (by omega) (by decide) ?_); intro v16 w16 g16 gg16 go16; obtain ⟨A16, n16, c16, rfl, hn16⟩ := g16.shape'; have G16 := Lib.hid g16; have GG16 := Lib.hid gg16; have GO16 := Lib.hid go16; have H16 := Lib.hid (blk_grown gg16 H156.out HNV.out); clear hn16 g16 gg16 go16 e0 e1 e2 e3 e4 e5 e6 z3 f15 f18; have z3 := (blk_cells H16.out).1 3 _ rfl; have f15 := (blk_cells H16.out).2)
              have HNV16 := Lib.hid (show (Value.slice A16 n16 c16).ownBlock ≠ some b15 from fun h => by
                rcases GO16.out with o | o
                · exact HNV.out (o.symm.trans h)
                · have h1 := o.symm.trans h
                  have h2 := Option.some.inj h1
                  have h3 := HLW.out
                  omega)
              go_roundw
              case rel => exact ⟨k + 1, A16, n16, c16, by omega, by go_num, HANY.out, blk_set_same (i := 3) (cs' := #[.int .i64 0, .slice st_A1 st.users.length st_c1, .slice AD (st.deposits.length + 1) cD, .slice A16 n16 c16]) _ H16.out rfl, (Lib.hid (by rw [HADD.out]; exact G16.out.set rFolder_ok _ rfl HNV16.out)), HNV16, (butb_grown HBW.out GG16.out (fun b hb => (HG6.out.base_le b hb).1)).set _ _ rfl⟩
              case measure => simp [RowKit.intOf]; omega
            have hse : (g.name.toList == name.toList) = true := by rw [hnm]; simp
            have HNM := Lib.hid hnm
            clear hnm
            cases dn with
            | true =>
              have HBM6 := bel_call HBR.out HB6.out
              go_upto_region 24 with fail
              clear hw6 n0 u0 u1 u2 u3 u4 u5 u6
              have HADD := Lib.hid (show addF name x l (st.folders.take (k + 1)) = addF name x l (st.folders.take k) ++ [g] by rw [HTK.out, addF_snoc, HDN.out]; rfl)
              have HANY := Lib.hid (show Value.bool true = .bool ((st.folders.take (k + 1)).any (isF name)) by rw [HTK.out, List.any_append, HDN.out]; rfl)
              have HRL := Lib.hid (show rFolder (Free (fun z => z = b15) w6 (.slice A8 n8 c8)) w6 [.string g.name, .int .i64 g.turn, .slice g_A2 g.manifests.length g_c2, .slice g_A3 g.epochs.length g_c3, .slice g_A4 g.items.length g_c4, .slice g_A5 g.wraps.length g_c5, .slice g_A6 g.links.length g_c6] g from rFolder_keep HGR.out (HRK.out w6 HB6.out))
              have HBW := Lib.hid (show ButB (fun z => z = b15) wk w6 from HBU.out.trans (ButB.of HB6.out))
              have HLW := Lib.hid (blk_lt H156.out)
              obtain ⟨p18, f18⟩ := blk_cells H18.out
              have e0 := p18 0 _ rfl
              have e1 := p18 1 _ rfl
              have e2 := p18 2 _ rfl
              have e3 := p18 3 _ rfl
              have e4 := p18 4 _ rfl
              have e5 := p18 5 _ rfl
              have e6 := p18 6 _ rfl
              obtain ⟨p15, f15⟩ := blk_cells H156.out
              have z3 := p15 3 _ rfl
              have hzW : wk.heap.size ≤ w6.heap.size := by omega
              clear p18 p15
              obtain ⟨iFolder, hiFolder, hzFolder, h1Folder, h2Folder⟩ := info_parts (show (Try.prog.info? 43).map (fun i => (i.zero, i.size, i.bytes)) = some (some (.agg #[.string ⟨#[]⟩, .int .i64 0, .slice none 0 0, .slice none 0 0, .slice none 0 0, .slice none 0 0, .slice none 0 0]), 7, 144) from by kernel_rfl)
              go_wp2_with (at_builtin; go_loud (refine wpList_grow1 (R := rFolder) _ _ rfl (.tmp 145) (.tmp 147) 24 rfl 43 iFolder _ 7 144 Try.underlying24 hiFolder hzFolder h1Folder h2Folder rfl (by decide) rFolder_ok wk.heap.size hzW _ _ rfl HG6.out _ _ rfl (by simp only [World.size_alloc, World.size_setCell, World.size_drew]) _ (by intro b hb; rw [hb]; exact HLW.out) HRL.out (by omega) (by decide) ?_); intro v16 w16 g16 gg16 go16; obtain ⟨A16, n16, c16, rfl, hn16⟩ := g16.shape'; have G16 := Lib.hid g16; have GG16 := Lib.hid gg16; have GO16 := Lib.hid go16; have H16 := Lib.hid (blk_grown gg16 H156.out HNV.out); clear hn16 g16 gg16 go16 e0 e1 e2 e3 e4 e5 e6 z3 f15 f18; have z3 := (blk_cells H16.out).1 3 _ rfl; have f15 := (blk_cells H16.out).2)
              have HNV16 := Lib.hid (show (Value.slice A16 n16 c16).ownBlock ≠ some b15 from fun h => by
                rcases GO16.out with o | o
                · exact HNV.out (o.symm.trans h)
                · have h1 := o.symm.trans h
                  have h2 := Option.some.inj h1
                  have h3 := HLW.out
                  omega)
              go_roundw
              case rel => exact ⟨k + 1, A16, n16, c16, by omega, by go_num, HANY.out, blk_set_same (i := 3) (cs' := #[.int .i64 0, .slice st_A1 st.users.length st_c1, .slice AD (st.deposits.length + 1) cD, .slice A16 n16 c16]) _ H16.out rfl, (Lib.hid (by rw [HADD.out]; exact G16.out.set rFolder_ok _ rfl HNV16.out)), HNV16, (butb_grown HBW.out GG16.out (fun b hb => (HG6.out.base_le b hb).1)).set _ _ rfl⟩
              case measure => simp [RowKit.intOf]; omega
            | false =>
              have HBM6 := bel_call HBR.out HB6.out
              go_upto_region 21 with fail
              clear hw6 n0 u0 u1 u2 u3 u4 u5 u6
              go_cut [116] from 116 to 150 (fun s116 wx => s116 = .int .i64 k ∧ ∃ A5 c5, Hid (wx.heap[wr1.heap.size]? = some (.cells #[.string g.name, .int .i64 g.turn, .slice g_A2 g.manifests.length g_c2, .slice g_A3 g.epochs.length g_c3, .slice g_A4 g.items.length g_c4, .slice A5 (g.wraps.length + 1) c5, .slice g_A6 g.links.length g_c6] 43 (0, 0))) ∧ Hid (Sl 3 rWrap (fun z => z ≠ wr1.heap.size) wx (.slice A5 (g.wraps.length + 1) c5) (g.wraps ++ [x])) ∧ Hid (∀ b, (Value.slice A5 (g.wraps.length + 1) c5).ownBlock = some b → w6.heap.size ≤ b) ∧ ButB (fun z => z = wr1.heap.size) w6 wx)
              case first =>
                have HX5 := Lib.hid ((blk_cells H18.out).1 5 _ rfl)
                have HS := Lib.hid (show ∀ W, Below wr1.heap.size wr1 W → (fun W : World => W.cell? ⟨b7, 0, none⟩ = some (.string x.name) ∧ W.cell? ⟨b7, 1, none⟩ = some (.int .i64 x.epoch) ∧ W.cell? ⟨b7, 2, none⟩ = some (.bool x.seed)) W from fun W hW => ⟨q70 W (bel_call HBR.out hW), q71 W (bel_call HBR.out hW), q72 W (bel_call HBR.out hW)⟩)
                have HSRC := Lib.hid (show ∀ (W : World) (v : Value), Below w6.heap.size w6 W → (∀ b, v.ownBlock = some b → w6.heap.size ≤ b) → Sl 3 rWrap (Free (fun _ => False) W v) W (.slice g_A5 g.wraps.length g_c5) g.wraps from fun W v hW hv => Sl.keep rWrap_ok (by decide) ⟨_, _, rfl, g_wraps_l, g_wraps_m, g_wraps_n, g_wraps_s⟩ (kept_free (bel_call HBM.out (bel_call HBR.out (bel_call HB6.out hW))) (fun b h => h.elim) (fun b hb => Nat.le_trans (bel_call HBM.out (bel_call HBR.out HB6.out)).size (hv b hb))))
                have hgl : g.wraps.length ≤ 100 := by have h1 := sum5_mem _ _ HGM.out; have h2 := HSM.out.all; unfold size5 at h1; omega
                have hz6x := hz6
                clear k0 k1 k2 k3 q70 q71 q72 q80 q81 q82 q90 q91 g3 g5 B55 BM0 B5 BR HBM6 hzk st_users_s st_folders_s
                obtain ⟨iWrap, hiWrap, hzWrap, h1Wrap, h2Wrap⟩ := info_parts (show (Try.prog.info? 28).map (fun i => (i.zero, i.size, i.bytes)) = some (some (.agg #[.string ⟨#[]⟩, .int .i64 0, .bool false]), 3, 32) from by kernel_rfl)
                have NB0 := Lib.hid (show Below w6.heap.size w6 w6.drew from (Below.refl _ _).drew)
                refine wp_region_held_drew (S := (fun W : World => W.cell? ⟨b7, 0, none⟩ = some (.string x.name) ∧ W.cell? ⟨b7, 1, none⟩ = some (.int .i64 x.epoch) ∧ W.cell? ⟨b7, 2, none⟩ = some (.bool x.seed))) (by kernel_rfl) (HS.out _ (bel_call HB6.out NB0.out)) (fun hHeld => ?_)
                refine wpAnyH_take (i := 1) (oi := ?_) (v := ?_) ?_ (by kernel_rfl) (by kernel_rfl) (by kernel_rfl) ?_ (Or.inl ⟨?_, ?_⟩) hHeld ?_
                rotate_left 2
                · simp only [List.getElem?_toArray, List.getElem?_cons_succ, List.getElem?_cons_zero]; exact rfl
                · exact fun _ _ _ h => h
                · rfl
                · (intro W' hSw; (try dsimp only at hSw); go_simp; try with_reducible rfl)
                try simp only [Act.put, List.setIfInBounds_toArray, List.set_cons_zero, List.set_cons_succ]
                refine wpAnyH_take (i := 4) (oi := ?_) (v := ?_) ?_ (by kernel_rfl) (by kernel_rfl) (by kernel_rfl) ?_ (Or.inl ⟨?_, ?_⟩) hHeld ?_
                rotate_left 2
                · simp only [List.getElem?_toArray, List.getElem?_cons_succ, List.getElem?_cons_zero]; exact rfl
                · exact fun _ _ _ h => h
                · rfl
                · (intro W' hSw; (try dsimp only at hSw); go_simp; try with_reducible rfl)
                try simp only [Act.put, List.setIfInBounds_toArray, List.set_cons_zero, List.set_cons_succ]
                refine wpAnyH_ready (rs := [0, 2, 5]) (by kernel_rfl) (by simp) ?_
                refine AllReadyH.cons rfl (fun K hK => ?_) (AllReadyH.cons rfl (fun K hK => ?_) (AllReadyH.cons rfl (fun K hK => ?_) (AllReadyH.nil)))
                obtain ⟨wn1, hwa, cwa, fwa, Bwa, qwa⟩ := boxed w6.drew #[] 28
                have NB1 := Lib.hid (show Below w6.heap.size w6 wn1 from bel_call NB0.out Bwa)
                have HG1 := Lib.hid (show Grow 28 3 rWrap (fun _ => False) wn1 w6.heap.size (.slice (some ⟨w6.heap.size, 0, none⟩) 0 0) [] from Grow.empty (show wn1.heap[w6.heap.size]? = _ by rw [← hwa]; exact blk_alloc_new _ rfl) (show w6.heap.size ≤ w6.drew.heap.size from (NB0.out).size))
                go_simp
                clear hHeld
                refine hK.out _ _ (HS.out _ (bel_call HB6.out NB1.out)) (fun hHeld => ?_)
                clear hK K
                clear hwa cwa fwa Bwa qwa
                refine wpAnyH_ready (rs := [2, 5]) (by kernel_rfl) (by simp) ?_
                refine AllReadyH.cons rfl (fun K hK => ?_) (AllReadyH.cons rfl (fun K hK => ?_) (AllReadyH.nil))
                have x5 := ((NB1.out).cell (p := ⟨wr1.heap.size, 5, none⟩) (cell_lt HX5.out)).trans HX5.out
                go_simp
                clear x5 hHeld
                refine hK.out _ _ (HS.out _ (bel_call HB6.out NB1.out)) (fun hHeld => ?_)
                clear hK K
                refine wpAnyH_ready (rs := [3, 5]) (by kernel_rfl) (by simp) ?_
                refine AllReadyH.cons rfl (fun K hK => ?_) (AllReadyH.cons rfl (fun K hK => ?_) (AllReadyH.nil))
                refine step_grow2 wn1 rfl (.tmp 128) (.tmp 130) 40 rfl 28 iWrap _ 3 32 Try.underlying40 hiWrap hzWrap h1Wrap h2Wrap rfl (by decide) rWrap_ok w6.heap.size (NB1.out).size (.slice (some ⟨w6.heap.size, 0, none⟩) 0 0) [] rfl HG1.out g_A5 _ g_c5 rfl g.wraps rfl (sl_at (HSRC.out wn1 (.slice (some ⟨w6.heap.size, 0, none⟩) 0 0) NB1.out (fun b hb => (HG1.out.base_le b hb).1))) (by (try simp only [List.length_nil, List.length_append, List.length_singleton]); omega) (by decide) ?_
                intro v3 wn3 gz go n1
                change K (Act.put _ (some 131) v3) _
                have NB3 := Lib.hid (Below.grown NB1.out go (NB1.out).size fun b hb => (HG1.out.base_le b hb).1)
                have HG3 := Lib.hid (show Grow 28 3 rWrap (fun _ => False) wn3 w6.heap.size v3 g.wraps from gz)
                clear gz go n1
                clear hHeld
                refine hK.out _ _ (HS.out _ (bel_call HB6.out NB3.out)) (fun hHeld => ?_)
                clear hK K
                refine wpAnyH_ready (rs := [5]) (by kernel_rfl) (by simp) ?_
                refine AllReadyH.cons rfl (fun K hK => ?_) (AllReadyH.nil)
                obtain ⟨wn4, hwa, cwa, fwa, Bwa, qwa⟩ := boxed wn3 #[.string x.name, .int .i64 x.epoch, .bool x.seed] 28
                have NB4 := Lib.hid (show Below w6.heap.size w6 wn4 from bel_call NB3.out Bwa)
                have HC4 := Lib.hid (show wn4.heap[wn3.heap.size]? = some (.cells #[.string x.name, .int .i64 x.epoch, .bool x.seed] 28 (0, 0)) by rw [← hwa]; exact blk_alloc_new _ rfl)
                have HNC4 := Lib.hid (show (v3 : Value).ownBlock ≠ some wn3.heap.size from fun h => by
                  have h1 := (HG3.out.base_le _ h).2
                  have h2 : wn3.heap.size = wn3.heap.size := rfl
                  omega)
                have HG4 := Lib.hid (HG3.out.below rWrap_ok Bwa)
                go_simp
                clear hHeld
                refine hK.out _ _ (HS.out _ (bel_call HB6.out NB4.out)) (fun hHeld => ?_)
                clear hK K
                clear hwa cwa fwa Bwa qwa
                refine wpAnyH_ready (rs := [6]) (by kernel_rfl) (by simp) ?_
                refine AllReadyH.cons rfl (fun K hK => ?_) (AllReadyH.nil)
                have HROW := Lib.hid (show SlAt 3 rWrap (Free (fun _ => False) wn4 v3) wn4 (some ⟨wn3.heap.size, 0, none⟩) [x] from SlAt_one [.string x.name, .int .i64 x.epoch, .bool x.seed] ⟨blk_lt HC4.out, fun h => h, HNC4.out⟩ rfl (fun j y hj => by rw [Nat.zero_add]; exact (blk_cells HC4.out).1 j y (by simpa using hj)) ⟨rfl, hx1, HX2.out⟩)
                refine step_grow2 wn4 rfl (.tmp 131) (.tmp 133) 40 rfl 28 iWrap _ 3 32 Try.underlying40 hiWrap hzWrap h1Wrap h2Wrap rfl (by decide) rWrap_ok w6.heap.size (NB4.out).size v3 g.wraps rfl HG4.out (some ⟨wn3.heap.size, 0, none⟩) 1 1 rfl [x] rfl (HROW.out) (by (try simp only [List.length_nil, List.length_append, List.length_singleton]); omega) (by decide) ?_
                intro v5 wn5 gz go n1
                change K (Act.put _ (some 134) v5) _
                have NB5 := Lib.hid (Below.grown NB4.out go (NB4.out).size fun b hb => (HG4.out.base_le b hb).1)
                have HG5 := Lib.hid (show Grow 28 3 rWrap (fun _ => False) wn5 w6.heap.size v5 (g.wraps ++ [x]) from gz)
                obtain ⟨AD, nD, cD, hvD, hnD⟩ := HG5.out.shape'
                obtain rfl : nD = g.wraps.length + 1 := by rw [hnD]; simp
                subst hvD
                clear hnD
                have HC5 := Lib.hid (blk_grown go HC4.out HNC4.out)
                have HNC5 := Lib.hid (own_other n1 (blk_lt HC4.out) HNC4.out)
                clear gz go n1
                clear hHeld
                refine hK.out _ _ (HS.out _ (bel_call HB6.out NB5.out)) (fun hHeld => ?_)
                clear hK K
                refine wpAnyH_take (i := 7) (oi := ?_) (v := ?_) ?_ (by kernel_rfl) (by kernel_rfl) (by kernel_rfl) ?_ (Or.inl ⟨?_, ?_⟩) hHeld ?_
                rotate_left 2
                · simp only [List.getElem?_toArray, List.getElem?_cons_succ, List.getElem?_cons_zero]; exact rfl
                · exact fun _ _ _ h => h
                · rfl
                · (intro W' hSw; (try dsimp only at hSw); go_simp; try with_reducible rfl)
                try simp only [Act.put, List.setIfInBounds_toArray, List.set_cons_zero, List.set_cons_succ]
                obtain ⟨wz, rfl⟩ : ∃ q : World, q = wn5 := ⟨_, rfl⟩
                have NBz := NB5
                have HGz := HG5
                clear NB5 HG5
                rotate_left
                obtain ⟨wn6, hwa, cwa, fwa, Bwa, qwa⟩ := boxed wn1 #[.string x.name, .int .i64 x.epoch, .bool x.seed] 28
                have NB6 := Lib.hid (show Below w6.heap.size w6 wn6 from bel_call NB1.out Bwa)
                have HC6 := Lib.hid (show wn6.heap[wn1.heap.size]? = some (.cells #[.string x.name, .int .i64 x.epoch, .bool x.seed] 28 (0, 0)) by rw [← hwa]; exact blk_alloc_new _ rfl)
                have HNC6 := Lib.hid (show ((.slice (some ⟨w6.heap.size, 0, none⟩) 0 0) : Value).ownBlock ≠ some wn1.heap.size from fun h => by
                  have h1 := (HG1.out.base_le _ h).2
                  have h2 : wn1.heap.size = wn1.heap.size := rfl
                  omega)
                have HG6 := Lib.hid (HG1.out.below rWrap_ok Bwa)
                go_simp
                clear hHeld
                refine hK.out _ _ (HS.out _ (bel_call HB6.out NB6.out)) (fun hHeld => ?_)
                clear hK K
                clear hwa cwa fwa Bwa qwa
                refine wpAnyH_ready (rs := [3]) (by kernel_rfl) (by simp) ?_
                refine AllReadyH.cons rfl (fun K hK => ?_) (AllReadyH.nil)
                refine step_grow2 wn6 rfl (.tmp 128) (.tmp 130) 40 rfl 28 iWrap _ 3 32 Try.underlying40 hiWrap hzWrap h1Wrap h2Wrap rfl (by decide) rWrap_ok w6.heap.size (NB6.out).size (.slice (some ⟨w6.heap.size, 0, none⟩) 0 0) [] rfl HG6.out g_A5 _ g_c5 rfl g.wraps rfl (sl_at (HSRC.out wn6 (.slice (some ⟨w6.heap.size, 0, none⟩) 0 0) NB6.out (fun b hb => (HG6.out.base_le b hb).1))) (by (try simp only [List.length_nil, List.length_append, List.length_singleton]); omega) (by decide) ?_
                intro v7 wn7 gz go n1
                change K (Act.put _ (some 131) v7) _
                have NB7 := Lib.hid (Below.grown NB6.out go (NB6.out).size fun b hb => (HG6.out.base_le b hb).1)
                have HG7 := Lib.hid (show Grow 28 3 rWrap (fun _ => False) wn7 w6.heap.size v7 g.wraps from gz)
                have HC7 := Lib.hid (blk_grown go HC6.out HNC6.out)
                have HNC7 := Lib.hid (own_other n1 (blk_lt HC6.out) HNC6.out)
                clear gz go n1
                clear hHeld
                refine hK.out _ _ (HS.out _ (bel_call HB6.out NB7.out)) (fun hHeld => ?_)
                clear hK K
                refine wpAnyH_ready (rs := [6]) (by kernel_rfl) (by simp) ?_
                refine AllReadyH.cons rfl (fun K hK => ?_) (AllReadyH.nil)
                have HROW := Lib.hid (show SlAt 3 rWrap (Free (fun _ => False) wn7 v7) wn7 (some ⟨wn1.heap.size, 0, none⟩) [x] from SlAt_one [.string x.name, .int .i64 x.epoch, .bool x.seed] ⟨blk_lt HC7.out, fun h => h, HNC7.out⟩ rfl (fun j y hj => by rw [Nat.zero_add]; exact (blk_cells HC7.out).1 j y (by simpa using hj)) ⟨rfl, hx1, HX2.out⟩)
                refine step_grow2 wn7 rfl (.tmp 131) (.tmp 133) 40 rfl 28 iWrap _ 3 32 Try.underlying40 hiWrap hzWrap h1Wrap h2Wrap rfl (by decide) rWrap_ok w6.heap.size (NB7.out).size v7 g.wraps rfl HG7.out (some ⟨wn1.heap.size, 0, none⟩) 1 1 rfl [x] rfl (HROW.out) (by (try simp only [List.length_nil, List.length_append, List.length_singleton]); omega) (by decide) ?_
                intro v8 wn8 gz go n1
                change K (Act.put _ (some 134) v8) _
                have NB8 := Lib.hid (Below.grown NB7.out go (NB7.out).size fun b hb => (HG7.out.base_le b hb).1)
                have HG8 := Lib.hid (show Grow 28 3 rWrap (fun _ => False) wn8 w6.heap.size v8 (g.wraps ++ [x]) from gz)
                obtain ⟨AD, nD, cD, hvD, hnD⟩ := HG8.out.shape'
                obtain rfl : nD = g.wraps.length + 1 := by rw [hnD]; simp
                subst hvD
                clear hnD
                have HC8 := Lib.hid (blk_grown go HC7.out HNC7.out)
                have HNC8 := Lib.hid (own_other n1 (blk_lt HC7.out) HNC7.out)
                clear gz go n1
                clear hHeld
                refine hK.out _ _ (HS.out _ (bel_call HB6.out NB8.out)) (fun hHeld => ?_)
                clear hK K
                refine wpAnyH_take (i := 7) (oi := ?_) (v := ?_) ?_ (by kernel_rfl) (by kernel_rfl) (by kernel_rfl) ?_ (Or.inl ⟨?_, ?_⟩) hHeld ?_
                rotate_left 2
                · simp only [List.getElem?_toArray, List.getElem?_cons_succ, List.getElem?_cons_zero]; exact rfl
                · exact fun _ _ _ h => h
                · rfl
                · (intro W' hSw; (try dsimp only at hSw); go_simp; try with_reducible rfl)
                try simp only [Act.put, List.setIfInBounds_toArray, List.set_cons_zero, List.set_cons_succ]
                obtain ⟨wz, rfl⟩ : ∃ q : World, q = wn8 := ⟨_, rfl⟩
                have NBz := NB8
                have HGz := HG8
                clear NB8 HG8
                rotate_left
                obtain ⟨wn9, hwa, cwa, fwa, Bwa, qwa⟩ := boxed wn1 #[.string x.name, .int .i64 x.epoch, .bool x.seed] 28
                have NB9 := Lib.hid (show Below w6.heap.size w6 wn9 from bel_call NB1.out Bwa)
                have HC9 := Lib.hid (show wn9.heap[wn1.heap.size]? = some (.cells #[.string x.name, .int .i64 x.epoch, .bool x.seed] 28 (0, 0)) by rw [← hwa]; exact blk_alloc_new _ rfl)
                have HNC9 := Lib.hid (show ((.slice (some ⟨w6.heap.size, 0, none⟩) 0 0) : Value).ownBlock ≠ some wn1.heap.size from fun h => by
                  have h1 := (HG1.out.base_le _ h).2
                  have h2 : wn1.heap.size = wn1.heap.size := rfl
                  omega)
                have HG9 := Lib.hid (HG1.out.below rWrap_ok Bwa)
                go_simp
                clear hHeld
                refine hK.out _ _ (HS.out _ (bel_call HB6.out NB9.out)) (fun hHeld => ?_)
                clear hK K
                clear hwa cwa fwa Bwa qwa
                refine wpAnyH_ready (rs := [2]) (by kernel_rfl) (by simp) ?_
                refine AllReadyH.cons rfl (fun K hK => ?_) (AllReadyH.nil)
                have x5 := ((NB9.out).cell (p := ⟨wr1.heap.size, 5, none⟩) (cell_lt HX5.out)).trans HX5.out
                go_simp
                clear x5 hHeld
                refine hK.out _ _ (HS.out _ (bel_call HB6.out NB9.out)) (fun hHeld => ?_)
                clear hK K
                refine wpAnyH_ready (rs := [3]) (by kernel_rfl) (by simp) ?_
                refine AllReadyH.cons rfl (fun K hK => ?_) (AllReadyH.nil)
                refine step_grow2 wn9 rfl (.tmp 128) (.tmp 130) 40 rfl 28 iWrap _ 3 32 Try.underlying40 hiWrap hzWrap h1Wrap h2Wrap rfl (by decide) rWrap_ok w6.heap.size (NB9.out).size (.slice (some ⟨w6.heap.size, 0, none⟩) 0 0) [] rfl HG9.out g_A5 _ g_c5 rfl g.wraps rfl (sl_at (HSRC.out wn9 (.slice (some ⟨w6.heap.size, 0, none⟩) 0 0) NB9.out (fun b hb => (HG9.out.base_le b hb).1))) (by (try simp only [List.length_nil, List.length_append, List.length_singleton]); omega) (by decide) ?_
                intro v11 wn11 gz go n1
                change K (Act.put _ (some 131) v11) _
                have NB11 := Lib.hid (Below.grown NB9.out go (NB9.out).size fun b hb => (HG9.out.base_le b hb).1)
                have HG11 := Lib.hid (show Grow 28 3 rWrap (fun _ => False) wn11 w6.heap.size v11 g.wraps from gz)
                have HC11 := Lib.hid (blk_grown go HC9.out HNC9.out)
                have HNC11 := Lib.hid (own_other n1 (blk_lt HC9.out) HNC9.out)
                clear gz go n1
                clear hHeld
                refine hK.out _ _ (HS.out _ (bel_call HB6.out NB11.out)) (fun hHeld => ?_)
                clear hK K
                refine wpAnyH_ready (rs := [6]) (by kernel_rfl) (by simp) ?_
                refine AllReadyH.cons rfl (fun K hK => ?_) (AllReadyH.nil)
                have HROW := Lib.hid (show SlAt 3 rWrap (Free (fun _ => False) wn11 v11) wn11 (some ⟨wn1.heap.size, 0, none⟩) [x] from SlAt_one [.string x.name, .int .i64 x.epoch, .bool x.seed] ⟨blk_lt HC11.out, fun h => h, HNC11.out⟩ rfl (fun j y hj => by rw [Nat.zero_add]; exact (blk_cells HC11.out).1 j y (by simpa using hj)) ⟨rfl, hx1, HX2.out⟩)
                refine step_grow2 wn11 rfl (.tmp 131) (.tmp 133) 40 rfl 28 iWrap _ 3 32 Try.underlying40 hiWrap hzWrap h1Wrap h2Wrap rfl (by decide) rWrap_ok w6.heap.size (NB11.out).size v11 g.wraps rfl HG11.out (some ⟨wn1.heap.size, 0, none⟩) 1 1 rfl [x] rfl (HROW.out) (by (try simp only [List.length_nil, List.length_append, List.length_singleton]); omega) (by decide) ?_
                intro v12 wn12 gz go n1
                change K (Act.put _ (some 134) v12) _
                have NB12 := Lib.hid (Below.grown NB11.out go (NB11.out).size fun b hb => (HG11.out.base_le b hb).1)
                have HG12 := Lib.hid (show Grow 28 3 rWrap (fun _ => False) wn12 w6.heap.size v12 (g.wraps ++ [x]) from gz)
                obtain ⟨AD, nD, cD, hvD, hnD⟩ := HG12.out.shape'
                obtain rfl : nD = g.wraps.length + 1 := by rw [hnD]; simp
                subst hvD
                clear hnD
                have HC12 := Lib.hid (blk_grown go HC11.out HNC11.out)
                have HNC12 := Lib.hid (own_other n1 (blk_lt HC11.out) HNC11.out)
                clear gz go n1
                clear hHeld
                refine hK.out _ _ (HS.out _ (bel_call HB6.out NB12.out)) (fun hHeld => ?_)
                clear hK K
                refine wpAnyH_take (i := 7) (oi := ?_) (v := ?_) ?_ (by kernel_rfl) (by kernel_rfl) (by kernel_rfl) ?_ (Or.inl ⟨?_, ?_⟩) hHeld ?_
                rotate_left 2
                · simp only [List.getElem?_toArray, List.getElem?_cons_succ, List.getElem?_cons_zero]; exact rfl
                · exact fun _ _ _ h => h
                · rfl
                · (intro W' hSw; (try dsimp only at hSw); go_simp; try with_reducible rfl)
                try simp only [Act.put, List.setIfInBounds_toArray, List.set_cons_zero, List.set_cons_succ]
                obtain ⟨wz, rfl⟩ : ∃ q : World, q = wn12 := ⟨_, rfl⟩
                have NBz := NB12
                have HGz := HG12
                clear NB12 HG12
                rotate_left
                have x5 := ((NB0.out).cell (p := ⟨wr1.heap.size, 5, none⟩) (cell_lt HX5.out)).trans HX5.out
                go_simp
                clear x5 hHeld
                refine hK.out _ _ (HS.out _ (bel_call HB6.out NB0.out)) (fun hHeld => ?_)
                clear hK K
                refine wpAnyH_ready (rs := [0, 5]) (by kernel_rfl) (by simp) ?_
                refine AllReadyH.cons rfl (fun K hK => ?_) (AllReadyH.cons rfl (fun K hK => ?_) (AllReadyH.nil))
                obtain ⟨wn14, hwa, cwa, fwa, Bwa, qwa⟩ := boxed w6.drew #[] 28
                have NB14 := Lib.hid (show Below w6.heap.size w6 wn14 from bel_call NB0.out Bwa)
                have HG14 := Lib.hid (show Grow 28 3 rWrap (fun _ => False) wn14 w6.heap.size (.slice (some ⟨w6.heap.size, 0, none⟩) 0 0) [] from Grow.empty (show wn14.heap[w6.heap.size]? = _ by rw [← hwa]; exact blk_alloc_new _ rfl) (show w6.heap.size ≤ w6.drew.heap.size from (NB0.out).size))
                go_simp
                clear hHeld
                refine hK.out _ _ (HS.out _ (bel_call HB6.out NB14.out)) (fun hHeld => ?_)
                clear hK K
                clear hwa cwa fwa Bwa qwa
                refine wpAnyH_ready (rs := [3, 5]) (by kernel_rfl) (by simp) ?_
                refine AllReadyH.cons rfl (fun K hK => ?_) (AllReadyH.cons rfl (fun K hK => ?_) (AllReadyH.nil))
                refine step_grow2 wn14 rfl (.tmp 128) (.tmp 130) 40 rfl 28 iWrap _ 3 32 Try.underlying40 hiWrap hzWrap h1Wrap h2Wrap rfl (by decide) rWrap_ok w6.heap.size (NB14.out).size (.slice (some ⟨w6.heap.size, 0, none⟩) 0 0) [] rfl HG14.out g_A5 _ g_c5 rfl g.wraps rfl (sl_at (HSRC.out wn14 (.slice (some ⟨w6.heap.size, 0, none⟩) 0 0) NB14.out (fun b hb => (HG14.out.base_le b hb).1))) (by (try simp only [List.length_nil, List.length_append, List.length_singleton]); omega) (by decide) ?_
                intro v15 wn15 gz go n1
                change K (Act.put _ (some 131) v15) _
                have NB15 := Lib.hid (Below.grown NB14.out go (NB14.out).size fun b hb => (HG14.out.base_le b hb).1)
                have HG15 := Lib.hid (show Grow 28 3 rWrap (fun _ => False) wn15 w6.heap.size v15 g.wraps from gz)
                clear gz go n1
                clear hHeld
                refine hK.out _ _ (HS.out _ (bel_call HB6.out NB15.out)) (fun hHeld => ?_)
                clear hK K
                refine wpAnyH_ready (rs := [5]) (by kernel_rfl) (by simp) ?_
                refine AllReadyH.cons rfl (fun K hK => ?_) (AllReadyH.nil)
                obtain ⟨wn16, hwa, cwa, fwa, Bwa, qwa⟩ := boxed wn15 #[.string x.name, .int .i64 x.epoch, .bool x.seed] 28
                have NB16 := Lib.hid (show Below w6.heap.size w6 wn16 from bel_call NB15.out Bwa)
                have HC16 := Lib.hid (show wn16.heap[wn15.heap.size]? = some (.cells #[.string x.name, .int .i64 x.epoch, .bool x.seed] 28 (0, 0)) by rw [← hwa]; exact blk_alloc_new _ rfl)
                have HNC16 := Lib.hid (show (v15 : Value).ownBlock ≠ some wn15.heap.size from fun h => by
                  have h1 := (HG15.out.base_le _ h).2
                  have h2 : wn15.heap.size = wn15.heap.size := rfl
                  omega)
                have HG16 := Lib.hid (HG15.out.below rWrap_ok Bwa)
                go_simp
                clear hHeld
                refine hK.out _ _ (HS.out _ (bel_call HB6.out NB16.out)) (fun hHeld => ?_)
                clear hK K
                clear hwa cwa fwa Bwa qwa
                refine wpAnyH_ready (rs := [6]) (by kernel_rfl) (by simp) ?_
                refine AllReadyH.cons rfl (fun K hK => ?_) (AllReadyH.nil)
                have HROW := Lib.hid (show SlAt 3 rWrap (Free (fun _ => False) wn16 v15) wn16 (some ⟨wn15.heap.size, 0, none⟩) [x] from SlAt_one [.string x.name, .int .i64 x.epoch, .bool x.seed] ⟨blk_lt HC16.out, fun h => h, HNC16.out⟩ rfl (fun j y hj => by rw [Nat.zero_add]; exact (blk_cells HC16.out).1 j y (by simpa using hj)) ⟨rfl, hx1, HX2.out⟩)
                refine step_grow2 wn16 rfl (.tmp 131) (.tmp 133) 40 rfl 28 iWrap _ 3 32 Try.underlying40 hiWrap hzWrap h1Wrap h2Wrap rfl (by decide) rWrap_ok w6.heap.size (NB16.out).size v15 g.wraps rfl HG16.out (some ⟨wn15.heap.size, 0, none⟩) 1 1 rfl [x] rfl (HROW.out) (by (try simp only [List.length_nil, List.length_append, List.length_singleton]); omega) (by decide) ?_
                intro v17 wn17 gz go n1
                change K (Act.put _ (some 134) v17) _
                have NB17 := Lib.hid (Below.grown NB16.out go (NB16.out).size fun b hb => (HG16.out.base_le b hb).1)
                have HG17 := Lib.hid (show Grow 28 3 rWrap (fun _ => False) wn17 w6.heap.size v17 (g.wraps ++ [x]) from gz)
                obtain ⟨AD, nD, cD, hvD, hnD⟩ := HG17.out.shape'
                obtain rfl : nD = g.wraps.length + 1 := by rw [hnD]; simp
                subst hvD
                clear hnD
                have HC17 := Lib.hid (blk_grown go HC16.out HNC16.out)
                have HNC17 := Lib.hid (own_other n1 (blk_lt HC16.out) HNC16.out)
                clear gz go n1
                clear hHeld
                refine hK.out _ _ (HS.out _ (bel_call HB6.out NB17.out)) (fun hHeld => ?_)
                clear hK K
                refine wpAnyH_take (i := 7) (oi := ?_) (v := ?_) ?_ (by kernel_rfl) (by kernel_rfl) (by kernel_rfl) ?_ (Or.inl ⟨?_, ?_⟩) hHeld ?_
                rotate_left 2
                · simp only [List.getElem?_toArray, List.getElem?_cons_succ, List.getElem?_cons_zero]; exact rfl
                · exact fun _ _ _ h => h
                · rfl
                · (intro W' hSw; (try dsimp only at hSw); go_simp; try with_reducible rfl)
                try simp only [Act.put, List.setIfInBounds_toArray, List.set_cons_zero, List.set_cons_succ]
                obtain ⟨wz, rfl⟩ : ∃ q : World, q = wn17 := ⟨_, rfl⟩
                have NBz := NB17
                have HGz := HG17
                clear NB17 HG17
                rotate_left
                obtain ⟨wn18, hwa, cwa, fwa, Bwa, qwa⟩ := boxed wn14 #[.string x.name, .int .i64 x.epoch, .bool x.seed] 28
                have NB18 := Lib.hid (show Below w6.heap.size w6 wn18 from bel_call NB14.out Bwa)
                have HC18 := Lib.hid (show wn18.heap[wn14.heap.size]? = some (.cells #[.string x.name, .int .i64 x.epoch, .bool x.seed] 28 (0, 0)) by rw [← hwa]; exact blk_alloc_new _ rfl)
                have HNC18 := Lib.hid (show ((.slice (some ⟨w6.heap.size, 0, none⟩) 0 0) : Value).ownBlock ≠ some wn14.heap.size from fun h => by
                  have h1 := (HG14.out.base_le _ h).2
                  have h2 : wn14.heap.size = wn14.heap.size := rfl
                  omega)
                have HG18 := Lib.hid (HG14.out.below rWrap_ok Bwa)
                go_simp
                clear hHeld
                refine hK.out _ _ (HS.out _ (bel_call HB6.out NB18.out)) (fun hHeld => ?_)
                clear hK K
                clear hwa cwa fwa Bwa qwa
                refine wpAnyH_ready (rs := [3]) (by kernel_rfl) (by simp) ?_
                refine AllReadyH.cons rfl (fun K hK => ?_) (AllReadyH.nil)
                refine step_grow2 wn18 rfl (.tmp 128) (.tmp 130) 40 rfl 28 iWrap _ 3 32 Try.underlying40 hiWrap hzWrap h1Wrap h2Wrap rfl (by decide) rWrap_ok w6.heap.size (NB18.out).size (.slice (some ⟨w6.heap.size, 0, none⟩) 0 0) [] rfl HG18.out g_A5 _ g_c5 rfl g.wraps rfl (sl_at (HSRC.out wn18 (.slice (some ⟨w6.heap.size, 0, none⟩) 0 0) NB18.out (fun b hb => (HG18.out.base_le b hb).1))) (by (try simp only [List.length_nil, List.length_append, List.length_singleton]); omega) (by decide) ?_
                intro v19 wn19 gz go n1
                change K (Act.put _ (some 131) v19) _
                have NB19 := Lib.hid (Below.grown NB18.out go (NB18.out).size fun b hb => (HG18.out.base_le b hb).1)
                have HG19 := Lib.hid (show Grow 28 3 rWrap (fun _ => False) wn19 w6.heap.size v19 g.wraps from gz)
                have HC19 := Lib.hid (blk_grown go HC18.out HNC18.out)
                have HNC19 := Lib.hid (own_other n1 (blk_lt HC18.out) HNC18.out)
                clear gz go n1
                clear hHeld
                refine hK.out _ _ (HS.out _ (bel_call HB6.out NB19.out)) (fun hHeld => ?_)
                clear hK K
                refine wpAnyH_ready (rs := [6]) (by kernel_rfl) (by simp) ?_
                refine AllReadyH.cons rfl (fun K hK => ?_) (AllReadyH.nil)
                have HROW := Lib.hid (show SlAt 3 rWrap (Free (fun _ => False) wn19 v19) wn19 (some ⟨wn14.heap.size, 0, none⟩) [x] from SlAt_one [.string x.name, .int .i64 x.epoch, .bool x.seed] ⟨blk_lt HC19.out, fun h => h, HNC19.out⟩ rfl (fun j y hj => by rw [Nat.zero_add]; exact (blk_cells HC19.out).1 j y (by simpa using hj)) ⟨rfl, hx1, HX2.out⟩)
                refine step_grow2 wn19 rfl (.tmp 131) (.tmp 133) 40 rfl 28 iWrap _ 3 32 Try.underlying40 hiWrap hzWrap h1Wrap h2Wrap rfl (by decide) rWrap_ok w6.heap.size (NB19.out).size v19 g.wraps rfl HG19.out (some ⟨wn14.heap.size, 0, none⟩) 1 1 rfl [x] rfl (HROW.out) (by (try simp only [List.length_nil, List.length_append, List.length_singleton]); omega) (by decide) ?_
                intro v20 wn20 gz go n1
                change K (Act.put _ (some 134) v20) _
                have NB20 := Lib.hid (Below.grown NB19.out go (NB19.out).size fun b hb => (HG19.out.base_le b hb).1)
                have HG20 := Lib.hid (show Grow 28 3 rWrap (fun _ => False) wn20 w6.heap.size v20 (g.wraps ++ [x]) from gz)
                obtain ⟨AD, nD, cD, hvD, hnD⟩ := HG20.out.shape'
                obtain rfl : nD = g.wraps.length + 1 := by rw [hnD]; simp
                subst hvD
                clear hnD
                have HC20 := Lib.hid (blk_grown go HC19.out HNC19.out)
                have HNC20 := Lib.hid (own_other n1 (blk_lt HC19.out) HNC19.out)
                clear gz go n1
                clear hHeld
                refine hK.out _ _ (HS.out _ (bel_call HB6.out NB20.out)) (fun hHeld => ?_)
                clear hK K
                refine wpAnyH_take (i := 7) (oi := ?_) (v := ?_) ?_ (by kernel_rfl) (by kernel_rfl) (by kernel_rfl) ?_ (Or.inl ⟨?_, ?_⟩) hHeld ?_
                rotate_left 2
                · simp only [List.getElem?_toArray, List.getElem?_cons_succ, List.getElem?_cons_zero]; exact rfl
                · exact fun _ _ _ h => h
                · rfl
                · (intro W' hSw; (try dsimp only at hSw); go_simp; try with_reducible rfl)
                try simp only [Act.put, List.setIfInBounds_toArray, List.set_cons_zero, List.set_cons_succ]
                obtain ⟨wz, rfl⟩ : ∃ q : World, q = wn20 := ⟨_, rfl⟩
                have NBz := NB20
                have HGz := HG20
                clear NB20 HG20
                rotate_left
                obtain ⟨wn21, hwa, cwa, fwa, Bwa, qwa⟩ := boxed w6.drew #[.string x.name, .int .i64 x.epoch, .bool x.seed] 28
                have NB21 := Lib.hid (show Below w6.heap.size w6 wn21 from bel_call NB0.out Bwa)
                have HC21 := Lib.hid (show wn21.heap[w6.heap.size]? = some (.cells #[.string x.name, .int .i64 x.epoch, .bool x.seed] 28 (0, 0)) by rw [← hwa]; exact blk_alloc_new _ rfl)
                go_simp
                clear hHeld
                refine hK.out _ _ (HS.out _ (bel_call HB6.out NB21.out)) (fun hHeld => ?_)
                clear hK K
                clear hwa cwa fwa Bwa qwa
                refine wpAnyH_ready (rs := [0]) (by kernel_rfl) (by simp) ?_
                refine AllReadyH.cons rfl (fun K hK => ?_) (AllReadyH.nil)
                obtain ⟨wn22, hwa, cwa, fwa, Bwa, qwa⟩ := boxed wn21 #[] 28
                have NB22 := Lib.hid (show Below w6.heap.size w6 wn22 from bel_call NB21.out Bwa)
                have HG22 := Lib.hid (show Grow 28 3 rWrap (fun _ => False) wn22 w6.heap.size (.slice (some ⟨wn21.heap.size, 0, none⟩) 0 0) [] from Grow.empty (show wn22.heap[wn21.heap.size]? = _ by rw [← hwa]; exact blk_alloc_new _ rfl) (show w6.heap.size ≤ wn21.heap.size from (NB21.out).size))
                have HNC22 := Lib.hid (show (Value.slice (some ⟨wn21.heap.size, 0, none⟩) 0 0).ownBlock ≠ some w6.heap.size from fun h => by
                  have h1 := blk_lt HC21.out
                  have h2 : wn21.heap.size = w6.heap.size := Option.some.inj h
                  omega)
                have HC22 := Lib.hid ((Bwa.block _ (blk_lt HC21.out)).trans HC21.out)
                go_simp
                clear hHeld
                refine hK.out _ _ (HS.out _ (bel_call HB6.out NB22.out)) (fun hHeld => ?_)
                clear hK K
                clear hwa cwa fwa Bwa qwa
                refine wpAnyH_ready (rs := [3]) (by kernel_rfl) (by simp) ?_
                refine AllReadyH.cons rfl (fun K hK => ?_) (AllReadyH.nil)
                refine step_grow2 wn22 rfl (.tmp 128) (.tmp 130) 40 rfl 28 iWrap _ 3 32 Try.underlying40 hiWrap hzWrap h1Wrap h2Wrap rfl (by decide) rWrap_ok w6.heap.size (NB22.out).size (.slice (some ⟨wn21.heap.size, 0, none⟩) 0 0) [] rfl HG22.out g_A5 _ g_c5 rfl g.wraps rfl (sl_at (HSRC.out wn22 (.slice (some ⟨wn21.heap.size, 0, none⟩) 0 0) NB22.out (fun b hb => (HG22.out.base_le b hb).1))) (by (try simp only [List.length_nil, List.length_append, List.length_singleton]); omega) (by decide) ?_
                intro v23 wn23 gz go n1
                change K (Act.put _ (some 131) v23) _
                have NB23 := Lib.hid (Below.grown NB22.out go (NB22.out).size fun b hb => (HG22.out.base_le b hb).1)
                have HG23 := Lib.hid (show Grow 28 3 rWrap (fun _ => False) wn23 w6.heap.size v23 g.wraps from gz)
                have HC23 := Lib.hid (blk_grown go HC22.out HNC22.out)
                have HNC23 := Lib.hid (own_other n1 (blk_lt HC22.out) HNC22.out)
                clear gz go n1
                clear hHeld
                refine hK.out _ _ (HS.out _ (bel_call HB6.out NB23.out)) (fun hHeld => ?_)
                clear hK K
                refine wpAnyH_ready (rs := [6]) (by kernel_rfl) (by simp) ?_
                refine AllReadyH.cons rfl (fun K hK => ?_) (AllReadyH.nil)
                have HROW := Lib.hid (show SlAt 3 rWrap (Free (fun _ => False) wn23 v23) wn23 (some ⟨w6.heap.size, 0, none⟩) [x] from SlAt_one [.string x.name, .int .i64 x.epoch, .bool x.seed] ⟨blk_lt HC23.out, fun h => h, HNC23.out⟩ rfl (fun j y hj => by rw [Nat.zero_add]; exact (blk_cells HC23.out).1 j y (by simpa using hj)) ⟨rfl, hx1, HX2.out⟩)
                refine step_grow2 wn23 rfl (.tmp 131) (.tmp 133) 40 rfl 28 iWrap _ 3 32 Try.underlying40 hiWrap hzWrap h1Wrap h2Wrap rfl (by decide) rWrap_ok w6.heap.size (NB23.out).size v23 g.wraps rfl HG23.out (some ⟨w6.heap.size, 0, none⟩) 1 1 rfl [x] rfl (HROW.out) (by (try simp only [List.length_nil, List.length_append, List.length_singleton]); omega) (by decide) ?_
                intro v24 wn24 gz go n1
                change K (Act.put _ (some 134) v24) _
                have NB24 := Lib.hid (Below.grown NB23.out go (NB23.out).size fun b hb => (HG23.out.base_le b hb).1)
                have HG24 := Lib.hid (show Grow 28 3 rWrap (fun _ => False) wn24 w6.heap.size v24 (g.wraps ++ [x]) from gz)
                obtain ⟨AD, nD, cD, hvD, hnD⟩ := HG24.out.shape'
                obtain rfl : nD = g.wraps.length + 1 := by rw [hnD]; simp
                subst hvD
                clear hnD
                have HC24 := Lib.hid (blk_grown go HC23.out HNC23.out)
                have HNC24 := Lib.hid (own_other n1 (blk_lt HC23.out) HNC23.out)
                clear gz go n1
                clear hHeld
                refine hK.out _ _ (HS.out _ (bel_call HB6.out NB24.out)) (fun hHeld => ?_)
                clear hK K
                refine wpAnyH_take (i := 7) (oi := ?_) (v := ?_) ?_ (by kernel_rfl) (by kernel_rfl) (by kernel_rfl) ?_ (Or.inl ⟨?_, ?_⟩) hHeld ?_
                rotate_left 2
                · simp only [List.getElem?_toArray, List.getElem?_cons_succ, List.getElem?_cons_zero]; exact rfl
                · exact fun _ _ _ h => h
                · rfl
                · (intro W' hSw; (try dsimp only at hSw); go_simp; try with_reducible rfl)
                try simp only [Act.put, List.setIfInBounds_toArray, List.set_cons_zero, List.set_cons_succ]
                obtain ⟨wz, rfl⟩ : ∃ q : World, q = wn24 := ⟨_, rfl⟩
                have NBz := NB24
                have HGz := HG24
                clear NB24 HG24
                rotate_left
                obtain ⟨wn25, hwa, cwa, fwa, Bwa, qwa⟩ := boxed w6.drew #[.string x.name, .int .i64 x.epoch, .bool x.seed] 28
                have NB25 := Lib.hid (show Below w6.heap.size w6 wn25 from bel_call NB0.out Bwa)
                have HC25 := Lib.hid (show wn25.heap[w6.heap.size]? = some (.cells #[.string x.name, .int .i64 x.epoch, .bool x.seed] 28 (0, 0)) by rw [← hwa]; exact blk_alloc_new _ rfl)
                go_simp
                clear hHeld
                refine hK.out _ _ (HS.out _ (bel_call HB6.out NB25.out)) (fun hHeld => ?_)
                clear hK K
                clear hwa cwa fwa Bwa qwa
                refine wpAnyH_ready (rs := [0, 2]) (by kernel_rfl) (by simp) ?_
                refine AllReadyH.cons rfl (fun K hK => ?_) (AllReadyH.cons rfl (fun K hK => ?_) (AllReadyH.nil))
                obtain ⟨wn26, hwa, cwa, fwa, Bwa, qwa⟩ := boxed wn25 #[] 28
                have NB26 := Lib.hid (show Below w6.heap.size w6 wn26 from bel_call NB25.out Bwa)
                have HG26 := Lib.hid (show Grow 28 3 rWrap (fun _ => False) wn26 w6.heap.size (.slice (some ⟨wn25.heap.size, 0, none⟩) 0 0) [] from Grow.empty (show wn26.heap[wn25.heap.size]? = _ by rw [← hwa]; exact blk_alloc_new _ rfl) (show w6.heap.size ≤ wn25.heap.size from (NB25.out).size))
                have HNC26 := Lib.hid (show (Value.slice (some ⟨wn25.heap.size, 0, none⟩) 0 0).ownBlock ≠ some w6.heap.size from fun h => by
                  have h1 := blk_lt HC25.out
                  have h2 : wn25.heap.size = w6.heap.size := Option.some.inj h
                  omega)
                have HC26 := Lib.hid ((Bwa.block _ (blk_lt HC25.out)).trans HC25.out)
                go_simp
                clear hHeld
                refine hK.out _ _ (HS.out _ (bel_call HB6.out NB26.out)) (fun hHeld => ?_)
                clear hK K
                clear hwa cwa fwa Bwa qwa
                refine wpAnyH_ready (rs := [2]) (by kernel_rfl) (by simp) ?_
                refine AllReadyH.cons rfl (fun K hK => ?_) (AllReadyH.nil)
                have x5 := ((NB26.out).cell (p := ⟨wr1.heap.size, 5, none⟩) (cell_lt HX5.out)).trans HX5.out
                go_simp
                clear x5 hHeld
                refine hK.out _ _ (HS.out _ (bel_call HB6.out NB26.out)) (fun hHeld => ?_)
                clear hK K
                refine wpAnyH_ready (rs := [3]) (by kernel_rfl) (by simp) ?_
                refine AllReadyH.cons rfl (fun K hK => ?_) (AllReadyH.nil)
                refine step_grow2 wn26 rfl (.tmp 128) (.tmp 130) 40 rfl 28 iWrap _ 3 32 Try.underlying40 hiWrap hzWrap h1Wrap h2Wrap rfl (by decide) rWrap_ok w6.heap.size (NB26.out).size (.slice (some ⟨wn25.heap.size, 0, none⟩) 0 0) [] rfl HG26.out g_A5 _ g_c5 rfl g.wraps rfl (sl_at (HSRC.out wn26 (.slice (some ⟨wn25.heap.size, 0, none⟩) 0 0) NB26.out (fun b hb => (HG26.out.base_le b hb).1))) (by (try simp only [List.length_nil, List.length_append, List.length_singleton]); omega) (by decide) ?_
                intro v28 wn28 gz go n1
                change K (Act.put _ (some 131) v28) _
                have NB28 := Lib.hid (Below.grown NB26.out go (NB26.out).size fun b hb => (HG26.out.base_le b hb).1)
                have HG28 := Lib.hid (show Grow 28 3 rWrap (fun _ => False) wn28 w6.heap.size v28 g.wraps from gz)
                have HC28 := Lib.hid (blk_grown go HC26.out HNC26.out)
                have HNC28 := Lib.hid (own_other n1 (blk_lt HC26.out) HNC26.out)
                clear gz go n1
                clear hHeld
                refine hK.out _ _ (HS.out _ (bel_call HB6.out NB28.out)) (fun hHeld => ?_)
                clear hK K
                refine wpAnyH_ready (rs := [6]) (by kernel_rfl) (by simp) ?_
                refine AllReadyH.cons rfl (fun K hK => ?_) (AllReadyH.nil)
                have HROW := Lib.hid (show SlAt 3 rWrap (Free (fun _ => False) wn28 v28) wn28 (some ⟨w6.heap.size, 0, none⟩) [x] from SlAt_one [.string x.name, .int .i64 x.epoch, .bool x.seed] ⟨blk_lt HC28.out, fun h => h, HNC28.out⟩ rfl (fun j y hj => by rw [Nat.zero_add]; exact (blk_cells HC28.out).1 j y (by simpa using hj)) ⟨rfl, hx1, HX2.out⟩)
                refine step_grow2 wn28 rfl (.tmp 131) (.tmp 133) 40 rfl 28 iWrap _ 3 32 Try.underlying40 hiWrap hzWrap h1Wrap h2Wrap rfl (by decide) rWrap_ok w6.heap.size (NB28.out).size v28 g.wraps rfl HG28.out (some ⟨w6.heap.size, 0, none⟩) 1 1 rfl [x] rfl (HROW.out) (by (try simp only [List.length_nil, List.length_append, List.length_singleton]); omega) (by decide) ?_
                intro v29 wn29 gz go n1
                change K (Act.put _ (some 134) v29) _
                have NB29 := Lib.hid (Below.grown NB28.out go (NB28.out).size fun b hb => (HG28.out.base_le b hb).1)
                have HG29 := Lib.hid (show Grow 28 3 rWrap (fun _ => False) wn29 w6.heap.size v29 (g.wraps ++ [x]) from gz)
                obtain ⟨AD, nD, cD, hvD, hnD⟩ := HG29.out.shape'
                obtain rfl : nD = g.wraps.length + 1 := by rw [hnD]; simp
                subst hvD
                clear hnD
                have HC29 := Lib.hid (blk_grown go HC28.out HNC28.out)
                have HNC29 := Lib.hid (own_other n1 (blk_lt HC28.out) HNC28.out)
                clear gz go n1
                clear hHeld
                refine hK.out _ _ (HS.out _ (bel_call HB6.out NB29.out)) (fun hHeld => ?_)
                clear hK K
                refine wpAnyH_take (i := 7) (oi := ?_) (v := ?_) ?_ (by kernel_rfl) (by kernel_rfl) (by kernel_rfl) ?_ (Or.inl ⟨?_, ?_⟩) hHeld ?_
                rotate_left 2
                · simp only [List.getElem?_toArray, List.getElem?_cons_succ, List.getElem?_cons_zero]; exact rfl
                · exact fun _ _ _ h => h
                · rfl
                · (intro W' hSw; (try dsimp only at hSw); go_simp; try with_reducible rfl)
                try simp only [Act.put, List.setIfInBounds_toArray, List.set_cons_zero, List.set_cons_succ]
                obtain ⟨wz, rfl⟩ : ∃ q : World, q = wn29 := ⟨_, rfl⟩
                have NBz := NB29
                have HGz := HG29
                clear NB29 HG29
                rotate_left
                have x5 := ((NB25.out).cell (p := ⟨wr1.heap.size, 5, none⟩) (cell_lt HX5.out)).trans HX5.out
                go_simp
                clear x5 hHeld
                refine hK.out _ _ (HS.out _ (bel_call HB6.out NB25.out)) (fun hHeld => ?_)
                clear hK K
                refine wpAnyH_ready (rs := [0]) (by kernel_rfl) (by simp) ?_
                refine AllReadyH.cons rfl (fun K hK => ?_) (AllReadyH.nil)
                obtain ⟨wn31, hwa, cwa, fwa, Bwa, qwa⟩ := boxed wn25 #[] 28
                have NB31 := Lib.hid (show Below w6.heap.size w6 wn31 from bel_call NB25.out Bwa)
                have HG31 := Lib.hid (show Grow 28 3 rWrap (fun _ => False) wn31 w6.heap.size (.slice (some ⟨wn25.heap.size, 0, none⟩) 0 0) [] from Grow.empty (show wn31.heap[wn25.heap.size]? = _ by rw [← hwa]; exact blk_alloc_new _ rfl) (show w6.heap.size ≤ wn25.heap.size from (NB25.out).size))
                have HNC31 := Lib.hid (show (Value.slice (some ⟨wn25.heap.size, 0, none⟩) 0 0).ownBlock ≠ some w6.heap.size from fun h => by
                  have h1 := blk_lt HC25.out
                  have h2 : wn25.heap.size = w6.heap.size := Option.some.inj h
                  omega)
                have HC31 := Lib.hid ((Bwa.block _ (blk_lt HC25.out)).trans HC25.out)
                go_simp
                clear hHeld
                refine hK.out _ _ (HS.out _ (bel_call HB6.out NB31.out)) (fun hHeld => ?_)
                clear hK K
                clear hwa cwa fwa Bwa qwa
                refine wpAnyH_ready (rs := [3]) (by kernel_rfl) (by simp) ?_
                refine AllReadyH.cons rfl (fun K hK => ?_) (AllReadyH.nil)
                refine step_grow2 wn31 rfl (.tmp 128) (.tmp 130) 40 rfl 28 iWrap _ 3 32 Try.underlying40 hiWrap hzWrap h1Wrap h2Wrap rfl (by decide) rWrap_ok w6.heap.size (NB31.out).size (.slice (some ⟨wn25.heap.size, 0, none⟩) 0 0) [] rfl HG31.out g_A5 _ g_c5 rfl g.wraps rfl (sl_at (HSRC.out wn31 (.slice (some ⟨wn25.heap.size, 0, none⟩) 0 0) NB31.out (fun b hb => (HG31.out.base_le b hb).1))) (by (try simp only [List.length_nil, List.length_append, List.length_singleton]); omega) (by decide) ?_
                intro v32 wn32 gz go n1
                change K (Act.put _ (some 131) v32) _
                have NB32 := Lib.hid (Below.grown NB31.out go (NB31.out).size fun b hb => (HG31.out.base_le b hb).1)
                have HG32 := Lib.hid (show Grow 28 3 rWrap (fun _ => False) wn32 w6.heap.size v32 g.wraps from gz)
                have HC32 := Lib.hid (blk_grown go HC31.out HNC31.out)
                have HNC32 := Lib.hid (own_other n1 (blk_lt HC31.out) HNC31.out)
                clear gz go n1
                clear hHeld
                refine hK.out _ _ (HS.out _ (bel_call HB6.out NB32.out)) (fun hHeld => ?_)
                clear hK K
                refine wpAnyH_ready (rs := [6]) (by kernel_rfl) (by simp) ?_
                refine AllReadyH.cons rfl (fun K hK => ?_) (AllReadyH.nil)
                have HROW := Lib.hid (show SlAt 3 rWrap (Free (fun _ => False) wn32 v32) wn32 (some ⟨w6.heap.size, 0, none⟩) [x] from SlAt_one [.string x.name, .int .i64 x.epoch, .bool x.seed] ⟨blk_lt HC32.out, fun h => h, HNC32.out⟩ rfl (fun j y hj => by rw [Nat.zero_add]; exact (blk_cells HC32.out).1 j y (by simpa using hj)) ⟨rfl, hx1, HX2.out⟩)
                refine step_grow2 wn32 rfl (.tmp 131) (.tmp 133) 40 rfl 28 iWrap _ 3 32 Try.underlying40 hiWrap hzWrap h1Wrap h2Wrap rfl (by decide) rWrap_ok w6.heap.size (NB32.out).size v32 g.wraps rfl HG32.out (some ⟨w6.heap.size, 0, none⟩) 1 1 rfl [x] rfl (HROW.out) (by (try simp only [List.length_nil, List.length_append, List.length_singleton]); omega) (by decide) ?_
                intro v33 wn33 gz go n1
                change K (Act.put _ (some 134) v33) _
                have NB33 := Lib.hid (Below.grown NB32.out go (NB32.out).size fun b hb => (HG32.out.base_le b hb).1)
                have HG33 := Lib.hid (show Grow 28 3 rWrap (fun _ => False) wn33 w6.heap.size v33 (g.wraps ++ [x]) from gz)
                obtain ⟨AD, nD, cD, hvD, hnD⟩ := HG33.out.shape'
                obtain rfl : nD = g.wraps.length + 1 := by rw [hnD]; simp
                subst hvD
                clear hnD
                have HC33 := Lib.hid (blk_grown go HC32.out HNC32.out)
                have HNC33 := Lib.hid (own_other n1 (blk_lt HC32.out) HNC32.out)
                clear gz go n1
                clear hHeld
                refine hK.out _ _ (HS.out _ (bel_call HB6.out NB33.out)) (fun hHeld => ?_)
                clear hK K
                refine wpAnyH_take (i := 7) (oi := ?_) (v := ?_) ?_ (by kernel_rfl) (by kernel_rfl) (by kernel_rfl) ?_ (Or.inl ⟨?_, ?_⟩) hHeld ?_
                rotate_left 2
                · simp only [List.getElem?_toArray, List.getElem?_cons_succ, List.getElem?_cons_zero]; exact rfl
                · exact fun _ _ _ h => h
                · rfl
                · (intro W' hSw; (try dsimp only at hSw); go_simp; try with_reducible rfl)
                try simp only [Act.put, List.setIfInBounds_toArray, List.set_cons_zero, List.set_cons_succ]
                obtain ⟨wz, rfl⟩ : ∃ q : World, q = wn33 := ⟨_, rfl⟩
                have NBz := NB33
                have HGz := HG33
                clear NB33 HG33
                rotate_left
                all_goals
                  have HW := Lib.hid (((NBz.out).block _ (blk_lt H18.out)).trans H18.out)
                  obtain ⟨cT, fT⟩ := blk_cells HW.out
                  have c_0 := cT 5 _ rfl
                  clear cT
                  refine wpAnyH_ready (rs := [8]) (by kernel_rfl) (by simp) ?_
                  refine AllReadyH.cons rfl (fun K hK => ?_) AllReadyH.nil
                  go_simp
                  clear c_0 fT hHeld
                  refine hK.out _ _ (HS.out _ ((bel_call HB6.out NBz.out).setCell (Nat.le_refl _) _)) (fun hHeld => ?_)
                  clear hK K
                  refine wpAnyH_done (by kernel_rfl) ?_ _
                  clear hHeld
                  have HE1 := Lib.hid (blk_set_same (i := 5) (cs' := #[.string g.name, .int .i64 g.turn, .slice g_A2 g.manifests.length g_c2, .slice g_A3 g.epochs.length g_c3, .slice g_A4 g.items.length g_c4, .slice AD (g.wraps.length + 1) cD, .slice g_A6 g.links.length g_c6]) (.slice AD (g.wraps.length + 1) cD) HW.out rfl)
                  have HOW := Lib.hid (fun b (hb : ((.slice AD (g.wraps.length + 1) cD) : Value).ownBlock = some b) => (HGz.out.base_le b hb).1)
                  have HSL := Lib.hid (Sl.keep rWrap_ok (by decide) (flat_sl (S' := fun z => z ≠ wr1.heap.size) flat_wrap (HGz.out.sl (S := fun _ => True) rWrap_ok (fun _ _ _ => trivial) (fun _ _ => trivial)) (fun b hb e => by have := HOW.out b hb; have := hz6x; omega)) (kept_set (a := ⟨wr1.heap.size, 5, none⟩) (.slice AD (g.wraps.length + 1) cD) (fun h => h rfl)))
                  have HBE := Lib.hid ((ButB.of (B := fun z => z = wr1.heap.size) NBz.out).set ⟨wr1.heap.size, 5, none⟩ (.slice AD (g.wraps.length + 1) cD) rfl)
                  go_wp2
                  go_meet
                  case rel => exact ⟨rfl, _, _, HE1, HSL, HOW, HBE.out⟩
              obtain ⟨rfl, A5, c5, H18b, HSW, HOW5, hcb⟩ := hcut
              obtain ⟨wx1, rfl⟩ : ∃ q : World, q = wc := ⟨_, rfl⟩
              have HC6 := Lib.hid hcb
              have HB61 := Lib.hid (ButB.below HB6.out (Nat.le_of_lt hz6) (fun z hz => Nat.le_of_eq hz.symm) hcb)
              have hz7 : w6.heap.size ≤ wx1.heap.size := hcb.size
              clear HBM6 hcb
              have HBM6 := bel_call HBR.out HB61.out
              go_upto_region 22 with fail
              go_cut [116] from 116 to 150 (fun s116 wx => s116 = .int .i64 k ∧ ∃ A6 c6, Hid (wx.heap[wr1.heap.size]? = some (.cells #[.string g.name, .int .i64 g.turn, .slice g_A2 g.manifests.length g_c2, .slice g_A3 g.epochs.length g_c3, .slice g_A4 g.items.length g_c4, .slice A5 (g.wraps.length + 1) c5, .slice A6 (g.links.length + 1) c6] 43 (0, 0))) ∧ Hid (Sl 3 rLink (fun z => z ≠ wr1.heap.size) wx (.slice A6 (g.links.length + 1) c6) (g.links ++ [l])) ∧ Hid (∀ b, (Value.slice A6 (g.links.length + 1) c6).ownBlock = some b → wx1.heap.size ≤ b) ∧ ButB (fun z => z = wr1.heap.size) wx1 wx)
              case first =>
                have HX5 := Lib.hid ((blk_cells H18b.out).1 6 _ rfl)
                have HS := Lib.hid (show ∀ W, Below wr1.heap.size wr1 W → (fun W : World => W.cell? ⟨b8, 0, none⟩ = some (.int .i64 l.epoch) ∧ W.cell? ⟨b8, 1, none⟩ = some (.string l.to) ∧ W.cell? ⟨b8, 2, none⟩ = some (.int .i64 l.seq)) W from fun W hW => ⟨q80 W (bel_call HBR.out hW), q81 W (bel_call HBR.out hW), q82 W (bel_call HBR.out hW)⟩)
                have HSRC := Lib.hid (show ∀ (W : World) (v : Value), Below wx1.heap.size wx1 W → (∀ b, v.ownBlock = some b → wx1.heap.size ≤ b) → Sl 3 rLink (Free (fun _ => False) W v) W (.slice g_A6 g.links.length g_c6) g.links from fun W v hW hv => Sl.keep rLink_ok (by decide) ⟨_, _, rfl, g_links_l, g_links_m, g_links_n, g_links_s⟩ (kept_free (bel_call HBM.out (bel_call HBR.out (bel_call HB61.out hW))) (fun b h => h.elim) (fun b hb => Nat.le_trans (bel_call HBM.out (bel_call HBR.out HB61.out)).size (hv b hb))))
                have hgl : g.links.length ≤ 100 := by have h1 := sum5_mem _ _ HGM.out; have h2 := HSM.out.all; unfold size5 at h1; omega
                have hz6x := hz6
                clear k0 k1 k2 k3 q70 q71 q72 q80 q81 q82 q90 q91 g3 g5 B55 BM0 B5 BR HBM6 hzk st_users_s st_folders_s
                obtain ⟨iLink, hiLink, hzLink, h1Link, h2Link⟩ := info_parts (show (Try.prog.info? 30).map (fun i => (i.zero, i.size, i.bytes)) = some (some (.agg #[.int .i64 0, .string ⟨#[]⟩, .int .i64 0]), 3, 32) from by kernel_rfl)
                have NB0 := Lib.hid (show Below wx1.heap.size wx1 wx1.drew from (Below.refl _ _).drew)
                refine wp_region_held_drew (S := (fun W : World => W.cell? ⟨b8, 0, none⟩ = some (.int .i64 l.epoch) ∧ W.cell? ⟨b8, 1, none⟩ = some (.string l.to) ∧ W.cell? ⟨b8, 2, none⟩ = some (.int .i64 l.seq))) (by kernel_rfl) (HS.out _ (bel_call HB61.out NB0.out)) (fun hHeld => ?_)
                refine wpAnyH_take (i := 1) (oi := ?_) (v := ?_) ?_ (by kernel_rfl) (by kernel_rfl) (by kernel_rfl) ?_ (Or.inl ⟨?_, ?_⟩) hHeld ?_
                rotate_left 2
                · simp only [List.getElem?_toArray, List.getElem?_cons_succ, List.getElem?_cons_zero]; exact rfl
                · exact fun _ _ _ h => h
                · rfl
                · (intro W' hSw; (try dsimp only at hSw); go_simp; try with_reducible rfl)
                try simp only [Act.put, List.setIfInBounds_toArray, List.set_cons_zero, List.set_cons_succ]
                refine wpAnyH_take (i := 4) (oi := ?_) (v := ?_) ?_ (by kernel_rfl) (by kernel_rfl) (by kernel_rfl) ?_ (Or.inl ⟨?_, ?_⟩) hHeld ?_
                rotate_left 2
                · simp only [List.getElem?_toArray, List.getElem?_cons_succ, List.getElem?_cons_zero]; exact rfl
                · exact fun _ _ _ h => h
                · rfl
                · (intro W' hSw; (try dsimp only at hSw); go_simp; try with_reducible rfl)
                try simp only [Act.put, List.setIfInBounds_toArray, List.set_cons_zero, List.set_cons_succ]
                refine wpAnyH_ready (rs := [0, 2, 5]) (by kernel_rfl) (by simp) ?_
                refine AllReadyH.cons rfl (fun K hK => ?_) (AllReadyH.cons rfl (fun K hK => ?_) (AllReadyH.cons rfl (fun K hK => ?_) (AllReadyH.nil)))
                obtain ⟨wn1, hwa, cwa, fwa, Bwa, qwa⟩ := boxed wx1.drew #[] 30
                have NB1 := Lib.hid (show Below wx1.heap.size wx1 wn1 from bel_call NB0.out Bwa)
                have HG1 := Lib.hid (show Grow 30 3 rLink (fun _ => False) wn1 wx1.heap.size (.slice (some ⟨wx1.heap.size, 0, none⟩) 0 0) [] from Grow.empty (show wn1.heap[wx1.heap.size]? = _ by rw [← hwa]; exact blk_alloc_new _ rfl) (show wx1.heap.size ≤ wx1.drew.heap.size from (NB0.out).size))
                go_simp
                clear hHeld
                refine hK.out _ _ (HS.out _ (bel_call HB61.out NB1.out)) (fun hHeld => ?_)
                clear hK K
                clear hwa cwa fwa Bwa qwa
                refine wpAnyH_ready (rs := [2, 5]) (by kernel_rfl) (by simp) ?_
                refine AllReadyH.cons rfl (fun K hK => ?_) (AllReadyH.cons rfl (fun K hK => ?_) (AllReadyH.nil))
                have x5 := ((NB1.out).cell (p := ⟨wr1.heap.size, 6, none⟩) (cell_lt HX5.out)).trans HX5.out
                go_simp
                clear x5 hHeld
                refine hK.out _ _ (HS.out _ (bel_call HB61.out NB1.out)) (fun hHeld => ?_)
                clear hK K
                refine wpAnyH_ready (rs := [3, 5]) (by kernel_rfl) (by simp) ?_
                refine AllReadyH.cons rfl (fun K hK => ?_) (AllReadyH.cons rfl (fun K hK => ?_) (AllReadyH.nil))
                refine step_grow2 wn1 rfl (.tmp 136) (.tmp 138) 41 rfl 30 iLink _ 3 32 Try.underlying41 hiLink hzLink h1Link h2Link rfl (by decide) rLink_ok wx1.heap.size (NB1.out).size (.slice (some ⟨wx1.heap.size, 0, none⟩) 0 0) [] rfl HG1.out g_A6 _ g_c6 rfl g.links rfl (sl_at (HSRC.out wn1 (.slice (some ⟨wx1.heap.size, 0, none⟩) 0 0) NB1.out (fun b hb => (HG1.out.base_le b hb).1))) (by (try simp only [List.length_nil, List.length_append, List.length_singleton]); omega) (by decide) ?_
                intro v3 wn3 gz go n1
                change K (Act.put _ (some 139) v3) _
                have NB3 := Lib.hid (Below.grown NB1.out go (NB1.out).size fun b hb => (HG1.out.base_le b hb).1)
                have HG3 := Lib.hid (show Grow 30 3 rLink (fun _ => False) wn3 wx1.heap.size v3 g.links from gz)
                clear gz go n1
                clear hHeld
                refine hK.out _ _ (HS.out _ (bel_call HB61.out NB3.out)) (fun hHeld => ?_)
                clear hK K
                refine wpAnyH_ready (rs := [5]) (by kernel_rfl) (by simp) ?_
                refine AllReadyH.cons rfl (fun K hK => ?_) (AllReadyH.nil)
                obtain ⟨wn4, hwa, cwa, fwa, Bwa, qwa⟩ := boxed wn3 #[.int .i64 l.epoch, .string l.to, .int .i64 l.seq] 30
                have NB4 := Lib.hid (show Below wx1.heap.size wx1 wn4 from bel_call NB3.out Bwa)
                have HC4 := Lib.hid (show wn4.heap[wn3.heap.size]? = some (.cells #[.int .i64 l.epoch, .string l.to, .int .i64 l.seq] 30 (0, 0)) by rw [← hwa]; exact blk_alloc_new _ rfl)
                have HNC4 := Lib.hid (show (v3 : Value).ownBlock ≠ some wn3.heap.size from fun h => by
                  have h1 := (HG3.out.base_le _ h).2
                  have h2 : wn3.heap.size = wn3.heap.size := rfl
                  omega)
                have HG4 := Lib.hid (HG3.out.below rLink_ok Bwa)
                go_simp
                clear hHeld
                refine hK.out _ _ (HS.out _ (bel_call HB61.out NB4.out)) (fun hHeld => ?_)
                clear hK K
                clear hwa cwa fwa Bwa qwa
                refine wpAnyH_ready (rs := [6]) (by kernel_rfl) (by simp) ?_
                refine AllReadyH.cons rfl (fun K hK => ?_) (AllReadyH.nil)
                have HROW := Lib.hid (show SlAt 3 rLink (Free (fun _ => False) wn4 v3) wn4 (some ⟨wn3.heap.size, 0, none⟩) [l] from SlAt_one [.int .i64 l.epoch, .string l.to, .int .i64 l.seq] ⟨blk_lt HC4.out, fun h => h, HNC4.out⟩ rfl (fun j y hj => by rw [Nat.zero_add]; exact (blk_cells HC4.out).1 j y (by simpa using hj)) ⟨rfl, HL.out.1, HL.out.2.1, HL.out.2.2⟩)
                refine step_grow2 wn4 rfl (.tmp 139) (.tmp 141) 41 rfl 30 iLink _ 3 32 Try.underlying41 hiLink hzLink h1Link h2Link rfl (by decide) rLink_ok wx1.heap.size (NB4.out).size v3 g.links rfl HG4.out (some ⟨wn3.heap.size, 0, none⟩) 1 1 rfl [l] rfl (HROW.out) (by (try simp only [List.length_nil, List.length_append, List.length_singleton]); omega) (by decide) ?_
                intro v5 wn5 gz go n1
                change K (Act.put _ (some 142) v5) _
                have NB5 := Lib.hid (Below.grown NB4.out go (NB4.out).size fun b hb => (HG4.out.base_le b hb).1)
                have HG5 := Lib.hid (show Grow 30 3 rLink (fun _ => False) wn5 wx1.heap.size v5 (g.links ++ [l]) from gz)
                obtain ⟨AD, nD, cD, hvD, hnD⟩ := HG5.out.shape'
                obtain rfl : nD = g.links.length + 1 := by rw [hnD]; simp
                subst hvD
                clear hnD
                have HC5 := Lib.hid (blk_grown go HC4.out HNC4.out)
                have HNC5 := Lib.hid (own_other n1 (blk_lt HC4.out) HNC4.out)
                clear gz go n1
                clear hHeld
                refine hK.out _ _ (HS.out _ (bel_call HB61.out NB5.out)) (fun hHeld => ?_)
                clear hK K
                refine wpAnyH_take (i := 7) (oi := ?_) (v := ?_) ?_ (by kernel_rfl) (by kernel_rfl) (by kernel_rfl) ?_ (Or.inl ⟨?_, ?_⟩) hHeld ?_
                rotate_left 2
                · simp only [List.getElem?_toArray, List.getElem?_cons_succ, List.getElem?_cons_zero]; exact rfl
                · exact fun _ _ _ h => h
                · rfl
                · (intro W' hSw; (try dsimp only at hSw); go_simp; try with_reducible rfl)
                try simp only [Act.put, List.setIfInBounds_toArray, List.set_cons_zero, List.set_cons_succ]
                obtain ⟨wz, rfl⟩ : ∃ q : World, q = wn5 := ⟨_, rfl⟩
                have NBz := NB5
                have HGz := HG5
                clear NB5 HG5
                rotate_left
                obtain ⟨wn6, hwa, cwa, fwa, Bwa, qwa⟩ := boxed wn1 #[.int .i64 l.epoch, .string l.to, .int .i64 l.seq] 30
                have NB6 := Lib.hid (show Below wx1.heap.size wx1 wn6 from bel_call NB1.out Bwa)
                have HC6 := Lib.hid (show wn6.heap[wn1.heap.size]? = some (.cells #[.int .i64 l.epoch, .string l.to, .int .i64 l.seq] 30 (0, 0)) by rw [← hwa]; exact blk_alloc_new _ rfl)
                have HNC6 := Lib.hid (show ((.slice (some ⟨wx1.heap.size, 0, none⟩) 0 0) : Value).ownBlock ≠ some wn1.heap.size from fun h => by
                  have h1 := (HG1.out.base_le _ h).2
                  have h2 : wn1.heap.size = wn1.heap.size := rfl
                  omega)
                have HG6 := Lib.hid (HG1.out.below rLink_ok Bwa)
                go_simp
                clear hHeld
                refine hK.out _ _ (HS.out _ (bel_call HB61.out NB6.out)) (fun hHeld => ?_)
                clear hK K
                clear hwa cwa fwa Bwa qwa
                refine wpAnyH_ready (rs := [3]) (by kernel_rfl) (by simp) ?_
                refine AllReadyH.cons rfl (fun K hK => ?_) (AllReadyH.nil)
                refine step_grow2 wn6 rfl (.tmp 136) (.tmp 138) 41 rfl 30 iLink _ 3 32 Try.underlying41 hiLink hzLink h1Link h2Link rfl (by decide) rLink_ok wx1.heap.size (NB6.out).size (.slice (some ⟨wx1.heap.size, 0, none⟩) 0 0) [] rfl HG6.out g_A6 _ g_c6 rfl g.links rfl (sl_at (HSRC.out wn6 (.slice (some ⟨wx1.heap.size, 0, none⟩) 0 0) NB6.out (fun b hb => (HG6.out.base_le b hb).1))) (by (try simp only [List.length_nil, List.length_append, List.length_singleton]); omega) (by decide) ?_
                intro v7 wn7 gz go n1
                change K (Act.put _ (some 139) v7) _
                have NB7 := Lib.hid (Below.grown NB6.out go (NB6.out).size fun b hb => (HG6.out.base_le b hb).1)
                have HG7 := Lib.hid (show Grow 30 3 rLink (fun _ => False) wn7 wx1.heap.size v7 g.links from gz)
                have HC7 := Lib.hid (blk_grown go HC6.out HNC6.out)
                have HNC7 := Lib.hid (own_other n1 (blk_lt HC6.out) HNC6.out)
                clear gz go n1
                clear hHeld
                refine hK.out _ _ (HS.out _ (bel_call HB61.out NB7.out)) (fun hHeld => ?_)
                clear hK K
                refine wpAnyH_ready (rs := [6]) (by kernel_rfl) (by simp) ?_
                refine AllReadyH.cons rfl (fun K hK => ?_) (AllReadyH.nil)
                have HROW := Lib.hid (show SlAt 3 rLink (Free (fun _ => False) wn7 v7) wn7 (some ⟨wn1.heap.size, 0, none⟩) [l] from SlAt_one [.int .i64 l.epoch, .string l.to, .int .i64 l.seq] ⟨blk_lt HC7.out, fun h => h, HNC7.out⟩ rfl (fun j y hj => by rw [Nat.zero_add]; exact (blk_cells HC7.out).1 j y (by simpa using hj)) ⟨rfl, HL.out.1, HL.out.2.1, HL.out.2.2⟩)
                refine step_grow2 wn7 rfl (.tmp 139) (.tmp 141) 41 rfl 30 iLink _ 3 32 Try.underlying41 hiLink hzLink h1Link h2Link rfl (by decide) rLink_ok wx1.heap.size (NB7.out).size v7 g.links rfl HG7.out (some ⟨wn1.heap.size, 0, none⟩) 1 1 rfl [l] rfl (HROW.out) (by (try simp only [List.length_nil, List.length_append, List.length_singleton]); omega) (by decide) ?_
                intro v8 wn8 gz go n1
                change K (Act.put _ (some 142) v8) _
                have NB8 := Lib.hid (Below.grown NB7.out go (NB7.out).size fun b hb => (HG7.out.base_le b hb).1)
                have HG8 := Lib.hid (show Grow 30 3 rLink (fun _ => False) wn8 wx1.heap.size v8 (g.links ++ [l]) from gz)
                obtain ⟨AD, nD, cD, hvD, hnD⟩ := HG8.out.shape'
                obtain rfl : nD = g.links.length + 1 := by rw [hnD]; simp
                subst hvD
                clear hnD
                have HC8 := Lib.hid (blk_grown go HC7.out HNC7.out)
                have HNC8 := Lib.hid (own_other n1 (blk_lt HC7.out) HNC7.out)
                clear gz go n1
                clear hHeld
                refine hK.out _ _ (HS.out _ (bel_call HB61.out NB8.out)) (fun hHeld => ?_)
                clear hK K
                refine wpAnyH_take (i := 7) (oi := ?_) (v := ?_) ?_ (by kernel_rfl) (by kernel_rfl) (by kernel_rfl) ?_ (Or.inl ⟨?_, ?_⟩) hHeld ?_
                rotate_left 2
                · simp only [List.getElem?_toArray, List.getElem?_cons_succ, List.getElem?_cons_zero]; exact rfl
                · exact fun _ _ _ h => h
                · rfl
                · (intro W' hSw; (try dsimp only at hSw); go_simp; try with_reducible rfl)
                try simp only [Act.put, List.setIfInBounds_toArray, List.set_cons_zero, List.set_cons_succ]
                obtain ⟨wz, rfl⟩ : ∃ q : World, q = wn8 := ⟨_, rfl⟩
                have NBz := NB8
                have HGz := HG8
                clear NB8 HG8
                rotate_left
                obtain ⟨wn9, hwa, cwa, fwa, Bwa, qwa⟩ := boxed wn1 #[.int .i64 l.epoch, .string l.to, .int .i64 l.seq] 30
                have NB9 := Lib.hid (show Below wx1.heap.size wx1 wn9 from bel_call NB1.out Bwa)
                have HC9 := Lib.hid (show wn9.heap[wn1.heap.size]? = some (.cells #[.int .i64 l.epoch, .string l.to, .int .i64 l.seq] 30 (0, 0)) by rw [← hwa]; exact blk_alloc_new _ rfl)
                have HNC9 := Lib.hid (show ((.slice (some ⟨wx1.heap.size, 0, none⟩) 0 0) : Value).ownBlock ≠ some wn1.heap.size from fun h => by
                  have h1 := (HG1.out.base_le _ h).2
                  have h2 : wn1.heap.size = wn1.heap.size := rfl
                  omega)
                have HG9 := Lib.hid (HG1.out.below rLink_ok Bwa)
                go_simp
                clear hHeld
                refine hK.out _ _ (HS.out _ (bel_call HB61.out NB9.out)) (fun hHeld => ?_)
                clear hK K
                clear hwa cwa fwa Bwa qwa
                refine wpAnyH_ready (rs := [2]) (by kernel_rfl) (by simp) ?_
                refine AllReadyH.cons rfl (fun K hK => ?_) (AllReadyH.nil)
                have x5 := ((NB9.out).cell (p := ⟨wr1.heap.size, 6, none⟩) (cell_lt HX5.out)).trans HX5.out
                go_simp
                clear x5 hHeld
                refine hK.out _ _ (HS.out _ (bel_call HB61.out NB9.out)) (fun hHeld => ?_)
                clear hK K
                refine wpAnyH_ready (rs := [3]) (by kernel_rfl) (by simp) ?_
                refine AllReadyH.cons rfl (fun K hK => ?_) (AllReadyH.nil)
                refine step_grow2 wn9 rfl (.tmp 136) (.tmp 138) 41 rfl 30 iLink _ 3 32 Try.underlying41 hiLink hzLink h1Link h2Link rfl (by decide) rLink_ok wx1.heap.size (NB9.out).size (.slice (some ⟨wx1.heap.size, 0, none⟩) 0 0) [] rfl HG9.out g_A6 _ g_c6 rfl g.links rfl (sl_at (HSRC.out wn9 (.slice (some ⟨wx1.heap.size, 0, none⟩) 0 0) NB9.out (fun b hb => (HG9.out.base_le b hb).1))) (by (try simp only [List.length_nil, List.length_append, List.length_singleton]); omega) (by decide) ?_
                intro v11 wn11 gz go n1
                change K (Act.put _ (some 139) v11) _
                have NB11 := Lib.hid (Below.grown NB9.out go (NB9.out).size fun b hb => (HG9.out.base_le b hb).1)
                have HG11 := Lib.hid (show Grow 30 3 rLink (fun _ => False) wn11 wx1.heap.size v11 g.links from gz)
                have HC11 := Lib.hid (blk_grown go HC9.out HNC9.out)
                have HNC11 := Lib.hid (own_other n1 (blk_lt HC9.out) HNC9.out)
                clear gz go n1
                clear hHeld
                refine hK.out _ _ (HS.out _ (bel_call HB61.out NB11.out)) (fun hHeld => ?_)
                clear hK K
                refine wpAnyH_ready (rs := [6]) (by kernel_rfl) (by simp) ?_
                refine AllReadyH.cons rfl (fun K hK => ?_) (AllReadyH.nil)
                have HROW := Lib.hid (show SlAt 3 rLink (Free (fun _ => False) wn11 v11) wn11 (some ⟨wn1.heap.size, 0, none⟩) [l] from SlAt_one [.int .i64 l.epoch, .string l.to, .int .i64 l.seq] ⟨blk_lt HC11.out, fun h => h, HNC11.out⟩ rfl (fun j y hj => by rw [Nat.zero_add]; exact (blk_cells HC11.out).1 j y (by simpa using hj)) ⟨rfl, HL.out.1, HL.out.2.1, HL.out.2.2⟩)
                refine step_grow2 wn11 rfl (.tmp 139) (.tmp 141) 41 rfl 30 iLink _ 3 32 Try.underlying41 hiLink hzLink h1Link h2Link rfl (by decide) rLink_ok wx1.heap.size (NB11.out).size v11 g.links rfl HG11.out (some ⟨wn1.heap.size, 0, none⟩) 1 1 rfl [l] rfl (HROW.out) (by (try simp only [List.length_nil, List.length_append, List.length_singleton]); omega) (by decide) ?_
                intro v12 wn12 gz go n1
                change K (Act.put _ (some 142) v12) _
                have NB12 := Lib.hid (Below.grown NB11.out go (NB11.out).size fun b hb => (HG11.out.base_le b hb).1)
                have HG12 := Lib.hid (show Grow 30 3 rLink (fun _ => False) wn12 wx1.heap.size v12 (g.links ++ [l]) from gz)
                obtain ⟨AD, nD, cD, hvD, hnD⟩ := HG12.out.shape'
                obtain rfl : nD = g.links.length + 1 := by rw [hnD]; simp
                subst hvD
                clear hnD
                have HC12 := Lib.hid (blk_grown go HC11.out HNC11.out)
                have HNC12 := Lib.hid (own_other n1 (blk_lt HC11.out) HNC11.out)
                clear gz go n1
                clear hHeld
                refine hK.out _ _ (HS.out _ (bel_call HB61.out NB12.out)) (fun hHeld => ?_)
                clear hK K
                refine wpAnyH_take (i := 7) (oi := ?_) (v := ?_) ?_ (by kernel_rfl) (by kernel_rfl) (by kernel_rfl) ?_ (Or.inl ⟨?_, ?_⟩) hHeld ?_
                rotate_left 2
                · simp only [List.getElem?_toArray, List.getElem?_cons_succ, List.getElem?_cons_zero]; exact rfl
                · exact fun _ _ _ h => h
                · rfl
                · (intro W' hSw; (try dsimp only at hSw); go_simp; try with_reducible rfl)
                try simp only [Act.put, List.setIfInBounds_toArray, List.set_cons_zero, List.set_cons_succ]
                obtain ⟨wz, rfl⟩ : ∃ q : World, q = wn12 := ⟨_, rfl⟩
                have NBz := NB12
                have HGz := HG12
                clear NB12 HG12
                rotate_left
                have x5 := ((NB0.out).cell (p := ⟨wr1.heap.size, 6, none⟩) (cell_lt HX5.out)).trans HX5.out
                go_simp
                clear x5 hHeld
                refine hK.out _ _ (HS.out _ (bel_call HB61.out NB0.out)) (fun hHeld => ?_)
                clear hK K
                refine wpAnyH_ready (rs := [0, 5]) (by kernel_rfl) (by simp) ?_
                refine AllReadyH.cons rfl (fun K hK => ?_) (AllReadyH.cons rfl (fun K hK => ?_) (AllReadyH.nil))
                obtain ⟨wn14, hwa, cwa, fwa, Bwa, qwa⟩ := boxed wx1.drew #[] 30
                have NB14 := Lib.hid (show Below wx1.heap.size wx1 wn14 from bel_call NB0.out Bwa)
                have HG14 := Lib.hid (show Grow 30 3 rLink (fun _ => False) wn14 wx1.heap.size (.slice (some ⟨wx1.heap.size, 0, none⟩) 0 0) [] from Grow.empty (show wn14.heap[wx1.heap.size]? = _ by rw [← hwa]; exact blk_alloc_new _ rfl) (show wx1.heap.size ≤ wx1.drew.heap.size from (NB0.out).size))
                go_simp
                clear hHeld
                refine hK.out _ _ (HS.out _ (bel_call HB61.out NB14.out)) (fun hHeld => ?_)
                clear hK K
                clear hwa cwa fwa Bwa qwa
                refine wpAnyH_ready (rs := [3, 5]) (by kernel_rfl) (by simp) ?_
                refine AllReadyH.cons rfl (fun K hK => ?_) (AllReadyH.cons rfl (fun K hK => ?_) (AllReadyH.nil))
                refine step_grow2 wn14 rfl (.tmp 136) (.tmp 138) 41 rfl 30 iLink _ 3 32 Try.underlying41 hiLink hzLink h1Link h2Link rfl (by decide) rLink_ok wx1.heap.size (NB14.out).size (.slice (some ⟨wx1.heap.size, 0, none⟩) 0 0) [] rfl HG14.out g_A6 _ g_c6 rfl g.links rfl (sl_at (HSRC.out wn14 (.slice (some ⟨wx1.heap.size, 0, none⟩) 0 0) NB14.out (fun b hb => (HG14.out.base_le b hb).1))) (by (try simp only [List.length_nil, List.length_append, List.length_singleton]); omega) (by decide) ?_
                intro v15 wn15 gz go n1
                change K (Act.put _ (some 139) v15) _
                have NB15 := Lib.hid (Below.grown NB14.out go (NB14.out).size fun b hb => (HG14.out.base_le b hb).1)
                have HG15 := Lib.hid (show Grow 30 3 rLink (fun _ => False) wn15 wx1.heap.size v15 g.links from gz)
                clear gz go n1
                clear hHeld
                refine hK.out _ _ (HS.out _ (bel_call HB61.out NB15.out)) (fun hHeld => ?_)
                clear hK K
                refine wpAnyH_ready (rs := [5]) (by kernel_rfl) (by simp) ?_
                refine AllReadyH.cons rfl (fun K hK => ?_) (AllReadyH.nil)
                obtain ⟨wn16, hwa, cwa, fwa, Bwa, qwa⟩ := boxed wn15 #[.int .i64 l.epoch, .string l.to, .int .i64 l.seq] 30
                have NB16 := Lib.hid (show Below wx1.heap.size wx1 wn16 from bel_call NB15.out Bwa)
                have HC16 := Lib.hid (show wn16.heap[wn15.heap.size]? = some (.cells #[.int .i64 l.epoch, .string l.to, .int .i64 l.seq] 30 (0, 0)) by rw [← hwa]; exact blk_alloc_new _ rfl)
                have HNC16 := Lib.hid (show (v15 : Value).ownBlock ≠ some wn15.heap.size from fun h => by
                  have h1 := (HG15.out.base_le _ h).2
                  have h2 : wn15.heap.size = wn15.heap.size := rfl
                  omega)
                have HG16 := Lib.hid (HG15.out.below rLink_ok Bwa)
                go_simp
                clear hHeld
                refine hK.out _ _ (HS.out _ (bel_call HB61.out NB16.out)) (fun hHeld => ?_)
                clear hK K
                clear hwa cwa fwa Bwa qwa
                refine wpAnyH_ready (rs := [6]) (by kernel_rfl) (by simp) ?_
                refine AllReadyH.cons rfl (fun K hK => ?_) (AllReadyH.nil)
                have HROW := Lib.hid (show SlAt 3 rLink (Free (fun _ => False) wn16 v15) wn16 (some ⟨wn15.heap.size, 0, none⟩) [l] from SlAt_one [.int .i64 l.epoch, .string l.to, .int .i64 l.seq] ⟨blk_lt HC16.out, fun h => h, HNC16.out⟩ rfl (fun j y hj => by rw [Nat.zero_add]; exact (blk_cells HC16.out).1 j y (by simpa using hj)) ⟨rfl, HL.out.1, HL.out.2.1, HL.out.2.2⟩)
                refine step_grow2 wn16 rfl (.tmp 139) (.tmp 141) 41 rfl 30 iLink _ 3 32 Try.underlying41 hiLink hzLink h1Link h2Link rfl (by decide) rLink_ok wx1.heap.size (NB16.out).size v15 g.links rfl HG16.out (some ⟨wn15.heap.size, 0, none⟩) 1 1 rfl [l] rfl (HROW.out) (by (try simp only [List.length_nil, List.length_append, List.length_singleton]); omega) (by decide) ?_
                intro v17 wn17 gz go n1
                change K (Act.put _ (some 142) v17) _
                have NB17 := Lib.hid (Below.grown NB16.out go (NB16.out).size fun b hb => (HG16.out.base_le b hb).1)
                have HG17 := Lib.hid (show Grow 30 3 rLink (fun _ => False) wn17 wx1.heap.size v17 (g.links ++ [l]) from gz)
                obtain ⟨AD, nD, cD, hvD, hnD⟩ := HG17.out.shape'
                obtain rfl : nD = g.links.length + 1 := by rw [hnD]; simp
                subst hvD
                clear hnD
                have HC17 := Lib.hid (blk_grown go HC16.out HNC16.out)
                have HNC17 := Lib.hid (own_other n1 (blk_lt HC16.out) HNC16.out)
                clear gz go n1
                clear hHeld
                refine hK.out _ _ (HS.out _ (bel_call HB61.out NB17.out)) (fun hHeld => ?_)
                clear hK K
                refine wpAnyH_take (i := 7) (oi := ?_) (v := ?_) ?_ (by kernel_rfl) (by kernel_rfl) (by kernel_rfl) ?_ (Or.inl ⟨?_, ?_⟩) hHeld ?_
                rotate_left 2
                · simp only [List.getElem?_toArray, List.getElem?_cons_succ, List.getElem?_cons_zero]; exact rfl
                · exact fun _ _ _ h => h
                · rfl
                · (intro W' hSw; (try dsimp only at hSw); go_simp; try with_reducible rfl)
                try simp only [Act.put, List.setIfInBounds_toArray, List.set_cons_zero, List.set_cons_succ]
                obtain ⟨wz, rfl⟩ : ∃ q : World, q = wn17 := ⟨_, rfl⟩
                have NBz := NB17
                have HGz := HG17
                clear NB17 HG17
                rotate_left
                obtain ⟨wn18, hwa, cwa, fwa, Bwa, qwa⟩ := boxed wn14 #[.int .i64 l.epoch, .string l.to, .int .i64 l.seq] 30
                have NB18 := Lib.hid (show Below wx1.heap.size wx1 wn18 from bel_call NB14.out Bwa)
                have HC18 := Lib.hid (show wn18.heap[wn14.heap.size]? = some (.cells #[.int .i64 l.epoch, .string l.to, .int .i64 l.seq] 30 (0, 0)) by rw [← hwa]; exact blk_alloc_new _ rfl)
                have HNC18 := Lib.hid (show ((.slice (some ⟨wx1.heap.size, 0, none⟩) 0 0) : Value).ownBlock ≠ some wn14.heap.size from fun h => by
                  have h1 := (HG14.out.base_le _ h).2
                  have h2 : wn14.heap.size = wn14.heap.size := rfl
                  omega)
                have HG18 := Lib.hid (HG14.out.below rLink_ok Bwa)
                go_simp
                clear hHeld
                refine hK.out _ _ (HS.out _ (bel_call HB61.out NB18.out)) (fun hHeld => ?_)
                clear hK K
                clear hwa cwa fwa Bwa qwa
                refine wpAnyH_ready (rs := [3]) (by kernel_rfl) (by simp) ?_
                refine AllReadyH.cons rfl (fun K hK => ?_) (AllReadyH.nil)
                refine step_grow2 wn18 rfl (.tmp 136) (.tmp 138) 41 rfl 30 iLink _ 3 32 Try.underlying41 hiLink hzLink h1Link h2Link rfl (by decide) rLink_ok wx1.heap.size (NB18.out).size (.slice (some ⟨wx1.heap.size, 0, none⟩) 0 0) [] rfl HG18.out g_A6 _ g_c6 rfl g.links rfl (sl_at (HSRC.out wn18 (.slice (some ⟨wx1.heap.size, 0, none⟩) 0 0) NB18.out (fun b hb => (HG18.out.base_le b hb).1))) (by (try simp only [List.length_nil, List.length_append, List.length_singleton]); omega) (by decide) ?_
                intro v19 wn19 gz go n1
                change K (Act.put _ (some 139) v19) _
                have NB19 := Lib.hid (Below.grown NB18.out go (NB18.out).size fun b hb => (HG18.out.base_le b hb).1)
                have HG19 := Lib.hid (show Grow 30 3 rLink (fun _ => False) wn19 wx1.heap.size v19 g.links from gz)
                have HC19 := Lib.hid (blk_grown go HC18.out HNC18.out)
                have HNC19 := Lib.hid (own_other n1 (blk_lt HC18.out) HNC18.out)
                clear gz go n1
                clear hHeld
                refine hK.out _ _ (HS.out _ (bel_call HB61.out NB19.out)) (fun hHeld => ?_)
                clear hK K
                refine wpAnyH_ready (rs := [6]) (by kernel_rfl) (by simp) ?_
                refine AllReadyH.cons rfl (fun K hK => ?_) (AllReadyH.nil)
                have HROW := Lib.hid (show SlAt 3 rLink (Free (fun _ => False) wn19 v19) wn19 (some ⟨wn14.heap.size, 0, none⟩) [l] from SlAt_one [.int .i64 l.epoch, .string l.to, .int .i64 l.seq] ⟨blk_lt HC19.out, fun h => h, HNC19.out⟩ rfl (fun j y hj => by rw [Nat.zero_add]; exact (blk_cells HC19.out).1 j y (by simpa using hj)) ⟨rfl, HL.out.1, HL.out.2.1, HL.out.2.2⟩)
                refine step_grow2 wn19 rfl (.tmp 139) (.tmp 141) 41 rfl 30 iLink _ 3 32 Try.underlying41 hiLink hzLink h1Link h2Link rfl (by decide) rLink_ok wx1.heap.size (NB19.out).size v19 g.links rfl HG19.out (some ⟨wn14.heap.size, 0, none⟩) 1 1 rfl [l] rfl (HROW.out) (by (try simp only [List.length_nil, List.length_append, List.length_singleton]); omega) (by decide) ?_
                intro v20 wn20 gz go n1
                change K (Act.put _ (some 142) v20) _
                have NB20 := Lib.hid (Below.grown NB19.out go (NB19.out).size fun b hb => (HG19.out.base_le b hb).1)
                have HG20 := Lib.hid (show Grow 30 3 rLink (fun _ => False) wn20 wx1.heap.size v20 (g.links ++ [l]) from gz)
                obtain ⟨AD, nD, cD, hvD, hnD⟩ := HG20.out.shape'
                obtain rfl : nD = g.links.length + 1 := by rw [hnD]; simp
                subst hvD
                clear hnD
                have HC20 := Lib.hid (blk_grown go HC19.out HNC19.out)
                have HNC20 := Lib.hid (own_other n1 (blk_lt HC19.out) HNC19.out)
                clear gz go n1
                clear hHeld
                refine hK.out _ _ (HS.out _ (bel_call HB61.out NB20.out)) (fun hHeld => ?_)
                clear hK K
                refine wpAnyH_take (i := 7) (oi := ?_) (v := ?_) ?_ (by kernel_rfl) (by kernel_rfl) (by kernel_rfl) ?_ (Or.inl ⟨?_, ?_⟩) hHeld ?_
                rotate_left 2
                · simp only [List.getElem?_toArray, List.getElem?_cons_succ, List.getElem?_cons_zero]; exact rfl
                · exact fun _ _ _ h => h
                · rfl
                · (intro W' hSw; (try dsimp only at hSw); go_simp; try with_reducible rfl)
                try simp only [Act.put, List.setIfInBounds_toArray, List.set_cons_zero, List.set_cons_succ]
                obtain ⟨wz, rfl⟩ : ∃ q : World, q = wn20 := ⟨_, rfl⟩
                have NBz := NB20
                have HGz := HG20
                clear NB20 HG20
                rotate_left
                obtain ⟨wn21, hwa, cwa, fwa, Bwa, qwa⟩ := boxed wx1.drew #[.int .i64 l.epoch, .string l.to, .int .i64 l.seq] 30
                have NB21 := Lib.hid (show Below wx1.heap.size wx1 wn21 from bel_call NB0.out Bwa)
                have HC21 := Lib.hid (show wn21.heap[wx1.heap.size]? = some (.cells #[.int .i64 l.epoch, .string l.to, .int .i64 l.seq] 30 (0, 0)) by rw [← hwa]; exact blk_alloc_new _ rfl)
                go_simp
                clear hHeld
                refine hK.out _ _ (HS.out _ (bel_call HB61.out NB21.out)) (fun hHeld => ?_)
                clear hK K
                clear hwa cwa fwa Bwa qwa
                refine wpAnyH_ready (rs := [0]) (by kernel_rfl) (by simp) ?_
                refine AllReadyH.cons rfl (fun K hK => ?_) (AllReadyH.nil)
                obtain ⟨wn22, hwa, cwa, fwa, Bwa, qwa⟩ := boxed wn21 #[] 30
                have NB22 := Lib.hid (show Below wx1.heap.size wx1 wn22 from bel_call NB21.out Bwa)
                have HG22 := Lib.hid (show Grow 30 3 rLink (fun _ => False) wn22 wx1.heap.size (.slice (some ⟨wn21.heap.size, 0, none⟩) 0 0) [] from Grow.empty (show wn22.heap[wn21.heap.size]? = _ by rw [← hwa]; exact blk_alloc_new _ rfl) (show wx1.heap.size ≤ wn21.heap.size from (NB21.out).size))
                have HNC22 := Lib.hid (show (Value.slice (some ⟨wn21.heap.size, 0, none⟩) 0 0).ownBlock ≠ some wx1.heap.size from fun h => by
                  have h1 := blk_lt HC21.out
                  have h2 : wn21.heap.size = wx1.heap.size := Option.some.inj h
                  omega)
                have HC22 := Lib.hid ((Bwa.block _ (blk_lt HC21.out)).trans HC21.out)
                go_simp
                clear hHeld
                refine hK.out _ _ (HS.out _ (bel_call HB61.out NB22.out)) (fun hHeld => ?_)
                clear hK K
                clear hwa cwa fwa Bwa qwa
                refine wpAnyH_ready (rs := [3]) (by kernel_rfl) (by simp) ?_
                refine AllReadyH.cons rfl (fun K hK => ?_) (AllReadyH.nil)
                refine step_grow2 wn22 rfl (.tmp 136) (.tmp 138) 41 rfl 30 iLink _ 3 32 Try.underlying41 hiLink hzLink h1Link h2Link rfl (by decide) rLink_ok wx1.heap.size (NB22.out).size (.slice (some ⟨wn21.heap.size, 0, none⟩) 0 0) [] rfl HG22.out g_A6 _ g_c6 rfl g.links rfl (sl_at (HSRC.out wn22 (.slice (some ⟨wn21.heap.size, 0, none⟩) 0 0) NB22.out (fun b hb => (HG22.out.base_le b hb).1))) (by (try simp only [List.length_nil, List.length_append, List.length_singleton]); omega) (by decide) ?_
                intro v23 wn23 gz go n1
                change K (Act.put _ (some 139) v23) _
                have NB23 := Lib.hid (Below.grown NB22.out go (NB22.out).size fun b hb => (HG22.out.base_le b hb).1)
                have HG23 := Lib.hid (show Grow 30 3 rLink (fun _ => False) wn23 wx1.heap.size v23 g.links from gz)
                have HC23 := Lib.hid (blk_grown go HC22.out HNC22.out)
                have HNC23 := Lib.hid (own_other n1 (blk_lt HC22.out) HNC22.out)
                clear gz go n1
                clear hHeld
                refine hK.out _ _ (HS.out _ (bel_call HB61.out NB23.out)) (fun hHeld => ?_)
                clear hK K
                refine wpAnyH_ready (rs := [6]) (by kernel_rfl) (by simp) ?_
                refine AllReadyH.cons rfl (fun K hK => ?_) (AllReadyH.nil)
                have HROW := Lib.hid (show SlAt 3 rLink (Free (fun _ => False) wn23 v23) wn23 (some ⟨wx1.heap.size, 0, none⟩) [l] from SlAt_one [.int .i64 l.epoch, .string l.to, .int .i64 l.seq] ⟨blk_lt HC23.out, fun h => h, HNC23.out⟩ rfl (fun j y hj => by rw [Nat.zero_add]; exact (blk_cells HC23.out).1 j y (by simpa using hj)) ⟨rfl, HL.out.1, HL.out.2.1, HL.out.2.2⟩)
                refine step_grow2 wn23 rfl (.tmp 139) (.tmp 141) 41 rfl 30 iLink _ 3 32 Try.underlying41 hiLink hzLink h1Link h2Link rfl (by decide) rLink_ok wx1.heap.size (NB23.out).size v23 g.links rfl HG23.out (some ⟨wx1.heap.size, 0, none⟩) 1 1 rfl [l] rfl (HROW.out) (by (try simp only [List.length_nil, List.length_append, List.length_singleton]); omega) (by decide) ?_
                intro v24 wn24 gz go n1
                change K (Act.put _ (some 142) v24) _
                have NB24 := Lib.hid (Below.grown NB23.out go (NB23.out).size fun b hb => (HG23.out.base_le b hb).1)
                have HG24 := Lib.hid (show Grow 30 3 rLink (fun _ => False) wn24 wx1.heap.size v24 (g.links ++ [l]) from gz)
                obtain ⟨AD, nD, cD, hvD, hnD⟩ := HG24.out.shape'
                obtain rfl : nD = g.links.length + 1 := by rw [hnD]; simp
                subst hvD
                clear hnD
                have HC24 := Lib.hid (blk_grown go HC23.out HNC23.out)
                have HNC24 := Lib.hid (own_other n1 (blk_lt HC23.out) HNC23.out)
                clear gz go n1
                clear hHeld
                refine hK.out _ _ (HS.out _ (bel_call HB61.out NB24.out)) (fun hHeld => ?_)
                clear hK K
                refine wpAnyH_take (i := 7) (oi := ?_) (v := ?_) ?_ (by kernel_rfl) (by kernel_rfl) (by kernel_rfl) ?_ (Or.inl ⟨?_, ?_⟩) hHeld ?_
                rotate_left 2
                · simp only [List.getElem?_toArray, List.getElem?_cons_succ, List.getElem?_cons_zero]; exact rfl
                · exact fun _ _ _ h => h
                · rfl
                · (intro W' hSw; (try dsimp only at hSw); go_simp; try with_reducible rfl)
                try simp only [Act.put, List.setIfInBounds_toArray, List.set_cons_zero, List.set_cons_succ]
                obtain ⟨wz, rfl⟩ : ∃ q : World, q = wn24 := ⟨_, rfl⟩
                have NBz := NB24
                have HGz := HG24
                clear NB24 HG24
                rotate_left
                obtain ⟨wn25, hwa, cwa, fwa, Bwa, qwa⟩ := boxed wx1.drew #[.int .i64 l.epoch, .string l.to, .int .i64 l.seq] 30
                have NB25 := Lib.hid (show Below wx1.heap.size wx1 wn25 from bel_call NB0.out Bwa)
                have HC25 := Lib.hid (show wn25.heap[wx1.heap.size]? = some (.cells #[.int .i64 l.epoch, .string l.to, .int .i64 l.seq] 30 (0, 0)) by rw [← hwa]; exact blk_alloc_new _ rfl)
                go_simp
                clear hHeld
                refine hK.out _ _ (HS.out _ (bel_call HB61.out NB25.out)) (fun hHeld => ?_)
                clear hK K
                clear hwa cwa fwa Bwa qwa
                refine wpAnyH_ready (rs := [0, 2]) (by kernel_rfl) (by simp) ?_
                refine AllReadyH.cons rfl (fun K hK => ?_) (AllReadyH.cons rfl (fun K hK => ?_) (AllReadyH.nil))
                obtain ⟨wn26, hwa, cwa, fwa, Bwa, qwa⟩ := boxed wn25 #[] 30
                have NB26 := Lib.hid (show Below wx1.heap.size wx1 wn26 from bel_call NB25.out Bwa)
                have HG26 := Lib.hid (show Grow 30 3 rLink (fun _ => False) wn26 wx1.heap.size (.slice (some ⟨wn25.heap.size, 0, none⟩) 0 0) [] from Grow.empty (show wn26.heap[wn25.heap.size]? = _ by rw [← hwa]; exact blk_alloc_new _ rfl) (show wx1.heap.size ≤ wn25.heap.size from (NB25.out).size))
                have HNC26 := Lib.hid (show (Value.slice (some ⟨wn25.heap.size, 0, none⟩) 0 0).ownBlock ≠ some wx1.heap.size from fun h => by
                  have h1 := blk_lt HC25.out
                  have h2 : wn25.heap.size = wx1.heap.size := Option.some.inj h
                  omega)
                have HC26 := Lib.hid ((Bwa.block _ (blk_lt HC25.out)).trans HC25.out)
                go_simp
                clear hHeld
                refine hK.out _ _ (HS.out _ (bel_call HB61.out NB26.out)) (fun hHeld => ?_)
                clear hK K
                clear hwa cwa fwa Bwa qwa
                refine wpAnyH_ready (rs := [2]) (by kernel_rfl) (by simp) ?_
                refine AllReadyH.cons rfl (fun K hK => ?_) (AllReadyH.nil)
                have x5 := ((NB26.out).cell (p := ⟨wr1.heap.size, 6, none⟩) (cell_lt HX5.out)).trans HX5.out
                go_simp
                clear x5 hHeld
                refine hK.out _ _ (HS.out _ (bel_call HB61.out NB26.out)) (fun hHeld => ?_)
                clear hK K
                refine wpAnyH_ready (rs := [3]) (by kernel_rfl) (by simp) ?_
                refine AllReadyH.cons rfl (fun K hK => ?_) (AllReadyH.nil)
                refine step_grow2 wn26 rfl (.tmp 136) (.tmp 138) 41 rfl 30 iLink _ 3 32 Try.underlying41 hiLink hzLink h1Link h2Link rfl (by decide) rLink_ok wx1.heap.size (NB26.out).size (.slice (some ⟨wn25.heap.size, 0, none⟩) 0 0) [] rfl HG26.out g_A6 _ g_c6 rfl g.links rfl (sl_at (HSRC.out wn26 (.slice (some ⟨wn25.heap.size, 0, none⟩) 0 0) NB26.out (fun b hb => (HG26.out.base_le b hb).1))) (by (try simp only [List.length_nil, List.length_append, List.length_singleton]); omega) (by decide) ?_
                intro v28 wn28 gz go n1
                change K (Act.put _ (some 139) v28) _
                have NB28 := Lib.hid (Below.grown NB26.out go (NB26.out).size fun b hb => (HG26.out.base_le b hb).1)
                have HG28 := Lib.hid (show Grow 30 3 rLink (fun _ => False) wn28 wx1.heap.size v28 g.links from gz)
                have HC28 := Lib.hid (blk_grown go HC26.out HNC26.out)
                have HNC28 := Lib.hid (own_other n1 (blk_lt HC26.out) HNC26.out)
                clear gz go n1
                clear hHeld
                refine hK.out _ _ (HS.out _ (bel_call HB61.out NB28.out)) (fun hHeld => ?_)
                clear hK K
                refine wpAnyH_ready (rs := [6]) (by kernel_rfl) (by simp) ?_
                refine AllReadyH.cons rfl (fun K hK => ?_) (AllReadyH.nil)
                have HROW := Lib.hid (show SlAt 3 rLink (Free (fun _ => False) wn28 v28) wn28 (some ⟨wx1.heap.size, 0, none⟩) [l] from SlAt_one [.int .i64 l.epoch, .string l.to, .int .i64 l.seq] ⟨blk_lt HC28.out, fun h => h, HNC28.out⟩ rfl (fun j y hj => by rw [Nat.zero_add]; exact (blk_cells HC28.out).1 j y (by simpa using hj)) ⟨rfl, HL.out.1, HL.out.2.1, HL.out.2.2⟩)
                refine step_grow2 wn28 rfl (.tmp 139) (.tmp 141) 41 rfl 30 iLink _ 3 32 Try.underlying41 hiLink hzLink h1Link h2Link rfl (by decide) rLink_ok wx1.heap.size (NB28.out).size v28 g.links rfl HG28.out (some ⟨wx1.heap.size, 0, none⟩) 1 1 rfl [l] rfl (HROW.out) (by (try simp only [List.length_nil, List.length_append, List.length_singleton]); omega) (by decide) ?_
                intro v29 wn29 gz go n1
                change K (Act.put _ (some 142) v29) _
                have NB29 := Lib.hid (Below.grown NB28.out go (NB28.out).size fun b hb => (HG28.out.base_le b hb).1)
                have HG29 := Lib.hid (show Grow 30 3 rLink (fun _ => False) wn29 wx1.heap.size v29 (g.links ++ [l]) from gz)
                obtain ⟨AD, nD, cD, hvD, hnD⟩ := HG29.out.shape'
                obtain rfl : nD = g.links.length + 1 := by rw [hnD]; simp
                subst hvD
                clear hnD
                have HC29 := Lib.hid (blk_grown go HC28.out HNC28.out)
                have HNC29 := Lib.hid (own_other n1 (blk_lt HC28.out) HNC28.out)
                clear gz go n1
                clear hHeld
                refine hK.out _ _ (HS.out _ (bel_call HB61.out NB29.out)) (fun hHeld => ?_)
                clear hK K
                refine wpAnyH_take (i := 7) (oi := ?_) (v := ?_) ?_ (by kernel_rfl) (by kernel_rfl) (by kernel_rfl) ?_ (Or.inl ⟨?_, ?_⟩) hHeld ?_
                rotate_left 2
                · simp only [List.getElem?_toArray, List.getElem?_cons_succ, List.getElem?_cons_zero]; exact rfl
                · exact fun _ _ _ h => h
                · rfl
                · (intro W' hSw; (try dsimp only at hSw); go_simp; try with_reducible rfl)
                try simp only [Act.put, List.setIfInBounds_toArray, List.set_cons_zero, List.set_cons_succ]
                obtain ⟨wz, rfl⟩ : ∃ q : World, q = wn29 := ⟨_, rfl⟩
                have NBz := NB29
                have HGz := HG29
                clear NB29 HG29
                rotate_left
                have x5 := ((NB25.out).cell (p := ⟨wr1.heap.size, 6, none⟩) (cell_lt HX5.out)).trans HX5.out
                go_simp
                clear x5 hHeld
                refine hK.out _ _ (HS.out _ (bel_call HB61.out NB25.out)) (fun hHeld => ?_)
                clear hK K
                refine wpAnyH_ready (rs := [0]) (by kernel_rfl) (by simp) ?_
                refine AllReadyH.cons rfl (fun K hK => ?_) (AllReadyH.nil)
                obtain ⟨wn31, hwa, cwa, fwa, Bwa, qwa⟩ := boxed wn25 #[] 30
                have NB31 := Lib.hid (show Below wx1.heap.size wx1 wn31 from bel_call NB25.out Bwa)
                have HG31 := Lib.hid (show Grow 30 3 rLink (fun _ => False) wn31 wx1.heap.size (.slice (some ⟨wn25.heap.size, 0, none⟩) 0 0) [] from Grow.empty (show wn31.heap[wn25.heap.size]? = _ by rw [← hwa]; exact blk_alloc_new _ rfl) (show wx1.heap.size ≤ wn25.heap.size from (NB25.out).size))
                have HNC31 := Lib.hid (show (Value.slice (some ⟨wn25.heap.size, 0, none⟩) 0 0).ownBlock ≠ some wx1.heap.size from fun h => by
                  have h1 := blk_lt HC25.out
                  have h2 : wn25.heap.size = wx1.heap.size := Option.some.inj h
                  omega)
                have HC31 := Lib.hid ((Bwa.block _ (blk_lt HC25.out)).trans HC25.out)
                go_simp
                clear hHeld
                refine hK.out _ _ (HS.out _ (bel_call HB61.out NB31.out)) (fun hHeld => ?_)
                clear hK K
                clear hwa cwa fwa Bwa qwa
                refine wpAnyH_ready (rs := [3]) (by kernel_rfl) (by simp) ?_
                refine AllReadyH.cons rfl (fun K hK => ?_) (AllReadyH.nil)
                refine step_grow2 wn31 rfl (.tmp 136) (.tmp 138) 41 rfl 30 iLink _ 3 32 Try.underlying41 hiLink hzLink h1Link h2Link rfl (by decide) rLink_ok wx1.heap.size (NB31.out).size (.slice (some ⟨wn25.heap.size, 0, none⟩) 0 0) [] rfl HG31.out g_A6 _ g_c6 rfl g.links rfl (sl_at (HSRC.out wn31 (.slice (some ⟨wn25.heap.size, 0, none⟩) 0 0) NB31.out (fun b hb => (HG31.out.base_le b hb).1))) (by (try simp only [List.length_nil, List.length_append, List.length_singleton]); omega) (by decide) ?_
                intro v32 wn32 gz go n1
                change K (Act.put _ (some 139) v32) _
                have NB32 := Lib.hid (Below.grown NB31.out go (NB31.out).size fun b hb => (HG31.out.base_le b hb).1)
                have HG32 := Lib.hid (show Grow 30 3 rLink (fun _ => False) wn32 wx1.heap.size v32 g.links from gz)
                have HC32 := Lib.hid (blk_grown go HC31.out HNC31.out)
                have HNC32 := Lib.hid (own_other n1 (blk_lt HC31.out) HNC31.out)
                clear gz go n1
                clear hHeld
                refine hK.out _ _ (HS.out _ (bel_call HB61.out NB32.out)) (fun hHeld => ?_)
                clear hK K
                refine wpAnyH_ready (rs := [6]) (by kernel_rfl) (by simp) ?_
                refine AllReadyH.cons rfl (fun K hK => ?_) (AllReadyH.nil)
                have HROW := Lib.hid (show SlAt 3 rLink (Free (fun _ => False) wn32 v32) wn32 (some ⟨wx1.heap.size, 0, none⟩) [l] from SlAt_one [.int .i64 l.epoch, .string l.to, .int .i64 l.seq] ⟨blk_lt HC32.out, fun h => h, HNC32.out⟩ rfl (fun j y hj => by rw [Nat.zero_add]; exact (blk_cells HC32.out).1 j y (by simpa using hj)) ⟨rfl, HL.out.1, HL.out.2.1, HL.out.2.2⟩)
                refine step_grow2 wn32 rfl (.tmp 139) (.tmp 141) 41 rfl 30 iLink _ 3 32 Try.underlying41 hiLink hzLink h1Link h2Link rfl (by decide) rLink_ok wx1.heap.size (NB32.out).size v32 g.links rfl HG32.out (some ⟨wx1.heap.size, 0, none⟩) 1 1 rfl [l] rfl (HROW.out) (by (try simp only [List.length_nil, List.length_append, List.length_singleton]); omega) (by decide) ?_
                intro v33 wn33 gz go n1
                change K (Act.put _ (some 142) v33) _
                have NB33 := Lib.hid (Below.grown NB32.out go (NB32.out).size fun b hb => (HG32.out.base_le b hb).1)
                have HG33 := Lib.hid (show Grow 30 3 rLink (fun _ => False) wn33 wx1.heap.size v33 (g.links ++ [l]) from gz)
                obtain ⟨AD, nD, cD, hvD, hnD⟩ := HG33.out.shape'
                obtain rfl : nD = g.links.length + 1 := by rw [hnD]; simp
                subst hvD
                clear hnD
                have HC33 := Lib.hid (blk_grown go HC32.out HNC32.out)
                have HNC33 := Lib.hid (own_other n1 (blk_lt HC32.out) HNC32.out)
                clear gz go n1
                clear hHeld
                refine hK.out _ _ (HS.out _ (bel_call HB61.out NB33.out)) (fun hHeld => ?_)
                clear hK K
                refine wpAnyH_take (i := 7) (oi := ?_) (v := ?_) ?_ (by kernel_rfl) (by kernel_rfl) (by kernel_rfl) ?_ (Or.inl ⟨?_, ?_⟩) hHeld ?_
                rotate_left 2
                · simp only [List.getElem?_toArray, List.getElem?_cons_succ, List.getElem?_cons_zero]; exact rfl
                · exact fun _ _ _ h => h
                · rfl
                · (intro W' hSw; (try dsimp only at hSw); go_simp; try with_reducible rfl)
                try simp only [Act.put, List.setIfInBounds_toArray, List.set_cons_zero, List.set_cons_succ]
                obtain ⟨wz, rfl⟩ : ∃ q : World, q = wn33 := ⟨_, rfl⟩
                have NBz := NB33
                have HGz := HG33
                clear NB33 HG33
                rotate_left
                all_goals
                  have HW := Lib.hid (((NBz.out).block _ (blk_lt H18b.out)).trans H18b.out)
                  obtain ⟨cT, fT⟩ := blk_cells HW.out
                  have c_0 := cT 6 _ rfl
                  clear cT
                  refine wpAnyH_ready (rs := [8]) (by kernel_rfl) (by simp) ?_
                  refine AllReadyH.cons rfl (fun K hK => ?_) AllReadyH.nil
                  go_simp
                  clear c_0 fT hHeld
                  refine hK.out _ _ (HS.out _ ((bel_call HB61.out NBz.out).setCell (Nat.le_refl _) _)) (fun hHeld => ?_)
                  clear hK K
                  refine wpAnyH_done (by kernel_rfl) ?_ _
                  clear hHeld
                  have HE1 := Lib.hid (blk_set_same (i := 6) (cs' := #[.string g.name, .int .i64 g.turn, .slice g_A2 g.manifests.length g_c2, .slice g_A3 g.epochs.length g_c3, .slice g_A4 g.items.length g_c4, .slice A5 (g.wraps.length + 1) c5, .slice AD (g.links.length + 1) cD]) (.slice AD (g.links.length + 1) cD) HW.out rfl)
                  have HOW := Lib.hid (fun b (hb : ((.slice AD (g.links.length + 1) cD) : Value).ownBlock = some b) => (HGz.out.base_le b hb).1)
                  have HSL := Lib.hid (Sl.keep rLink_ok (by decide) (flat_sl (S' := fun z => z ≠ wr1.heap.size) flat_link (HGz.out.sl (S := fun _ => True) rLink_ok (fun _ _ _ => trivial) (fun _ _ => trivial)) (fun b hb e => by have := HOW.out b hb; have := hz6x; omega)) (kept_set (a := ⟨wr1.heap.size, 6, none⟩) (.slice AD (g.links.length + 1) cD) (fun h => h rfl)))
                  have HBE := Lib.hid ((ButB.of (B := fun z => z = wr1.heap.size) NBz.out).set ⟨wr1.heap.size, 6, none⟩ (.slice AD (g.links.length + 1) cD) rfl)
                  go_wp2
                  go_meet
                  case rel => exact ⟨rfl, _, _, HE1, HSL, HOW, HBE.out⟩
              obtain ⟨rfl, A6, c6, H18c, HSK, HOW6, hcb⟩ := hcut
              obtain ⟨wx2, rfl⟩ : ∃ q : World, q = wc := ⟨_, rfl⟩
              have HB62 := Lib.hid (ButB.below HB61.out (by omega) (fun z hz => Nat.le_of_eq hz.symm) hcb)
              have hz8 : wx1.heap.size ≤ wx2.heap.size := hcb.size
              have HSW2 := Lib.hid (Sl.keep (S' := fun z => z ≠ wr1.heap.size) rWrap_ok (by decide) HSW.out (hcb.kept fun z hz => ⟨hz, hz⟩))
              clear HBM6 hcb
              have HBM6 := bel_call HBR.out HB62.out
              have HG2 := Lib.hid (HG.out.below rFolder_ok HB62.out)
              have H152 := Lib.hid ((HB62.out.block _ (blk_lt H15.out)).trans H15.out)
              have HSF5 := Lib.hid (show Sl 3 rWrap (Free (fun z => z = b15) wx2 (.slice A8 n8 c8)) wx2 (.slice A5 (g.wraps.length + 1) c5) (g.wraps ++ [x]) from by
                have hne : ∃ q, (Value.slice A5 (g.wraps.length + 1) c5).ownBlock = some q ∧ q < wx2.heap.size := by
                  obtain ⟨b, o, ys, hA, _, hl, hc, _⟩ := sl_at HSW2.out 0 _ (List.getElem?_eq_getElem (by simp))
                  subst hA
                  exact ⟨b, rfl, cell_lt (hc 0 (ys[0]'(by omega)) (List.getElem?_eq_getElem (by omega)))⟩
                refine flat_sl flat_wrap HSW2.out fun b hb => ⟨?_, ?_, ?_⟩
                · obtain ⟨q, hq1, hq2⟩ := hne
                  obtain rfl := Option.some.inj (hb.symm.trans hq1)
                  exact hq2
                · have h1 := HOW5.out b hb
                  have h2 := blk_lt H15.out
                  intro e
                  have e2 : b = b15 := e
                  omega
                · intro e
                  have h1 := HOW5.out b hb
                  have h2 := (HG.out.base_le b e).2
                  omega)
              have HSF6 := Lib.hid (show Sl 3 rLink (Free (fun z => z = b15) wx2 (.slice A8 n8 c8)) wx2 (.slice A6 (g.links.length + 1) c6) (g.links ++ [l]) from by
                have hne : ∃ q, (Value.slice A6 (g.links.length + 1) c6).ownBlock = some q ∧ q < wx2.heap.size := by
                  obtain ⟨b, o, ys, hA, _, hl, hc, _⟩ := sl_at HSK.out 0 _ (List.getElem?_eq_getElem (by simp))
                  subst hA
                  exact ⟨b, rfl, cell_lt (hc 0 (ys[0]'(by omega)) (List.getElem?_eq_getElem (by omega)))⟩
                refine flat_sl flat_link HSK.out fun b hb => ⟨?_, ?_, ?_⟩
                · obtain ⟨q, hq1, hq2⟩ := hne
                  obtain rfl := Option.some.inj (hb.symm.trans hq1)
                  exact hq2
                · have h1 := HOW6.out b hb
                  have h2 := blk_lt H15.out
                  intro e
                  have e2 : b = b15 := e
                  omega
                · intro e
                  have h1 := HOW6.out b hb
                  have h2 := (HG.out.base_le b e).2
                  omega)
              go_upto_region 24 with fail
              have HADD := Lib.hid (show addF name x l (st.folders.take (k + 1)) = addF name x l (st.folders.take k) ++ [modF x l g] by rw [HTK.out, addF_snoc, HDN.out]; rw [if_neg Bool.false_ne_true, if_pos HNM.out])
              have HANY := Lib.hid (show Value.bool true = .bool ((st.folders.take (k + 1)).any (isF name)) by rw [HTK.out, List.any_append, HDN.out]; rw [List.any_cons, List.any_nil, Bool.or_false, Bool.false_or, show isF name g = true from decide_eq_true HNM.out])
              have HRL := Lib.hid (show rFolder (Free (fun z => z = b15) wx2 (.slice A8 n8 c8)) wx2 [.string g.name, .int .i64 g.turn, .slice g_A2 g.manifests.length g_c2, .slice g_A3 g.epochs.length g_c3, .slice g_A4 g.items.length g_c4, .slice A5 (g.wraps.length + 1) c5, .slice A6 (g.links.length + 1) c6] (modF x l g) from by
                obtain ⟨v2, v3, v4, v5, v6, hcs, r1, r2, r3, r4, r5, r6, r7⟩ := rFolder_keep HGR.out (HRK.out wx2 HB62.out)
                cases hcs
                exact ⟨_, _, _, _, _, rfl, r1, r2, r3, r4, r5, HSF5.out, HSF6.out⟩)
              have HBW := Lib.hid (show ButB (fun z => z = b15) wk wx2 from HBU.out.trans (ButB.of HB62.out))
              have HLW := Lib.hid (blk_lt H152.out)
              obtain ⟨p18, f18⟩ := blk_cells H18c.out
              have e0 := p18 0 _ rfl
              have e1 := p18 1 _ rfl
              have e2 := p18 2 _ rfl
              have e3 := p18 3 _ rfl
              have e4 := p18 4 _ rfl
              have e5 := p18 5 _ rfl
              have e6 := p18 6 _ rfl
              obtain ⟨p15, f15⟩ := blk_cells H152.out
              have z3 := p15 3 _ rfl
              have hzW : wk.heap.size ≤ wx2.heap.size := by omega
              clear p18 p15
              obtain ⟨iFolder, hiFolder, hzFolder, h1Folder, h2Folder⟩ := info_parts (show (Try.prog.info? 43).map (fun i => (i.zero, i.size, i.bytes)) = some (some (.agg #[.string ⟨#[]⟩, .int .i64 0, .slice none 0 0, .slice none 0 0, .slice none 0 0, .slice none 0 0, .slice none 0 0]), 7, 144) from by kernel_rfl)
              go_wp2_with (at_builtin; go_loud (refine wpList_grow1 (R := rFolder) _ _ rfl (.tmp 145) (.tmp 147) 24 rfl 43 iFolder _ 7 144 Try.underlying24 hiFolder hzFolder h1Folder h2Folder rfl (by decide) rFolder_ok wk.heap.size hzW _ _ rfl HG2.out _ _ rfl (by simp only [World.size_alloc, World.size_setCell, World.size_drew]) _ (by intro b hb; rw [hb]; exact HLW.out) HRL.out (by omega) (by decide) ?_); intro v16 w16 g16 gg16 go16; obtain ⟨A16, n16, c16, rfl, hn16⟩ := g16.shape'; have G16 := Lib.hid g16; have GG16 := Lib.hid gg16; have GO16 := Lib.hid go16; have H16 := Lib.hid (blk_grown gg16 H152.out HNV.out); clear hn16 g16 gg16 go16 e0 e1 e2 e3 e4 e5 e6 z3 f15 f18; have z3 := (blk_cells H16.out).1 3 _ rfl; have f15 := (blk_cells H16.out).2)
              have HNV16 := Lib.hid (show (Value.slice A16 n16 c16).ownBlock ≠ some b15 from fun h => by
                rcases GO16.out with o | o
                · exact HNV.out (o.symm.trans h)
                · have h1 := o.symm.trans h
                  have h2 := Option.some.inj h1
                  have h3 := HLW.out
                  omega)
              go_roundw
              case rel => exact ⟨k + 1, A16, n16, c16, by omega, by go_num, HANY.out, blk_set_same (i := 3) (cs' := #[.int .i64 0, .slice st_A1 st.users.length st_c1, .slice AD (st.deposits.length + 1) cD, .slice A16 n16 c16]) _ H16.out rfl, (Lib.hid (by rw [HADD.out]; exact G16.out.set rFolder_ok _ rfl HNV16.out)), HNV16, (butb_grown HBW.out GG16.out (fun b hb => (HG2.out.base_le b hb).1)).set _ _ rfl⟩
              case measure => simp [RowKit.intOf]; omega
          · obtain rfl : k = st.folders.length := by omega
            rw [List.take_length] at HG
            obtain ⟨dz, hdz⟩ : ∃ z, (st.folders.take st.folders.length).any (isF name) = z := ⟨_, rfl⟩
            rw [hdz]
            clear hdz
            have hn8 : n8 = (addF name x l st.folders).length := by
              obtain ⟨A', n', c', hv', hn'⟩ := HG.out.shape'
              cases hv'
              exact hn'
            subst hn8
            have HMS := Lib.hid (show rState (fun _ => True) wr1 [.int .i64 0, .slice st_A1 st.users.length st_c1, .slice AD (st.deposits.length + 1) cD, .slice A8 (addF name x l st.folders).length c8] (moreS st name x l p) from by
              refine ⟨_, _, _, rfl, (show I64 0 from ⟨by decide, by decide⟩), ?_, ?_, ?_⟩
              · exact Sl.keep rUser_ok (by decide) ⟨_, _, rfl, st_users_l, st_users_m, st_users_n, st_users_s⟩ (kept_of (bel_call HBM.out HBR.out))
              · have h1 := Sl.keep (S' := fun _ => True) rPair_ok (by decide) HDS.out (HBU.out.kept fun z hz => ⟨trivial, hz⟩)
                exact h1
              · exact HG.out.sl rFolder_ok (fun _ _ _ => trivial) (fun _ _ => trivial))
            have HSM2 := Lib.hid fun W (hW : Below wr1.heap.size wr1 W) => rState_keep HMS.out (kept_of hW)
            have HSTR := Lib.hid fun W (hW : Below wr1.heap.size wr1 W) => HSTM.out W (bel_call HBR.out hW)
            have HB5R := Lib.hid (ButB.below HB5K.out HB5K.out.size (fun z hz => by rw [hz]; exact HZ5.out) HBU.out)
            have K0 := held_cells (k0 wr1 HBR.out)
            have K1 := held_cells (k1 wr1 HBR.out)
            have K2 := held_cells (k2 wr1 HBR.out)
            have K3 := held_cells (k3 wr1 HBR.out)
            have m0 := held_cells ((blk_cells H15.out).1 0 _ rfl)
            have m1 := held_cells ((blk_cells H15.out).1 1 _ rfl)
            have m2 := held_cells ((blk_cells H15.out).1 2 _ rfl)
            have m3 := held_cells ((blk_cells H15.out).1 3 _ rfl)
            have r70 := held_cells (q70 wr1 HBR.out)
            have r71 := held_cells (q71 wr1 HBR.out)
            have r90 := held_cells (q90 wr1 HBR.out)
            have r91 := held_cells (q91 wr1 HBR.out)
            have r3 := held_cells (g3 wr1 HB5R.out)
            have B11 := Below.refl wr1.heap.size wr1
            clear k0 k1 k2 k3 q70 q71 q72 q80 q81 q82 q90 q91 g3 g5 B55 BM0 B5 BR hk hzk hlt
            go_wp2
            go_loopw [154] (fun i wr => ∃ k : Nat, k ≤ st.users.length ∧ i = .int .i64 k ∧ Below wr1.heap.size wr1 wr) (fun i _ => st.users.length - (RowKit.intOf i).toNat)
            case atStart => exact ⟨0, by omega, by go_num, Below.refl _ _⟩
            case round =>
              clear B11
              obtain ⟨wr2, rfl⟩ : ∃ q, q = wr := ⟨_, rfl⟩
              obtain ⟨k, hk, rfl, hbel⟩ := hrel
              by_cases hlt : k < st.users.length
              · obtain ⟨u, hu⟩ : ∃ u, st.users[k]? = some u := ⟨_, List.getElem?_eq_getElem hlt⟩
                have HUM := Lib.hid (HUS.out.1 u (List.mem_of_getElem? hu))
                obtain ⟨bu, ou, yu, hAu, hbu, hRu, hcu⟩ := SlAt.elem st_users_s hu (by decide) (bel_call HBM.out (bel_call HBR.out hbel))
                obtain ⟨rfl, u_name_le⟩ := open_User hRu
                have u0 := hcu 0 _ rfl
                have u1 := hcu 1 _ rfl
                rw [Nat.add_zero] at u0
                have hki : (k : Int) < (st.users.length : Int) := by omega
                obtain ⟨w7, hw7, cw7, fw7, Bw7, qw7⟩ := boxed wr2 #[.string u.name, .bool u.lost] 50
                have B17 := bel_call hbel Bw7
                have HB17 := Lib.hid B17
                have nu := held_cells (cw7 0 _ rfl)
                have B77 := Below.refl w7.heap.size w7
                cases hAu
                clear hu hcu cw7 fw7 Bw7 hlt
                go_wp2
                clear hw7 u0 u1
                go_loopw [161] (fun i wr => ∃ j : Nat, j ≤ st.folders.length ∧ i = .int .i64 j ∧ Below w7.heap.size w7 wr) (fun i _ => st.folders.length - (RowKit.intOf i).toNat)
                case atStart => exact ⟨0, by omega, by go_num, Below.refl _ _⟩
                case round =>
                  clear B77 B17 hbel
                  obtain ⟨wr3, rfl⟩ : ∃ q, q = wr := ⟨_, rfl⟩
                  obtain ⟨j, hj, rfl, hbel⟩ := hrel
                  have B13 := bel_call HB17.out hbel
                  by_cases hlt : j < st.folders.length
                  · obtain ⟨g, hg⟩ : ∃ g, st.folders[j]? = some g := ⟨_, List.getElem?_eq_getElem hlt⟩
                    obtain ⟨bg, og, yg, hAg, hbg, hRg, hcg⟩ := SlAt.elem st_folders_s hg (by decide) (bel_call HBM.out (bel_call HBR.out B13))
                    obtain ⟨g_A2, g_c2, g_A3, g_c3, g_A4, g_c4, g_A5, g_c5, g_A6, g_c6, rfl, g_name_le, g_turn_ok, g_manifests_l, g_manifests_m, g_manifests_n, g_manifests_s, g_epochs_l, g_epochs_m, g_epochs_n, g_epochs_s, g_items_l, g_items_m, g_items_n, g_items_s, g_wraps_l, g_wraps_m, g_wraps_n, g_wraps_s, g_links_l, g_links_m, g_links_n, g_links_s⟩ := open_Folder hRg
                    have u0 := hcg 0 _ rfl
                    have u1 := hcg 1 _ rfl
                    have u2 := hcg 2 _ rfl
                    have u3 := hcg 3 _ rfl
                    have u4 := hcg 4 _ rfl
                    have u5 := hcg 5 _ rfl
                    have u6 := hcg 6 _ rfl
                    rw [Nat.add_zero] at u0
                    cases hAg
                    have hji : (j : Int) < (st.folders.length : Int) := by omega
                    obtain ⟨w8, hw8, cw8, fw8, Bw8, qw8⟩ := boxed wr3 #[.string g.name, .int .i64 g.turn, .slice g_A2 g.manifests.length g_c2, .slice g_A3 g.epochs.length g_c3, .slice g_A4 g.items.length g_c4, .slice g_A5 g.wraps.length g_c5, .slice g_A6 g.links.length g_c6] 43
                    have HB18 := Lib.hid (bel_call B13 Bw8)
                    have HB78 := Lib.hid (bel_call hbel Bw8)
                    have nh := held_cells (cw8 0 _ rfl)
                    clear hg hcg cw8 fw8 Bw8 hlt g_manifests_s g_epochs_s g_items_s g_wraps_s g_links_s
                    go_upto_region 32 with fail
                    clear hw8 u0 u1 u2 u3 u4 u5 u6
                    have HS : ∀ W, Below w8.heap.size w8 W → (fun W : World => (W.cell? ⟨w.heap.size, 0, none⟩ = some (.int .i64 st.turn) ∧ W.cell? ⟨w.heap.size, 1, none⟩ = some (.slice (some ⟨bu, ou, none⟩) st.users.length st_c1) ∧ W.cell? ⟨w.heap.size, 2, none⟩ = some (.slice st_A2 st.deposits.length st_c2) ∧ W.cell? ⟨w.heap.size, 3, none⟩ = some (.slice (some ⟨bg, og, none⟩) st.folders.length st_c3)) ∧ (W.cell? ⟨b15, 0, none⟩ = some (.int .i64 0) ∧ W.cell? ⟨b15, 1, none⟩ = some (.slice (some ⟨bu, ou, none⟩) st.users.length st_c1) ∧ W.cell? ⟨b15, 2, none⟩ = some (.slice AD (st.deposits.length + 1) cD) ∧ W.cell? ⟨b15, 3, none⟩ = some (.slice A8 (addF name x l st.folders).length c8)) ∧ W.cell? ⟨wr2.heap.size, 0, none⟩ = some (.string u.name) ∧ W.cell? ⟨wr3.heap.size, 0, none⟩ = some (.string g.name)) W := fun W hW => ⟨⟨K0 W (bel_call HB18.out hW), K1 W (bel_call HB18.out hW), K2 W (bel_call HB18.out hW), K3 W (bel_call HB18.out hW)⟩, ⟨m0 W (bel_call HB18.out hW), m1 W (bel_call HB18.out hW), m2 W (bel_call HB18.out hW), m3 W (bel_call HB18.out hW)⟩, nu W (bel_call HB78.out hW), nh W hW⟩
                    have NB0 : Below w8.heap.size w8 w8.drew := (Below.refl _ _).drew
                    refine wp_region_held_drew (S := (fun W : World => (W.cell? ⟨w.heap.size, 0, none⟩ = some (.int .i64 st.turn) ∧ W.cell? ⟨w.heap.size, 1, none⟩ = some (.slice (some ⟨bu, ou, none⟩) st.users.length st_c1) ∧ W.cell? ⟨w.heap.size, 2, none⟩ = some (.slice st_A2 st.deposits.length st_c2) ∧ W.cell? ⟨w.heap.size, 3, none⟩ = some (.slice (some ⟨bg, og, none⟩) st.folders.length st_c3)) ∧ (W.cell? ⟨b15, 0, none⟩ = some (.int .i64 0) ∧ W.cell? ⟨b15, 1, none⟩ = some (.slice (some ⟨bu, ou, none⟩) st.users.length st_c1) ∧ W.cell? ⟨b15, 2, none⟩ = some (.slice AD (st.deposits.length + 1) cD) ∧ W.cell? ⟨b15, 3, none⟩ = some (.slice A8 (addF name x l st.folders).length c8)) ∧ W.cell? ⟨wr2.heap.size, 0, none⟩ = some (.string u.name) ∧ W.cell? ⟨wr3.heap.size, 0, none⟩ = some (.string g.name))) (by kernel_rfl) (HS _ NB0) (fun hHeld => ?_)
                    refine wpAnyH_take (i := 0) (oi := ?_) (v := ?_) ?_ (by kernel_rfl) (by kernel_rfl) (by kernel_rfl) ?_ (Or.inl ⟨?_, ?_⟩) hHeld ?_
                    rotate_left 2
                    · simp only [List.getElem?_toArray, List.getElem?_cons_zero]; exact rfl
                    · exact fun _ _ _ h => h
                    · rfl
                    · (intro W' hSw; (try dsimp only at hSw); go_simp; try with_reducible rfl)
                    try simp only [Act.put, List.setIfInBounds_toArray, List.set_cons_zero, List.set_cons_succ]
                    refine wpAnyH_take (i := 1) (oi := ?_) (v := ?_) ?_ (by kernel_rfl) (by kernel_rfl) (by kernel_rfl) ?_ (Or.inl ⟨?_, ?_⟩) hHeld ?_
                    rotate_left 2
                    · simp only [List.getElem?_toArray, List.getElem?_cons_succ, List.getElem?_cons_zero]; exact rfl
                    · exact fun _ _ _ h => h
                    · rfl
                    · (intro W' hSw; (try dsimp only at hSw); go_simp; try with_reducible rfl)
                    try simp only [Act.put, List.setIfInBounds_toArray, List.set_cons_zero, List.set_cons_succ]
                    refine wpAnyH_take (i := 2) (oi := ?_) (v := ?_) ?_ (by kernel_rfl) (by kernel_rfl) (by kernel_rfl) ?_ (Or.inl ⟨?_, ?_⟩) hHeld ?_
                    rotate_left 2
                    · simp only [List.getElem?_toArray, List.getElem?_cons_succ, List.getElem?_cons_zero]; exact rfl
                    · exact fun _ _ _ h => h
                    · rfl
                    · (intro W' hSw; (try dsimp only at hSw); go_simp; try with_reducible rfl)
                    try simp only [Act.put, List.setIfInBounds_toArray, List.set_cons_zero, List.set_cons_succ]
                    refine wpAnyH_take (i := 3) (oi := ?_) (v := ?_) ?_ (by kernel_rfl) (by kernel_rfl) (by kernel_rfl) ?_ (Or.inl ⟨?_, ?_⟩) hHeld ?_
                    rotate_left 2
                    · simp only [List.getElem?_toArray, List.getElem?_cons_succ, List.getElem?_cons_zero]; exact rfl
                    · exact fun _ _ _ h => h
                    · rfl
                    · (intro W' hSw; (try dsimp only at hSw); go_simp; try with_reducible rfl)
                    try simp only [Act.put, List.setIfInBounds_toArray, List.set_cons_zero, List.set_cons_succ]
                    refine wpAnyH_take (i := 4) (oi := ?_) (v := ?_) ?_ (by kernel_rfl) (by kernel_rfl) (by kernel_rfl) ?_ (Or.inl ⟨?_, ?_⟩) hHeld ?_
                    rotate_left 2
                    · simp only [List.getElem?_toArray, List.getElem?_cons_succ, List.getElem?_cons_zero]; exact rfl
                    · exact fun _ _ _ h => h
                    · rfl
                    · (intro W' hSw; (try dsimp only at hSw); go_simp; try with_reducible rfl)
                    try simp only [Act.put, List.setIfInBounds_toArray, List.set_cons_zero, List.set_cons_succ]
                    refine wpAnyH_take (i := 6) (oi := ?_) (v := ?_) ?_ (by kernel_rfl) (by kernel_rfl) (by kernel_rfl) ?_ (Or.inl ⟨?_, ?_⟩) hHeld ?_
                    rotate_left 2
                    · simp only [List.getElem?_toArray, List.getElem?_cons_succ, List.getElem?_cons_zero]; exact rfl
                    · exact fun _ _ _ h => h
                    · rfl
                    · (intro W' hSw; (try dsimp only at hSw); go_simp; try with_reducible rfl)
                    try simp only [Act.put, List.setIfInBounds_toArray, List.set_cons_zero, List.set_cons_succ]
                    refine wpAnyH_take (i := 7) (oi := ?_) (v := ?_) ?_ (by kernel_rfl) (by kernel_rfl) (by kernel_rfl) ?_ (Or.inl ⟨?_, ?_⟩) hHeld ?_
                    rotate_left 2
                    · simp only [List.getElem?_toArray, List.getElem?_cons_succ, List.getElem?_cons_zero]; exact rfl
                    · exact fun _ _ _ h => h
                    · rfl
                    · (intro W' hSw; (try dsimp only at hSw); go_simp; try with_reducible rfl)
                    try simp only [Act.put, List.setIfInBounds_toArray, List.set_cons_zero, List.set_cons_succ]
                    refine wpAnyH_take (i := 8) (oi := ?_) (v := ?_) ?_ (by kernel_rfl) (by kernel_rfl) (by kernel_rfl) ?_ (Or.inl ⟨?_, ?_⟩) hHeld ?_
                    rotate_left 2
                    · simp only [List.getElem?_toArray, List.getElem?_cons_succ, List.getElem?_cons_zero]; exact rfl
                    · exact fun _ _ _ h => h
                    · rfl
                    · (intro W' hSw; (try dsimp only at hSw); go_simp; try with_reducible rfl)
                    try simp only [Act.put, List.setIfInBounds_toArray, List.set_cons_zero, List.set_cons_succ]
                    refine wpAnyH_take (i := 9) (oi := ?_) (v := ?_) ?_ (by kernel_rfl) (by kernel_rfl) (by kernel_rfl) ?_ (Or.inl ⟨?_, ?_⟩) hHeld ?_
                    rotate_left 2
                    · simp only [List.getElem?_toArray, List.getElem?_cons_succ, List.getElem?_cons_zero]; exact rfl
                    · exact fun _ _ _ h => h
                    · rfl
                    · (intro W' hSw; (try dsimp only at hSw); go_simp; try with_reducible rfl)
                    try simp only [Act.put, List.setIfInBounds_toArray, List.set_cons_zero, List.set_cons_succ]
                    refine wpAnyH_take (i := 10) (oi := ?_) (v := ?_) ?_ (by kernel_rfl) (by kernel_rfl) (by kernel_rfl) ?_ (Or.inl ⟨?_, ?_⟩) hHeld ?_
                    rotate_left 2
                    · simp only [List.getElem?_toArray, List.getElem?_cons_succ, List.getElem?_cons_zero]; exact rfl
                    · exact fun _ _ _ h => h
                    · rfl
                    · (intro W' hSw; (try dsimp only at hSw); go_simp; try with_reducible rfl)
                    try simp only [Act.put, List.setIfInBounds_toArray, List.set_cons_zero, List.set_cons_succ]
                    refine wpAnyH_ready (rs := [5]) (by kernel_rfl) (by simp) ?_
                    refine AllReadyH.cons rfl (fun K hK => ?_) AllReadyH.nil
                    go_simp
                    go_at_call 10
                    refine Calls.mono (reaches_any st u.name g.name _ _ _ (HSTR.out _ (bel_call HB18.out NB0)) HOK.out HUM.out) ?_
                    rintro e w9 ⟨⟨a, rfl, ha⟩, b9'⟩
                    have NB1 : Below w8.heap.size w8 w9 := bel_call NB0 b9'
                    clear hHeld b9'
                    refine hK.out _ _ (HS _ NB1) (fun hHeld => ?_)
                    clear hK K
                    refine wpAnyH_ready (rs := [11]) (by kernel_rfl) (by simp) ?_
                    refine AllReadyH.cons rfl (fun K hK => ?_) AllReadyH.nil
                    go_simp
                    go_at_call 10
                    refine Calls.mono (reaches_any (moreS st name x l p) u.name g.name _ _ _ (HSM2.out _ (bel_call HB18.out NB1)) HMO.out HUM.out) ?_
                    rintro e wa ⟨⟨b, rfl, hb⟩, ba'⟩
                    have NB2 : Below w8.heap.size w8 wa := bel_call NB1 ba'
                    clear hHeld ba'
                    refine hK.out _ _ (HS _ NB2) (fun hHeld => ?_)
                    clear hK K
                    refine wpAnyH_take (i := 12) (oi := ?_) (v := ?_) ?_ (by kernel_rfl) (by kernel_rfl) (by kernel_rfl) ?_ (Or.inl ⟨?_, ?_⟩) hHeld ?_
                    rotate_left 2
                    · simp only [List.getElem?_toArray, List.getElem?_cons_succ, List.getElem?_cons_zero]; exact rfl
                    · exact fun _ _ _ h => h
                    · rfl
                    · (intro W' hSw; (try dsimp only at hSw); go_simp; try with_reducible rfl)
                    try simp only [Act.put, List.setIfInBounds_toArray, List.set_cons_zero, List.set_cons_succ]
                    refine wpAnyH_take (i := 13) (oi := ?_) (v := ?_) ?_ (by kernel_rfl) (by kernel_rfl) (by kernel_rfl) ?_ (Or.inl ⟨?_, ?_⟩) hHeld ?_
                    rotate_left 2
                    · simp only [List.getElem?_toArray, List.getElem?_cons_succ, List.getElem?_cons_zero]; exact rfl
                    · exact fun _ _ _ h => h
                    · rfl
                    · (intro W' hSw; (try dsimp only at hSw); go_simp; try with_reducible rfl)
                    try simp only [Act.put, List.setIfInBounds_toArray, List.set_cons_zero, List.set_cons_succ]
                    refine wpAnyH_done (by kernel_rfl) ?_ _
                    clear hHeld HS
                    have dab : decide (b < a) = false := decide_eq_false (by have := reach_more ha hb; omega)
                    have HB := Lib.hid hb
                    have B1A := bel_call HB18.out NB2
                    have B7A := bel_call HB78.out NB2
                    clear ha hb NB0 NB1
                    have a3 := r3 wa B1A
                    have ah := nh wa NB2
                    have au := nu wa B7A
                    have a90 := r90 wa B1A
                    have a91 := r91 wa B1A
                    have a_0 := m0 wa B1A
                    have a_1 := m1 wa B1A
                    have a_2 := m2 wa B1A
                    have a_3 := m3 wa B1A
                    clear K0 K1 K2 K3 m0 m1 m2 m3 r70 r71 r90 r91 r3 nu nh NB2 B13 hbel
                    have HB1A := Lib.hid B1A
                    have HB7A := Lib.hid B7A
                    clear B1A B7A
                    by_cases hbl : (f.epochs.length : Int) < b
                    · have dbl : decide ((f.epochs.length : Int) < b) = true := decide_eq_true hbl
                      have hse : (g.name.toList == name.toList) = false := eqS_ne fun e => by
                        have h1 := HB.out
                        rw [e] at h1
                        have := reach_len HFF.out h1
                        omega
                      clear hbl
                      by_cases hpt : u.name = p.to
                      · have hse2 : (u.name.toList == p.to.toList) = true := by rw [hpt]; simp
                        have HPT := Lib.hid hpt
                        clear hpt
                        go_wp2_with fail
                        refine Calls.mono (reaches_any (moreS st name x l p) p.frm g.name _ _ _ (HSM2.out _ HB1A.out) HMO.out HPN.out) ?_
                        rintro e wb ⟨⟨c, rfl, hc⟩, bb'⟩
                        have dcb : decide (b < c) = false := decide_eq_false (by have h1 := HB.out; rw [HPT.out] at h1; have := reach_dep hc h1; omega)
                        have HB7B := Lib.hid (bel_call HB7A.out bb')
                        clear hc bb' a3 ah au a90 a91 a_0 a_1 a_2 a_3
                        go_wp2
                        go_roundw
                        case rel => exact ⟨j + 1, by omega, by go_num, HB7B.out⟩
                        case measure => simp [RowKit.intOf]; omega
                      · have hse2 : (u.name.toList == p.to.toList) = false := eqS_ne hpt
                        clear hpt
                        go_wp2
                        go_roundw
                        case rel => exact ⟨j + 1, by omega, by go_num, HB7A.out⟩
                        case measure => simp [RowKit.intOf]; omega
                    · have dbl : decide ((f.epochs.length : Int) < b) = false := decide_eq_false hbl
                      clear hbl
                      by_cases hpt : u.name = p.to
                      · have hse2 : (u.name.toList == p.to.toList) = true := by rw [hpt]; simp
                        have HPT := Lib.hid hpt
                        clear hpt
                        go_wp2_with fail
                        refine Calls.mono (reaches_any (moreS st name x l p) p.frm g.name _ _ _ (HSM2.out _ HB1A.out) HMO.out HPN.out) ?_
                        rintro e wb ⟨⟨c, rfl, hc⟩, bb'⟩
                        have dcb : decide (b < c) = false := decide_eq_false (by have h1 := HB.out; rw [HPT.out] at h1; have := reach_dep hc h1; omega)
                        have HB7B := Lib.hid (bel_call HB7A.out bb')
                        clear hc bb' a3 ah au a90 a91 a_0 a_1 a_2 a_3
                        go_wp2
                        go_roundw
                        case rel => exact ⟨j + 1, by omega, by go_num, HB7B.out⟩
                        case measure => simp [RowKit.intOf]; omega
                      · have hse2 : (u.name.toList == p.to.toList) = false := eqS_ne hpt
                        clear hpt
                        go_wp2
                        go_roundw
                        case rel => exact ⟨j + 1, by omega, by go_num, HB7A.out⟩
                        case measure => simp [RowKit.intOf]; omega
                  · obtain rfl : j = st.folders.length := by omega
                    go_wp2
                    go_roundw
                    case rel => exact ⟨k + 1, by omega, by go_num, B13⟩
                    case measure => simp [RowKit.intOf]; omega
              · obtain rfl : k = st.users.length := by omega
                have HBF := Lib.hid (bel_call HBM.out HBR.out)
                cases fb with
                | false =>
                  clear HFB
                  by_cases he1 : 1 ≤ x.epoch
                  · have de1 : decide (1 ≤ x.epoch) = true := decide_eq_true he1
                    clear he1
                    go_wp2_with fail
                    go_quiet (fail)
                    go_wp2
                    go_ret
                    exact ⟨rfl, bel_call HBF.out (belN hbel _)⟩
                  · have de1 : decide (1 ≤ x.epoch) = false := decide_eq_false he1
                    clear he1
                    go_wp2_with fail
                    go_quiet (fail)
                    go_wp2
                    go_ret
                    exact ⟨rfl, bel_call HBF.out (belN hbel _)⟩
                | true =>
                  by_cases he1 : 1 ≤ x.epoch
                  rotate_left
                  · have de1 : decide (1 ≤ x.epoch) = false := decide_eq_false he1
                    clear he1
                    go_wp2_with fail
                    go_quiet (fail)
                    go_wp2
                    go_ret
                    exact ⟨rfl, bel_call HBF.out (belN hbel _)⟩
                  have de1 : decide (1 ≤ x.epoch) = true := decide_eq_true he1
                  by_cases he2 : x.epoch ≤ (f.epochs.length : Int)
                  rotate_left
                  · have de2 : decide (x.epoch ≤ (f.epochs.length : Int)) = false := decide_eq_false he2
                    clear he1 he2
                    go_wp2_with fail
                    go_quiet (fail)
                    go_wp2
                    go_ret
                    exact ⟨rfl, bel_call HBF.out (belN hbel _)⟩
                  have de2 : decide (x.epoch ≤ (f.epochs.length : Int)) = true := decide_eq_true he2
                  have HE1 := Lib.hid he1
                  have HE2 := Lib.hid he2
                  clear he1 he2
                  go_upto_region 40 with fail
                  have HS : ∀ W, Below wr1.heap.size wr1 W → (fun W : World => (W.cell? ⟨b15, 0, none⟩ = some (.int .i64 0) ∧ W.cell? ⟨b15, 1, none⟩ = some (.slice st_A1 st.users.length st_c1) ∧ W.cell? ⟨b15, 2, none⟩ = some (.slice AD (st.deposits.length + 1) cD) ∧ W.cell? ⟨b15, 3, none⟩ = some (.slice A8 (addF name x l st.folders).length c8)) ∧ W.cell? ⟨b7, 0, none⟩ = some (.string x.name) ∧ W.cell? ⟨b7, 1, none⟩ = some (.int .i64 x.epoch)) W := fun W hW => ⟨⟨m0 W hW, m1 W hW, m2 W hW, m3 W hW⟩, r70 W hW, r71 W hW⟩
                  have NB0 := Below.drew hbel
                  refine wp_region_held_drew (S := (fun W : World => (W.cell? ⟨b15, 0, none⟩ = some (.int .i64 0) ∧ W.cell? ⟨b15, 1, none⟩ = some (.slice st_A1 st.users.length st_c1) ∧ W.cell? ⟨b15, 2, none⟩ = some (.slice AD (st.deposits.length + 1) cD) ∧ W.cell? ⟨b15, 3, none⟩ = some (.slice A8 (addF name x l st.folders).length c8)) ∧ W.cell? ⟨b7, 0, none⟩ = some (.string x.name) ∧ W.cell? ⟨b7, 1, none⟩ = some (.int .i64 x.epoch))) (by kernel_rfl) (HS _ NB0) (fun hHeld => ?_)
                  refine wpAnyH_take (i := 0) (oi := ?_) (v := ?_) ?_ (by kernel_rfl) (by kernel_rfl) (by kernel_rfl) ?_ (Or.inl ⟨?_, ?_⟩) hHeld ?_
                  rotate_left 2
                  · simp only [List.getElem?_toArray, List.getElem?_cons_zero]; exact rfl
                  · exact fun _ _ _ h => h
                  · rfl
                  · (intro W' hSw; (try dsimp only at hSw); go_simp; try with_reducible rfl)
                  try simp only [Act.put, List.setIfInBounds_toArray, List.set_cons_zero, List.set_cons_succ]
                  refine wpAnyH_take (i := 1) (oi := ?_) (v := ?_) ?_ (by kernel_rfl) (by kernel_rfl) (by kernel_rfl) ?_ (Or.inl ⟨?_, ?_⟩) hHeld ?_
                  rotate_left 2
                  · simp only [List.getElem?_toArray, List.getElem?_cons_succ, List.getElem?_cons_zero]; exact rfl
                  · exact fun _ _ _ h => h
                  · rfl
                  · (intro W' hSw; (try dsimp only at hSw); go_simp; try with_reducible rfl)
                  try simp only [Act.put, List.setIfInBounds_toArray, List.set_cons_zero, List.set_cons_succ]
                  refine wpAnyH_take (i := 2) (oi := ?_) (v := ?_) ?_ (by kernel_rfl) (by kernel_rfl) (by kernel_rfl) ?_ (Or.inl ⟨?_, ?_⟩) hHeld ?_
                  rotate_left 2
                  · simp only [List.getElem?_toArray, List.getElem?_cons_succ, List.getElem?_cons_zero]; exact rfl
                  · exact fun _ _ _ h => h
                  · rfl
                  · (intro W' hSw; (try dsimp only at hSw); go_simp; try with_reducible rfl)
                  try simp only [Act.put, List.setIfInBounds_toArray, List.set_cons_zero, List.set_cons_succ]
                  refine wpAnyH_take (i := 3) (oi := ?_) (v := ?_) ?_ (by kernel_rfl) (by kernel_rfl) (by kernel_rfl) ?_ (Or.inl ⟨?_, ?_⟩) hHeld ?_
                  rotate_left 2
                  · simp only [List.getElem?_toArray, List.getElem?_cons_succ, List.getElem?_cons_zero]; exact rfl
                  · exact fun _ _ _ h => h
                  · rfl
                  · (intro W' hSw; (try dsimp only at hSw); go_simp; try with_reducible rfl)
                  try simp only [Act.put, List.setIfInBounds_toArray, List.set_cons_zero, List.set_cons_succ]
                  refine wpAnyH_take (i := 4) (oi := ?_) (v := ?_) ?_ (by kernel_rfl) (by kernel_rfl) (by kernel_rfl) ?_ (Or.inl ⟨?_, ?_⟩) hHeld ?_
                  rotate_left 2
                  · simp only [List.getElem?_toArray, List.getElem?_cons_succ, List.getElem?_cons_zero]; exact rfl
                  · exact fun _ _ _ h => h
                  · rfl
                  · (intro W' hSw; (try dsimp only at hSw); go_simp; try with_reducible rfl)
                  try simp only [Act.put, List.setIfInBounds_toArray, List.set_cons_zero, List.set_cons_succ]
                  refine wpAnyH_take (i := 5) (oi := ?_) (v := ?_) ?_ (by kernel_rfl) (by kernel_rfl) (by kernel_rfl) ?_ (Or.inl ⟨?_, ?_⟩) hHeld ?_
                  rotate_left 2
                  · simp only [List.getElem?_toArray, List.getElem?_cons_succ, List.getElem?_cons_zero]; exact rfl
                  · exact fun _ _ _ h => h
                  · rfl
                  · (intro W' hSw; (try dsimp only at hSw); go_simp; try with_reducible rfl)
                  try simp only [Act.put, List.setIfInBounds_toArray, List.set_cons_zero, List.set_cons_succ]
                  refine wpAnyH_take (i := 6) (oi := ?_) (v := ?_) ?_ (by kernel_rfl) (by kernel_rfl) (by kernel_rfl) ?_ (Or.inl ⟨?_, ?_⟩) hHeld ?_
                  rotate_left 2
                  · simp only [List.getElem?_toArray, List.getElem?_cons_succ, List.getElem?_cons_zero]; exact rfl
                  · exact fun _ _ _ h => h
                  · rfl
                  · (intro W' hSw; (try dsimp only at hSw); go_simp; try with_reducible rfl)
                  try simp only [Act.put, List.setIfInBounds_toArray, List.set_cons_zero, List.set_cons_succ]
                  refine wpAnyH_take (i := 7) (oi := ?_) (v := ?_) ?_ (by kernel_rfl) (by kernel_rfl) (by kernel_rfl) ?_ (Or.inl ⟨?_, ?_⟩) hHeld ?_
                  rotate_left 2
                  · simp only [List.getElem?_toArray, List.getElem?_cons_succ, List.getElem?_cons_zero]; exact rfl
                  · exact fun _ _ _ h => h
                  · rfl
                  · (intro W' hSw; (try dsimp only at hSw); go_simp; try with_reducible rfl)
                  try simp only [Act.put, List.setIfInBounds_toArray, List.set_cons_zero, List.set_cons_succ]
                  refine wpAnyH_take (i := 8) (oi := ?_) (v := ?_) ?_ (by kernel_rfl) (by kernel_rfl) (by kernel_rfl) ?_ (Or.inl ⟨?_, ?_⟩) hHeld ?_
                  rotate_left 2
                  · simp only [List.getElem?_toArray, List.getElem?_cons_succ, List.getElem?_cons_zero]; exact rfl
                  · exact fun _ _ _ h => h
                  · rfl
                  · (intro W' hSw; (try dsimp only at hSw); go_simp; try with_reducible rfl)
                  try simp only [Act.put, List.setIfInBounds_toArray, List.set_cons_zero, List.set_cons_succ]
                  refine wpAnyH_take (i := 9) (oi := ?_) (v := ?_) ?_ (by kernel_rfl) (by kernel_rfl) (by kernel_rfl) ?_ (Or.inl ⟨?_, ?_⟩) hHeld ?_
                  rotate_left 2
                  · simp only [List.getElem?_toArray, List.getElem?_cons_succ, List.getElem?_cons_zero]; exact rfl
                  · exact fun _ _ _ h => h
                  · rfl
                  · (intro W' hSw; (try dsimp only at hSw); go_simp; try with_reducible rfl)
                  try simp only [Act.put, List.setIfInBounds_toArray, List.set_cons_zero, List.set_cons_succ]
                  refine wpAnyH_take (i := 10) (oi := ?_) (v := ?_) ?_ (by kernel_rfl) (by kernel_rfl) (by kernel_rfl) ?_ (Or.inl ⟨?_, ?_⟩) hHeld ?_
                  rotate_left 2
                  · simp only [List.getElem?_toArray, List.getElem?_cons_succ, List.getElem?_cons_zero]; exact rfl
                  · exact fun _ _ _ h => h
                  · rfl
                  · (intro W' hSw; (try dsimp only at hSw); go_simp; try with_reducible rfl)
                  try simp only [Act.put, List.setIfInBounds_toArray, List.set_cons_zero, List.set_cons_succ]
                  refine wpAnyH_take (i := 12) (oi := ?_) (v := ?_) ?_ (by kernel_rfl) (by kernel_rfl) (by kernel_rfl) ?_ (Or.inl ⟨?_, ?_⟩) hHeld ?_
                  rotate_left 2
                  · simp only [List.getElem?_toArray, List.getElem?_cons_succ, List.getElem?_cons_zero]; exact rfl
                  · exact fun _ _ _ h => h
                  · rfl
                  · (intro W' hSw; (try dsimp only at hSw); go_simp; try with_reducible rfl)
                  try simp only [Act.put, List.setIfInBounds_toArray, List.set_cons_zero, List.set_cons_succ]
                  refine wpAnyH_take (i := 13) (oi := ?_) (v := ?_) ?_ (by kernel_rfl) (by kernel_rfl) (by kernel_rfl) ?_ (Or.inl ⟨?_, ?_⟩) hHeld ?_
                  rotate_left 2
                  · simp only [List.getElem?_toArray, List.getElem?_cons_succ, List.getElem?_cons_zero]; exact rfl
                  · exact fun _ _ _ h => h
                  · rfl
                  · (intro W' hSw; (try dsimp only at hSw); go_simp; try with_reducible rfl)
                  try simp only [Act.put, List.setIfInBounds_toArray, List.set_cons_zero, List.set_cons_succ]
                  refine wpAnyH_ready (rs := [11]) (by kernel_rfl) (by simp) ?_
                  refine AllReadyH.cons rfl (fun K hK => ?_) AllReadyH.nil
                  go_simp
                  go_at_call 10
                  refine Calls.mono (reaches_any (moreS st name x l p) x.name name _ _ _ (HSM2.out _ NB0) HMO.out HXN.out) ?_
                  rintro e w9 ⟨⟨a, rfl, ha⟩, b9'⟩
                  have NB1 := bel_call NB0 b9'
                  clear hHeld b9'
                  refine hK.out _ _ (HS _ NB1) (fun hHeld => ?_)
                  clear hK K
                  refine wpAnyH_take (i := 14) (oi := ?_) (v := ?_) ?_ (by kernel_rfl) (by kernel_rfl) (by kernel_rfl) ?_ (Or.inl ⟨?_, ?_⟩) hHeld ?_
                  rotate_left 2
                  · simp only [List.getElem?_toArray, List.getElem?_cons_succ, List.getElem?_cons_zero]; exact rfl
                  · exact fun _ _ _ h => h
                  · rfl
                  · (intro W' hSw; (try dsimp only at hSw); go_simp; try with_reducible rfl)
                  try simp only [Act.put, List.setIfInBounds_toArray, List.set_cons_zero, List.set_cons_succ]
                  refine wpAnyH_take (i := 15) (oi := ?_) (v := ?_) ?_ (by kernel_rfl) (by kernel_rfl) (by kernel_rfl) ?_ (Or.inl ⟨?_, ?_⟩) hHeld ?_
                  rotate_left 2
                  · simp only [List.getElem?_toArray, List.getElem?_cons_succ, List.getElem?_cons_zero]; exact rfl
                  · exact fun _ _ _ h => h
                  · rfl
                  · (intro W' hSw; (try dsimp only at hSw); go_simp; try with_reducible rfl)
                  try simp only [Act.put, List.setIfInBounds_toArray, List.set_cons_zero, List.set_cons_succ]
                  refine wpAnyH_take (i := 16) (oi := ?_) (v := ?_) ?_ (by kernel_rfl) (by kernel_rfl) (by kernel_rfl) ?_ (Or.inl ⟨?_, ?_⟩) hHeld ?_
                  rotate_left 2
                  · simp only [List.getElem?_toArray, List.getElem?_cons_succ, List.getElem?_cons_zero]; exact rfl
                  · exact fun _ _ _ h => h
                  · rfl
                  · (intro W' hSw; (try dsimp only at hSw); go_simp; try with_reducible rfl)
                  try simp only [Act.put, List.setIfInBounds_toArray, List.set_cons_zero, List.set_cons_succ]
                  refine wpAnyH_done (by kernel_rfl) ?_ _
                  clear hHeld HS
                  have HA := Lib.hid (reach_wrap HFF.out (HFB.out.1 rfl) HE1.out HE2.out ha)
                  clear ha
                  go_wp2
                  go_ret
                  exact ⟨ret_bool (decide_eq_true HA.out), bel_call HBF.out NB1⟩
end Go.Proofs.Ytocofkccdfaaaaa
