/- Layer mail: a box of answers: Take. Condition: the box holds one. -/
import Derived.Test.YtmkgiaheeebbbaaBoxA
namespace Go.Proofs.Ytmkgiaheeebbbaa
open Go.RowKit Go.Conc

/-- Of the blocks of w none turned but c; new ones may lie behind. -/
structure But (c : Nat) (w w' : World) : Prop where
  os : w'.os = w.os
  tape : w'.tape = w.tape
  output : w'.output = w.output
  size : w.heap.size ≤ w'.heap.size
  block : ∀ k, k < w.heap.size → k ≠ c → w'.heap[k]? = w.heap[k]?
theorem But.of (c : Nat) {w w' : World} (h : Below w.heap.size w w') : But c w w' := ⟨h.os, h.tape, h.output, h.size, fun k hk _ => h.block k hk⟩
theorem But.turn {c : Nat} {w w1 w' : World} (h : But c w w1) (k : OnlyChan c w1 w') : But c w w' := ⟨k.os.trans h.os, k.tape.trans h.tape, k.output.trans h.output, by rw [k.size]; exact h.size, fun b hb hc => (k.block b hc).trans (h.block b hb hc)⟩
theorem But.set {c : Nat} {w w' : World} (h : But c w w') (a : Addr) (v : Value) (ha : w.heap.size ≤ a.block) : But c w (w'.setCell a v) := have b := (Below.refl 0 w').setCell (p := a) (Nat.zero_le _) v
  ⟨b.os.trans h.os, b.tape.trans h.tape, b.output.trans h.output, by simpa using h.size, fun k hk hc => (Below.heap_setCell _ _ _ _ (by omega)).trans (h.block k hk hc)⟩
theorem But.alloc {c : Nat} {w w' : World} (h : But c w w') (o : Obj) : But c w (w'.alloc o) := ⟨h.os, h.tape, h.output, by have := h.size; simp; omega, fun k hk hc => (heap_alloc_old _ _ (Nat.lt_of_lt_of_le hk h.size)).trans (h.block k hk hc)⟩
theorem But.trans {c : Nat} {w w1 w' : World} (h : But c w w1) (k : But c w1 w') : But c w w' := ⟨k.os.trans h.os, k.tape.trans h.tape, k.output.trans h.output, Nat.le_trans h.size k.size, fun b hb hc => (k.block b (Nat.lt_of_lt_of_le hb h.size) hc).trans (h.block b hb hc)⟩

set_option maxRecDepth 100000 in
set_option maxHeartbeats 1000000 in
theorem takeA_some {w : World} {b c room : Nat} {e0 e1 : Int} {e2 : ByteArray} {A3 A4 A5 A6 : Option Addr} {n3 c3 n4 c4 n5 c5 n6 c6 : Nat} {l : List Value} (h : BoxA w b c room (.agg #[.int .i64 e0, .int .i64 e1, .string e2, .slice A3 n3 c3, .slice A4 n4 c4, .slice A5 n5 c5, .slice A6 n6 c6] :: l)) :
    Calls Try.prog 19 #[.pointer (some ⟨b, 0, none⟩)] w fun e w' => e = .returned (.tuple #[.agg #[.int .i64 e0, .int .i64 e1, .string e2, .slice A3 n3 c3, .slice A4 n4 c4, .slice A5 n5 c5, .slice A6 n6 c6], .bool true]) ∧ BoxA w' b c room l ∧ But c w w' := by
  have hc0 : ∃ o, w.heap[c]? = some o := by obtain ⟨_, _, _, _, _, q⟩ := h; exact ⟨_, q⟩
  obtain ⟨o0, hc0⟩ := hc0
  have hb0 := h.2.1
  have h1 := (h.alloc (.cells #[.int .i64 0, .int .i64 0, .string ⟨#[]⟩, .slice none 0 0, .slice none 0 0, .slice none 0 0, .slice none 0 0] 39)).alloc (.cells #[.int .i64 0, .int .i64 0, .string ⟨#[]⟩, .slice none 0 0, .slice none 0 0, .slice none 0 0, .slice none 0 0] 39)
  have his := isA_any h1
  obtain ⟨hbc, hb, hl, s, r, hc⟩ := h1
  obtain ⟨cb, fb⟩ := blk_cells hb
  have c0 := cb 0 _ rfl
  clear cb
  refine calls_of_loneTo fun cs => ?_
  have e : Frame.enter Try.prog 19 #[.pointer (some ⟨b, 0, none⟩)] .normal = (base 19).at ⟨#[.pointer (some ⟨b, 0, none⟩), undef, undef, undef, undef, undef, undef, undef, undef, undef, undef, undef, undef, undef, undef, undef, undef, undef, undef, undef], []⟩ [.code (Try.f19.body.getD .skip)] := by
    simp [Frame.enter, Frame.at, Try.func19, base, Try.f19]
  rw [e]
  refine LoneTo.goes (n := 60) ?_
  simp only [Try.f19, Option.getD_some]
  s_c stepG_seq
  s_reg
  s_op
  s_op
  s_c stepG_region_end
  s_c stepG_seq
  s_reg
  s_op
  s_c stepG_region_end
  s_c stepG_seq
  s_c stepG_seq
  s_reg
  s_op
  s_in
  refine goes_call2 rfl rfl (by decide) rfl Try.func30 (by kernel_rfl) rfl ⟨trivial, ?_⟩
  s_stop
  walk_nrm
  refine loneTo_call his ?_
  rintro e w1 ⟨rfl, rfl⟩
  refine ⟨_, rfl, ?_⟩
  rw [Frame.finish_at]
  walk_nrm
  refine LoneTo.goes (n := 60) ?_
  s_op
  s_c stepG_region_end
  s_cond false
  s_c stepG_skip
  s_c stepG_seq
  s_reg
  s_op
  s_op
  s_op
  s_op
  s_c stepG_region_end
  s_c stepG_seq
  s_reg
  s_stop
  refine LoneTo.step (step_lone_select_recv_buf (c := c) (z := .agg #[.int .i64 0, .int .i64 0, .string ⟨#[]⟩, .slice none 0 0, .slice none 0 0, .slice none 0 0, .slice none 0 0]) (cap := room) (buf := (.agg #[.int .i64 e0, .int .i64 e1, .string e2, .slice A3 n3 c3, .slice A4 n4 c4, .slice A5 n5 c5, .slice A6 n6 c6] :: l).toArray) (closed := false) (s := s) (r := r) (tm := false) (stepG_comm (cases := #[rcase c (.agg #[.int .i64 0, .int .i64 0, .string ⟨#[]⟩, .slice none 0 0, .slice none 0 0, .slice none 0 0, .slice none 0 0])]) (blocking := false) (shape := .select) (w' := (w.alloc (.cells #[.int .i64 0, .int .i64 0, .string ⟨#[]⟩, .slice none 0 0, .slice none 0 0, .slice none 0 0, .slice none 0 0] 39)).alloc (.cells #[.int .i64 0, .int .i64 0, .string ⟨#[]⟩, .slice none 0 0, .slice none 0 0, .slice none 0 0, .slice none 0 0] 39)) rfl rfl (by decide) (by simp [go_sem, execOp, rcase, Act.eval])) hc (by simp)) ?_
  generalize hX : World.setChan _ _ _ _ _ _ _ _ = X
  have hXo : OnlyChan c ((w.alloc (.cells #[.int .i64 0, .int .i64 0, .string ⟨#[]⟩, .slice none 0 0, .slice none 0 0, .slice none 0 0, .slice none 0 0] 39)).alloc (.cells #[.int .i64 0, .int .i64 0, .string ⟨#[]⟩, .slice none 0 0, .slice none 0 0, .slice none 0 0, .slice none 0 0] 39)) X := by rw [← hX]; exact onlyChan_set _ _ _ _ _ _ _ _
  have hB0 : Below w.heap.size w ((w.alloc (.cells #[.int .i64 0, .int .i64 0, .string ⟨#[]⟩, .slice none 0 0, .slice none 0 0, .slice none 0 0, .slice none 0 0] 39)).alloc (.cells #[.int .i64 0, .int .i64 0, .string ⟨#[]⟩, .slice none 0 0, .slice none 0 0, .slice none 0 0, .slice none 0 0] 39)) := by go_grown
  have hXo := Lib.hid ((But.of c hB0).turn hXo)
  have hXr := Lib.hid (show X.heap[c]? = some (.chan room l.toArray false s (r + 1) false) by
    rw [← hX, heap_setChan _ _ _ _ _ _ _ _ (blk_lt hc)]
    simp)
  have hcs : c < w.heap.size := blk_lt hc0
  have hXs : X.heap.size = w.heap.size + 1 + 1 := by rw [← hX, size_setChan]; simp
  have hXb : X.heap[w.heap.size]? = some (.cells #[.int .i64 0, .int .i64 0, .string ⟨#[]⟩, .slice none 0 0, .slice none 0 0, .slice none 0 0, .slice none 0 0] 39 (0, 0)) := by
    rw [← hX, (onlyChan_set _ _ _ _ _ _ _ _).block _ (by omega)]
    exact blk_alloc_old _ (heap_alloc_new w _)
  have hXa := fun o => blk_cells (blk_alloc_old (w := X) o hXb)
  have hXn := blk_cells (blk_alloc_new (w := X) (b := w.heap.size + 1 + 1) (.cells #[.int .i64 e0, .int .i64 e1, .string e2, .slice A3 n3 c3, .slice A4 n4 c4, .slice A5 n5 c5, .slice A6 n6 c6] 39) hXs.symm)
  have y0 := hXn.1 0 _ rfl
  have y1 := hXn.1 1 _ rfl
  have y2 := hXn.1 2 _ rfl
  have y3 := hXn.1 3 _ rfl
  have y4 := hXn.1 4 _ rfl
  have y5 := hXn.1 5 _ rfl
  have y6 := hXn.1 6 _ rfl
  have hXc := blk_cells hXb
  have z0 := hXc.1 0 _ rfl
  have z1 := hXc.1 1 _ rfl
  have z2 := hXc.1 2 _ rfl
  have z3 := hXc.1 3 _ rfl
  have z4 := hXc.1 4 _ rfl
  have z5 := hXc.1 5 _ rfl
  have z6 := hXc.1 6 _ rfl
  have zf := hXc.2
  have hlt : w.heap.size < X.heap.size := by omega
  rw [Frame.finish_at]
  walk_nrm
  refine LoneTo.goes (n := 60) ?_
  s_op
  s_op
  s_c stepG_region_end
  s_c stepG_block
  s_cond true
  s_c stepG_seq
  s_reg
  s_op
  s_op
  s_op
  s_c stepG_region_end
  s_c stepG_seq
  s_reg
  s_op
  s_op
  s_op
  s_c stepG_region_end
  s_c stepG_ret'
  s_stop
  have hW : ∀ (i : Nat) (v : Value), #[.int .i64 e0, .int .i64 e1, .string e2, .slice A3 n3 c3, .slice A4 n4 c4, .slice A5 n5 c5, .slice A6 n6 c6][i]? = some v → True := fun _ _ _ => trivial
  generalize hY : World.setCell (World.setCell (World.setCell (World.setCell (World.setCell (World.setCell (World.setCell X _ _) _ _) _ _) _ _) _ _) _ _) _ _ = Y
  have b1 := blk_set_same (i := 0) (cs' := #[.int .i64 e0, .int .i64 0, .string ⟨#[]⟩, .slice none 0 0, .slice none 0 0, .slice none 0 0, .slice none 0 0]) (.int .i64 e0) hXb (by simp)
  have b2 := blk_set_same (i := 1) (cs' := #[.int .i64 e0, .int .i64 e1, .string ⟨#[]⟩, .slice none 0 0, .slice none 0 0, .slice none 0 0, .slice none 0 0]) (.int .i64 e1) b1 (by simp)
  have b3 := blk_set_same (i := 2) (cs' := #[.int .i64 e0, .int .i64 e1, .string e2, .slice none 0 0, .slice none 0 0, .slice none 0 0, .slice none 0 0]) (.string e2) b2 (by simp)
  have b4 := blk_set_same (i := 3) (cs' := #[.int .i64 e0, .int .i64 e1, .string e2, .slice A3 n3 c3, .slice none 0 0, .slice none 0 0, .slice none 0 0]) (.slice A3 n3 c3) b3 (by simp)
  have b5 := blk_set_same (i := 4) (cs' := #[.int .i64 e0, .int .i64 e1, .string e2, .slice A3 n3 c3, .slice A4 n4 c4, .slice none 0 0, .slice none 0 0]) (.slice A4 n4 c4) b4 (by simp)
  have b6 := blk_set_same (i := 5) (cs' := #[.int .i64 e0, .int .i64 e1, .string e2, .slice A3 n3 c3, .slice A4 n4 c4, .slice A5 n5 c5, .slice none 0 0]) (.slice A5 n5 c5) b5 (by simp)
  have b7 := blk_set_same (i := 6) (cs' := #[.int .i64 e0, .int .i64 e1, .string e2, .slice A3 n3 c3, .slice A4 n4 c4, .slice A5 n5 c5, .slice A6 n6 c6]) (.slice A6 n6 c6) b6 (by simp)
  rw [hY] at b7
  have b8 := blk_cells (blk_alloc_old (.cells #[.int .i64 e0, .int .i64 e1, .string e2, .slice A3 n3 c3, .slice A4 n4 c4, .slice A5 n5 c5, .slice A6 n6 c6] 39) b7)
  have g0 := b8.1 0 _ rfl
  have g1 := b8.1 1 _ rfl
  have g2 := b8.1 2 _ rfl
  have g3 := b8.1 3 _ rfl
  have g4 := b8.1 4 _ rfl
  have g5 := b8.1 5 _ rfl
  have g6 := b8.1 6 _ rfl
  have hcne : c ≠ w.heap.size := by omega
  have hYX : But c w (Y.alloc (.cells #[.int .i64 e0, .int .i64 e1, .string e2, .slice A3 n3 c3, .slice A4 n4 c4, .slice A5 n5 c5, .slice A6 n6 c6] 39)) ∧ (Y.alloc (.cells #[.int .i64 e0, .int .i64 e1, .string e2, .slice A3 n3 c3, .slice A4 n4 c4, .slice A5 n5 c5, .slice A6 n6 c6] 39)).heap[c]? = some (.chan room l.toArray false s (r + 1) false) := by
    subst hY
    refine ⟨But.alloc (But.set (But.set (But.set (But.set (But.set (But.set (But.set hXo.out _ _ (Nat.le_refl _)) _ _ (Nat.le_refl _)) _ _ (Nat.le_refl _)) _ _ (Nat.le_refl _)) _ _ (Nat.le_refl _)) _ _ (Nat.le_refl _)) _ _ (Nat.le_refl _)) _, ?_⟩
    exact blk_alloc_old _ (blk_set_other _ (blk_set_other _ (blk_set_other _ (blk_set_other _ (blk_set_other _ (blk_set_other _ (blk_set_other _ hXr.out hcne) hcne) hcne) hcne) hcne) hcne) hcne)
  refine LoneTo.done ⟨.returned (.tuple #[.agg #[.int .i64 e0, .int .i64 e1, .string e2, .slice A3 n3 c3, .slice A4 n4 c4, .slice A5 n5 c5, .slice A6 n6 c6], .bool true]), _, rfl, ⟨rfl, ⟨hbc, ?_, ?_, s, r + 1, hYX.2⟩, hYX.1⟩, rfl, rfl, rfl, rfl, _, Try.func19, ?_⟩
  · exact (hYX.1.block b (blk_lt hb0) hbc).trans hb0
  · simp at hl; omega
  · simp [results, Try.f19, Frame.at]
    simp [go_sem, *]
    done
set_option maxRecDepth 100000 in
set_option maxHeartbeats 1000000 in
theorem takeA_none {w : World} {b c room : Nat} (h : BoxA w b c room []) :
    Calls Try.prog 19 #[.pointer (some ⟨b, 0, none⟩)] w fun e w' => e = .returned (.tuple #[.agg #[.int .i64 0, .int .i64 0, .string ⟨#[]⟩, .slice none 0 0, .slice none 0 0, .slice none 0 0, .slice none 0 0], .bool false]) ∧ But c w w' ∧ w'.heap[c]? = w.heap[c]? := by
  have hc0 : ∃ o, w.heap[c]? = some o := by obtain ⟨_, _, _, _, _, q⟩ := h; exact ⟨_, q⟩
  obtain ⟨o0, hc0⟩ := hc0
  have hb0 := h.2.1
  have h1 := (h.alloc (.cells #[.int .i64 0, .int .i64 0, .string ⟨#[]⟩, .slice none 0 0, .slice none 0 0, .slice none 0 0, .slice none 0 0] 39)).alloc (.cells #[.int .i64 0, .int .i64 0, .string ⟨#[]⟩, .slice none 0 0, .slice none 0 0, .slice none 0 0, .slice none 0 0] 39)
  have his := isA_any h1
  obtain ⟨hbc, hb, hl, s, r, hc⟩ := h1
  obtain ⟨cb, fb⟩ := blk_cells hb
  have c0 := cb 0 _ rfl
  clear cb
  refine calls_of_loneTo fun cs => ?_
  have e : Frame.enter Try.prog 19 #[.pointer (some ⟨b, 0, none⟩)] .normal = (base 19).at ⟨#[.pointer (some ⟨b, 0, none⟩), undef, undef, undef, undef, undef, undef, undef, undef, undef, undef, undef, undef, undef, undef, undef, undef, undef, undef, undef], []⟩ [.code (Try.f19.body.getD .skip)] := by
    simp [Frame.enter, Frame.at, Try.func19, base, Try.f19]
  rw [e]
  refine LoneTo.goes (n := 60) ?_
  simp only [Try.f19, Option.getD_some]
  s_c stepG_seq
  s_reg
  s_op
  s_op
  s_c stepG_region_end
  s_c stepG_seq
  s_reg
  s_op
  s_c stepG_region_end
  s_c stepG_seq
  s_c stepG_seq
  s_reg
  s_op
  s_in
  refine goes_call2 rfl rfl (by decide) rfl Try.func30 (by kernel_rfl) rfl ⟨trivial, ?_⟩
  s_stop
  walk_nrm
  refine loneTo_call his ?_
  rintro e w1 ⟨rfl, rfl⟩
  refine ⟨_, rfl, ?_⟩
  rw [Frame.finish_at]
  walk_nrm
  refine LoneTo.goes (n := 60) ?_
  s_op
  s_c stepG_region_end
  s_cond false
  s_c stepG_skip
  s_c stepG_seq
  s_reg
  s_op
  s_op
  s_op
  s_op
  s_c stepG_region_end
  s_c stepG_seq
  s_reg
  s_stop
  refine LoneTo.step (step_lone_select_default (c := c) (z := .agg #[.int .i64 0, .int .i64 0, .string ⟨#[]⟩, .slice none 0 0, .slice none 0 0, .slice none 0 0, .slice none 0 0]) (cap := room) (s := s) (r := r) (tm := false) (stepG_comm (cases := #[rcase c (.agg #[.int .i64 0, .int .i64 0, .string ⟨#[]⟩, .slice none 0 0, .slice none 0 0, .slice none 0 0, .slice none 0 0])]) (blocking := false) (shape := .select) (w' := (w.alloc (.cells #[.int .i64 0, .int .i64 0, .string ⟨#[]⟩, .slice none 0 0, .slice none 0 0, .slice none 0 0, .slice none 0 0] 39)).alloc (.cells #[.int .i64 0, .int .i64 0, .string ⟨#[]⟩, .slice none 0 0, .slice none 0 0, .slice none 0 0, .slice none 0 0] 39)) rfl rfl (by decide) (by simp [go_sem, execOp, rcase, Act.eval])) hc) ?_
  generalize hX : (w.alloc (.cells #[.int .i64 0, .int .i64 0, .string ⟨#[]⟩, .slice none 0 0, .slice none 0 0, .slice none 0 0, .slice none 0 0] 39)).alloc (.cells #[.int .i64 0, .int .i64 0, .string ⟨#[]⟩, .slice none 0 0, .slice none 0 0, .slice none 0 0, .slice none 0 0] 39) = X
  have hcs : c < w.heap.size := blk_lt hc0
  have hXs : X.heap.size = w.heap.size + 1 + 1 := by rw [← hX]; simp
  have hXb : X.heap[w.heap.size]? = some (.cells #[.int .i64 0, .int .i64 0, .string ⟨#[]⟩, .slice none 0 0, .slice none 0 0, .slice none 0 0, .slice none 0 0] 39 (0, 0)) := by
    rw [← hX]
    exact blk_alloc_old _ (heap_alloc_new w _)
  have hXz : X.heap[w.heap.size + 1]? = some (.cells #[.int .i64 0, .int .i64 0, .string ⟨#[]⟩, .slice none 0 0, .slice none 0 0, .slice none 0 0, .slice none 0 0] 39 (0, 0)) := by
    rw [← hX]
    exact blk_alloc_new _ (by simp)
  have hXo := Lib.hid (show But c w X by rw [← hX]; exact ((But.of c (Below.refl _ w)).alloc _).alloc _)
  have hXr := Lib.hid (show X.heap[c]? = w.heap[c]? by rw [← hX, hc0]; exact blk_alloc_old _ (blk_alloc_old _ hc0))
  have hXn := blk_cells hXz
  have y0 := hXn.1 0 _ rfl
  have y1 := hXn.1 1 _ rfl
  have y2 := hXn.1 2 _ rfl
  have y3 := hXn.1 3 _ rfl
  have y4 := hXn.1 4 _ rfl
  have y5 := hXn.1 5 _ rfl
  have y6 := hXn.1 6 _ rfl
  have yf := hXn.2
  have hXc := blk_cells hXb
  have z0 := hXc.1 0 _ rfl
  have z1 := hXc.1 1 _ rfl
  have z2 := hXc.1 2 _ rfl
  have z3 := hXc.1 3 _ rfl
  have z4 := hXc.1 4 _ rfl
  have z5 := hXc.1 5 _ rfl
  have z6 := hXc.1 6 _ rfl
  have zf := hXc.2
  have hlt : w.heap.size < X.heap.size := by omega
  clear hc hb hX hXn hXc
  rw [Frame.finish_at]
  walk_nrm
  refine LoneTo.goes (n := 60) ?_
  s_op
  s_op
  s_c stepG_region_end
  s_c stepG_block
  s_cond false
  s_c stepG_seq
  s_reg
  s_op
  s_op
  s_op
  s_c stepG_region_end
  s_c stepG_ret'
  s_stop
  generalize hY : World.setCell (World.setCell (World.setCell (World.setCell (World.setCell (World.setCell (World.setCell X _ _) _ _) _ _) _ _) _ _) _ _) _ _ = Y
  have b1 := blk_set_same (i := 0) (cs' := #[.int .i64 0, .int .i64 0, .string ⟨#[]⟩, .slice none 0 0, .slice none 0 0, .slice none 0 0, .slice none 0 0]) (.int .i64 0) hXb (by simp)
  have b2 := blk_set_same (i := 1) (cs' := #[.int .i64 0, .int .i64 0, .string ⟨#[]⟩, .slice none 0 0, .slice none 0 0, .slice none 0 0, .slice none 0 0]) (.int .i64 0) b1 (by simp)
  have b3 := blk_set_same (i := 2) (cs' := #[.int .i64 0, .int .i64 0, .string ⟨#[]⟩, .slice none 0 0, .slice none 0 0, .slice none 0 0, .slice none 0 0]) (.string ⟨#[]⟩) b2 (by simp)
  have b4 := blk_set_same (i := 3) (cs' := #[.int .i64 0, .int .i64 0, .string ⟨#[]⟩, .slice none 0 0, .slice none 0 0, .slice none 0 0, .slice none 0 0]) (.slice none 0 0) b3 (by simp)
  have b5 := blk_set_same (i := 4) (cs' := #[.int .i64 0, .int .i64 0, .string ⟨#[]⟩, .slice none 0 0, .slice none 0 0, .slice none 0 0, .slice none 0 0]) (.slice none 0 0) b4 (by simp)
  have b6 := blk_set_same (i := 5) (cs' := #[.int .i64 0, .int .i64 0, .string ⟨#[]⟩, .slice none 0 0, .slice none 0 0, .slice none 0 0, .slice none 0 0]) (.slice none 0 0) b5 (by simp)
  have b7 := blk_set_same (i := 6) (cs' := #[.int .i64 0, .int .i64 0, .string ⟨#[]⟩, .slice none 0 0, .slice none 0 0, .slice none 0 0, .slice none 0 0]) (.slice none 0 0) b6 (by simp)
  rw [hY] at b7
  have b8 := blk_cells b7
  have g0 := b8.1 0 _ rfl
  have g1 := b8.1 1 _ rfl
  have g2 := b8.1 2 _ rfl
  have g3 := b8.1 3 _ rfl
  have g4 := b8.1 4 _ rfl
  have g5 := b8.1 5 _ rfl
  have g6 := b8.1 6 _ rfl
  have hcne : c ≠ w.heap.size := by omega
  have hYX : But c w Y ∧ Y.heap[c]? = w.heap[c]? := by
    subst hY
    refine ⟨But.set (But.set (But.set (But.set (But.set (But.set (But.set hXo.out _ _ (Nat.le_refl _)) _ _ (Nat.le_refl _)) _ _ (Nat.le_refl _)) _ _ (Nat.le_refl _)) _ _ (Nat.le_refl _)) _ _ (Nat.le_refl _)) _ _ (Nat.le_refl _), ?_⟩
    rw [hc0]
    exact blk_set_other _ (blk_set_other _ (blk_set_other _ (blk_set_other _ (blk_set_other _ (blk_set_other _ (blk_set_other _ (hXr.out.trans hc0) hcne) hcne) hcne) hcne) hcne) hcne) hcne
  refine LoneTo.done ⟨.returned (.tuple #[.agg #[.int .i64 0, .int .i64 0, .string ⟨#[]⟩, .slice none 0 0, .slice none 0 0, .slice none 0 0, .slice none 0 0], .bool false]), _, rfl, ⟨rfl, hYX.1, hYX.2⟩, rfl, rfl, rfl, rfl, _, Try.func19, ?_⟩
  simp [results, Try.f19, Frame.at]
  simp [go_sem, *]
theorem takeA_nil (w : World) : Calls Try.prog 19 #[.pointer none] w fun e w' => e = .returned (.tuple #[.agg #[.int .i64 0, .int .i64 0, .string ⟨#[]⟩, .slice none 0 0, .slice none 0 0, .slice none 0 0, .slice none 0 0], .bool false]) ∧ Below w.heap.size w w' := by
  go_enter Try.func19, Try.ntmps19
  go_wp2_with (go_at_call 30; refine Calls.mono (isA_nil _) ?_; rintro e w1 ⟨rfl, rfl⟩)
  exact bodyPost_ret (by simp [results, Try.f19]; simp [go_sem, *]) rfl ⟨rfl, by go_grown⟩
theorem putA_nil (e0 e1 : Int) (e2 : ByteArray) (A3 A4 A5 A6 : Option Addr) (n3 c3 n4 c4 n5 c5 n6 c6 : Nat) (w : World) : Calls Try.prog 20 #[.pointer none, .agg #[.int .i64 e0, .int .i64 e1, .string e2, .slice A3 n3 c3, .slice A4 n4 c4, .slice A5 n5 c5, .slice A6 n6 c6]] w fun e w' => e = .returned (.bool false) ∧ w' = w.alloc (.cells #[.int .i64 e0, .int .i64 e1, .string e2, .slice A3 n3 c3, .slice A4 n4 c4, .slice A5 n5 c5, .slice A6 n6 c6] 39) := by
  go_enter Try.func20, Try.ntmps20
  go_wp2_with (go_at_call 30; refine Calls.mono (isA_nil _) ?_; rintro e w1 ⟨rfl, rfl⟩)
  go_ret
  exact ⟨rfl, rfl⟩
end Go.Proofs.Ytmkgiaheeebbbaa
