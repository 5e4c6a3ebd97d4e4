/- Layer mail: a box of numbers: is, Put, Take, Len, Room, New. Condition: the pointer is nil, or leads to a box. -/
import Derived.Test.YtgecoannpbghjaaBoxS
namespace Go.Proofs.Ytgecoannpbghjaa
open Go.RowKit Go.Conc

/-- A box of numbers: its cells, and what lies in its channel. -/
def BoxI (w : World) (b c : Nat) (room : Nat) (l : List Int) : Prop :=
  b ≠ c ∧ w.heap[b]? = some (.cells #[.chan (some c), .int .i64 room] 58 (0, 0)) ∧ l.length ≤ room ∧ ∃ s r, w.heap[c]? = some (.chan room (l.map (Value.int .i64)).toArray false s r false)
theorem run_neq_chanI (w : World) (a : Nat) : (binOp .neq 56 (.chan (some a)) (.chan none)).run Try.prog w = .ok (.bool true) w := by
  simp only [binOp]
  simp [run_equal_chan w _ _ _ (some a) none Try.underlying56]
theorem isI_nil (w : World) : Calls Try.prog 21 #[.pointer none] w fun e w' => e = .returned (.bool false) ∧ w' = w := by
  go_enter Try.func21, Try.ntmps21
  go_wp2
  go_ret
  exact ⟨rfl, rfl⟩
theorem isI_any {w : World} {b c room : Nat} {l : List Int} (h : BoxI w b c room l) : Calls Try.prog 21 #[.pointer (some ⟨b, 0, none⟩)] w fun e w' => e = .returned (.bool true) ∧ w' = w := by
  obtain ⟨hbc, hb, hl, s, r, hc⟩ := h
  obtain ⟨cb, fb⟩ := blk_cells hb
  have c0 := cb 0 _ rfl
  clear cb
  have hq := run_neq_chanI
  go_enter Try.func21, Try.ntmps21
  go_wp2
  go_ret
  exact ⟨rfl, rfl⟩

set_option maxRecDepth 100000 in
set_option maxHeartbeats 2000000 in
/-- Put, where there is room. -/
theorem putI_room {w : World} {b c room : Nat} {l : List Int} (h : BoxI w b c room l) (hroom : l.length < room) (x : Int) :
    Calls Try.prog 19 #[.pointer (some ⟨b, 0, none⟩), .int .i64 x] w fun e w' => e = .returned (.bool true) ∧ BoxI w' b c room (l ++ [x]) ∧ OnlyChan c w w' := by
  have his := isI_any h
  obtain ⟨hbc, hb, hl, s, r, hc⟩ := h
  obtain ⟨cb, fb⟩ := blk_cells hb
  have c0 := cb 0 _ rfl
  clear cb
  refine calls_of_loneTo fun cs => ?_
  have e : Frame.enter Try.prog 19 #[.pointer (some ⟨b, 0, none⟩), .int .i64 x] .normal = (base 19).at ⟨#[.pointer (some ⟨b, 0, none⟩), .int .i64 x, undef, undef, undef, undef, undef, undef, undef, undef, undef, undef, undef, undef, undef, undef], []⟩ [.code (Try.f19.body.getD .skip)] := by
    simp [Frame.enter, Frame.at, Try.func19, base, Try.f19]
  rw [e]
  refine LoneTo.goes (n := 60) ?_
  simp only [Try.f19, Option.getD_some]
  s_c stepG_seq
  s_reg
  s_op
  s_c stepG_region_end
  s_c stepG_seq
  s_c stepG_seq
  s_reg
  s_op
  s_in
  refine goes_call2 rfl rfl (by decide) rfl Try.func21 (by kernel_rfl) rfl ⟨trivial, ?_⟩
  s_stop
  walk_nrm
  refine loneTo_call his ?_
  rintro e w1 ⟨rfl, rfl⟩
  refine ⟨_, rfl, ?_⟩
  rw [Frame.finish_at]
  walk_nrm
  refine LoneTo.goes (n := 60) ?_
  s_op
  s_c stepG_region_end
  s_cond false
  s_c stepG_skip
  s_c stepG_seq
  s_c stepG_seq
  s_reg
  s_op
  s_op
  s_op
  s_op
  s_c stepG_region_end
  s_reg
  s_op
  s_c stepG_region_end
  s_c stepG_seq
  s_reg
  s_stop
  refine LoneTo.step (step_lone_select_send_room (c := c) (v := .int .i64 x) (cap := room) (buf := (l.map (Value.int .i64)).toArray) (s := s) (r := r) (tm := false) (stepG_comm (cases := #[scase c (.int .i64 x) (.int .i64 0)]) (blocking := false) (shape := .select) (w' := w1) rfl rfl (by decide) (by simp [go_sem, execOp, scase, Act.eval])) hc (by simpa using hroom)) ?_
  rw [Frame.finish_at]
  walk_nrm
  refine LoneTo.goes (n := 60) ?_
  s_op
  s_op
  s_c stepG_region_end
  s_c stepG_block
  s_cond true
  s_c stepG_seq
  s_reg
  s_op
  s_c stepG_region_end
  s_c stepG_ret'
  s_stop
  refine LoneTo.done ⟨.returned (.bool true), _, rfl, ⟨rfl, ⟨hbc, ?_, ?_, s + 1, r, ?_⟩, onlyChan_set _ _ _ _ _ _ _ _⟩, rfl, rfl, rfl, rfl, _, Try.func19, by simp [results, Try.f19, Frame.at]⟩
  · rw [(onlyChan_set _ _ _ _ _ _ _ _).block _ hbc]; exact hb
  · simp; omega
  · rw [heap_setChan _ _ _ _ _ _ _ _ (blk_lt hc)]
    simp
set_option maxRecDepth 100000 in
set_option maxHeartbeats 2000000 in
/-- Put, where there is none. -/
theorem putI_full {w : World} {b c room : Nat} {l : List Int} (h : BoxI w b c room l) (hroom : room ≤ l.length) (x : Int) :
    Calls Try.prog 19 #[.pointer (some ⟨b, 0, none⟩), .int .i64 x] w fun e w' => e = .returned (.bool false) ∧ w' = w := by
  have his := isI_any h
  obtain ⟨hbc, hb, hl, s, r, hc⟩ := h
  obtain ⟨cb, fb⟩ := blk_cells hb
  have c0 := cb 0 _ rfl
  clear cb
  refine calls_of_loneTo fun cs => ?_
  have e : Frame.enter Try.prog 19 #[.pointer (some ⟨b, 0, none⟩), .int .i64 x] .normal = (base 19).at ⟨#[.pointer (some ⟨b, 0, none⟩), .int .i64 x, undef, undef, undef, undef, undef, undef, undef, undef, undef, undef, undef, undef, undef, undef], []⟩ [.code (Try.f19.body.getD .skip)] := by
    simp [Frame.enter, Frame.at, Try.func19, base, Try.f19]
  rw [e]
  refine LoneTo.goes (n := 60) ?_
  simp only [Try.f19, Option.getD_some]
  s_c stepG_seq
  s_reg
  s_op
  s_c stepG_region_end
  s_c stepG_seq
  s_c stepG_seq
  s_reg
  s_op
  s_in
  refine goes_call2 rfl rfl (by decide) rfl Try.func21 (by kernel_rfl) rfl ⟨trivial, ?_⟩
  s_stop
  walk_nrm
  refine loneTo_call his ?_
  rintro e w1 ⟨rfl, rfl⟩
  refine ⟨_, rfl, ?_⟩
  rw [Frame.finish_at]
  walk_nrm
  refine LoneTo.goes (n := 60) ?_
  s_op
  s_c stepG_region_end
  s_cond false
  s_c stepG_skip
  s_c stepG_seq
  s_c stepG_seq
  s_reg
  s_op
  s_op
  s_op
  s_op
  s_c stepG_region_end
  s_reg
  s_op
  s_c stepG_region_end
  s_c stepG_seq
  s_reg
  s_stop
  refine LoneTo.step (step_lone_select_send_full (c := c) (v := .int .i64 x) (cap := room) (buf := (l.map (Value.int .i64)).toArray) (s := s) (r := r) (tm := false) (stepG_comm (cases := #[scase c (.int .i64 x) (.int .i64 0)]) (blocking := false) (shape := .select) (w' := w1) rfl rfl (by decide) (by simp [go_sem, execOp, scase, Act.eval])) hc (by simpa using hroom)) ?_
  rw [Frame.finish_at]
  walk_nrm
  refine LoneTo.goes (n := 60) ?_
  s_op
  s_op
  s_c stepG_region_end
  s_c stepG_block
  s_cond false
  s_c stepG_seq
  s_reg
  s_op
  s_c stepG_region_end
  s_c stepG_ret'
  s_stop
  exact LoneTo.done ⟨.returned (.bool false), _, rfl, ⟨rfl, rfl⟩, rfl, rfl, rfl, rfl, _, Try.func19, by simp [results, Try.f19, Frame.at]⟩
theorem putI_nil (x : Int) (w : World) : Calls Try.prog 19 #[.pointer none, .int .i64 x] w fun e w' => e = .returned (.bool false) ∧ w' = w := by
  go_enter Try.func19, Try.ntmps19
  go_wp2_with (go_at_call 21; refine Calls.mono (isI_nil _) ?_; rintro e w1 ⟨rfl, rfl⟩)
  go_ret
  exact ⟨rfl, rfl⟩
set_option maxRecDepth 100000 in
set_option maxHeartbeats 2000000 in
/-- Take, where there is something. -/
theorem takeI_some {w : World} {b c room : Nat} {x : Int} {l : List Int} (h : BoxI w b c room (x :: l)) :
    Calls Try.prog 24 #[.pointer (some ⟨b, 0, none⟩)] w fun e w' => e = .returned (.tuple #[.int .i64 x, .bool true]) ∧ BoxI w' b c room l ∧ OnlyChan c w w' := by
  have his := isI_any h
  obtain ⟨hbc, hb, hl, s, r, hc⟩ := h
  obtain ⟨cb, fb⟩ := blk_cells hb
  have c0 := cb 0 _ rfl
  clear cb
  refine calls_of_loneTo fun cs => ?_
  have e : Frame.enter Try.prog 24 #[.pointer (some ⟨b, 0, none⟩)] .normal = (base 24).at ⟨#[.pointer (some ⟨b, 0, none⟩), undef, undef, undef, undef, undef, undef, undef, undef, undef, undef, undef, undef, undef, undef, undef, undef, undef, undef, undef], []⟩ [.code (Try.f24.body.getD .skip)] := by
    simp [Frame.enter, Frame.at, Try.func24, base, Try.f24]
  rw [e]
  refine LoneTo.goes (n := 60) ?_
  simp only [Try.f24, Option.getD_some]
  s_c stepG_seq
  s_reg
  s_op
  s_op
  s_c stepG_region_end
  s_c stepG_seq
  s_reg
  s_op
  s_c stepG_region_end
  s_c stepG_seq
  s_c stepG_seq
  s_reg
  s_op
  s_in
  refine goes_call2 rfl rfl (by decide) rfl Try.func21 (by kernel_rfl) rfl ⟨trivial, ?_⟩
  s_stop
  walk_nrm
  refine loneTo_call his ?_
  rintro e w1 ⟨rfl, rfl⟩
  refine ⟨_, rfl, ?_⟩
  rw [Frame.finish_at]
  walk_nrm
  refine LoneTo.goes (n := 60) ?_
  s_op
  s_c stepG_region_end
  s_cond false
  s_c stepG_skip
  s_c stepG_seq
  s_reg
  s_op
  s_op
  s_op
  s_op
  s_c stepG_region_end
  s_c stepG_seq
  s_reg
  s_stop
  refine LoneTo.step (step_lone_select_recv_buf (c := c) (z := .int .i64 0) (cap := room) (buf := ((x :: l).map (Value.int .i64)).toArray) (closed := false) (s := s) (r := r) (tm := false) (stepG_comm (cases := #[rcase c (.int .i64 0)]) (blocking := false) (shape := .select) (w' := w1) rfl rfl (by decide) (by simp [go_sem, execOp, rcase, Act.eval])) hc (by simp)) ?_
  rw [Frame.finish_at]
  walk_nrm
  refine LoneTo.goes (n := 60) ?_
  s_op
  s_op
  s_c stepG_region_end
  s_c stepG_block
  s_cond true
  s_c stepG_seq
  s_reg
  s_op
  s_op
  s_c stepG_region_end
  s_c stepG_seq
  s_reg
  s_op
  s_op
  s_op
  s_c stepG_region_end
  s_c stepG_ret'
  s_stop
  refine LoneTo.done ⟨.returned (.tuple #[.int .i64 x, .bool true]), _, rfl, ⟨rfl, ⟨hbc, ?_, ?_, s, r + 1, ?_⟩, onlyChan_set _ _ _ _ _ _ _ _⟩, rfl, rfl, rfl, rfl, _, Try.func24, by simp [results, Try.f24, Frame.at]⟩
  · rw [(onlyChan_set _ _ _ _ _ _ _ _).block _ hbc]; exact hb
  · simp at hl; omega
  · rw [heap_setChan _ _ _ _ _ _ _ _ (blk_lt hc)]
    simp [List.take_of_length_le]
set_option maxRecDepth 100000 in
set_option maxHeartbeats 2000000 in
/-- Take, where there is nothing. -/
theorem takeI_none {w : World} {b c room : Nat} (h : BoxI w b c room []) :
    Calls Try.prog 24 #[.pointer (some ⟨b, 0, none⟩)] w fun e w' => e = .returned (.tuple #[.int .i64 0, .bool false]) ∧ w' = w := by
  have his := isI_any h
  obtain ⟨hbc, hb, hl, s, r, hc⟩ := h
  obtain ⟨cb, fb⟩ := blk_cells hb
  have c0 := cb 0 _ rfl
  clear cb
  refine calls_of_loneTo fun cs => ?_
  have e : Frame.enter Try.prog 24 #[.pointer (some ⟨b, 0, none⟩)] .normal = (base 24).at ⟨#[.pointer (some ⟨b, 0, none⟩), undef, undef, undef, undef, undef, undef, undef, undef, undef, undef, undef, undef, undef, undef, undef, undef, undef, undef, undef], []⟩ [.code (Try.f24.body.getD .skip)] := by
    simp [Frame.enter, Frame.at, Try.func24, base, Try.f24]
  rw [e]
  refine LoneTo.goes (n := 60) ?_
  simp only [Try.f24, Option.getD_some]
  s_c stepG_seq
  s_reg
  s_op
  s_op
  s_c stepG_region_end
  s_c stepG_seq
  s_reg
  s_op
  s_c stepG_region_end
  s_c stepG_seq
  s_c stepG_seq
  s_reg
  s_op
  s_in
  refine goes_call2 rfl rfl (by decide) rfl Try.func21 (by kernel_rfl) rfl ⟨trivial, ?_⟩
  s_stop
  walk_nrm
  refine loneTo_call his ?_
  rintro e w1 ⟨rfl, rfl⟩
  refine ⟨_, rfl, ?_⟩
  rw [Frame.finish_at]
  walk_nrm
  refine LoneTo.goes (n := 60) ?_
  s_op
  s_c stepG_region_end
  s_cond false
  s_c stepG_skip
  s_c stepG_seq
  s_reg
  s_op
  s_op
  s_op
  s_op
  s_c stepG_region_end
  s_c stepG_seq
  s_reg
  s_stop
  refine LoneTo.step (step_lone_select_default (c := c) (z := .int .i64 0) (cap := room) (s := s) (r := r) (tm := false) (stepG_comm (cases := #[rcase c (.int .i64 0)]) (blocking := false) (shape := .select) (w' := w1) rfl rfl (by decide) (by simp [go_sem, execOp, rcase, Act.eval])) hc) ?_
  rw [Frame.finish_at]
  walk_nrm
  refine LoneTo.goes (n := 60) ?_
  s_op
  s_op
  s_c stepG_region_end
  s_c stepG_block
  s_cond false
  s_c stepG_seq
  s_reg
  s_op
  s_op
  s_op
  s_c stepG_region_end
  s_c stepG_ret'
  s_stop
  exact LoneTo.done ⟨.returned (.tuple #[.int .i64 0, .bool false]), _, rfl, ⟨rfl, rfl⟩, rfl, rfl, rfl, rfl, _, Try.func24, by simp [results, Try.f24, Frame.at]⟩
theorem takeI_nil (w : World) : Calls Try.prog 24 #[.pointer none] w fun e w' => e = .returned (.tuple #[.int .i64 0, .bool false]) ∧ w' = w := by
  go_enter Try.func24, Try.ntmps24
  go_wp2_with (go_at_call 21; refine Calls.mono (isI_nil _) ?_; rintro e w1 ⟨rfl, rfl⟩)
  go_ret2
  exact ⟨rfl, rfl⟩

theorem lenI_nil (w : World) : Calls Try.prog 15 #[.pointer none] w fun e w' => e = .returned (.int .i64 0) ∧ w' = w := by
  go_enter Try.func15, Try.ntmps15
  go_wp2_with (go_at_call 21; refine Calls.mono (isI_nil _) ?_; rintro e w1 ⟨rfl, rfl⟩)
  go_ret
  exact ⟨rfl, rfl⟩
theorem roomI_nil (w : World) : Calls Try.prog 14 #[.pointer none] w fun e w' => e = .returned (.int .i64 0) ∧ w' = w := by
  go_enter Try.func14, Try.ntmps14
  go_wp2_with (go_at_call 21; refine Calls.mono (isI_nil _) ?_; rintro e w1 ⟨rfl, rfl⟩)
  go_ret
  exact ⟨rfl, rfl⟩
theorem lenI_any {w : World} {b c room : Nat} {l : List Int} (h : BoxI w b c room l) :
    Calls Try.prog 15 #[.pointer (some ⟨b, 0, none⟩)] w fun e w' => e = .returned (.int .i64 l.length) ∧ w' = w := by
  have his := isI_any h
  obtain ⟨hbc, hb, hl, s, r, hc⟩ := h
  obtain ⟨cb, fb⟩ := blk_cells hb
  have c0 := cb 0 _ rfl
  have hlen := fun ty => run_len_chan (P := Try.prog) 56 ty Try.underlying56 hc
  simp only [List.size_toArray, List.length_map] at hlen
  clear cb hc hb
  go_enter Try.func15, Try.ntmps15
  go_wp2_with (go_at_call 21; refine Calls.mono his ?_; rintro e w1 ⟨rfl, rfl⟩)
  go_ret
  exact ⟨rfl, rfl⟩
theorem roomI_any {w : World} {b c room : Nat} {l : List Int} (h : BoxI w b c room l) (hr : room ≤ 4096) :
    Calls Try.prog 14 #[.pointer (some ⟨b, 0, none⟩)] w fun e w' => e = .returned (.int .i64 ((room : Int) - (l.length : Int))) ∧ ∃ n, w' = w.drewN n := by
  have his := isI_any h
  obtain ⟨hbc, hb, hl, s, r, hc⟩ := h
  obtain ⟨cb, fb⟩ := blk_cells hb
  have c0 := cb 0 _ rfl
  have c1 := cb 1 _ rfl
  have hlen := fun n ty => run_len_chan (P := Try.prog) (w := w.drewN n) 56 ty Try.underlying56 (show (w.drewN n).heap[c]? = _ from hc)
  simp only [List.size_toArray, List.length_map] at hlen
  have e1 : IntKind.i64.wrap ((room : Int) - (l.length : Int)) = (room : Int) - (l.length : Int) := IntWalk.i64_in _ (by omega)
  clear cb hc hb
  go_enter Try.func14, Try.ntmps14
  go_wp2_with (go_at_call 21; refine Calls.mono his ?_; rintro e w1 ⟨rfl, rfl⟩)
  go_quiet (fail)
  go_wp2
  go_ret
  exact ⟨rfl, _, rfl⟩

theorem BoxI.drewN {w : World} {b c room : Nat} {l : List Int} (h : BoxI w b c room l) (n : Nat) : BoxI (w.drewN n) b c room l := h
theorem drainI_nil (w : World) : Calls Try.prog 18 #[.pointer none] w fun e w' => e = .returned (.slice none 0 0) ∧ w' = w := by
  go_enter Try.func18, Try.ntmps18
  go_wp2
  refine wp_loop_rounds 1 ?_
  rw [rounds_succ]
  go_wp2_with (go_at_call 24; refine Calls.mono (takeI_nil _) ?_; rintro e w1 ⟨rfl, rfl⟩)
  go_ret
  exact ⟨rfl, rfl⟩
theorem moveI_nil (w : World) : Calls Try.prog 26 #[.pointer none, .pointer none] w fun e w' => e = .returned (.int .i64 0) ∧ w' = w := by
  go_enter Try.func26, Try.ntmps26
  go_wp2
  go_ret
  exact ⟨rfl, rfl⟩

theorem bytesI : ∃ i, Try.prog.info? 3 = some i ∧ i.bytes = 8 := by
  have h : (Try.prog.info? 3).map (·.bytes) = some 8 := by kernel_rfl
  obtain ⟨i, hi, hb⟩ := Option.map_eq_some_iff.1 h
  exact ⟨i, hi, hb⟩
theorem mkI (n : Nat) (hn : n ≤ 4096) (w : World) : (Instr.makeChan 56 (.int .i64 n)).run Try.prog w = .ok (.chan (some w.heap.size)) (w.alloc (.chan n #[] false 0 0 false)) := by
  obtain ⟨i, hi, hb⟩ := bytesI
  simpa using run_makeChan (P := Try.prog) (w := w) Try.underlying56 hi .i64 n (by omega) (by rw [hb]; omega)
theorem newI_bad (n : Int) (h : n < 1 ∨ 4096 < n) (w : World) : Calls Try.prog 13 #[.int .i64 n] w fun e w' => e = .returned (.tuple #[.pointer none, .int .i64 2]) ∧ w' = w := by
  go_enter Try.func13, Try.ntmps13
  go_wp2
  all_goals first
    | (go_ret2; exact ⟨rfl, rfl⟩)
    | (exfalso; simp_all; omega)
theorem newI_ok (n : Nat) (h : 1 ≤ n) (h' : n ≤ 4096) (w : World) : Calls Try.prog 13 #[.int .i64 n] w fun e w' => e = .returned (.tuple #[.pointer (some ⟨w.heap.size + 1, 0, none⟩), .int .i64 0]) ∧ BoxI w' (w.heap.size + 1) w.heap.size n [] ∧ Below w.heap.size w w' := by
  have hmk := mkI n h'
  have h1 : decide ((n : Int) < 1) = false := decide_eq_false (by omega)
  have h2 : decide ((n : Int) > 4096) = false := decide_eq_false (by omega)
  go_enter Try.func13, Try.ntmps13
  go_wp2
  go_ret2
  refine ⟨by simp, ⟨by omega, ?_, by simp, 0, 0, ?_⟩, by go_grown⟩
  · exact blk_alloc_new _ (by simp)
  · exact blk_alloc_old _ (blk_alloc_new _ rfl)
end Go.Proofs.Ytgecoannpbghjaa
