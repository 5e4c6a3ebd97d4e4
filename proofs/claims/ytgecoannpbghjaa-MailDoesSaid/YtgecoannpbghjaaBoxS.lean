/- Layer mail: a box of texts: is, Put, Take. Condition: the pointer is nil, or leads to a box. -/
import Derived.Test.YtgecoannpbghjaaBlk
import Derived.Test.YtgecoannpbghjaaApi
import Derived.Conc.LoneCalls
import Derived.Conc.LoneSelect
import Derived.Conc.LoneSelectN
import Derived.Deep.QuietTactic
import Derived.BigQuiet
import Derived.KernelRfl
import Derived.Laws.Rows
import Derived.WalkKit
namespace Go.Proofs.Ytgecoannpbghjaa
open Go.RowKit Go.Conc

theorem loneTo_call {P : Program} {Q : Goroutine → World → Prop} {f : FuncId} {args : Array Value} {R : Ending → World → Prop} {fr : Frame} {cs : List Frame} {w : World} (h : Calls P f args w R) (k : ∀ e w', R e w' → ∃ v, e = .returned v ∧ LoneTo P Q (G (fr.finish v) cs) w') : LoneTo P Q (G (Frame.enter P f args .normal) (fr :: cs)) w := by
  obtain ⟨e, w', fr', hR, hc, hf, hl⟩ := h (fr :: cs)
  obtain ⟨v, rfl, g₂, w₂, hs, hq⟩ := k e w' hR
  exact ⟨g₂, w₂, Steps.trans hc (Steps.head (step_leave_returned hl) hs), hq⟩

/-- A box of texts: its cells, and what lies in its channel. -/
def BoxS (w : World) (b c : Nat) (room : Nat) (l : List ByteArray) : Prop :=
  b ≠ c ∧ w.heap[b]? = some (.cells #[.chan (some c), .int .i64 room] 55 (0, 0)) ∧ l.length ≤ room ∧ ∃ s r, w.heap[c]? = some (.chan room (l.map Value.string).toArray false s r false)
/-- Of the world nothing turned but the channel c. -/
structure OnlyChan (c : Nat) (w w' : World) : Prop where
  os : w'.os = w.os
  tape : w'.tape = w.tape
  output : w'.output = w.output
  size : w'.heap.size = w.heap.size
  block : ∀ k, k ≠ c → w'.heap[k]? = w.heap[k]?
theorem OnlyChan.refl (c : Nat) (w : World) : OnlyChan c w w := ⟨rfl, rfl, rfl, rfl, fun _ _ => rfl⟩
theorem onlyChan_set (w : World) (c cap : Nat) (buf : Array Value) (cl : Bool) (s r : Nat) (tm : Bool) : OnlyChan c w (w.setChan c cap buf cl s r tm) :=
  ⟨rfl, rfl, rfl, size_setChan _ _ _ _ _ _ _ _, fun k hk => by simp only [World.setChan]; rw [Array.getElem?_setIfInBounds_ne (by omega)]⟩

theorem run_equalIn_chan {P : Program} (w : World) (d : Nat) (t e : TypeId) (dir : ChanDir) (a b : Option Nat) (h : P.underlying t = some (.chan dir e)) : (Op.equalIn (d + 1) t (.chan a) (.chan b)).run P w = .ok (a == b) w := by
  simp [Op.equalIn, run_underlying h]
theorem run_equal_chan {P : Program} (w : World) (t e : TypeId) (dir : ChanDir) (a b : Option Nat) (h : P.underlying t = some (.chan dir e)) : (Op.equal t (.chan a) (.chan b)).run P w = .ok (a == b) w := run_equalIn_chan w 9999 t e dir a b h
theorem run_neq_chanS (w : World) (a : Nat) : (binOp .neq 53 (.chan (some a)) (.chan none)).run Try.prog w = .ok (.bool true) w := by
  simp only [binOp]
  simp [run_equal_chan w _ _ _ (some a) none Try.underlying53]
theorem goes_call2 {P : Program} {main : Bool} {b : Frame} {a : Act} {k : List Item} {cs : List Frame} {w : World} {ops : Array Oper} {i : Nat} {rest : List Nat} {o : Oper} {K : Goroutine → World → Array Event → Prop} {f : FuncId} {fn : Func} {c : Code} {args : Array Operand} {ats : Array TypeId}
    (ho : ops[i]? = some o) (hw : Region.wanted o (yielded ops a.tmps) = true) (hk : b.kind ≠ .early) (hop : o.op = .call { callee := .value (.func f), args, argTypes := ats })
    (hf : P.funcs[f]? = some fn) (hname : (fn.name == "runtime.NumGoroutine") = false) (hb : fn.body = some c)
    (h : K (G (Frame.enter P f (args.map a.eval) .normal) (b.at a (.inRegion ops (i :: rest) :: k) :: cs)) w #[]) :
    (stepG P main (G (b.at a (.inRegion ops (i :: rest) :: k)) cs) w).goes K := by
  have hb' : fn.body.isNone = false := by rw [hb]; rfl
  rw [stepG_enter ho hw hk (run_call_body hop hf hname hb')]
  have : listed P b.fn a o w = #[] := by unfold listed; rw [events_call_body hop hf hname hb']; exact seen_none P _
  rw [this]
  exact h
theorem isS_nil (w : World) : Calls Try.prog 20 #[.pointer none] w fun e w' => e = .returned (.bool false) ∧ w' = w := by
  go_enter Try.func20, Try.ntmps20
  go_wp2
  go_ret
  exact ⟨rfl, rfl⟩
theorem isS_any {w : World} {b c room : Nat} {l : List ByteArray} (h : BoxS w b c room l) : Calls Try.prog 20 #[.pointer (some ⟨b, 0, none⟩)] w fun e w' => e = .returned (.bool true) ∧ w' = w := by
  obtain ⟨hbc, hb, hl, s, r, hc⟩ := h
  obtain ⟨cb, fb⟩ := blk_cells hb
  have c0 := cb 0 _ rfl
  clear cb
  have hq := run_neq_chanS
  go_enter Try.func20, Try.ntmps20
  go_wp2
  go_ret
  exact ⟨rfl, rfl⟩

set_option maxRecDepth 100000 in
set_option maxHeartbeats 2000000 in
/-- Put, where there is room. -/
theorem putS_room {w : World} {b c room : Nat} {l : List ByteArray} (h : BoxS w b c room l) (hroom : l.length < room) (x : ByteArray) :
    Calls Try.prog 7 #[.pointer (some ⟨b, 0, none⟩), .string x] w fun e w' => e = .returned (.bool true) ∧ BoxS w' b c room (l ++ [x]) ∧ OnlyChan c w w' := by
  have his := isS_any h
  obtain ⟨hbc, hb, hl, s, r, hc⟩ := h
  obtain ⟨cb, fb⟩ := blk_cells hb
  have c0 := cb 0 _ rfl
  clear cb
  refine calls_of_loneTo fun cs => ?_
  have e : Frame.enter Try.prog 7 #[.pointer (some ⟨b, 0, none⟩), .string x] .normal = (base 7).at ⟨#[.pointer (some ⟨b, 0, none⟩), .string x, undef, undef, undef, undef, undef, undef, undef, undef, undef, undef, undef, undef, undef, undef], []⟩ [.code (Try.f7.body.getD .skip)] := by
    simp [Frame.enter, Frame.at, Try.func7, base, Try.f7]
  rw [e]
  refine LoneTo.goes (n := 60) ?_
  simp only [Try.f7, Option.getD_some]
  s_c stepG_seq
  s_reg
  s_op
  s_c stepG_region_end
  s_c stepG_seq
  s_c stepG_seq
  s_reg
  s_op
  s_in
  refine goes_call2 rfl rfl (by decide) rfl Try.func20 (by kernel_rfl) rfl ⟨trivial, ?_⟩
  s_stop
  walk_nrm
  refine loneTo_call his ?_
  rintro e w1 ⟨rfl, rfl⟩
  refine ⟨_, rfl, ?_⟩
  rw [Frame.finish_at]
  walk_nrm
  refine LoneTo.goes (n := 60) ?_
  s_op
  s_c stepG_region_end
  s_cond false
  s_c stepG_skip
  s_c stepG_seq
  s_c stepG_seq
  s_reg
  s_op
  s_op
  s_op
  s_op
  s_c stepG_region_end
  s_reg
  s_op
  s_c stepG_region_end
  s_c stepG_seq
  s_reg
  s_stop
  refine LoneTo.step (step_lone_select_send_room (c := c) (v := .string x) (cap := room) (buf := (l.map Value.string).toArray) (s := s) (r := r) (tm := false) (stepG_comm (cases := #[scase c (.string x) (.string ⟨#[]⟩)]) (blocking := false) (shape := .select) (w' := w1) rfl rfl (by decide) (by simp [go_sem, execOp, scase, Act.eval])) hc (by simpa using hroom)) ?_
  rw [Frame.finish_at]
  walk_nrm
  refine LoneTo.goes (n := 60) ?_
  s_op
  s_op
  s_c stepG_region_end
  s_c stepG_block
  s_cond true
  s_c stepG_seq
  s_reg
  s_op
  s_c stepG_region_end
  s_c stepG_ret'
  s_stop
  refine LoneTo.done ⟨.returned (.bool true), _, rfl, ⟨rfl, ⟨hbc, ?_, ?_, s + 1, r, ?_⟩, onlyChan_set _ _ _ _ _ _ _ _⟩, rfl, rfl, rfl, rfl, _, Try.func7, by simp [results, Try.f7, Frame.at]⟩
  · rw [(onlyChan_set _ _ _ _ _ _ _ _).block _ hbc]; exact hb
  · simp; omega
  · rw [heap_setChan _ _ _ _ _ _ _ _ (blk_lt hc)]
    simp
set_option maxRecDepth 100000 in
set_option maxHeartbeats 2000000 in
/-- Put, where there is none. -/
theorem putS_full {w : World} {b c room : Nat} {l : List ByteArray} (h : BoxS w b c room l) (hroom : room ≤ l.length) (x : ByteArray) :
    Calls Try.prog 7 #[.pointer (some ⟨b, 0, none⟩), .string x] w fun e w' => e = .returned (.bool false) ∧ w' = w := by
  have his := isS_any h
  obtain ⟨hbc, hb, hl, s, r, hc⟩ := h
  obtain ⟨cb, fb⟩ := blk_cells hb
  have c0 := cb 0 _ rfl
  clear cb
  refine calls_of_loneTo fun cs => ?_
  have e : Frame.enter Try.prog 7 #[.pointer (some ⟨b, 0, none⟩), .string x] .normal = (base 7).at ⟨#[.pointer (some ⟨b, 0, none⟩), .string x, undef, undef, undef, undef, undef, undef, undef, undef, undef, undef, undef, undef, undef, undef], []⟩ [.code (Try.f7.body.getD .skip)] := by
    simp [Frame.enter, Frame.at, Try.func7, base, Try.f7]
  rw [e]
  refine LoneTo.goes (n := 60) ?_
  simp only [Try.f7, Option.getD_some]
  s_c stepG_seq
  s_reg
  s_op
  s_c stepG_region_end
  s_c stepG_seq
  s_c stepG_seq
  s_reg
  s_op
  s_in
  refine goes_call2 rfl rfl (by decide) rfl Try.func20 (by kernel_rfl) rfl ⟨trivial, ?_⟩
  s_stop
  walk_nrm
  refine loneTo_call his ?_
  rintro e w1 ⟨rfl, rfl⟩
  refine ⟨_, rfl, ?_⟩
  rw [Frame.finish_at]
  walk_nrm
  refine LoneTo.goes (n := 60) ?_
  s_op
  s_c stepG_region_end
  s_cond false
  s_c stepG_skip
  s_c stepG_seq
  s_c stepG_seq
  s_reg
  s_op
  s_op
  s_op
  s_op
  s_c stepG_region_end
  s_reg
  s_op
  s_c stepG_region_end
  s_c stepG_seq
  s_reg
  s_stop
  refine LoneTo.step (step_lone_select_send_full (c := c) (v := .string x) (cap := room) (buf := (l.map Value.string).toArray) (s := s) (r := r) (tm := false) (stepG_comm (cases := #[scase c (.string x) (.string ⟨#[]⟩)]) (blocking := false) (shape := .select) (w' := w1) rfl rfl (by decide) (by simp [go_sem, execOp, scase, Act.eval])) hc (by simpa using hroom)) ?_
  rw [Frame.finish_at]
  walk_nrm
  refine LoneTo.goes (n := 60) ?_
  s_op
  s_op
  s_c stepG_region_end
  s_c stepG_block
  s_cond false
  s_c stepG_seq
  s_reg
  s_op
  s_c stepG_region_end
  s_c stepG_ret'
  s_stop
  exact LoneTo.done ⟨.returned (.bool false), _, rfl, ⟨rfl, rfl⟩, rfl, rfl, rfl, rfl, _, Try.func7, by simp [results, Try.f7, Frame.at]⟩
theorem putS_nil (x : ByteArray) (w : World) : Calls Try.prog 7 #[.pointer none, .string x] w fun e w' => e = .returned (.bool false) ∧ w' = w := by
  go_enter Try.func7, Try.ntmps7
  go_wp2_with (go_at_call 20; refine Calls.mono (isS_nil _) ?_; rintro e w1 ⟨rfl, rfl⟩)
  go_ret
  exact ⟨rfl, rfl⟩
set_option maxRecDepth 100000 in
set_option maxHeartbeats 2000000 in
/-- Take, where there is something. -/
theorem takeS_some {w : World} {b c room : Nat} {x : ByteArray} {l : List ByteArray} (h : BoxS w b c room (x :: l)) :
    Calls Try.prog 6 #[.pointer (some ⟨b, 0, none⟩)] w fun e w' => e = .returned (.tuple #[.string x, .bool true]) ∧ BoxS w' b c room l ∧ OnlyChan c w w' := by
  have his := isS_any h
  obtain ⟨hbc, hb, hl, s, r, hc⟩ := h
  obtain ⟨cb, fb⟩ := blk_cells hb
  have c0 := cb 0 _ rfl
  clear cb
  refine calls_of_loneTo fun cs => ?_
  have e : Frame.enter Try.prog 6 #[.pointer (some ⟨b, 0, none⟩)] .normal = (base 6).at ⟨#[.pointer (some ⟨b, 0, none⟩), undef, undef, undef, undef, undef, undef, undef, undef, undef, undef, undef, undef, undef, undef, undef, undef, undef, undef, undef], []⟩ [.code (Try.f6.body.getD .skip)] := by
    simp [Frame.enter, Frame.at, Try.func6, base, Try.f6]
  rw [e]
  refine LoneTo.goes (n := 60) ?_
  simp only [Try.f6, Option.getD_some]
  s_c stepG_seq
  s_reg
  s_op
  s_op
  s_c stepG_region_end
  s_c stepG_seq
  s_reg
  s_op
  s_c stepG_region_end
  s_c stepG_seq
  s_c stepG_seq
  s_reg
  s_op
  s_in
  refine goes_call2 rfl rfl (by decide) rfl Try.func20 (by kernel_rfl) rfl ⟨trivial, ?_⟩
  s_stop
  walk_nrm
  refine loneTo_call his ?_
  rintro e w1 ⟨rfl, rfl⟩
  refine ⟨_, rfl, ?_⟩
  rw [Frame.finish_at]
  walk_nrm
  refine LoneTo.goes (n := 60) ?_
  s_op
  s_c stepG_region_end
  s_cond false
  s_c stepG_skip
  s_c stepG_seq
  s_reg
  s_op
  s_op
  s_op
  s_op
  s_c stepG_region_end
  s_c stepG_seq
  s_reg
  s_stop
  refine LoneTo.step (step_lone_select_recv_buf (c := c) (z := .string ⟨#[]⟩) (cap := room) (buf := ((x :: l).map Value.string).toArray) (closed := false) (s := s) (r := r) (tm := false) (stepG_comm (cases := #[rcase c (.string ⟨#[]⟩)]) (blocking := false) (shape := .select) (w' := w1) rfl rfl (by decide) (by simp [go_sem, execOp, rcase, Act.eval])) hc (by simp)) ?_
  rw [Frame.finish_at]
  walk_nrm
  refine LoneTo.goes (n := 60) ?_
  s_op
  s_op
  s_c stepG_region_end
  s_c stepG_block
  s_cond true
  s_c stepG_seq
  s_reg
  s_op
  s_op
  s_c stepG_region_end
  s_c stepG_seq
  s_reg
  s_op
  s_op
  s_op
  s_c stepG_region_end
  s_c stepG_ret'
  s_stop
  refine LoneTo.done ⟨.returned (.tuple #[.string x, .bool true]), _, rfl, ⟨rfl, ⟨hbc, ?_, ?_, s, r + 1, ?_⟩, onlyChan_set _ _ _ _ _ _ _ _⟩, rfl, rfl, rfl, rfl, _, Try.func6, by simp [results, Try.f6, Frame.at]⟩
  · rw [(onlyChan_set _ _ _ _ _ _ _ _).block _ hbc]; exact hb
  · simp at hl; omega
  · rw [heap_setChan _ _ _ _ _ _ _ _ (blk_lt hc)]
    simp [List.take_of_length_le]
set_option maxRecDepth 100000 in
set_option maxHeartbeats 2000000 in
/-- Take, where there is nothing. -/
theorem takeS_none {w : World} {b c room : Nat} (h : BoxS w b c room []) :
    Calls Try.prog 6 #[.pointer (some ⟨b, 0, none⟩)] w fun e w' => e = .returned (.tuple #[.string ⟨#[]⟩, .bool false]) ∧ w' = w := by
  have his := isS_any h
  obtain ⟨hbc, hb, hl, s, r, hc⟩ := h
  obtain ⟨cb, fb⟩ := blk_cells hb
  have c0 := cb 0 _ rfl
  clear cb
  refine calls_of_loneTo fun cs => ?_
  have e : Frame.enter Try.prog 6 #[.pointer (some ⟨b, 0, none⟩)] .normal = (base 6).at ⟨#[.pointer (some ⟨b, 0, none⟩), undef, undef, undef, undef, undef, undef, undef, undef, undef, undef, undef, undef, undef, undef, undef, undef, undef, undef, undef], []⟩ [.code (Try.f6.body.getD .skip)] := by
    simp [Frame.enter, Frame.at, Try.func6, base, Try.f6]
  rw [e]
  refine LoneTo.goes (n := 60) ?_
  simp only [Try.f6, Option.getD_some]
  s_c stepG_seq
  s_reg
  s_op
  s_op
  s_c stepG_region_end
  s_c stepG_seq
  s_reg
  s_op
  s_c stepG_region_end
  s_c stepG_seq
  s_c stepG_seq
  s_reg
  s_op
  s_in
  refine goes_call2 rfl rfl (by decide) rfl Try.func20 (by kernel_rfl) rfl ⟨trivial, ?_⟩
  s_stop
  walk_nrm
  refine loneTo_call his ?_
  rintro e w1 ⟨rfl, rfl⟩
  refine ⟨_, rfl, ?_⟩
  rw [Frame.finish_at]
  walk_nrm
  refine LoneTo.goes (n := 60) ?_
  s_op
  s_c stepG_region_end
  s_cond false
  s_c stepG_skip
  s_c stepG_seq
  s_reg
  s_op
  s_op
  s_op
  s_op
  s_c stepG_region_end
  s_c stepG_seq
  s_reg
  s_stop
  refine LoneTo.step (step_lone_select_default (c := c) (z := .string ⟨#[]⟩) (cap := room) (s := s) (r := r) (tm := false) (stepG_comm (cases := #[rcase c (.string ⟨#[]⟩)]) (blocking := false) (shape := .select) (w' := w1) rfl rfl (by decide) (by simp [go_sem, execOp, rcase, Act.eval])) hc) ?_
  rw [Frame.finish_at]
  walk_nrm
  refine LoneTo.goes (n := 60) ?_
  s_op
  s_op
  s_c stepG_region_end
  s_c stepG_block
  s_cond false
  s_c stepG_seq
  s_reg
  s_op
  s_op
  s_op
  s_c stepG_region_end
  s_c stepG_ret'
  s_stop
  exact LoneTo.done ⟨.returned (.tuple #[.string ⟨#[]⟩, .bool false]), _, rfl, ⟨rfl, rfl⟩, rfl, rfl, rfl, rfl, _, Try.func6, by simp [results, Try.f6, Frame.at]⟩
theorem takeS_nil (w : World) : Calls Try.prog 6 #[.pointer none] w fun e w' => e = .returned (.tuple #[.string ⟨#[]⟩, .bool false]) ∧ w' = w := by
  go_enter Try.func6, Try.ntmps6
  go_wp2_with (go_at_call 20; refine Calls.mono (isS_nil _) ?_; rintro e w1 ⟨rfl, rfl⟩)
  go_ret2
  exact ⟨rfl, rfl⟩

theorem lenS_nil (w : World) : Calls Try.prog 8 #[.pointer none] w fun e w' => e = .returned (.int .i64 0) ∧ w' = w := by
  go_enter Try.func8, Try.ntmps8
  go_wp2_with (go_at_call 20; refine Calls.mono (isS_nil _) ?_; rintro e w1 ⟨rfl, rfl⟩)
  go_ret
  exact ⟨rfl, rfl⟩
theorem roomS_nil (w : World) : Calls Try.prog 9 #[.pointer none] w fun e w' => e = .returned (.int .i64 0) ∧ w' = w := by
  go_enter Try.func9, Try.ntmps9
  go_wp2_with (go_at_call 20; refine Calls.mono (isS_nil _) ?_; rintro e w1 ⟨rfl, rfl⟩)
  go_ret
  exact ⟨rfl, rfl⟩
theorem lenS_any {w : World} {b c room : Nat} {l : List ByteArray} (h : BoxS w b c room l) :
    Calls Try.prog 8 #[.pointer (some ⟨b, 0, none⟩)] w fun e w' => e = .returned (.int .i64 l.length) ∧ w' = w := by
  have his := isS_any h
  obtain ⟨hbc, hb, hl, s, r, hc⟩ := h
  obtain ⟨cb, fb⟩ := blk_cells hb
  have c0 := cb 0 _ rfl
  have hlen := fun ty => run_len_chan (P := Try.prog) 53 ty Try.underlying53 hc
  simp only [List.size_toArray, List.length_map] at hlen
  clear cb hc hb
  go_enter Try.func8, Try.ntmps8
  go_wp2_with (go_at_call 20; refine Calls.mono his ?_; rintro e w1 ⟨rfl, rfl⟩)
  go_ret
  exact ⟨rfl, rfl⟩
theorem roomS_any {w : World} {b c room : Nat} {l : List ByteArray} (h : BoxS w b c room l) (hr : room ≤ 4096) :
    Calls Try.prog 9 #[.pointer (some ⟨b, 0, none⟩)] w fun e w' => e = .returned (.int .i64 ((room : Int) - (l.length : Int))) ∧ ∃ n, w' = w.drewN n := by
  have his := isS_any h
  obtain ⟨hbc, hb, hl, s, r, hc⟩ := h
  obtain ⟨cb, fb⟩ := blk_cells hb
  have c0 := cb 0 _ rfl
  have c1 := cb 1 _ rfl
  have hlen := fun n ty => run_len_chan (P := Try.prog) (w := w.drewN n) 53 ty Try.underlying53 (show (w.drewN n).heap[c]? = _ from hc)
  simp only [List.size_toArray, List.length_map] at hlen
  have e1 : IntKind.i64.wrap ((room : Int) - (l.length : Int)) = (room : Int) - (l.length : Int) := IntWalk.i64_in _ (by omega)
  clear cb hc hb
  go_enter Try.func9, Try.ntmps9
  go_wp2_with (go_at_call 20; refine Calls.mono his ?_; rintro e w1 ⟨rfl, rfl⟩)
  go_quiet (fail)
  go_wp2
  go_ret
  exact ⟨rfl, _, rfl⟩

theorem below_only {n c : Nat} {w w1 w2 : World} (h : Below n w w1) (k : OnlyChan c w1 w2) (hc : n ≤ c) : Below n w w2 :=
  ⟨k.os.trans h.os, k.tape.trans h.tape, k.output.trans h.output, by rw [k.size]; exact h.size, fun b hb => (k.block b (by omega)).trans (h.block b hb)⟩
theorem BoxS.drewN {w : World} {b c room : Nat} {l : List ByteArray} (h : BoxS w b c room l) (n : Nat) : BoxS (w.drewN n) b c room l := h
theorem drainS_nil (w : World) : Calls Try.prog 10 #[.pointer none] w fun e w' => e = .returned (.slice none 0 0) ∧ w' = w := by
  go_enter Try.func10, Try.ntmps10
  go_wp2
  refine wp_loop_rounds 1 ?_
  rw [rounds_succ]
  go_wp2_with (go_at_call 6; refine Calls.mono (takeS_nil _) ?_; rintro e w1 ⟨rfl, rfl⟩)
  go_ret
  exact ⟨rfl, rfl⟩
theorem moveS_nil (w : World) : Calls Try.prog 11 #[.pointer none, .pointer none] w fun e w' => e = .returned (.int .i64 0) ∧ w' = w := by
  go_enter Try.func11, Try.ntmps11
  go_wp2
  go_ret
  exact ⟨rfl, rfl⟩

theorem bytesS : ∃ i, Try.prog.info? 9 = some i ∧ i.bytes = 16 := by
  have h : (Try.prog.info? 9).map (·.bytes) = some 16 := by kernel_rfl
  obtain ⟨i, hi, hb⟩ := Option.map_eq_some_iff.1 h
  exact ⟨i, hi, hb⟩
theorem mkS (n : Nat) (hn : n ≤ 4096) (w : World) : (Instr.makeChan 53 (.int .i64 n)).run Try.prog w = .ok (.chan (some w.heap.size)) (w.alloc (.chan n #[] false 0 0 false)) := by
  obtain ⟨i, hi, hb⟩ := bytesS
  simpa using run_makeChan (P := Try.prog) (w := w) Try.underlying53 hi .i64 n (by omega) (by rw [hb]; omega)
theorem newS_bad (n : Int) (h : n < 1 ∨ 4096 < n) (w : World) : Calls Try.prog 12 #[.int .i64 n] w fun e w' => e = .returned (.tuple #[.pointer none, .int .i64 2]) ∧ w' = w := by
  go_enter Try.func12, Try.ntmps12
  go_wp2
  all_goals first
    | (go_ret2; exact ⟨rfl, rfl⟩)
    | (exfalso; simp_all; omega)
theorem newS_ok (n : Nat) (h : 1 ≤ n) (h' : n ≤ 4096) (w : World) : Calls Try.prog 12 #[.int .i64 n] w fun e w' => e = .returned (.tuple #[.pointer (some ⟨w.heap.size + 1, 0, none⟩), .int .i64 0]) ∧ BoxS w' (w.heap.size + 1) w.heap.size n [] ∧ Below w.heap.size w w' := by
  have hmk := mkS n h'
  have h1 : decide ((n : Int) < 1) = false := decide_eq_false (by omega)
  have h2 : decide ((n : Int) > 4096) = false := decide_eq_false (by omega)
  go_enter Try.func12, Try.ntmps12
  go_wp2
  go_ret2
  refine ⟨by simp, ⟨by omega, ?_, by simp, 0, 0, ?_⟩, by go_grown⟩
  · exact blk_alloc_new _ (by simp)
  · exact blk_alloc_old _ (blk_alloc_new _ rfl)
end Go.Proofs.Ytgecoannpbghjaa
