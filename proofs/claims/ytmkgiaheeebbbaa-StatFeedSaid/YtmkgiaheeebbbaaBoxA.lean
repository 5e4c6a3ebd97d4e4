/- Layer mail: a box of answers: is, Put. Condition: the pointer is nil, or leads to a box. -/
import Derived.Test.YtmkgiaheeebbbaaBlk
import Derived.Test.YtmkgiaheeebbbaaStAnswer
import Derived.Conc.LoneCalls
import Derived.Conc.LoneSelect
import Derived.Conc.LoneSelectN
import Derived.Deep.QuietTactic
import Derived.BigQuiet
import Derived.KernelRfl
import Derived.Laws.Rows
import Derived.WalkKit
namespace Go.Proofs.Ytmkgiaheeebbbaa
open Go.RowKit Go.Conc

theorem loneTo_call {P : Program} {Q : Goroutine → World → Prop} {f : FuncId} {args : Array Value} {R : Ending → World → Prop} {fr : Frame} {cs : List Frame} {w : World} (h : Calls P f args w R) (k : ∀ e w', R e w' → ∃ v, e = .returned v ∧ LoneTo P Q (G (fr.finish v) cs) w') : LoneTo P Q (G (Frame.enter P f args .normal) (fr :: cs)) w := by
  obtain ⟨e, w', fr', hR, hc, hf, hl⟩ := h (fr :: cs)
  obtain ⟨v, rfl, g₂, w₂, hs, hq⟩ := k e w' hR
  exact ⟨g₂, w₂, Steps.trans hc (Steps.head (step_leave_returned hl) hs), hq⟩

/-- A box of texts: its cells, and what lies in its channel. -/
def BoxA (w : World) (b c : Nat) (room : Nat) (l : List Value) : Prop :=
  b ≠ c ∧ w.heap[b]? = some (.cells #[.chan (some c), .int .i64 room] 72 (0, 0)) ∧ l.length ≤ room ∧ ∃ s r, w.heap[c]? = some (.chan room l.toArray false s r false)
/-- Of the world nothing turned but the channel c. -/
structure OnlyChan (c : Nat) (w w' : World) : Prop where
  os : w'.os = w.os
  tape : w'.tape = w.tape
  output : w'.output = w.output
  size : w'.heap.size = w.heap.size
  block : ∀ k, k ≠ c → w'.heap[k]? = w.heap[k]?
theorem OnlyChan.refl (c : Nat) (w : World) : OnlyChan c w w := ⟨rfl, rfl, rfl, rfl, fun _ _ => rfl⟩
theorem onlyChan_set (w : World) (c cap : Nat) (buf : Array Value) (cl : Bool) (s r : Nat) (tm : Bool) : OnlyChan c w (w.setChan c cap buf cl s r tm) :=
  ⟨rfl, rfl, rfl, size_setChan _ _ _ _ _ _ _ _, fun k hk => by simp only [World.setChan]; rw [Array.getElem?_setIfInBounds_ne (by omega)]⟩

theorem run_equalIn_chan {P : Program} (w : World) (d : Nat) (t e : TypeId) (dir : ChanDir) (a b : Option Nat) (h : P.underlying t = some (.chan dir e)) : (Op.equalIn (d + 1) t (.chan a) (.chan b)).run P w = .ok (a == b) w := by
  simp [Op.equalIn, run_underlying h]
theorem run_equal_chan {P : Program} (w : World) (t e : TypeId) (dir : ChanDir) (a b : Option Nat) (h : P.underlying t = some (.chan dir e)) : (Op.equal t (.chan a) (.chan b)).run P w = .ok (a == b) w := run_equalIn_chan w 9999 t e dir a b h
theorem run_neq_chanA (w : World) (a : Nat) : (binOp .neq 70 (.chan (some a)) (.chan none)).run Try.prog w = .ok (.bool true) w := by
  simp only [binOp]
  simp [run_equal_chan w _ _ _ (some a) none Try.underlying70]
theorem goes_call2 {P : Program} {main : Bool} {b : Frame} {a : Act} {k : List Item} {cs : List Frame} {w : World} {ops : Array Oper} {i : Nat} {rest : List Nat} {o : Oper} {K : Goroutine → World → Array Event → Prop} {f : FuncId} {fn : Func} {c : Code} {args : Array Operand} {ats : Array TypeId}
    (ho : ops[i]? = some o) (hw : Region.wanted o (yielded ops a.tmps) = true) (hk : b.kind ≠ .early) (hop : o.op = .call { callee := .value (.func f), args, argTypes := ats })
    (hf : P.funcs[f]? = some fn) (hname : (fn.name == "runtime.NumGoroutine") = false) (hb : fn.body = some c)
    (h : K (G (Frame.enter P f (args.map a.eval) .normal) (b.at a (.inRegion ops (i :: rest) :: k) :: cs)) w #[]) :
    (stepG P main (G (b.at a (.inRegion ops (i :: rest) :: k)) cs) w).goes K := by
  have hb' : fn.body.isNone = false := by rw [hb]; rfl
  rw [stepG_enter ho hw hk (run_call_body hop hf hname hb')]
  have : listed P b.fn a o w = #[] := by unfold listed; rw [events_call_body hop hf hname hb']; exact seen_none P _
  rw [this]
  exact h
theorem isA_nil (w : World) : Calls Try.prog 30 #[.pointer none] w fun e w' => e = .returned (.bool false) ∧ w' = w := by
  go_enter Try.func30, Try.ntmps30
  go_wp2
  go_ret
  exact ⟨rfl, rfl⟩
theorem isA_any {w : World} {b c room : Nat} {l : List Value} (h : BoxA w b c room l) : Calls Try.prog 30 #[.pointer (some ⟨b, 0, none⟩)] w fun e w' => e = .returned (.bool true) ∧ w' = w := by
  obtain ⟨hbc, hb, hl, s, r, hc⟩ := h
  obtain ⟨cb, fb⟩ := blk_cells hb
  have c0 := cb 0 _ rfl
  clear cb
  have hq := run_neq_chanA
  go_enter Try.func30, Try.ntmps30
  go_wp2
  go_ret
  exact ⟨rfl, rfl⟩

theorem BoxA.alloc {w : World} {b c room : Nat} {l : List Value} (h : BoxA w b c room l) (o : Obj) : BoxA (w.alloc o) b c room l := by
  obtain ⟨h1, h2, h3, s, r, h4⟩ := h
  exact ⟨h1, blk_alloc_old _ h2, h3, s, r, blk_alloc_old _ h4⟩
set_option maxRecDepth 100000 in
set_option maxHeartbeats 2000000 in
/-- Put, where there is room. -/
theorem putA_room {w : World} {b c room : Nat} {l : List Value} (h : BoxA w b c room l) (hroom : l.length < room) (e0 e1 : Int) (e2 : ByteArray) (A3 A4 A5 A6 : Option Addr) (n3 c3 n4 c4 n5 c5 n6 c6 : Nat) :
    Calls Try.prog 20 #[.pointer (some ⟨b, 0, none⟩), .agg #[.int .i64 e0, .int .i64 e1, .string e2, .slice A3 n3 c3, .slice A4 n4 c4, .slice A5 n5 c5, .slice A6 n6 c6]] w fun e w' => e = .returned (.bool true) ∧ BoxA w' b c room (l ++ [.agg #[.int .i64 e0, .int .i64 e1, .string e2, .slice A3 n3 c3, .slice A4 n4 c4, .slice A5 n5 c5, .slice A6 n6 c6]]) ∧ OnlyChan c (w.alloc (.cells #[.int .i64 e0, .int .i64 e1, .string e2, .slice A3 n3 c3, .slice A4 n4 c4, .slice A5 n5 c5, .slice A6 n6 c6] 39)) w' := by
  have h1 := h.alloc (.cells #[.int .i64 e0, .int .i64 e1, .string e2, .slice A3 n3 c3, .slice A4 n4 c4, .slice A5 n5 c5, .slice A6 n6 c6] 39)
  have his := isA_any h1
  obtain ⟨hbc, hb, hl, s, r, hc⟩ := h1
  obtain ⟨cb, fb⟩ := blk_cells hb
  have c0 := cb 0 _ rfl
  clear cb
  refine calls_of_loneTo fun cs => ?_
  have e : Frame.enter Try.prog 20 #[.pointer (some ⟨b, 0, none⟩), .agg #[.int .i64 e0, .int .i64 e1, .string e2, .slice A3 n3 c3, .slice A4 n4 c4, .slice A5 n5 c5, .slice A6 n6 c6]] .normal = (base 20).at ⟨#[.pointer (some ⟨b, 0, none⟩), .agg #[.int .i64 e0, .int .i64 e1, .string e2, .slice A3 n3 c3, .slice A4 n4 c4, .slice A5 n5 c5, .slice A6 n6 c6], undef, undef, undef, undef, undef, undef, undef, undef, undef, undef, undef, undef, undef, undef], []⟩ [.code (Try.f20.body.getD .skip)] := by
    simp [Frame.enter, Frame.at, Try.func20, base, Try.f20]
  rw [e]
  refine LoneTo.goes (n := 60) ?_
  simp only [Try.f20, Option.getD_some]
  s_c stepG_seq
  s_reg
  s_op
  s_op
  s_c stepG_region_end
  s_c stepG_seq
  s_c stepG_seq
  s_reg
  s_op
  s_in
  refine goes_call2 rfl rfl (by decide) rfl Try.func30 (by kernel_rfl) rfl ⟨trivial, ?_⟩
  s_stop
  walk_nrm
  refine loneTo_call his ?_
  rintro e w1 ⟨rfl, rfl⟩
  refine ⟨_, rfl, ?_⟩
  rw [Frame.finish_at]
  walk_nrm
  refine LoneTo.goes (n := 60) ?_
  s_op
  s_c stepG_region_end
  s_cond false
  s_c stepG_skip
  s_c stepG_seq
  s_c stepG_seq
  s_reg
  s_op
  s_op
  s_op
  s_op
  s_c stepG_region_end
  s_reg
  s_op
  s_c stepG_region_end
  s_c stepG_seq
  s_reg
  s_stop
  refine LoneTo.step (step_lone_select_send_room (c := c) (v := .agg #[.int .i64 e0, .int .i64 e1, .string e2, .slice A3 n3 c3, .slice A4 n4 c4, .slice A5 n5 c5, .slice A6 n6 c6]) (cap := room) (buf := l.toArray) (s := s) (r := r) (tm := false) (stepG_comm (cases := #[scase c (.agg #[.int .i64 e0, .int .i64 e1, .string e2, .slice A3 n3 c3, .slice A4 n4 c4, .slice A5 n5 c5, .slice A6 n6 c6]) (.agg #[.int .i64 0, .int .i64 0, .string ⟨#[]⟩, .slice none 0 0, .slice none 0 0, .slice none 0 0, .slice none 0 0])]) (blocking := false) (shape := .select) (w' := w.alloc (.cells #[.int .i64 e0, .int .i64 e1, .string e2, .slice A3 n3 c3, .slice A4 n4 c4, .slice A5 n5 c5, .slice A6 n6 c6] 39)) rfl rfl (by decide) (by simp [go_sem, execOp, scase, Act.eval])) hc (by simpa using hroom)) ?_
  rw [Frame.finish_at]
  walk_nrm
  refine LoneTo.goes (n := 60) ?_
  s_op
  s_op
  s_c stepG_region_end
  s_c stepG_block
  s_cond true
  s_c stepG_seq
  s_reg
  s_op
  s_c stepG_region_end
  s_c stepG_ret'
  s_stop
  refine LoneTo.done ⟨.returned (.bool true), _, rfl, ⟨rfl, ⟨hbc, ?_, ?_, s + 1, r, ?_⟩, onlyChan_set _ _ _ _ _ _ _ _⟩, rfl, rfl, rfl, rfl, _, Try.func20, by simp [results, Try.f20, Frame.at]⟩
  · rw [(onlyChan_set _ _ _ _ _ _ _ _).block _ hbc]; exact hb
  · simp; omega
  · rw [heap_setChan _ _ _ _ _ _ _ _ (blk_lt hc)]
set_option maxRecDepth 100000 in
set_option maxHeartbeats 2000000 in
/-- Put, where there is none. -/
theorem putA_full {w : World} {b c room : Nat} {l : List Value} (h : BoxA w b c room l) (hroom : room ≤ l.length) (e0 e1 : Int) (e2 : ByteArray) (A3 A4 A5 A6 : Option Addr) (n3 c3 n4 c4 n5 c5 n6 c6 : Nat) :
    Calls Try.prog 20 #[.pointer (some ⟨b, 0, none⟩), .agg #[.int .i64 e0, .int .i64 e1, .string e2, .slice A3 n3 c3, .slice A4 n4 c4, .slice A5 n5 c5, .slice A6 n6 c6]] w fun e w' => e = .returned (.bool false) ∧ w' = w.alloc (.cells #[.int .i64 e0, .int .i64 e1, .string e2, .slice A3 n3 c3, .slice A4 n4 c4, .slice A5 n5 c5, .slice A6 n6 c6] 39) := by
  have h1 := h.alloc (.cells #[.int .i64 e0, .int .i64 e1, .string e2, .slice A3 n3 c3, .slice A4 n4 c4, .slice A5 n5 c5, .slice A6 n6 c6] 39)
  have his := isA_any h1
  obtain ⟨hbc, hb, hl, s, r, hc⟩ := h1
  obtain ⟨cb, fb⟩ := blk_cells hb
  have c0 := cb 0 _ rfl
  clear cb
  refine calls_of_loneTo fun cs => ?_
  have e : Frame.enter Try.prog 20 #[.pointer (some ⟨b, 0, none⟩), .agg #[.int .i64 e0, .int .i64 e1, .string e2, .slice A3 n3 c3, .slice A4 n4 c4, .slice A5 n5 c5, .slice A6 n6 c6]] .normal = (base 20).at ⟨#[.pointer (some ⟨b, 0, none⟩), .agg #[.int .i64 e0, .int .i64 e1, .string e2, .slice A3 n3 c3, .slice A4 n4 c4, .slice A5 n5 c5, .slice A6 n6 c6], undef, undef, undef, undef, undef, undef, undef, undef, undef, undef, undef, undef, undef, undef], []⟩ [.code (Try.f20.body.getD .skip)] := by
    simp [Frame.enter, Frame.at, Try.func20, base, Try.f20]
  rw [e]
  refine LoneTo.goes (n := 60) ?_
  simp only [Try.f20, Option.getD_some]
  s_c stepG_seq
  s_reg
  s_op
  s_op
  s_c stepG_region_end
  s_c stepG_seq
  s_c stepG_seq
  s_reg
  s_op
  s_in
  refine goes_call2 rfl rfl (by decide) rfl Try.func30 (by kernel_rfl) rfl ⟨trivial, ?_⟩
  s_stop
  walk_nrm
  refine loneTo_call his ?_
  rintro e w1 ⟨rfl, rfl⟩
  refine ⟨_, rfl, ?_⟩
  rw [Frame.finish_at]
  walk_nrm
  refine LoneTo.goes (n := 60) ?_
  s_op
  s_c stepG_region_end
  s_cond false
  s_c stepG_skip
  s_c stepG_seq
  s_c stepG_seq
  s_reg
  s_op
  s_op
  s_op
  s_op
  s_c stepG_region_end
  s_reg
  s_op
  s_c stepG_region_end
  s_c stepG_seq
  s_reg
  s_stop
  refine LoneTo.step (step_lone_select_send_full (c := c) (v := .agg #[.int .i64 e0, .int .i64 e1, .string e2, .slice A3 n3 c3, .slice A4 n4 c4, .slice A5 n5 c5, .slice A6 n6 c6]) (cap := room) (buf := l.toArray) (s := s) (r := r) (tm := false) (stepG_comm (cases := #[scase c (.agg #[.int .i64 e0, .int .i64 e1, .string e2, .slice A3 n3 c3, .slice A4 n4 c4, .slice A5 n5 c5, .slice A6 n6 c6]) (.agg #[.int .i64 0, .int .i64 0, .string ⟨#[]⟩, .slice none 0 0, .slice none 0 0, .slice none 0 0, .slice none 0 0])]) (blocking := false) (shape := .select) (w' := w.alloc (.cells #[.int .i64 e0, .int .i64 e1, .string e2, .slice A3 n3 c3, .slice A4 n4 c4, .slice A5 n5 c5, .slice A6 n6 c6] 39)) rfl rfl (by decide) (by simp [go_sem, execOp, scase, Act.eval])) hc (by simpa using hroom)) ?_
  rw [Frame.finish_at]
  walk_nrm
  refine LoneTo.goes (n := 60) ?_
  s_op
  s_op
  s_c stepG_region_end
  s_c stepG_block
  s_cond false
  s_c stepG_seq
  s_reg
  s_op
  s_c stepG_region_end
  s_c stepG_ret'
  s_stop
  exact LoneTo.done ⟨.returned (.bool false), _, rfl, ⟨rfl, rfl⟩, rfl, rfl, rfl, rfl, _, Try.func20, by simp [results, Try.f20, Frame.at]⟩
theorem bytesA : ∃ i, Try.prog.info? 39 = some i ∧ i.bytes = 128 := by
  have h : (Try.prog.info? 39).map (·.bytes) = some 128 := by kernel_rfl
  obtain ⟨i, hi, hb⟩ := Option.map_eq_some_iff.1 h
  exact ⟨i, hi, hb⟩
theorem mkA (n : Nat) (hn : n ≤ 4096) (w : World) : (Instr.makeChan 70 (.int .i64 n)).run Try.prog w = .ok (.chan (some w.heap.size)) (w.alloc (.chan n #[] false 0 0 false)) := by
  obtain ⟨i, hi, hb⟩ := bytesA
  simpa using run_makeChan (P := Try.prog) (w := w) Try.underlying70 hi .i64 n (by omega) (by rw [hb]; omega)
theorem newA_bad (n : Int) (h : n < 1 ∨ 4096 < n) (w : World) : Calls Try.prog 21 #[.int .i64 n] w fun e w' => e = .returned (.tuple #[.pointer none, .int .i64 2]) ∧ w' = w := by
  go_enter Try.func21, Try.ntmps21
  go_wp2
  all_goals first
    | (go_ret2; exact ⟨rfl, rfl⟩)
    | (exfalso; simp_all; omega)
theorem newA_ok (n : Nat) (h : 1 ≤ n) (h' : n ≤ 4096) (w : World) : Calls Try.prog 21 #[.int .i64 n] w fun e w' => e = .returned (.tuple #[.pointer (some ⟨w.heap.size + 1, 0, none⟩), .int .i64 0]) ∧ BoxA w' (w.heap.size + 1) w.heap.size n [] ∧ Below w.heap.size w w' := by
  have hmk := mkA n h'
  have h1 : decide ((n : Int) < 1) = false := decide_eq_false (by omega)
  have h2 : decide ((n : Int) > 4096) = false := decide_eq_false (by omega)
  go_enter Try.func21, Try.ntmps21
  go_wp2
  go_ret2
  refine ⟨by simp, ⟨by omega, ?_, by simp, 0, 0, ?_⟩, by go_grown⟩
  · exact blk_alloc_new _ (by simp)
  · exact blk_alloc_old _ (blk_alloc_new _ rfl)
end Go.Proofs.Ytmkgiaheeebbbaa
