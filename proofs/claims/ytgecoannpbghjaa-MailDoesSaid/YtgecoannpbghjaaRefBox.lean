/- Layer mail: the document's box: Put and Take; Ints, place. Condition: the box's room is at most 9. -/
import Derived.Test.YtgecoannpbghjaaRow
import Derived.Lib.AppendZeros
namespace Go.Proofs.Ytgecoannpbghjaa
open Go.RowKit Go.Deep

/-- The document's box: its cells, and the numbers in it. -/
def RBox (w : World) (r : Nat) (v : Value) (room : Nat) (l : List Int) : Prop :=
  w.heap[r]? = some (.cells #[v, .int .i64 room] 45 (0, 0)) ∧ Row w v l ∧ v.ownBlock ≠ some r ∧ l.length ≤ room ∧ room ≤ 9
/-- Of what was there nothing turned but the block r and the row. -/
structure Touch (r : Nat) (row : Option Nat) (w w' : World) : Prop where
  os : w'.os = w.os
  tape : w'.tape = w.tape
  output : w'.output = w.output
  size : w.heap.size ≤ w'.heap.size
  block : ∀ k, k < w.heap.size → k ≠ r → row ≠ some k → w'.heap[k]? = w.heap[k]?
theorem below_touch {n r : Nat} {row : Option Nat} {w w1 w2 : World} (h : Below n w w1) (k : Touch r row w1 w2) (hr : n ≤ r) (hw : ∀ b, row = some b → n ≤ b) (hn : n ≤ w1.heap.size) : Below n w w2 :=
  ⟨k.os.trans h.os, k.tape.trans h.tape, k.output.trans h.output, Nat.le_trans h.size k.size, fun b hb => (k.block b (by omega) (by omega) (fun e => by have := hw b e; omega)).trans (h.block b hb)⟩

set_option maxRecDepth 100000 in
set_option maxHeartbeats 4000000 in
theorem refput_room {w : World} {r room : Nat} {v : Value} {l : List Int} (h : RBox w r v room l) (hroom : l.length < room) (x : Int) :
    Calls Try.prog 23 #[.pointer (some ⟨r, 0, none⟩), .int .i64 x] w fun e w' => e = .returned (.bool true) ∧ Touch r v.ownBlock w w' ∧ ∃ v', RBox w' r v' room (l ++ [x]) ∧ (v'.ownBlock = v.ownBlock ∨ ∃ k, v'.ownBlock = some k ∧ w.heap.size ≤ k) := by
  obtain ⟨iint, hiint, hzint, h1int, h2int⟩ := info_parts (show (Try.prog.info? 3).map (fun i => (i.zero, i.size, i.bytes)) = some (some (.int .i64 0), 1, 8) from by kernel_rfl)
  obtain ⟨hr, hrow, hne, hl, hr9⟩ := h
  obtain ⟨A, c, rfl⟩ := hrow.shape
  obtain ⟨cb, fb⟩ := blk_cells hr
  have c0 := cb 0 _ rfl
  have c1 := cb 1 _ rfl
  have f0 := fb 0
  clear cb fb
  have hd : decide ((l.length : Int) ≥ (room : Int)) = false := decide_eq_false (by omega)
  go_enter Try.func23, Try.ntmps23
  go_wp2_with fail
  go_quiet (fail)
  obtain ⟨W, hW⟩ : ∃ W, W = w.drewN nq := ⟨_, rfl⟩
  rw [← hW]
  have hh : W.heap = w.heap := by rw [hW]; rfl
  have C0 : W.cell? ⟨r, 0, none⟩ = some (.slice A l.length c) := by rw [hW]; exact c0
  have F0 : W.frozen? ⟨r, 0, none⟩ = false := by rw [hW]; exact f0
  have HR : W.heap[r]? = some (.cells #[.slice A l.length c, .int .i64 room] 45 (0, 0)) := by rw [hh]; exact hr
  have hos : W.os = w.os ∧ W.tape = w.tape ∧ W.output = w.output := by rw [hW]; exact ⟨rfl, rfl, rfl⟩
  obtain ⟨v', w', hrun, row', gr, own'⟩ := row_append iint hiint hzint h1int h2int 43 (W := W) (hrow.keep fun b _ => by rw [hh]) (by omega) x 1
  have hrl := blk_lt HR
  have HR' := blk_grown gr HR hne
  obtain ⟨cb', fb'⟩ := blk_cells HR'
  have c0' := cb' 0 _ rfl
  have f0' := fb' 0
  have hz' := gr.size
  obtain ⟨A', c', hv'⟩ := row'.shape
  rw [show (l ++ [x]).length = l.length + 1 by simp] at hv'
  subst hv'
  have HH := Lib.hid hh
  clear c0 c1 f0 hW cb' fb' hr hrow hh
  go_wp2_with (at_builtin; go_loud (refine Lib.wpList_append_run _ rfl (.tmp 19) (.tmp 21) 43 43 rfl (.slice A l.length c) (.slice (some ⟨W.heap.size, 0, none⟩) 1 1) rfl rfl (.slice A' (l.length + 1) c') w' hrun ?_))
  go_ret
  have hh := HH.out
  have hb : ∀ k, k ≠ r → (w'.setCell ⟨r, 0, none⟩ (.slice A' (l.length + 1) c')).heap[k]? = w'.heap[k]? := fun k hk => Below.heap_setCell _ _ _ _ hk
  have hn' : (Value.slice A' (l.length + 1) c').ownBlock ≠ some r := by
    rcases own' with h | ⟨k, h, hk⟩
    · rw [h]; exact hne
    · rw [h]; simp only [ne_eq, Option.some.injEq]; omega
  refine ⟨rfl, ⟨gr.os.trans hos.1, gr.tape.trans hos.2.1, gr.output.trans hos.2.2, ?_, fun k hk hkr hkv => ?_⟩, _, ⟨blk_set_same _ HR' rfl, row'.keep fun b hb' => hb b (fun e => hn' (by rw [← e]; exact hb')), hn', by simp; omega, hr9⟩, ?_⟩
  · rw [← hh]; simpa using hz'
  · rw [hb k hkr, gr.block k (by rw [hh]; exact hk) (fun e => hkv e.symm), hh]
  · rw [hh] at own'; exact own'

set_option maxRecDepth 100000 in
set_option maxHeartbeats 4000000 in
theorem refput_full {w : World} {r room : Nat} {v : Value} {l : List Int} (h : RBox w r v room l) (hroom : room ≤ l.length) (x : Int) :
    Calls Try.prog 23 #[.pointer (some ⟨r, 0, none⟩), .int .i64 x] w fun e w' => e = .returned (.bool false) ∧ ∃ n, w' = w.drewN n := by
  obtain ⟨hr, hrow, hne, hl, hr9⟩ := h
  obtain ⟨A, c, rfl⟩ := hrow.shape
  obtain ⟨cb, fb⟩ := blk_cells hr
  have c0 := cb 0 _ rfl
  have c1 := cb 1 _ rfl
  clear cb fb hr hrow hne
  have hd : decide ((l.length : Int) ≥ (room : Int)) = true := decide_eq_true (by omega)
  go_enter Try.func23, Try.ntmps23
  go_wp2_with fail
  go_quiet (fail)
  go_wp2
  go_ret
  exact ⟨rfl, _, rfl⟩
set_option maxRecDepth 100000 in
set_option maxHeartbeats 4000000 in
theorem reftake_none {w : World} {r room : Nat} {v : Value} (h : RBox w r v room []) :
    Calls Try.prog 25 #[.pointer (some ⟨r, 0, none⟩)] w fun e w' => e = .returned (.tuple #[.int .i64 0, .bool false]) ∧ w' = w := by
  obtain ⟨hr, hrow, hne, hl, hr9⟩ := h
  obtain ⟨A, c, rfl⟩ := hrow.shape
  obtain ⟨cb, fb⟩ := blk_cells hr
  have c0 := cb 0 _ rfl
  have c1 := cb 1 _ rfl
  simp only [List.length_nil] at c0
  clear cb fb hr hrow hne
  go_enter Try.func25, Try.ntmps25
  go_wp2
  go_ret2
  exact ⟨rfl, rfl⟩
set_option maxRecDepth 100000 in
set_option maxHeartbeats 4000000 in
theorem reftake_some {w : World} {r room : Nat} {v : Value} {x : Int} {l : List Int} (h : RBox w r v room (x :: l)) :
    Calls Try.prog 25 #[.pointer (some ⟨r, 0, none⟩)] w fun e w' => e = .returned (.tuple #[.int .i64 x, .bool true]) ∧ Touch r none w w' ∧ ∃ v', RBox w' r v' room l ∧ v'.ownBlock = v.ownBlock := by
  obtain ⟨hr, hrow, hne, hl, hr9⟩ := h
  have hrow0 := hrow
  rcases hrow with ⟨_, h0⟩ | ⟨g, off, cap, cur, rfl, _⟩
  · cases h0
  simp only [List.length_cons] at hrow0 hr hne hl ⊢
  obtain ⟨ht, hc0, hcap, hcm⟩ := hrow0.tail
  unfold maxLen at hcm
  obtain ⟨cb, fb⟩ := blk_cells hr
  have c0 := cb 0 _ rfl
  have c1 := cb 1 _ rfl
  have f0 := fb 0
  have HR := Lib.hid hr
  have HT := Lib.hid ht
  have HN := Lib.hid hne
  have hgr : g ≠ r := fun e => hne (by rw [e]; rfl)
  have fin := Lib.hid (show ∀ v', Row w v' l → v'.ownBlock = some g → Touch r none w (w.setCell ⟨r, 0, none⟩ v') ∧ ∃ v'', RBox (w.setCell ⟨r, 0, none⟩ v') r v'' room l ∧ v''.ownBlock = some g from fun v' h1 h2 =>
    ⟨⟨rfl, rfl, rfl, by simp, fun k _ hk _ => Below.heap_setCell _ _ _ _ hk⟩, v', ⟨blk_set_same _ hr rfl, h1.keep fun b hb => Below.heap_setCell _ _ _ _ (fun e => hgr (by rw [h2] at hb; exact (Option.some.inj hb).trans e)), by rw [h2]; exact fun e => hgr (Option.some.inj e), by omega, hr9⟩, h2⟩)
  clear cb fb hr hrow0 ht hne
  have e1 : ¬ ((l.length : Int) + 1 = 0) := by omega
  go_enter Try.func25, Try.ntmps25
  go_wp2
  · go_ret2
    have ht := HT.out
    have hcap1 : cap = 1 := by assumption
    subst hcap1
    rw [if_pos rfl] at ht
    exact ⟨rfl, fin.out _ ht rfl⟩
  · go_ret2
    have ht := HT.out
    rw [if_neg (by assumption)] at ht
    exact ⟨rfl, fin.out _ ht rfl⟩

def placeOf (n : Int) : Nat := if n < 0 ∨ 2 < n then 0 else n.toNat
theorem placeOf_lt (n : Int) : placeOf n < 3 := by unfold placeOf; split <;> omega
theorem place_any (n : Int) (w : World) : Calls Try.prog 22 #[.int .i64 n] w fun e w' => e = .returned (.int .i64 (placeOf n : Nat)) ∧ w' = w := by
  by_cases h : n < 0 ∨ 2 < n
  · have F := Lib.hid (show ((placeOf n : Nat) : Int) = 0 by rw [placeOf, if_pos h]; rfl)
    go_enter Try.func22, Try.ntmps22
    go_wp2
    all_goals first
      | (go_ret; exact ⟨by rw [F.out]; rfl, rfl⟩)
      | (exfalso; simp_all; omega)
  · have F := Lib.hid (show ((placeOf n : Nat) : Int) = n by rw [placeOf, if_neg h]; omega)
    go_enter Try.func22, Try.ntmps22
    go_wp2
    all_goals first
      | (go_ret; exact ⟨by rw [F.out]; rfl, rfl⟩)
      | (exfalso; simp_all; omega)
end Go.Proofs.Ytgecoannpbghjaa
