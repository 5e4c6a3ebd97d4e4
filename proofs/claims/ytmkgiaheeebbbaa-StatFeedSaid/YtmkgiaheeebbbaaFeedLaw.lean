/- StatFeed: for every input the law returns true and leaves its arguments as they were. No condition. -/
import Derived.Test.YtmkgiaheeebbbaaFeedP
import Derived.Deep.RegionHeld3
import Derived.BigQuiet
namespace Go.Proofs.Ytmkgiaheeebbbaa
open Go.ChangeShapes Go.WideShapes Go.ChangeAt Go.RowKit Go.Deep Go.Maps Go.Conc

theorem rdbool {w : World} : Rd Try.prog w 4 rBool := rd_bool Try.underlying4
def zeroA : Answer := ⟨0, 0, ⟨#[]⟩, [], [], [], []⟩
theorem zeroA_reads (S : Nat → Prop) (w : World) : rAnswer S w [.int .i64 0, .int .i64 0, .string ⟨#[]⟩, .slice none 0 0, .slice none 0 0, .slice none 0 0, .slice none 0 0] zeroA :=
  ⟨_, _, _, _, rfl, ⟨by decide, by decide⟩, ⟨by decide, by decide⟩, by decide, Sl_nil _ _ _ _, Sl_nil _ _ _ _, Sl_nil _ _ _ _, Sl_nil _ _ _ _⟩
theorem cells7 {W W' : World} {N : Nat} {v0 v1 v2 v3 v4 v5 v6 : Value} (c : ∀ (j : Nat) (v : Value), (#[v0, v1, v2, v3, v4, v5, v6] : Array Value)[j]? = some v → W.cell? ⟨N, j, none⟩ = some v) (h : Below W.heap.size W W') :
    W'.cell? ⟨N, 0, none⟩ = some (v0) ∧ W'.cell? ⟨N, 1, none⟩ = some (v1) ∧ W'.cell? ⟨N, 2, none⟩ = some (v2) ∧ W'.cell? ⟨N, 3, none⟩ = some (v3) ∧ W'.cell? ⟨N, 4, none⟩ = some (v4) ∧ W'.cell? ⟨N, 5, none⟩ = some (v5) ∧ W'.cell? ⟨N, 6, none⟩ = some (v6) := by
  have q : ∀ (j : Nat) (v : Value), (#[v0, v1, v2, v3, v4, v5, v6] : Array Value)[j]? = some v → W'.cell? ⟨N, j, none⟩ = some v := fun j v hj => (h.cell (p := ⟨N, j, none⟩) (cell_lt (c j v hj))).trans (c j v hj)
  exact ⟨q 0 _ rfl, q 1 _ rfl, q 2 _ rfl, q 3 _ rfl, q 4 _ rfl, q 5 _ rfl, q 6 _ rfl⟩

theorem cells7o {W W' : World} {N o : Nat} {v0 v1 v2 v3 v4 v5 v6 : Value} (c : ∀ (j : Nat) (v : Value), [v0, v1, v2, v3, v4, v5, v6][j]? = some v → W.cell? ⟨N, o + j, none⟩ = some v) (h : W'.heap[N]? = W.heap[N]?) :
    W'.cell? ⟨N, o, none⟩ = some (v0) ∧ W'.cell? ⟨N, o + 1, none⟩ = some (v1) ∧ W'.cell? ⟨N, o + 2, none⟩ = some (v2) ∧ W'.cell? ⟨N, o + 3, none⟩ = some (v3) ∧ W'.cell? ⟨N, o + 4, none⟩ = some (v4) ∧ W'.cell? ⟨N, o + 5, none⟩ = some (v5) ∧ W'.cell? ⟨N, o + 6, none⟩ = some (v6) := by
  have q : ∀ (j : Nat) (v : Value), [v0, v1, v2, v3, v4, v5, v6][j]? = some v → W'.cell? ⟨N, o + j, none⟩ = some v := fun j v hj => (World.cell?_of_block h).trans (c j v hj)
  exact ⟨q 0 _ rfl, q 1 _ rfl, q 2 _ rfl, q 3 _ rfl, q 4 _ rfl, q 5 _ rfl, q 6 _ rfl⟩

set_option maxHeartbeats 2000000 in
set_option maxRecDepth 100000 in
theorem walk_statFeed (w : World) (a0 : Int) (w0 : (Lit.int IntKind.i64 a0).wf = true) (L : List Answer) (va : Value) (ha : Sl 7 rAnswer (fun _ => True) w va L) (T : List Bool) (vt : Value) (ht : Sl 1 rBool (fun _ => True) w vt T) :
    Calls Try.prog 4 #[.int .i64 a0, va, vt] w fun e w' => e = .returned (.bool true) ∧ Below w.heap.size w w' := by
  have HA := Lib.hid ha
  have HT := Lib.hid ht
  obtain ⟨Aa, ca, rfl, hal, hac, han, has⟩ := ha
  obtain ⟨At, ct, rfl, htl, htc, htn, hts⟩ := ht
  unfold maxLen at hac htc
  have E := Try.func4
  clear w0 E
  obtain ⟨iA, hiA, hzA, h1A, h2A⟩ := info_parts (show (Try.prog.info? 39).map (fun i => (i.zero, i.size, i.bytes)) = some (some (.agg #[.int .i64 0, .int .i64 0, .string ⟨#[]⟩, .slice none 0 0, .slice none 0 0, .slice none 0 0, .slice none 0 0]), 7, 128) from by kernel_rfl)
  by_cases hA40 : 40 < L.length
  · go_enter Try.func4, Try.ntmps4
    go_wp2_with (first
        | (go_at_call 5; refine Calls.mono (awake_any _) ?_; rintro e w1 ⟨rfl, B1⟩; have hz1 := B1.size)
        | (go_at_call 9; refine Calls.mono (next_nil _) ?_; rintro e w2 ⟨rfl, B2⟩; have hz2 := B2.size; have B2' := bel_call B1 B2)
        | (go_at_call 10; refine Calls.mono (put_nil _ _ _ _ _ _ _ _ _ _ _ _ _ _ _ _) ?_; rintro e w3 ⟨rfl, B3⟩)
        | (go_at_call 11; refine Calls.mono (lost_nil _) ?_; rintro e w4 ⟨rfl, rfl⟩)
        | (go_at_call 12; refine Calls.mono (fcounts_nil _) ?_; rintro e w5 ⟨rfl, rfl⟩))
    go_ret
    exact ⟨rfl, bel_call (by go_grown) B3⟩
  by_cases hB100 : 100 < T.length
  · have dA : decide ((40 : Int) < (L.length : Int)) = false := decide_eq_false (by omega)
    go_enter Try.func4, Try.ntmps4
    go_wp2_with (first
        | (go_at_call 5; refine Calls.mono (awake_any _) ?_; rintro e w1 ⟨rfl, B1⟩; have hz1 := B1.size)
        | (go_at_call 9; refine Calls.mono (next_nil _) ?_; rintro e w2 ⟨rfl, B2⟩; have hz2 := B2.size; have B2' := bel_call B1 B2)
        | (go_at_call 10; refine Calls.mono (put_nil _ _ _ _ _ _ _ _ _ _ _ _ _ _ _ _) ?_; rintro e w3 ⟨rfl, B3⟩)
        | (go_at_call 11; refine Calls.mono (lost_nil _) ?_; rintro e w4 ⟨rfl, rfl⟩)
        | (go_at_call 12; refine Calls.mono (fcounts_nil _) ?_; rintro e w5 ⟨rfl, rfl⟩))
    go_ret
    exact ⟨rfl, bel_call (by go_grown) B3⟩
  have dA : decide ((40 : Int) < (L.length : Int)) = false := decide_eq_false (by omega)
  have dB : decide ((100 : Int) < (T.length : Int)) = false := decide_eq_false (by omega)
  by_cases hr1 : a0 < 1
  · go_enter Try.func4, Try.ntmps4
    go_wp2_with (first
        | (go_at_call 5; refine Calls.mono (awake_any _) ?_; rintro e w1 ⟨rfl, B1⟩; have hz1 := B1.size)
        | (go_at_call 9; refine Calls.mono (next_nil _) ?_; rintro e w2 ⟨rfl, B2⟩; have hz2 := B2.size; have B2' := bel_call B1 B2)
        | (go_at_call 10; refine Calls.mono (put_nil _ _ _ _ _ _ _ _ _ _ _ _ _ _ _ _) ?_; rintro e w3 ⟨rfl, B3⟩)
        | (go_at_call 11; refine Calls.mono (lost_nil _) ?_; rintro e w4 ⟨rfl, rfl⟩)
        | (go_at_call 12; refine Calls.mono (fcounts_nil _) ?_; rintro e w5 ⟨rfl, rfl⟩)
        | (go_at_call 13; refine Calls.mono (feednew_bad _ (.inl hr1) _) ?_; rintro e w6 ⟨rfl, rfl⟩))
    go_ret
    exact ⟨rfl, bel_call (by go_grown) B3⟩
  have d1 : decide (a0 < 1) = false := decide_eq_false hr1
  by_cases hr2 : 4096 < a0
  · go_enter Try.func4, Try.ntmps4
    go_wp2_with (first
        | (go_at_call 5; refine Calls.mono (awake_any _) ?_; rintro e w1 ⟨rfl, B1⟩; have hz1 := B1.size)
        | (go_at_call 9; refine Calls.mono (next_nil _) ?_; rintro e w2 ⟨rfl, B2⟩; have hz2 := B2.size; have B2' := bel_call B1 B2)
        | (go_at_call 10; refine Calls.mono (put_nil _ _ _ _ _ _ _ _ _ _ _ _ _ _ _ _) ?_; rintro e w3 ⟨rfl, B3⟩)
        | (go_at_call 11; refine Calls.mono (lost_nil _) ?_; rintro e w4 ⟨rfl, rfl⟩)
        | (go_at_call 12; refine Calls.mono (fcounts_nil _) ?_; rintro e w5 ⟨rfl, rfl⟩)
        | (go_at_call 13; refine Calls.mono (feednew_bad _ (.inr hr2) _) ?_; rintro e w6 ⟨rfl, rfl⟩))
    go_ret
    exact ⟨rfl, bel_call (by go_grown) B3⟩
  have d2 : decide (4096 < a0) = false := decide_eq_false hr2
  obtain ⟨room, rfl⟩ : ∃ r : Nat, a0 = r := ⟨a0.toNat, by omega⟩
  clear hr1 hr2
  go_enter Try.func4, Try.ntmps4
  go_wp2_with (first
      | (go_at_call 5; refine Calls.mono (awake_any _) ?_; rintro e w1 ⟨rfl, B1⟩; have hz1 := B1.size)
      | (go_at_call 9; refine Calls.mono (next_nil _) ?_; rintro e w2 ⟨rfl, B2⟩; have hz2 := B2.size; have B2' := bel_call B1 B2)
      | (go_at_call 10; refine Calls.mono (put_nil _ _ _ _ _ _ _ _ _ _ _ _ _ _ _ _) ?_; rintro e w3 ⟨rfl, B3⟩)
      | (go_at_call 11; refine Calls.mono (lost_nil _) ?_; rintro e w4 ⟨rfl, rfl⟩)
      | (go_at_call 12; refine Calls.mono (fcounts_nil _) ?_; rintro e w5 ⟨rfl, rfl⟩)
      | (go_at_call 13; refine Calls.mono (feednew_ok room (by simp at d1; omega) (by simp at d2; omega) _) ?_; rintro e wn ⟨g, b, c, m, rfl, hbx, hfe, hown, h1, h2, h3, h4, h5, Bn⟩; have HBX := Lib.hid hbx; have HFE := Lib.hid hfe; have HOWN := Lib.hid hown; have hw5 : w.heap.size ≤ w5.heap.size := (bel_call (w := w) (by go_grown) B3).size; have HB3 := Lib.hid (show Below w.heap.size w wn from bel_call (bel_call (by go_grown) B3) Bn); clear hbx hfe hown B1 B2 B2' B3 Bn))
  have hlr : 1 ≤ room ∧ room ≤ 4096 := ⟨by simp at d1; omega, by simp at d2; omega⟩
  have hz0 := HB3.out.size
  have H0 := Lib.hid (show FL w wn L g b c m room (.slice none 0 0) 0 0 [] from
    ⟨⟨0, .map [], ⟨HFE.out, HBX.out, HOWN.out, by omega, by omega, by omega, by omega, by omega⟩, Nat.le_refl _, MapIs.start.congr (fun _ => rfl) (fun _ => by simp)⟩, RowC.nil _, fun k hk => by simp [Value.ownBlock] at hk, fun cs hc => by simp at hc, HB3.out, ⟨by simp, by simp⟩, ⟨by omega, by omega⟩, ⟨by omega, by omega, by omega, by omega⟩⟩)
  clear HFE HBX HOWN HB3 h1 h2 h3 h4 h5 hz0 hz1 hz2 hw5
  go_loopw [12, 13, 14, 71] (fun v lo pu i wr => ∃ (k p : Nat) (lost : Int) (Q : List (List Value)), k ≤ T.length ∧ p ≤ L.length ∧ i = .int .i64 k ∧ pu = .int .i64 p ∧ lo = .int .i64 lost ∧ Hid (FL w wr L g b c m room v p lost Q)) (fun _ _ _ i _ => T.length - (RowKit.intOf i).toNat)
  case atStart => exact ⟨0, 0, 0, [], by omega, by omega, by go_num, by go_num, by go_num, H0⟩
  case round =>
    clear H0
    obtain ⟨k, p, lost, Q, hk, hp, rfl, rfl, rfl, H⟩ := hrel
    by_cases hlt : k < T.length
    · obtain ⟨t, htk, _, _⟩ := at_k hlt
      obtain ⟨tb, to, ys, rfl, _, _, htc0, (rfl : ys = _)⟩ := hts k t htk
      have q := htc0 0 _ rfl
      rw [show k * 1 + 0 = k by omega] at q
      have q1 : wr.cell? ⟨tb, to + k, none⟩ = some (.bool t) := (H.out.bel.cell (p := ⟨tb, to + k, none⟩) (cell_lt q)).trans q
      have hql := H.out.ql
      have hlo := H.out.lo
      clear htk htc0 q
      cases t with
      | true =>
        cases Q with
        | nil =>
          obtain ⟨n, D, hst, hnp, hmap⟩ := H.out.st
          obtain ⟨Av, cv, rfl, _⟩ := H.out.row.shape
          have hnext := Lib.hid (next_none hst.feed hst.gc hst.box)
          have HST := Lib.hid hst
          have HM := Lib.hid hmap
          clear hst hmap
          go_wp2_with fail
          refine Calls.mono hnext.out ?_
          rintro e w2 ⟨rfl, hbx, hbt⟩
          have HBX := Lib.hid hbx
          have HBT := Lib.hid hbt
          clear hbx hbt hnext q1
          go_wp2_with fail
          obtain ⟨W, hW, cW, fW, BW, qW⟩ := boxed w2 #[.int .i64 0, .int .i64 0, .string ⟨#[]⟩, .slice none 0 0, .slice none 0 0, .slice none 0 0, .slice none 0 0] 39
          rw [hW]
          have CW := Lib.hid cW
          have hl0 : decide (0 < 0) = false := rfl
          clear cW fW hW
          refine wp_region_held_drew (S := (fun W' => W'.cell? ⟨w2.heap.size, 0, none⟩ = some (.int .i64 0) ∧ W'.cell? ⟨w2.heap.size, 1, none⟩ = some (.int .i64 0) ∧ W'.cell? ⟨w2.heap.size, 2, none⟩ = some (.string ⟨#[]⟩) ∧ W'.cell? ⟨w2.heap.size, 3, none⟩ = some (.slice none 0 0) ∧ W'.cell? ⟨w2.heap.size, 4, none⟩ = some (.slice none 0 0) ∧ W'.cell? ⟨w2.heap.size, 5, none⟩ = some (.slice none 0 0) ∧ W'.cell? ⟨w2.heap.size, 6, none⟩ = some (.slice none 0 0))) (by kernel_rfl) (cells7 CW.out (Below.refl _ _).drew) (fun hHeld => ?_)
          refine wpAnyH_take (i := 0) (oi := ?_) (v := ?_) ?_ (by kernel_rfl) (by kernel_rfl) (by kernel_rfl) ?_ (Or.inl ⟨?_, ?_⟩) hHeld ?_
          rotate_left 2
          · simp only [List.getElem?_toArray, List.getElem?_cons_succ, List.getElem?_cons_zero]; exact rfl
          · exact fun _ _ _ h => h
          · rfl
          · (intro W' hSw; (try dsimp only at hSw); go_simp; try with_reducible rfl)
          try simp only [Act.put, List.setIfInBounds_toArray, List.set_cons_zero, List.set_cons_succ]
          refine wpAnyH_take (i := 1) (oi := ?_) (v := ?_) ?_ (by kernel_rfl) (by kernel_rfl) (by kernel_rfl) ?_ (Or.inl ⟨?_, ?_⟩) hHeld ?_
          rotate_left 2
          · simp only [List.getElem?_toArray, List.getElem?_cons_succ, List.getElem?_cons_zero]; exact rfl
          · exact fun _ _ _ h => h
          · rfl
          · (intro W' hSw; (try dsimp only at hSw); go_simp; try with_reducible rfl)
          try simp only [Act.put, List.setIfInBounds_toArray, List.set_cons_zero, List.set_cons_succ]
          refine wpAnyH_take (i := 2) (oi := ?_) (v := ?_) ?_ (by kernel_rfl) (by kernel_rfl) (by kernel_rfl) ?_ (Or.inl ⟨?_, ?_⟩) hHeld ?_
          rotate_left 2
          · simp only [List.getElem?_toArray, List.getElem?_cons_succ, List.getElem?_cons_zero]; exact rfl
          · exact fun _ _ _ h => h
          · rfl
          · (intro W' hSw; (try dsimp only at hSw); go_simp; try with_reducible rfl)
          try simp only [Act.put, List.setIfInBounds_toArray, List.set_cons_zero, List.set_cons_succ]
          refine wpAnyH_take (i := 3) (oi := ?_) (v := ?_) ?_ (by kernel_rfl) (by kernel_rfl) (by kernel_rfl) ?_ (Or.inl ⟨?_, ?_⟩) hHeld ?_
          rotate_left 2
          · simp only [List.getElem?_toArray, List.getElem?_cons_succ, List.getElem?_cons_zero]; exact rfl
          · exact fun _ _ _ h => h
          · rfl
          · (intro W' hSw; (try dsimp only at hSw); go_simp; try with_reducible rfl)
          try simp only [Act.put, List.setIfInBounds_toArray, List.set_cons_zero, List.set_cons_succ]
          refine wpAnyH_take (i := 4) (oi := ?_) (v := ?_) ?_ (by kernel_rfl) (by kernel_rfl) (by kernel_rfl) ?_ (Or.inl ⟨?_, ?_⟩) hHeld ?_
          rotate_left 2
          · simp only [List.getElem?_toArray, List.getElem?_cons_succ, List.getElem?_cons_zero]; exact rfl
          · exact fun _ _ _ h => h
          · rfl
          · (intro W' hSw; (try dsimp only at hSw); go_simp; try with_reducible rfl)
          try simp only [Act.put, List.setIfInBounds_toArray, List.set_cons_zero, List.set_cons_succ]
          refine wpAnyH_take (i := 5) (oi := ?_) (v := ?_) ?_ (by kernel_rfl) (by kernel_rfl) (by kernel_rfl) ?_ (Or.inl ⟨?_, ?_⟩) hHeld ?_
          rotate_left 2
          · simp only [List.getElem?_toArray, List.getElem?_cons_succ, List.getElem?_cons_zero]; exact rfl
          · exact fun _ _ _ h => h
          · rfl
          · (intro W' hSw; (try dsimp only at hSw); go_simp; try with_reducible rfl)
          try simp only [Act.put, List.setIfInBounds_toArray, List.set_cons_zero, List.set_cons_succ]
          refine wpAnyH_take (i := 6) (oi := ?_) (v := ?_) ?_ (by kernel_rfl) (by kernel_rfl) (by kernel_rfl) ?_ (Or.inl ⟨?_, ?_⟩) hHeld ?_
          rotate_left 2
          · simp only [List.getElem?_toArray, List.getElem?_cons_succ, List.getElem?_cons_zero]; exact rfl
          · exact fun _ _ _ h => h
          · rfl
          · (intro W' hSw; (try dsimp only at hSw); go_simp; try with_reducible rfl)
          try simp only [Act.put, List.setIfInBounds_toArray, List.set_cons_zero, List.set_cons_succ]
          refine wpAnyH_take (i := 7) (oi := ?_) (v := ?_) ?_ (by kernel_rfl) (by kernel_rfl) (by kernel_rfl) ?_ (Or.inl ⟨?_, ?_⟩) hHeld ?_
          rotate_left 2
          · simp only [List.getElem?_toArray, List.getElem?_cons_succ, List.getElem?_cons_zero]; exact rfl
          · exact fun _ _ _ h => h
          · rfl
          · (intro W' hSw; (try dsimp only at hSw); go_simp; try with_reducible rfl)
          try simp only [Act.put, List.setIfInBounds_toArray, List.set_cons_zero, List.set_cons_succ]
          refine wpAnyH_take (i := 8) (oi := ?_) (v := undef) ?_ (by kernel_rfl) (by kernel_rfl) (by kernel_rfl) ?_ (Or.inr ⟨?_, rfl⟩) hHeld ?_
          rotate_left 1
          · simp only [List.getElem?_toArray, List.getElem?_cons_succ, List.getElem?_cons_zero]; exact rfl
          · exact fun _ _ _ h => h
          · rfl
          try simp only [Act.put, List.setIfInBounds_toArray, List.set_cons_zero, List.set_cons_succ]
          refine wpAnyH_take (i := 9) (oi := ?_) (v := undef) ?_ (by kernel_rfl) (by kernel_rfl) (by kernel_rfl) ?_ (Or.inr ⟨?_, rfl⟩) hHeld ?_
          rotate_left 1
          · simp only [List.getElem?_toArray, List.getElem?_cons_succ, List.getElem?_cons_zero]; exact rfl
          · exact fun _ _ _ h => h
          · rfl
          try simp only [Act.put, List.setIfInBounds_toArray, List.set_cons_zero, List.set_cons_succ]
          refine wpAnyH_take (i := 10) (oi := ?_) (v := undef) ?_ (by kernel_rfl) (by kernel_rfl) (by kernel_rfl) ?_ (Or.inr ⟨?_, rfl⟩) hHeld ?_
          rotate_left 1
          · simp only [List.getElem?_toArray, List.getElem?_cons_succ, List.getElem?_cons_zero]; exact rfl
          · exact fun _ _ _ h => h
          · rfl
          try simp only [Act.put, List.setIfInBounds_toArray, List.set_cons_zero, List.set_cons_succ]
          refine wpAnyH_take (i := 11) (oi := ?_) (v := undef) ?_ (by kernel_rfl) (by kernel_rfl) (by kernel_rfl) ?_ (Or.inr ⟨?_, rfl⟩) hHeld ?_
          rotate_left 1
          · simp only [List.getElem?_toArray, List.getElem?_cons_succ, List.getElem?_cons_zero]; exact rfl
          · exact fun _ _ _ h => h
          · rfl
          try simp only [Act.put, List.setIfInBounds_toArray, List.set_cons_zero, List.set_cons_succ]
          refine wpAnyH_take (i := 12) (oi := ?_) (v := undef) ?_ (by kernel_rfl) (by kernel_rfl) (by kernel_rfl) ?_ (Or.inr ⟨?_, rfl⟩) hHeld ?_
          rotate_left 1
          · simp only [List.getElem?_toArray, List.getElem?_cons_succ, List.getElem?_cons_zero]; exact rfl
          · exact fun _ _ _ h => h
          · rfl
          try simp only [Act.put, List.setIfInBounds_toArray, List.set_cons_zero, List.set_cons_succ]
          refine wpAnyH_take (i := 13) (oi := ?_) (v := undef) ?_ (by kernel_rfl) (by kernel_rfl) (by kernel_rfl) ?_ (Or.inr ⟨?_, rfl⟩) hHeld ?_
          rotate_left 1
          · simp only [List.getElem?_toArray, List.getElem?_cons_succ, List.getElem?_cons_zero]; exact rfl
          · exact fun _ _ _ h => h
          · rfl
          try simp only [Act.put, List.setIfInBounds_toArray, List.set_cons_zero, List.set_cons_succ]
          refine wpAnyH_take (i := 14) (oi := ?_) (v := ?_) ?_ (by kernel_rfl) (by kernel_rfl) (by kernel_rfl) ?_ (Or.inl ⟨?_, ?_⟩) hHeld ?_
          rotate_left 2
          · simp only [List.getElem?_toArray, List.getElem?_cons_succ, List.getElem?_cons_zero]; exact rfl
          · exact fun _ _ _ h => h
          · rfl
          · (intro W' hSw; (try dsimp only at hSw); go_simp; try with_reducible rfl)
          try simp only [Act.put, List.setIfInBounds_toArray, List.set_cons_zero, List.set_cons_succ]
          refine wpAnyH_take (i := 15) (oi := ?_) (v := ?_) ?_ (by kernel_rfl) (by kernel_rfl) (by kernel_rfl) ?_ (Or.inl ⟨?_, ?_⟩) hHeld ?_
          rotate_left 2
          · simp only [List.getElem?_toArray, List.getElem?_cons_succ, List.getElem?_cons_zero]; exact rfl
          · exact fun _ _ _ h => h
          · rfl
          · (intro W' hSw; (try dsimp only at hSw); go_simp; try with_reducible rfl)
          try simp only [Act.put, List.setIfInBounds_toArray, List.set_cons_zero, List.set_cons_succ]
          refine wpAnyH_take (i := 16) (oi := ?_) (v := ?_) ?_ (by kernel_rfl) (by kernel_rfl) (by kernel_rfl) ?_ (Or.inl ⟨?_, ?_⟩) hHeld ?_
          rotate_left 2
          · simp only [List.getElem?_toArray, List.getElem?_cons_succ, List.getElem?_cons_zero]; exact rfl
          · exact fun _ _ _ h => h
          · rfl
          · (intro W' hSw; (try dsimp only at hSw); go_simp; try with_reducible rfl)
          try simp only [Act.put, List.setIfInBounds_toArray, List.set_cons_zero, List.set_cons_succ]
          refine wpAnyH_take (i := 17) (oi := ?_) (v := ?_) ?_ (by kernel_rfl) (by kernel_rfl) (by kernel_rfl) ?_ (Or.inl ⟨?_, ?_⟩) hHeld ?_
          rotate_left 2
          · simp only [List.getElem?_toArray, List.getElem?_cons_succ, List.getElem?_cons_zero]; exact rfl
          · exact fun _ _ _ h => h
          · rfl
          · (intro W' hSw; (try dsimp only at hSw); go_simp; try with_reducible rfl)
          try simp only [Act.put, List.setIfInBounds_toArray, List.set_cons_zero, List.set_cons_succ]
          refine wpAnyH_take (i := 18) (oi := ?_) (v := ?_) ?_ (by kernel_rfl) (by kernel_rfl) (by kernel_rfl) ?_ (Or.inl ⟨?_, ?_⟩) hHeld ?_
          rotate_left 2
          · simp only [List.getElem?_toArray, List.getElem?_cons_succ, List.getElem?_cons_zero]; exact rfl
          · exact fun _ _ _ h => h
          · rfl
          · (intro W' hSw; (try dsimp only at hSw); go_simp; try with_reducible rfl)
          try simp only [Act.put, List.setIfInBounds_toArray, List.set_cons_zero, List.set_cons_succ]
          refine wpAnyH_take (i := 19) (oi := ?_) (v := ?_) ?_ (by kernel_rfl) (by kernel_rfl) (by kernel_rfl) ?_ (Or.inl ⟨?_, ?_⟩) hHeld ?_
          rotate_left 2
          · simp only [List.getElem?_toArray, List.getElem?_cons_succ, List.getElem?_cons_zero]; exact rfl
          · exact fun _ _ _ h => h
          · rfl
          · (intro W' hSw; (try dsimp only at hSw); go_simp; try with_reducible rfl)
          try simp only [Act.put, List.setIfInBounds_toArray, List.set_cons_zero, List.set_cons_succ]
          refine wpAnyH_take (i := 20) (oi := ?_) (v := ?_) ?_ (by kernel_rfl) (by kernel_rfl) (by kernel_rfl) ?_ (Or.inl ⟨?_, ?_⟩) hHeld ?_
          rotate_left 2
          · simp only [List.getElem?_toArray, List.getElem?_cons_succ, List.getElem?_cons_zero]; exact rfl
          · exact fun _ _ _ h => h
          · rfl
          · (intro W' hSw; (try dsimp only at hSw); go_simp; try with_reducible rfl)
          try simp only [Act.put, List.setIfInBounds_toArray, List.set_cons_zero, List.set_cons_succ]
          refine wpAnyH_take (i := 21) (oi := ?_) (v := ?_) ?_ (by kernel_rfl) (by kernel_rfl) (by kernel_rfl) ?_ (Or.inl ⟨?_, ?_⟩) hHeld ?_
          rotate_left 2
          · simp only [List.getElem?_toArray, List.getElem?_cons_succ, List.getElem?_cons_zero]; exact rfl
          · exact fun _ _ _ h => h
          · rfl
          · (intro W' hSw; (try dsimp only at hSw); go_simp; try with_reducible rfl)
          try simp only [Act.put, List.setIfInBounds_toArray, List.set_cons_zero, List.set_cons_succ]
          refine wpAnyH_ready (rs := [22]) (by kernel_rfl) (by simp) ?_
          refine AllReadyH.cons rfl (fun K hK => ?_) ?_
          rotate_left
          · exact AllReadyH.nil
          go_simp
          go_at_call 14
          refine Calls.mono (ansame_any zeroA _ _ _ _ _ (zeroA_reads (fun _ => True) _) (zeroA_reads (fun _ => True) _)) ?_
          rintro e w5 ⟨rfl, B5⟩
          have b5 : Below W.heap.size W w5 := bel_call (Below.refl _ _).drew B5
          clear B5 hHeld
          refine hK.out _ _ (cells7 CW.out b5) (fun hHeld => ?_)
          clear hK K
          refine wpAnyH_take (i := 23) (oi := ?_) (v := ?_) ?_ (by kernel_rfl) (by kernel_rfl) (by kernel_rfl) ?_ (Or.inl ⟨?_, ?_⟩) hHeld ?_
          rotate_left 2
          · simp only [List.getElem?_toArray, List.getElem?_cons_succ, List.getElem?_cons_zero]; exact rfl
          · exact fun _ _ _ h => h
          · rfl
          · (intro W' hSw; (try dsimp only at hSw); go_simp; try with_reducible rfl)
          try simp only [Act.put, List.setIfInBounds_toArray, List.set_cons_zero, List.set_cons_succ]
          refine wpAnyH_take (i := 24) (oi := ?_) (v := ?_) ?_ (by kernel_rfl) (by kernel_rfl) (by kernel_rfl) ?_ (Or.inl ⟨?_, ?_⟩) hHeld ?_
          rotate_left 2
          · simp only [List.getElem?_toArray, List.getElem?_cons_succ, List.getElem?_cons_zero]; exact rfl
          · exact fun _ _ _ h => h
          · rfl
          · (intro W' hSw; (try dsimp only at hSw); go_simp; try with_reducible rfl)
          try simp only [Act.put, List.setIfInBounds_toArray, List.set_cons_zero, List.set_cons_succ]
          refine wpAnyH_take (i := 25) (oi := ?_) (v := ?_) ?_ (by kernel_rfl) (by kernel_rfl) (by kernel_rfl) ?_ (Or.inl ⟨?_, ?_⟩) hHeld ?_
          rotate_left 2
          · simp only [List.getElem?_toArray, List.getElem?_cons_succ, List.getElem?_cons_zero]; exact rfl
          · exact fun _ _ _ h => h
          · rfl
          · (intro W' hSw; (try dsimp only at hSw); go_simp; try with_reducible rfl)
          try simp only [Act.put, List.setIfInBounds_toArray, List.set_cons_zero, List.set_cons_succ]
          refine wpAnyH_done (by kernel_rfl) ?_ _
          have HB5 := Lib.hid (bel_call (bel_call (Below.refl _ _) BW) b5)
          clear b5 hHeld
          go_wp2
          go_roundw
          case rel => exact ⟨k + 1, p, lost, [], by omega, hp, by go_num, by go_num, by go_num, H.out.none HBT.out HBX.out HB5.out⟩
          case measure => simp [RowKit.intOf]; omega
        | cons cs Q =>
          obtain ⟨n, D, hst, hnp, hmap⟩ := H.out.st
          obtain ⟨x, hR⟩ := H.out.good cs (List.mem_cons_self ..)
          have HR := Lib.hid hR
          obtain ⟨x_A3, x_c3, x_A4, x_c4, x_A5, x_c5, x_A6, x_c6, rfl, x0ok, x1ok, x2ok, l3, m3, n3, s3, l4, m4, n4, s4, l5, m5, n5, s5, l6, m6, n6, s6⟩ := open_Answer hR
          clear s3 s4 s5 s6 hR
          obtain ⟨Av, cap, rfl, hAv⟩ := H.out.row.shape
          obtain ⟨gq, oq, rfl⟩ := hAv (by simp)
          clear hAv
          have hrow := H.out.row
          simp only [List.length_cons] at hrow hql
          obtain ⟨ht, hcell, hcap, hcm⟩ := hrow.tail
          unfold maxLen at hcm
          have HTL := Lib.hid ht
          have HCL := Lib.hid hcell
          have hnext := Lib.hid (next_some hst.feed hst.gc (show BoxA wr b c room (.agg #[.int .i64 x.err, .int .i64 x.number, .string x.who, .slice x_A3 x.data.length x_c3, .slice x_A4 x.names.length x_c4, .slice x_A5 x.members.length x_c5, .slice x_A6 x.history.length x_c6] :: aggs Q) from hst.box))
          have hcgq : gq ≠ c := (H.out.own gq rfl).2.2.2.1
          have HWR := Lib.hid H.out.bel
          clear hst hmap hrow ht hcell
          go_wp2_with fail
          refine Calls.mono hnext.out ?_
          rintro e w2 ⟨rfl, hbx, hbt⟩
          have HBX := Lib.hid hbx
          have HBT := Lib.hid hbt
          clear hbx hbt hnext q1
          go_wp2_with fail
          obtain ⟨W, hW, cW, fW, BW, qW⟩ := boxed w2 #[.int .i64 x.err, .int .i64 x.number, .string x.who, .slice x_A3 x.data.length x_c3, .slice x_A4 x.names.length x_c4, .slice x_A5 x.members.length x_c5, .slice x_A6 x.history.length x_c6] 39
          rw [hW]
          have CW := Lib.hid cW
          have hdL : decide ((0 : Int) < (Q.length : Int) + 1) = true := decide_eq_true (by omega)
          have hi0 : (0 : Int) < (Q.length : Int) + 1 := by omega
          have hgl := cell_lt (HCL.out 0 _ rfl)
          have hgb : ∀ W', Below w2.heap.size w2 W' → W'.heap[gq]? = wr.heap[gq]? := fun W' hb => (hb.block gq (Nat.lt_of_lt_of_le hgl HBT.out.size)).trans (HBT.out.block gq hgl hcgq)
          have HGB := Lib.hid hgb
          clear cW fW hW hgb
          refine wp_region_held_drew (S := fun W' => (W'.cell? ⟨w2.heap.size, 0, none⟩ = some (.int .i64 x.err) ∧ W'.cell? ⟨w2.heap.size, 1, none⟩ = some (.int .i64 x.number) ∧ W'.cell? ⟨w2.heap.size, 2, none⟩ = some (.string x.who) ∧ W'.cell? ⟨w2.heap.size, 3, none⟩ = some (.slice x_A3 x.data.length x_c3) ∧ W'.cell? ⟨w2.heap.size, 4, none⟩ = some (.slice x_A4 x.names.length x_c4) ∧ W'.cell? ⟨w2.heap.size, 5, none⟩ = some (.slice x_A5 x.members.length x_c5) ∧ W'.cell? ⟨w2.heap.size, 6, none⟩ = some (.slice x_A6 x.history.length x_c6)) ∧ (W'.cell? ⟨gq, oq, none⟩ = some (.int .i64 x.err) ∧ W'.cell? ⟨gq, oq + 1, none⟩ = some (.int .i64 x.number) ∧ W'.cell? ⟨gq, oq + 2, none⟩ = some (.string x.who) ∧ W'.cell? ⟨gq, oq + 3, none⟩ = some (.slice x_A3 x.data.length x_c3) ∧ W'.cell? ⟨gq, oq + 4, none⟩ = some (.slice x_A4 x.names.length x_c4) ∧ W'.cell? ⟨gq, oq + 5, none⟩ = some (.slice x_A5 x.members.length x_c5) ∧ W'.cell? ⟨gq, oq + 6, none⟩ = some (.slice x_A6 x.history.length x_c6))) (by kernel_rfl) ⟨cells7 CW.out (Below.refl _ _).drew, cells7o HCL.out (HGB.out _ BW.drew)⟩ (fun hHeld => ?_)
          refine wpAnyH_take (i := 0) (oi := ?_) (v := ?_) ?_ (by kernel_rfl) (by kernel_rfl) (by kernel_rfl) ?_ (Or.inl ⟨?_, ?_⟩) hHeld ?_
          rotate_left 2
          · simp only [List.getElem?_toArray, List.getElem?_cons_succ, List.getElem?_cons_zero]; exact rfl
          · exact fun _ _ _ h => h
          · rfl
          · (intro W' hSw; (try dsimp only at hSw); go_simp; try with_reducible rfl)
          try simp only [Act.put, List.setIfInBounds_toArray, List.set_cons_zero, List.set_cons_succ]
          refine wpAnyH_take (i := 1) (oi := ?_) (v := ?_) ?_ (by kernel_rfl) (by kernel_rfl) (by kernel_rfl) ?_ (Or.inl ⟨?_, ?_⟩) hHeld ?_
          rotate_left 2
          · simp only [List.getElem?_toArray, List.getElem?_cons_succ, List.getElem?_cons_zero]; exact rfl
          · exact fun _ _ _ h => h
          · rfl
          · (intro W' hSw; (try dsimp only at hSw); go_simp; try with_reducible rfl)
          try simp only [Act.put, List.setIfInBounds_toArray, List.set_cons_zero, List.set_cons_succ]
          refine wpAnyH_take (i := 2) (oi := ?_) (v := ?_) ?_ (by kernel_rfl) (by kernel_rfl) (by kernel_rfl) ?_ (Or.inl ⟨?_, ?_⟩) hHeld ?_
          rotate_left 2
          · simp only [List.getElem?_toArray, List.getElem?_cons_succ, List.getElem?_cons_zero]; exact rfl
          · exact fun _ _ _ h => h
          · rfl
          · (intro W' hSw; (try dsimp only at hSw); go_simp; try with_reducible rfl)
          try simp only [Act.put, List.setIfInBounds_toArray, List.set_cons_zero, List.set_cons_succ]
          refine wpAnyH_take (i := 3) (oi := ?_) (v := ?_) ?_ (by kernel_rfl) (by kernel_rfl) (by kernel_rfl) ?_ (Or.inl ⟨?_, ?_⟩) hHeld ?_
          rotate_left 2
          · simp only [List.getElem?_toArray, List.getElem?_cons_succ, List.getElem?_cons_zero]; exact rfl
          · exact fun _ _ _ h => h
          · rfl
          · (intro W' hSw; (try dsimp only at hSw); go_simp; try with_reducible rfl)
          try simp only [Act.put, List.setIfInBounds_toArray, List.set_cons_zero, List.set_cons_succ]
          refine wpAnyH_take (i := 4) (oi := ?_) (v := ?_) ?_ (by kernel_rfl) (by kernel_rfl) (by kernel_rfl) ?_ (Or.inl ⟨?_, ?_⟩) hHeld ?_
          rotate_left 2
          · simp only [List.getElem?_toArray, List.getElem?_cons_succ, List.getElem?_cons_zero]; exact rfl
          · exact fun _ _ _ h => h
          · rfl
          · (intro W' hSw; (try dsimp only at hSw); go_simp; try with_reducible rfl)
          try simp only [Act.put, List.setIfInBounds_toArray, List.set_cons_zero, List.set_cons_succ]
          refine wpAnyH_take (i := 5) (oi := ?_) (v := ?_) ?_ (by kernel_rfl) (by kernel_rfl) (by kernel_rfl) ?_ (Or.inl ⟨?_, ?_⟩) hHeld ?_
          rotate_left 2
          · simp only [List.getElem?_toArray, List.getElem?_cons_succ, List.getElem?_cons_zero]; exact rfl
          · exact fun _ _ _ h => h
          · rfl
          · (intro W' hSw; (try dsimp only at hSw); go_simp; try with_reducible rfl)
          try simp only [Act.put, List.setIfInBounds_toArray, List.set_cons_zero, List.set_cons_succ]
          refine wpAnyH_take (i := 6) (oi := ?_) (v := ?_) ?_ (by kernel_rfl) (by kernel_rfl) (by kernel_rfl) ?_ (Or.inl ⟨?_, ?_⟩) hHeld ?_
          rotate_left 2
          · simp only [List.getElem?_toArray, List.getElem?_cons_succ, List.getElem?_cons_zero]; exact rfl
          · exact fun _ _ _ h => h
          · rfl
          · (intro W' hSw; (try dsimp only at hSw); go_simp; try with_reducible rfl)
          try simp only [Act.put, List.setIfInBounds_toArray, List.set_cons_zero, List.set_cons_succ]
          refine wpAnyH_take (i := 7) (oi := ?_) (v := ?_) ?_ (by kernel_rfl) (by kernel_rfl) (by kernel_rfl) ?_ (Or.inl ⟨?_, ?_⟩) hHeld ?_
          rotate_left 2
          · simp only [List.getElem?_toArray, List.getElem?_cons_succ, List.getElem?_cons_zero]; exact rfl
          · exact fun _ _ _ h => h
          · rfl
          · (intro W' hSw; (try dsimp only at hSw); go_simp; try with_reducible rfl)
          try simp only [Act.put, List.setIfInBounds_toArray, List.set_cons_zero, List.set_cons_succ]
          refine wpAnyH_take (i := 8) (oi := ?_) (v := ?_) ?_ (by kernel_rfl) (by kernel_rfl) (by kernel_rfl) ?_ (Or.inl ⟨?_, ?_⟩) hHeld ?_
          rotate_left 2
          · simp only [List.getElem?_toArray, List.getElem?_cons_succ, List.getElem?_cons_zero]; exact rfl
          · exact fun _ _ _ h => h
          · rfl
          · (intro W' hSw; (try dsimp only at hSw); go_simp; try with_reducible rfl)
          try simp only [Act.put, List.setIfInBounds_toArray, List.set_cons_zero, List.set_cons_succ]
          refine wpAnyH_take (i := 9) (oi := ?_) (v := ?_) ?_ (by kernel_rfl) (by kernel_rfl) (by kernel_rfl) ?_ (Or.inl ⟨?_, ?_⟩) hHeld ?_
          rotate_left 2
          · simp only [List.getElem?_toArray, List.getElem?_cons_succ, List.getElem?_cons_zero]; exact rfl
          · exact fun _ _ _ h => h
          · rfl
          · (intro W' hSw; (try dsimp only at hSw); go_simp; try with_reducible rfl)
          try simp only [Act.put, List.setIfInBounds_toArray, List.set_cons_zero, List.set_cons_succ]
          refine wpAnyH_take (i := 10) (oi := ?_) (v := ?_) ?_ (by kernel_rfl) (by kernel_rfl) (by kernel_rfl) ?_ (Or.inl ⟨?_, ?_⟩) hHeld ?_
          rotate_left 2
          · simp only [List.getElem?_toArray, List.getElem?_cons_succ, List.getElem?_cons_zero]; exact rfl
          · exact fun _ _ _ h => h
          · rfl
          · (intro W' hSw; (try dsimp only at hSw); go_simp; try with_reducible rfl)
          try simp only [Act.put, List.setIfInBounds_toArray, List.set_cons_zero, List.set_cons_succ]
          refine wpAnyH_take (i := 11) (oi := ?_) (v := ?_) ?_ (by kernel_rfl) (by kernel_rfl) (by kernel_rfl) ?_ (Or.inl ⟨?_, ?_⟩) hHeld ?_
          rotate_left 2
          · simp only [List.getElem?_toArray, List.getElem?_cons_succ, List.getElem?_cons_zero]; exact rfl
          · exact fun _ _ _ h => h
          · rfl
          · (intro W' hSw; (try dsimp only at hSw); go_simp; try with_reducible rfl)
          try simp only [Act.put, List.setIfInBounds_toArray, List.set_cons_zero, List.set_cons_succ]
          refine wpAnyH_ready (rs := [12]) (by kernel_rfl) (by simp) ?_
          refine AllReadyH.cons rfl (fun K hK => ?_) ?_
          rotate_left
          · exact AllReadyH.nil
          go_simp
          go_at_call 14
          have BWr : Below w.heap.size w W := bel_call (w := w) (ButB.below (B := Fb g c m) HWR.out HWR.out.size (by have := H.out.fb; rintro k (rfl | rfl | rfl) <;> omega) (ButB.but HBT.out (.inr (.inl rfl)))) BW
          have HRW := Lib.hid (rAnswer_keep (S' := fun _ => True) HR.out (kept_of (S := fun _ => True) BWr.drew))
          refine Calls.mono (ansame_any x _ _ _ _ _ HRW.out HRW.out) ?_
          rintro e w5 ⟨rfl, B5⟩
          have b5 : Below W.heap.size W w5 := bel_call (Below.refl _ _).drew B5
          clear B5 hHeld HRW BWr
          refine hK.out _ _ ⟨cells7 CW.out b5, cells7o HCL.out (HGB.out _ (bel_call BW b5))⟩ (fun hHeld => ?_)
          clear hK K
          refine wpAnyH_take (i := 13) (oi := ?_) (v := ?_) ?_ (by kernel_rfl) (by kernel_rfl) (by kernel_rfl) ?_ (Or.inl ⟨?_, ?_⟩) hHeld ?_
          rotate_left 2
          · simp only [List.getElem?_toArray, List.getElem?_cons_succ, List.getElem?_cons_zero]; exact rfl
          · exact fun _ _ _ h => h
          · rfl
          · (intro W' hSw; (try dsimp only at hSw); go_simp; try with_reducible rfl)
          try simp only [Act.put, List.setIfInBounds_toArray, List.set_cons_zero, List.set_cons_succ]
          refine wpAnyH_take (i := 14) (oi := ?_) (v := ?_) ?_ (by kernel_rfl) (by kernel_rfl) (by kernel_rfl) ?_ (Or.inl ⟨?_, ?_⟩) hHeld ?_
          rotate_left 2
          · simp only [List.getElem?_toArray, List.getElem?_cons_succ, List.getElem?_cons_zero]; exact rfl
          · exact fun _ _ _ h => h
          · rfl
          · (intro W' hSw; (try dsimp only at hSw); go_simp; try with_reducible rfl)
          try simp only [Act.put, List.setIfInBounds_toArray, List.set_cons_zero, List.set_cons_succ]
          refine wpAnyH_take (i := 15) (oi := ?_) (v := ?_) ?_ (by kernel_rfl) (by kernel_rfl) (by kernel_rfl) ?_ (Or.inl ⟨?_, ?_⟩) hHeld ?_
          rotate_left 2
          · simp only [List.getElem?_toArray, List.getElem?_cons_succ, List.getElem?_cons_zero]; exact rfl
          · exact fun _ _ _ h => h
          · rfl
          · (intro W' hSw; (try dsimp only at hSw); go_simp; try with_reducible rfl)
          try simp only [Act.put, List.setIfInBounds_toArray, List.set_cons_zero, List.set_cons_succ]
          refine wpAnyH_take (i := 16) (oi := ?_) (v := ?_) ?_ (by kernel_rfl) (by kernel_rfl) (by kernel_rfl) ?_ (Or.inl ⟨?_, ?_⟩) hHeld ?_
          rotate_left 2
          · simp only [List.getElem?_toArray, List.getElem?_cons_succ, List.getElem?_cons_zero]; exact rfl
          · exact fun _ _ _ h => h
          · rfl
          · (intro W' hSw; (try dsimp only at hSw); go_simp; try with_reducible rfl)
          try simp only [Act.put, List.setIfInBounds_toArray, List.set_cons_zero, List.set_cons_succ]
          refine wpAnyH_take (i := 17) (oi := ?_) (v := ?_) ?_ (by kernel_rfl) (by kernel_rfl) (by kernel_rfl) ?_ (Or.inl ⟨?_, ?_⟩) hHeld ?_
          rotate_left 2
          · simp only [List.getElem?_toArray, List.getElem?_cons_succ, List.getElem?_cons_zero]; exact rfl
          · exact fun _ _ _ h => h
          · rfl
          · (intro W' hSw; (try dsimp only at hSw); go_simp; try with_reducible rfl)
          try simp only [Act.put, List.setIfInBounds_toArray, List.set_cons_zero, List.set_cons_succ]
          refine wpAnyH_take (i := 18) (oi := ?_) (v := ?_) ?_ (by kernel_rfl) (by kernel_rfl) (by kernel_rfl) ?_ (Or.inl ⟨?_, ?_⟩) hHeld ?_
          rotate_left 2
          · simp only [List.getElem?_toArray, List.getElem?_cons_succ, List.getElem?_cons_zero]; exact rfl
          · exact fun _ _ _ h => h
          · rfl
          · (intro W' hSw; (try dsimp only at hSw); go_simp; try with_reducible rfl)
          try simp only [Act.put, List.setIfInBounds_toArray, List.set_cons_zero, List.set_cons_succ]
          refine wpAnyH_take (i := 19) (oi := ?_) (v := ?_) ?_ (by kernel_rfl) (by kernel_rfl) (by kernel_rfl) ?_ (Or.inl ⟨?_, ?_⟩) hHeld ?_
          rotate_left 2
          · simp only [List.getElem?_toArray, List.getElem?_cons_succ, List.getElem?_cons_zero]; exact rfl
          · exact fun _ _ _ h => h
          · rfl
          · (intro W' hSw; (try dsimp only at hSw); go_simp; try with_reducible rfl)
          try simp only [Act.put, List.setIfInBounds_toArray, List.set_cons_zero, List.set_cons_succ]
          refine wpAnyH_take (i := 20) (oi := ?_) (v := undef) ?_ (by kernel_rfl) (by kernel_rfl) (by kernel_rfl) ?_ (Or.inr ⟨?_, rfl⟩) hHeld ?_
          rotate_left 1
          · simp only [List.getElem?_toArray, List.getElem?_cons_succ, List.getElem?_cons_zero]; exact rfl
          · exact fun _ _ _ h => h
          · rfl
          try simp only [Act.put, List.setIfInBounds_toArray, List.set_cons_zero, List.set_cons_succ]
          refine wpAnyH_take (i := 21) (oi := ?_) (v := undef) ?_ (by kernel_rfl) (by kernel_rfl) (by kernel_rfl) ?_ (Or.inr ⟨?_, rfl⟩) hHeld ?_
          rotate_left 1
          · simp only [List.getElem?_toArray, List.getElem?_cons_succ, List.getElem?_cons_zero]; exact rfl
          · exact fun _ _ _ h => h
          · rfl
          try simp only [Act.put, List.setIfInBounds_toArray, List.set_cons_zero, List.set_cons_succ]
          refine wpAnyH_take (i := 22) (oi := ?_) (v := undef) ?_ (by kernel_rfl) (by kernel_rfl) (by kernel_rfl) ?_ (Or.inr ⟨?_, rfl⟩) hHeld ?_
          rotate_left 1
          · simp only [List.getElem?_toArray, List.getElem?_cons_succ, List.getElem?_cons_zero]; exact rfl
          · exact fun _ _ _ h => h
          · rfl
          try simp only [Act.put, List.setIfInBounds_toArray, List.set_cons_zero, List.set_cons_succ]
          refine wpAnyH_take (i := 23) (oi := ?_) (v := undef) ?_ (by kernel_rfl) (by kernel_rfl) (by kernel_rfl) ?_ (Or.inr ⟨?_, rfl⟩) hHeld ?_
          rotate_left 1
          · simp only [List.getElem?_toArray, List.getElem?_cons_succ, List.getElem?_cons_zero]; exact rfl
          · exact fun _ _ _ h => h
          · rfl
          try simp only [Act.put, List.setIfInBounds_toArray, List.set_cons_zero, List.set_cons_succ]
          refine wpAnyH_take (i := 24) (oi := ?_) (v := ?_) ?_ (by kernel_rfl) (by kernel_rfl) (by kernel_rfl) ?_ (Or.inl ⟨?_, ?_⟩) hHeld ?_
          rotate_left 2
          · simp only [List.getElem?_toArray, List.getElem?_cons_succ, List.getElem?_cons_zero]; exact rfl
          · exact fun _ _ _ h => h
          · rfl
          · (intro W' hSw; (try dsimp only at hSw); go_simp; try with_reducible rfl)
          try simp only [Act.put, List.setIfInBounds_toArray, List.set_cons_zero, List.set_cons_succ]
          refine wpAnyH_take (i := 25) (oi := ?_) (v := ?_) ?_ (by kernel_rfl) (by kernel_rfl) (by kernel_rfl) ?_ (Or.inl ⟨?_, ?_⟩) hHeld ?_
          rotate_left 2
          · simp only [List.getElem?_toArray, List.getElem?_cons_succ, List.getElem?_cons_zero]; exact rfl
          · exact fun _ _ _ h => h
          · rfl
          · (intro W' hSw; (try dsimp only at hSw); go_simp; try with_reducible rfl)
          try simp only [Act.put, List.setIfInBounds_toArray, List.set_cons_zero, List.set_cons_succ]
          refine wpAnyH_done (by kernel_rfl) ?_ _
          have HB5 := Lib.hid (bel_call BW b5)
          clear b5 hHeld BW qW
          go_wp2
          go_roundw
          case rel => exact ⟨k + 1, p, lost, Q, by omega, hp, by go_num, by go_num, by go_num, H.out.took HBT.out HBX.out HB5.out HTL.out (by split <;> rfl)⟩
          case measure => simp [RowKit.intOf]; omega
      | false =>
        by_cases hpl : p < L.length
        · obtain ⟨x, hxk, _, _⟩ := at_k hpl
          obtain ⟨xb, xo, ys, rfl, _, _, hxc, hR⟩ := has p x hxk
          have HR := Lib.hid hR
          obtain ⟨x_A3, x_c3, x_A4, x_c4, x_A5, x_c5, x_A6, x_c6, rfl, x0ok, x1ok, x2ok, l3, m3, n3, s3, l4, m4, n4, s4, l5, m5, n5, s5, l6, m6, n6, s6⟩ := open_Answer hR
          have hx : ∀ (j : Nat) (v : Value), [.int .i64 x.err, .int .i64 x.number, .string x.who, .slice x_A3 x.data.length x_c3, .slice x_A4 x.names.length x_c4, .slice x_A5 x.members.length x_c5, .slice x_A6 x.history.length x_c6][j]? = some v → wr.cell? ⟨xb, xo + p * 7 + j, none⟩ = some v := fun j v hj => (H.out.bel.cell (p := ⟨xb, xo + p * 7 + j, none⟩) (by have := cell_lt (hxc j v hj); exact this)).trans (by rw [show xo + p * 7 + j = xo + (p * 7 + j) by omega]; exact hxc j v hj)
          have x0 := hx 0 _ rfl
          have x1 := hx 1 _ rfl
          have x2 := hx 2 _ rfl
          have x3 := hx 3 _ rfl
          have x4 := hx 4 _ rfl
          have x5 := hx 5 _ rfl
          have x6 := hx 6 _ rfl
          rw [Nat.add_zero] at x0
          have HX := Lib.hid hx
          have HXC := Lib.hid hxc
          have hcs1 := Lib.hid (rAnswer_one hR)
          have HXK := Lib.hid hxk
          clear s3 s4 s5 s6 hR hx hxk hxc
          obtain ⟨n, D, hst, hnp, hmap⟩ := H.out.st
          obtain ⟨Av, cap, rfl, _⟩ := H.out.row.shape
          have hcb := cnt_le ((errs L).take p) x.err
          have hcl : ((errs L).take p).length ≤ 40 := by rw [List.length_take, errs_len]; omega
          have HST := Lib.hid hst
          have HMP := Lib.hid hmap
          have hfe : 0 ≤ cntOf ((errs L).take p) x.err ∧ cntOf ((errs L).take p) x.err ≤ 1000 := by omega
          have HFE := Lib.hid hfe
          clear hst hmap hcb hcl hfe
          by_cases hroom : Q.length < room
          · have hput := Lib.hid (feedput_room HST.out HMP.out (by omega) (by rw [aggs_len]; exact hroom) x.err x.number x.who x_A3 x_A4 x_A5 x_A6 x.data.length x_c3 x.names.length x_c4 x.members.length x_c5 x.history.length x_c6 x0ok HFE.out)
            go_wp2_with fail
            refine Calls.mono hput.out ?_
            rintro e w2 ⟨rfl, hs2, hbt⟩
            have HS2 := Lib.hid hs2
            have HBT := Lib.hid hbt
            have HRW2 := Lib.hid (H.out.row.keep (w' := w2) fun y hy => hbt.block y (H.out.row.lt y hy) (by obtain ⟨q1, q2, q3, q4, q5⟩ := H.out.own y hy; rintro (h | h | h) <;> contradiction))
            clear hs2 hbt hput q1 x0 x1 x2 x3 x4 x5 x6
            have hxb : xb < w.heap.size := cell_lt (HXC.out 0 _ rfl)
            have hb2 : w2.heap[xb]? = wr.heap[xb]? := HBT.out.block xb (Nat.lt_of_lt_of_le hxb H.out.bel.size) (by have := H.out.fb; rintro (h | h | h) <;> omega)
            obtain ⟨x0, x1, x2, x3, x4, x5, x6⟩ := cells7o HX.out hb2
            have hdr : decide (Q.length < room) = true := decide_eq_true hroom
            have hQ40 : Q.length ≤ 100 := by omega
            clear hb2
            go_wp2_with (at_builtin; (refine wpList_rowC w2 [.int .i64 x.err, .int .i64 x.number, .string x.who, .slice x_A3 x.data.length x_c3, .slice x_A4 x.names.length x_c4, .slice x_A5 x.members.length x_c5, .slice x_A6 x.history.length x_c6] rfl (.tmp 127) (.tmp 132) 22 rfl iA _ 128 Try.underlying22 hiA hzA h1A h2A rfl (by decide) (by decide) _ Q rfl HRW2.out hQ40 rfl hcs1.out _ _ rfl rfl ?_); intro v3 w3 r3 g3 o3; have HR3 := Lib.hid r3; have HG3 := Lib.hid g3; have HO3 := Lib.hid o3; clear r3 g3 o3)
            go_roundw
            case rel => exact ⟨k + 1, p + 1, lost, _, by omega, by omega, by go_num, by go_num, by go_num, H.out.put HXK.out HR.out hroom HS2.out hnp HMP.out HBT.out HR3.out HG3.out HO3.out⟩
            case measure => simp [RowKit.intOf]; omega
          · have hput := Lib.hid (feedput_full HST.out HMP.out (by omega) (by rw [aggs_len]; omega) (by omega) x.err x.number x.who x_A3 x_A4 x_A5 x_A6 x.data.length x_c3 x.names.length x_c4 x.members.length x_c5 x.history.length x_c6 x0ok HFE.out)
            go_wp2_with fail
            refine Calls.mono hput.out ?_
            rintro e w2 ⟨rfl, hs2, hbt⟩
            have HS2 := Lib.hid hs2
            have HBT := Lib.hid hbt
            have hdr : decide (Q.length < room) = false := decide_eq_false hroom
            have hwl : IntKind.i64.wrap (lost + 1) = lost + 1 := IntWalk.i64_in _ (by omega)
            clear hs2 hbt hput q1 x0 x1 x2 x3 x4 x5 x6
            go_wp2
            go_roundw
            case rel => exact ⟨k + 1, p + 1, lost + 1, Q, by omega, by omega, by go_num, by go_num, by go_num, H.out.full HXK.out HS2.out hnp HMP.out HBT.out⟩
            case measure => simp [RowKit.intOf]; omega
        · have hpe : decide ((p : Int) < (L.length : Int)) = false := decide_eq_false (by omega)
          go_wp2
          go_roundw
          case rel => exact ⟨k + 1, p, lost, Q, by omega, hp, by go_num, by go_num, by go_num, H⟩
          case measure => simp [RowKit.intOf]; omega
    · obtain rfl : k = T.length := by omega
      obtain ⟨n, D, hst, hnp, hmap⟩ := H.out.st
      have HST := Lib.hid hst
      have HMP := Lib.hid hmap
      have hlo := H.out.lo
      have HB := Lib.hid H.out.bel
      have hAp : (0 : Int) ≤ (p : Int) := by omega
      have hpc : (p : Int) ≤ (ca : Int) := by omega
      have HAL := Lib.hid (show Sl 7 rAns (fun _ => True) w (.slice Aa p ca) ((errs L).take p) from sl_take (by rw [errs_len]; exact ans_errs HA.out) (by rw [errs_len]; exact hp))
      have HPL := Lib.hid (show ((errs L).take p).length ≤ 100 by rw [List.length_take, errs_len]; omega)
      clear hst hmap
      go_wp2_with fail
      have HFD := Lib.hid (fun (W : World) (h : Below wr.heap.size wr W) => HST.out.below h)
      go_region_held3 (fun W => Below wr.heap.size wr W) (first | assumption | exact (Below.refl _ _).drew | exact Below.drew (by assumption) | exact bel_call (by assumption) (by assumption)) (first
        | (go_at_call 11; refine Calls.mono (lost_any (HFD.out _ (by assumption)).feed) ?_; rintro e W1 ⟨rfl, rfl⟩)
        | (go_at_call 12; refine Calls.mono (fcounts_any (HFD.out _ (by assumption)) HMP.out (by omega)) ?_; rintro e W2 ⟨⟨u2, R2, rfl, S2, I2⟩, b2⟩; have HS2 := Lib.hid S2; have HI2 := Lib.hid I2; have HB2 := Lib.hid b2; clear S2 I2)
        | (go_at_call 15; refine Calls.mono (refcounts_any _ HPL.out _ _ (fun _ => True) (HAL.out.keep rAns_ok (by decide) (kept_of (bel_call HB.out (by assumption))))) ?_; rintro e W3 ⟨⟨u3, R3, rfl, S3, I3⟩, b3⟩; have HS3 := Lib.hid S3; have HI3 := Lib.hid I3; have HB3 := Lib.hid b3; clear S3 I3)
        | (go_at_call 7; (first
            | refine Calls.mono (same_any _ _ _ _ _ (fun _ => True) (fun _ => True) (HS2.out.keep rCount_ok (by decide) (kept_of HB3.out)) HS3.out (HI2.out.ext HI3.out (fun _ => Iff.rfl) fun _ _ => rfl)) ?_
            | refine Calls.mono (same_any _ _ _ _ _ (fun _ => True) (fun _ => True) HS2.out (HS3.out.keep rCount_ok (by decide) (kept_of HB2.out)) (HI2.out.ext HI3.out (fun _ => Iff.rfl) fun _ _ => rfl)) ?_); rintro e W4 ⟨rfl, b4⟩))
      all_goals
        go_wp2
        go_ret
        exact ⟨rfl, bel_call HB.out (by assumption)⟩

set_option maxRecDepth 100000 in
theorem lifted_statFeed (os : Os) (started : os.Started) (H : Type) (enc : TypeId × Value → H) :
    ReturnsInHanded {} Try.checked os 4 .any (Rows.statFeedSpec.pre6 enc Try.prog Try.f4 Rows.statFeedRow.domain false) (Rows.statFeedSpec.post enc Try.prog Try.f4 false true false false) := by
  refine returnsInHanded_of_change_sized (C := Try.checked) law_own started (by kernel_rfl) Try.func4
    (ChangeSpec.witness6 (enc := enc) (C := Try.checked) false ⟨#[], #[.int .i64 0, .slice none 0 0, .slice none 0 0], []⟩ 8 (by kernel_rfl) (by kernel_rfl) (by kernel_rfl) (by kernel_rfl)) ?_
  intro W base args ds gs before hval0 hW hcnd hsz0 _
  have hval : ∀ (j : Nat) t v, Try.f4.params[j]? = some t → args[j]? = some v → Value.okWide Try.prog W .any base t v := hval0
  have hW' := hW
  obtain ⟨p, q, hA0, hV, rfl, hfz, hnd⟩ := hW
  have hA : DataW.TrodAll enc Try.prog W 0 (fun _ => true) true Try.f4.params.toList args.toList ds p := hA0
  rw [Try.params4] at hA hval
  obtain ⟨v0, vs0, d0, ds0, p0, q0, hargs, rfl, rfl, h0, r0⟩ := trodAll_cons hA
  obtain ⟨v1, vs1, d1, ds1, p1, q1, rfl, rfl, rfl, h1, r1⟩ := trodAll_cons r0
  obtain ⟨v2, vs2, d2, ds2, p2, q2, rfl, rfl, rfl, h2, r2⟩ := trodAll_cons r1
  obtain ⟨rfl, rfl, rfl⟩ := trodAll_nil r2
  obtain rfl : args = #[v0, v1, v2] := by cases args; simp_all
  obtain ⟨rfl, rfl⟩ := trodVars_none hV
  clear hargs
  obtain ⟨a0, rfl, rfl, rfl, w0⟩ := open_int Try.underlying3 (hval 0 3 v0 rfl rfl) h0
  obtain ⟨fu1, hf1⟩ := h1
  obtain ⟨a1, hx1⟩ := rdv_sl Try.underlying22 (rd_slice Try.underlying22 (by kernel_rfl) (of_decide_eq_true (by kernel_rfl)) (by decide) rdAnswer (rAnswer_ok).len) (hval 1 22 v1 rfl rfl) hf1 (fun q hq => by simpa using List.all_eq_true.1 hsz0 q (DataW.weights_mem_each (j := 1) rfl rfl q hq))
  obtain ⟨fu2, hf2⟩ := h2
  obtain ⟨a2, hx2⟩ := rdv_sl Try.underlying32 (rd_slice Try.underlying32 (by kernel_rfl) (of_decide_eq_true (by kernel_rfl)) (by decide) rdbool (rBool_ok).len) (hval 2 32 v2 rfl rfl) hf2 (fun q hq => by simpa using List.all_eq_true.1 hsz0 q (DataW.weights_mem_each (j := 2) rfl rfl q hq))
  refine (walk_statFeed W a0 w0 a1 _ hx1 a2 _ hx2).mono fun e W' ⟨he, hg⟩ => ?_
  subst he
  exact ⟨_, rfl, law_post hW' rfl rfl rfl Try.underlying4 law_laid (by kernel_rfl) hg⟩

theorem statFeed_holds : Rows.StatFeedSaid :=
  OpenClaim.holds_of_wide 4 Try.f4 rfl rfl rfl rfl rfl rfl rfl ⟨rfl, rfl, rfl, rfl, rfl⟩ rfl rfl rfl rfl rfl (by kernel_rfl) Try.func4 (by kernel_rfl)
    (of_decide_eq_true (by kernel_rfl)) (by unfold Func.isWrapper; first | (rw [if_pos (by decide +kernel)]; kernel_rfl) | (rw [if_neg (by decide +kernel)]; exact ⟨rfl, rfl⟩))
    (fun os started H enc _ => lifted_statFeed os started H enc)
end Go.Proofs.Ytmkgiaheeebbbaa
