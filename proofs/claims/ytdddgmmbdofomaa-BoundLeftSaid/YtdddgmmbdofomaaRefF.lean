/- Layer bound: the document's answer on whether a state fits. Conditions: the counts are at most a million. -/
import Derived.Test.YtdddgmmbdofomaaBoundD
import Derived.Deep.RegionHeld3
namespace Go.Proofs.Ytdddgmmbdofomaa
open Go.RowKit Go.Deep

theorem held_cells {w0 : World} {b o : Nat} {v : Value} (h : w0.cell? ⟨b, o, none⟩ = some v) : ∀ W, Below w0.heap.size w0 W → W.cell? ⟨b, o, none⟩ = some v := fun _ hb => (hb.cell (p := ⟨b, o, none⟩) (cell_lt h)).trans h

theorem reffits_any (st : State) (q r : Int) (h1 : smallOf st ≤ 1000000) (h2 : largeOf st ≤ 1000000) (cs : List Value) (w : World) (S : Nat → Prop) (h : rState S w cs st) :
    Calls Try.prog 17 #[.agg cs.toArray, .int .i64 q, .int .i64 r] w fun e w' => e = .returned (.int .i64 (fitsOf st q r)) ∧ Below w.heap.size w w' := by
  have hR := h
  obtain ⟨st_A1, st_c1, st_A2, st_c2, st_A3, st_c3, rfl, st_turn_ok, st_users_l, st_users_m, st_users_n, st_users_s, st_deposits_l, st_deposits_m, st_deposits_n, st_deposits_s, st_folders_l, st_folders_m, st_folders_n, st_folders_s⟩ := open_State h
  have H1 := Lib.hid h1
  have H2 := Lib.hid h2
  by_cases c1 : q < ((120 * smallOf st + 1020 * largeOf st : Nat) : Int)
  · have F := Lib.hid (show fitsOf st q r = 33 from by simp only [fitsOf, if_pos c1])
    obtain ⟨w0, hw0, cw0, fzw0, Bw0, qw0⟩ := boxed w #[.int .i64 st.turn, .slice st_A1 st.users.length st_c1, .slice st_A2 st.deposits.length st_c2, .slice st_A3 st.folders.length st_c3] 26
    have w0_0 := cw0 0 _ rfl
    have w0_1 := cw0 1 _ rfl
    have w0_2 := cw0 2 _ rfl
    have w0_3 := cw0 3 _ rfl
    clear cw0
    have zw0 := Bw0.size
    have k0 := held_cells w0_0
    have k1 := held_cells w0_1
    have k2 := held_cells w0_2
    have k3 := held_cells w0_3
    go_enter Try.func17, Try.ntmps17
    go_wp2
    go_region_held3 (fun W => Below w0.heap.size w0 W) (first | exact (Below.refl _ _).drew | exact Below.drew (by assumption) | exact bel_call (by assumption) (by assumption)) (first | (go_at_call 13; refine Calls.mono (small_any st H1.out _ _ S (rState_keep hR (kept_of (bel_call Bw0 (by assumption))))) ?_; rintro e Wh0 ⟨rfl, hh0⟩) | (go_at_call 14; refine Calls.mono (large_any st H2.out _ _ S (rState_keep hR (kept_of (bel_call Bw0 (by assumption))))) ?_; rintro e Wh1 ⟨rfl, hh1⟩))
    simp (disch := omega) only [IntWalk.i64_in]
    go_wp2
    go_ret
    exact ⟨by rw [F.out]; rfl, bel_call Bw0 (by assumption)⟩
  · by_cases c2 : r < ((3 * smallOf st + 18 * largeOf st : Nat) : Int)
    · have F := Lib.hid (show fitsOf st q r = 32 from by simp only [fitsOf, if_neg c1, if_pos c2])
      obtain ⟨w0, hw0, cw0, fzw0, Bw0, qw0⟩ := boxed w #[.int .i64 st.turn, .slice st_A1 st.users.length st_c1, .slice st_A2 st.deposits.length st_c2, .slice st_A3 st.folders.length st_c3] 26
      have w0_0 := cw0 0 _ rfl
      have w0_1 := cw0 1 _ rfl
      have w0_2 := cw0 2 _ rfl
      have w0_3 := cw0 3 _ rfl
      clear cw0
      have zw0 := Bw0.size
      have k0 := held_cells w0_0
      have k1 := held_cells w0_1
      have k2 := held_cells w0_2
      have k3 := held_cells w0_3
      go_enter Try.func17, Try.ntmps17
      go_wp2
      go_region_held3 (fun W => Below w0.heap.size w0 W) (first | exact (Below.refl _ _).drew | exact Below.drew (by assumption) | exact bel_call (by assumption) (by assumption)) (first | (go_at_call 13; refine Calls.mono (small_any st H1.out _ _ S (rState_keep hR (kept_of (bel_call Bw0 (by assumption))))) ?_; rintro e Wh0 ⟨rfl, hh0⟩) | (go_at_call 14; refine Calls.mono (large_any st H2.out _ _ S (rState_keep hR (kept_of (bel_call Bw0 (by assumption))))) ?_; rintro e Wh1 ⟨rfl, hh1⟩))
      simp (disch := omega) only [IntWalk.i64_in]
      go_wp2
      go_region_held3 (fun W => Below w0.heap.size w0 W) (first | exact (Below.refl _ _).drew | exact Below.drew (by assumption) | exact bel_call (by assumption) (by assumption)) (first | (go_at_call 13; refine Calls.mono (small_any st H1.out _ _ S (rState_keep hR (kept_of (bel_call Bw0 (by assumption))))) ?_; rintro e Wh0 ⟨rfl, hh0⟩) | (go_at_call 14; refine Calls.mono (large_any st H2.out _ _ S (rState_keep hR (kept_of (bel_call Bw0 (by assumption))))) ?_; rintro e Wh1 ⟨rfl, hh1⟩))
      simp (disch := omega) only [IntWalk.i64_in]
      go_wp2
      go_ret
      exact ⟨by rw [F.out]; rfl, bel_call Bw0 (by assumption)⟩
    · have F := Lib.hid (show fitsOf st q r = 0 from by simp only [fitsOf, if_neg c1, if_neg c2])
      obtain ⟨w0, hw0, cw0, fzw0, Bw0, qw0⟩ := boxed w #[.int .i64 st.turn, .slice st_A1 st.users.length st_c1, .slice st_A2 st.deposits.length st_c2, .slice st_A3 st.folders.length st_c3] 26
      have w0_0 := cw0 0 _ rfl
      have w0_1 := cw0 1 _ rfl
      have w0_2 := cw0 2 _ rfl
      have w0_3 := cw0 3 _ rfl
      clear cw0
      have zw0 := Bw0.size
      have k0 := held_cells w0_0
      have k1 := held_cells w0_1
      have k2 := held_cells w0_2
      have k3 := held_cells w0_3
      go_enter Try.func17, Try.ntmps17
      go_wp2
      go_region_held3 (fun W => Below w0.heap.size w0 W) (first | exact (Below.refl _ _).drew | exact Below.drew (by assumption) | exact bel_call (by assumption) (by assumption)) (first | (go_at_call 13; refine Calls.mono (small_any st H1.out _ _ S (rState_keep hR (kept_of (bel_call Bw0 (by assumption))))) ?_; rintro e Wh0 ⟨rfl, hh0⟩) | (go_at_call 14; refine Calls.mono (large_any st H2.out _ _ S (rState_keep hR (kept_of (bel_call Bw0 (by assumption))))) ?_; rintro e Wh1 ⟨rfl, hh1⟩))
      simp (disch := omega) only [IntWalk.i64_in]
      go_wp2
      go_region_held3 (fun W => Below w0.heap.size w0 W) (first | exact (Below.refl _ _).drew | exact Below.drew (by assumption) | exact bel_call (by assumption) (by assumption)) (first | (go_at_call 13; refine Calls.mono (small_any st H1.out _ _ S (rState_keep hR (kept_of (bel_call Bw0 (by assumption))))) ?_; rintro e Wh0 ⟨rfl, hh0⟩) | (go_at_call 14; refine Calls.mono (large_any st H2.out _ _ S (rState_keep hR (kept_of (bel_call Bw0 (by assumption))))) ?_; rintro e Wh1 ⟨rfl, hh1⟩))
      simp (disch := omega) only [IntWalk.i64_in]
      go_wp2
      go_ret
      exact ⟨by rw [F.out]; rfl, bel_call Bw0 (by assumption)⟩
end Go.Proofs.Ytdddgmmbdofomaa
