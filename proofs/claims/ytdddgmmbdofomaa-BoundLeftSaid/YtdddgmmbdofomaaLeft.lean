/- bound.Left, and how a state with more versions fits. Conditions: the counts are at most a million, the numbers at most 2^40. -/
import Derived.Test.YtdddgmmbdofomaaMore
namespace Go.Proofs.Ytdddgmmbdofomaa
open Go.RowKit Go.Deep

def leftOf (st : State) (q r : Int) : Int := if fitsOf st q r = 0 then min (min ((q - ((120 * smallOf st + 1020 * largeOf st : Nat) : Int)) / 1020) ((r - ((3 * smallOf st + 18 * largeOf st : Nat) : Int)) / 18)) 1048576 else 0

theorem takes18 (w : World) : Calls Try.prog 21 #[.int .i64 1020] w fun e w' => e = .returned (.int .i64 18) ∧ Below w.heap.size w w' := (takes_any 1020 w (by omega)).mono (by
  rintro e w' ⟨rfl, rfl⟩
  exact ⟨rfl, Below.refl _ _⟩)

theorem left_any (st : State) (q r : Int) (hq : 0 ≤ q ∧ q ≤ 4294967296) (hr : 0 ≤ r ∧ r ≤ 4294967296) (h1 : smallOf st ≤ 1000000) (h2 : largeOf st ≤ 1000000) (cs : List Value) (w : World) (S : Nat → Prop) (h : rState S w cs st) :
    Calls Try.prog 8 #[.agg cs.toArray, .int .i64 q, .int .i64 r] w fun e w' => e = .returned (.int .i64 (leftOf st q r)) ∧ Below w.heap.size w w' := by
  have hR := h
  obtain ⟨st_A1, st_c1, st_A2, st_c2, st_A3, st_c3, rfl, st_turn_ok, st_users_l, st_users_m, st_users_n, st_users_s, st_deposits_l, st_deposits_m, st_deposits_n, st_deposits_s, st_folders_l, st_folders_m, st_folders_n, st_folders_s⟩ := open_State h
  obtain ⟨w0, hw0, cw0, fzw0, Bw0, qw0⟩ := boxed w #[.int .i64 st.turn, .slice st_A1 st.users.length st_c1, .slice st_A2 st.deposits.length st_c2, .slice st_A3 st.folders.length st_c3] 26
  have w0_0 := cw0 0 _ rfl
  have w0_1 := cw0 1 _ rfl
  have w0_2 := cw0 2 _ rfl
  have w0_3 := cw0 3 _ rfl
  clear cw0
  have zw0 := Bw0.size
  have k0 := held_cells w0_0
  have k1 := held_cells w0_1
  have k2 := held_cells w0_2
  have k3 := held_cells w0_3
  by_cases hf : fitsOf st q r = 0
  · obtain ⟨b, hb⟩ : ∃ b : Int, b = ((120 * smallOf st + 1020 * largeOf st : Nat) : Int) := ⟨_, rfl⟩
    obtain ⟨m, hm⟩ : ∃ m : Int, m = ((3 * smallOf st + 18 * largeOf st : Nat) : Int) := ⟨_, rfl⟩
    have hbq : 0 ≤ b ∧ b ≤ q := by
      unfold fitsOf at hf
      split at hf
      · cases hf
      · omega
    have hmr : 0 ≤ m ∧ m ≤ r := by
      unfold fitsOf at hf
      split at hf
      · cases hf
      · split at hf
        · cases hf
        · omega
    have F : Hid (leftOf st q r = min (min ((q - b) / 1020) ((r - m) / 18)) 1048576) := by
      show _ = _
      unfold leftOf
      rw [if_pos hf, hb, hm]
    have hfH := Lib.hid hf
    have cb : ∀ (cs : List Value) (w : World) (S : Nat → Prop), rState S w cs st → Calls Try.prog 15 #[.agg cs.toArray] w fun e w' => e = .returned (.int .i64 b) ∧ Below w.heap.size w w' := by
      intro cs w S h
      rw [hb]
      exact bytes_any st h1 h2 cs w S h
    have cm : ∀ (cs : List Value) (w : World) (S : Nat → Prop), rState S w cs st → Calls Try.prog 16 #[.agg cs.toArray] w fun e w' => e = .returned (.int .i64 m) ∧ Below w.heap.size w w' := by
      intro cs w S h
      rw [hm]
      exact homes_any st h1 h2 cs w S h
    have H1 := Lib.hid h1
    have H2 := Lib.hid h2
    clear hb hm hf h1 h2
    go_enter Try.func8, Try.ntmps8
    go_wp2_with fail
    refine Calls.mono (fits_any st q r H1.out H2.out _ _ S (rState_keep hR (kept_of Bw0))) ?_
    rintro e w1 ⟨rfl, hb1⟩
    rw [hfH.out]
    obtain ⟨hc1, hf1⟩ := bcell hb1
    go_wp2
    have e1 : IntKind.i64.wrap (q - b) = q - b := IntWalk.i64_in _ (by omega)
    have e2 : IntKind.i64.wrap (r - m) = r - m := IntWalk.i64_in _ (by omega)
    have e3 : IntKind.i64.wrap ((q - b).tdiv 1020) = (q - b) / 1020 := by rw [Int.tdiv_eq_ediv_of_nonneg (by omega)]; exact IntWalk.i64_in _ (by omega)
    have e4 : IntKind.i64.wrap ((r - m).tdiv 18) = (r - m) / 18 := by rw [Int.tdiv_eq_ediv_of_nonneg (by omega)]; exact IntWalk.i64_in _ (by omega)
    go_region_held3 (fun W => Below w0.heap.size w0 W) (first | assumption | exact (Below.refl _ _).drew | exact Below.drew (by assumption) | exact bel_call (by assumption) (by assumption)) (first | (go_at_call 15; refine Calls.mono (cb _ _ S (rState_keep hR (kept_of (bel_call Bw0 (by assumption))))) ?_; rintro e Wh0 ⟨rfl, hh0⟩) | (go_at_call 16; refine Calls.mono (cm _ _ S (rState_keep hR (kept_of (bel_call Bw0 (by assumption))))) ?_; rintro e Wh1 ⟨rfl, hh1⟩) | (go_at_call 21; refine Calls.mono (takes18 _) ?_; rintro e Wh2 ⟨rfl, hh2⟩))
    go_wp2
    go_ret
    exact ⟨ret_int (by rw [F.out]; exact (Int.min_assoc _ _ _).symm), bel_call Bw0 (by assumption)⟩
  · have F : Hid (leftOf st q r = 0) := by
      show _ = _
      unfold leftOf
      rw [if_neg hf]
    obtain ⟨f, hfe⟩ : ∃ f : Int, f = fitsOf st q r := ⟨_, rfl⟩
    have hfn : (f == 0) = false := beq_eq_false_iff_ne.2 (by rw [hfe]; exact hf)
    have hf0 : f ≠ 0 := by rw [hfe]; exact hf
    have hfH := Lib.hid hfe
    have H1 := Lib.hid h1
    have H2 := Lib.hid h2
    clear hf h1 h2 hfe
    go_enter Try.func8, Try.ntmps8
    go_wp2_with fail
    refine Calls.mono (fits_any st q r H1.out H2.out _ _ S (rState_keep hR (kept_of Bw0))) ?_
    rintro e w1 ⟨rfl, hb1⟩
    rw [← hfH.out]
    go_wp2
    go_ret
    exact ⟨ret_int (by rw [F.out]), bel_call Bw0 hb1⟩
end Go.Proofs.Ytdddgmmbdofomaa
