/- BoundCounts: for every input the law returns true and leaves its arguments as they were. No condition. -/
import Derived.Test.YtdddgmmbdofomaaBoundP
import Derived.Test.YtdddgmmbdofomaaLaw
namespace Go.Proofs.Ytdddgmmbdofomaa
open Go.ChangeShapes Go.WideShapes Go.ChangeAt Go.RowKit Go.Deep

set_option maxRecDepth 100000 in
set_option maxHeartbeats 4000000 in
theorem walk_boundCounts (w : World) (st : State) (cs : List Value) (h : rState (fun _ => True) w cs st) (q : Int) (_wq : (Lit.int .i64 q).wf = true) (r : Int) (_wr : (Lit.int .i64 r).wf = true) :
    Calls Try.prog 5 #[.agg cs.toArray, .int .i64 q, .int .i64 r] w fun e w' => e = .returned (.bool true) ∧ Below w.heap.size w w' := by
  have hR := h
  obtain ⟨st_A1, st_c1, st_A2, st_c2, st_A3, st_c3, rfl, st_turn_ok, st_users_l, st_users_m, st_users_n, st_users_s, st_deposits_l, st_deposits_m, st_deposits_n, st_deposits_s, st_folders_l, st_folders_m, st_folders_n, st_folders_s⟩ := open_State h
  cases hf : few st
  · have HF := Lib.hid hf
    clear hf
    obtain ⟨w0, hw0, cw0, fzw0, Bw0, qw0⟩ := boxed w #[.int .i64 st.turn, .slice st_A1 st.users.length st_c1, .slice st_A2 st.deposits.length st_c2, .slice st_A3 st.folders.length st_c3] 26
    have w0_0 := cw0 0 _ rfl
    have w0_1 := cw0 1 _ rfl
    have w0_2 := cw0 2 _ rfl
    have w0_3 := cw0 3 _ rfl
    clear cw0
    have zw0 := Bw0.size
    go_enter Try.func5, Try.ntmps5
    go_wp2_with fail
    refine Calls.mono (awake_any _) ?_
    rintro e w1 ⟨rfl, hb1⟩
    obtain ⟨hc1, hf1⟩ := bcell hb1
    go_wp2_with fail
    refine Calls.mono (few_any st _ _ (fun _ => True) (rState_keep hR (kept_of (bel_call Bw0 hb1)))) ?_
    rintro e w2 ⟨rfl, hb2⟩
    rw [HF.out]
    go_wp2
    go_ret
    exact ⟨rfl, bel_call Bw0 (bel_call hb1 hb2)⟩
  · obtain ⟨n1, n2, n3⟩ := small_counts st (few_true st hf)
    have HF := Lib.hid hf
    clear hf
    obtain ⟨w0, hw0, cw0, fzw0, Bw0, qw0⟩ := boxed w #[.int .i64 st.turn, .slice st_A1 st.users.length st_c1, .slice st_A2 st.deposits.length st_c2, .slice st_A3 st.folders.length st_c3] 26
    have w0_0 := cw0 0 _ rfl
    have w0_1 := cw0 1 _ rfl
    have w0_2 := cw0 2 _ rfl
    have w0_3 := cw0 3 _ rfl
    clear cw0
    have zw0 := Bw0.size
    have k0 := held_cells w0_0
    have k1 := held_cells w0_1
    have k2 := held_cells w0_2
    have k3 := held_cells w0_3
    go_enter Try.func5, Try.ntmps5
    go_wp2_with fail
    refine Calls.mono (awake_any _) ?_
    rintro e w1 ⟨rfl, hb1⟩
    go_wp2_with fail
    refine Calls.mono (few_any st _ _ (fun _ => True) (rState_keep hR (kept_of (bel_call Bw0 hb1)))) ?_
    rintro e w2 ⟨rfl, hb2⟩
    have B2 := bel_call hb1 hb2
    clear hb1 hb2
    rw [HF.out]
    go_wp2_with fail
    refine Calls.mono (count_any st n1 n2 _ _ (fun _ => True) (rState_keep hR (kept_of (bel_call Bw0 B2)))) ?_
    rintro e w3 ⟨rfl, hb3⟩
    have B3 := bel_call B2 hb3
    clear hb3 B2
    go_wp2
    go_region_held3 (fun W => Below w0.heap.size w0 W) (first | exact (Below.refl _ _).drew | exact Below.drew (by assumption) | exact bel_call (by assumption) (by assumption)) (first | (go_at_call 13; refine Calls.mono (small_any st n1 _ _ (fun _ => True) (rState_keep hR (kept_of (bel_call Bw0 (by assumption))))) ?_; rintro e Wh0 ⟨rfl, hh0⟩) | (go_at_call 14; refine Calls.mono (large_any st n2 _ _ (fun _ => True) (rState_keep hR (kept_of (bel_call Bw0 (by assumption))))) ?_; rintro e Wh1 ⟨rfl, hh1⟩))
    go_wp2
    have e1 : IntKind.i64.wrap (120 * (smallOf st : Int)) = 120 * (smallOf st : Int) := IntWalk.i64_in _ (by omega)
    have e2 : IntKind.i64.wrap (1020 * (largeOf st : Int)) = 1020 * (largeOf st : Int) := IntWalk.i64_in _ (by omega)
    have e3 : IntKind.i64.wrap (120 * (smallOf st : Int) + 1020 * (largeOf st : Int)) = 120 * (smallOf st : Int) + 1020 * (largeOf st : Int) := IntWalk.i64_in _ (by omega)
    have e4 : IntKind.i64.wrap (3 * (smallOf st : Int)) = 3 * (smallOf st : Int) := IntWalk.i64_in _ (by omega)
    have e5 : IntKind.i64.wrap (18 * (largeOf st : Int)) = 18 * (largeOf st : Int) := IntWalk.i64_in _ (by omega)
    have e6 : IntKind.i64.wrap (3 * (smallOf st : Int) + 18 * (largeOf st : Int)) = 3 * (smallOf st : Int) + 18 * (largeOf st : Int) := IntWalk.i64_in _ (by omega)
    go_region_held3 (fun W => Below w0.heap.size w0 W) (first | exact (Below.refl _ _).drew | exact Below.drew (by assumption) | exact bel_call (by assumption) (by assumption)) (first | (go_at_call 15; refine Calls.mono (bytes_any st n1 n2 _ _ (fun _ => True) (rState_keep hR (kept_of (bel_call Bw0 (by assumption))))) ?_; rintro e Wh0 ⟨rfl, hh0⟩) | (go_at_call 16; refine Calls.mono (homes_any st n1 n2 _ _ (fun _ => True) (rState_keep hR (kept_of (bel_call Bw0 (by assumption))))) ?_; rintro e Wh1 ⟨rfl, hh1⟩) | (go_at_call 9; refine Calls.mono (fits_any st q r n1 n2 _ _ (fun _ => True) (rState_keep hR (kept_of (bel_call Bw0 (by assumption))))) ?_; rintro e Wh2 ⟨rfl, hh2⟩) | (go_at_call 17; refine Calls.mono (reffits_any st q r n1 n2 _ _ (fun _ => True) (rState_keep hR (kept_of (bel_call Bw0 (by assumption))))) ?_; rintro e Wh3 ⟨rfl, hh3⟩) | (go_at_call 18; refine Calls.mono (Within_any st n3 _ _ (fun _ => True) (rState_keep hR (kept_of (bel_call Bw0 (by assumption))))) ?_; rintro e Wh4 ⟨rfl, hh4⟩) | (go_at_call 19; refine Calls.mono (refwithin_any st _ _ (fun _ => True) (rState_keep hR (kept_of (bel_call Bw0 (by assumption))))) ?_; rintro e Wh5 ⟨rfl, hh5⟩))
    go_wp2
    go_ret
    exact ⟨rfl, bel_call Bw0 (by assumption)⟩

set_option maxRecDepth 100000 in
theorem lifted_boundCounts (os : Os) (started : os.Started) (H : Type) (enc : TypeId × Value → H) :
    ReturnsInHanded {} Try.checked os 5 .any (Rows.boundCountsSpec.pre6 enc Try.prog Try.f5 Rows.boundCountsRow.domain false) (Rows.boundCountsSpec.post enc Try.prog Try.f5 false true false false) := by
  refine returnsInHanded_of_change_sized (C := Try.checked) law_own started (by kernel_rfl) Try.func5
    (ChangeSpec.witness6 (enc := enc) (C := Try.checked) false ⟨#[], #[.agg #[.int .i64 0, .slice none 0 0, .slice none 0 0, .slice none 0 0], .int .i64 0, .int .i64 0], []⟩ 8 (by kernel_rfl) (by kernel_rfl) (by kernel_rfl) (by kernel_rfl)) ?_
  intro W base args ds gs before hval0 hW hcnd hsz0 _
  have hval : ∀ (j : Nat) t v, Try.f5.params[j]? = some t → args[j]? = some v → Value.okWide Try.prog W .any base t v := hval0
  have hW' := hW
  obtain ⟨p, q, hA0, hV, rfl, hfz, hnd⟩ := hW
  have hA : DataW.TrodAll enc Try.prog W 0 (fun _ => true) true Try.f5.params.toList args.toList ds p := hA0
  rw [Try.params5] at hA hval
  obtain ⟨v0, vs0, d0, ds0, p0, q0, hargs, rfl, rfl, h0, r0⟩ := trodAll_cons hA
  obtain ⟨v1, vs1, d1, ds1, p1, q1, rfl, rfl, rfl, h1, r1⟩ := trodAll_cons r0
  obtain ⟨v2, vs2, d2, ds2, p2, q2, rfl, rfl, rfl, h2, r2⟩ := trodAll_cons r1
  obtain ⟨rfl, rfl, rfl⟩ := trodAll_nil r2
  obtain rfl : args = #[v0, v1, v2] := by cases args; simp_all
  obtain ⟨rfl, rfl⟩ := trodVars_none hV
  clear hargs
  obtain ⟨cs0, rfl, _⟩ := okWide_struct Try.underlying26 (hval 0 26 v0 rfl rfl)
  obtain ⟨fu0, hf0⟩ := h0
  obtain ⟨a0, hx0⟩ := rdState hf0 (fun q hq => by simpa using List.all_eq_true.1 hsz0 q (DataW.weights_mem_each (j := 0) rfl rfl q hq))
  obtain ⟨l0, rfl⟩ : ∃ l : List Value, cs0 = l.toArray := ⟨cs0.toList, by simp⟩
  rw [show (Value.agg l0.toArray).cells.toList = l0 from by simp [Value.cells]] at hx0
  obtain ⟨a1, rfl, rfl, rfl, w1⟩ := open_int Try.underlying3 (hval 1 3 v1 rfl rfl) h1
  obtain ⟨a2, rfl, rfl, rfl, w2⟩ := open_int Try.underlying3 (hval 2 3 v2 rfl rfl) h2
  refine (walk_boundCounts W a0 _ hx0 a1 w1 a2 w2).mono fun e W' ⟨he, hg⟩ => ?_
  subst he
  exact ⟨_, rfl, law_post hW' rfl rfl rfl Try.underlying4 law_laid (by kernel_rfl) hg⟩

theorem boundCounts_holds : Rows.BoundCountsSaid :=
  OpenClaim.holds_of_wide 5 Try.f5 rfl rfl rfl rfl rfl rfl rfl ⟨rfl, rfl, rfl, rfl, rfl⟩ rfl rfl rfl rfl rfl (by kernel_rfl) Try.func5 (by kernel_rfl)
    (of_decide_eq_true (by kernel_rfl)) (by unfold Func.isWrapper; first | (rw [if_pos (by decide +kernel)]; kernel_rfl) | (rw [if_neg (by decide +kernel)]; exact ⟨rfl, rfl⟩))
    (fun os started H enc _ => lifted_boundCounts os started H enc)
end Go.Proofs.Ytdddgmmbdofomaa
