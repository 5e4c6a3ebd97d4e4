/- BoundLeft: for every input the law returns true and leaves its arguments as they were. No condition. -/
import Derived.Test.YtdddgmmbdofomaaLeft
import Derived.Test.YtdddgmmbdofomaaLaw
namespace Go.Proofs.Ytdddgmmbdofomaa
open Go.ChangeShapes Go.WideShapes Go.ChangeAt Go.RowKit Go.Deep

theorem sumOf_more1 (l : List Folder) (n : Nat) : sumOf small1 (moreFolders l n) = sumOf small1 l := by
  rcases l with _ | ⟨f, l⟩
  · rfl
  · simp only [moreFolders, sumOf, small1, moreFolder]
    rcases f.items with _ | ⟨x, it⟩ <;> simp [moreItems]
theorem small_more (st : State) (n : Nat) : smallOf (moreOf st n) = smallOf st := by
  simp only [smallOf, moreOf, sumOf_more1]
  rcases st.folders with _ | ⟨f, l⟩ <;> simp [moreFolders]
theorem large_more (st : State) (n : Nat) {f : Folder} {l : List Folder} (hf : st.folders = f :: l) {x : Item} {it : List Item} (hi : f.items = x :: it) : largeOf (moreOf st n) = largeOf st + n := by
  simp only [largeOf, moreOf, hf, moreFolders, sumOf, large1, moreFolder, hi, moreItems, moreItem, verCount, List.length_append, List.length_replicate]
  omega

theorem large_le (st : State) (n : Nat) : largeOf (moreOf st n) ≤ largeOf st + n := by
  rcases hfo : st.folders with _ | ⟨g, l⟩
  · simp [largeOf, moreOf, hfo, moreFolders, sumOf]
  · rcases hit : g.items with _ | ⟨x, it⟩
    · simp [largeOf, moreOf, hfo, moreFolders, sumOf, large1, moreFolder, hit, moreItems]
    · exact Nat.le_of_eq (large_more st n hfo hit)
theorem more_bounds (st : State) (h : Small st) : st.folders.length ≤ 1000 ∧ (∀ f ∈ st.folders, f.items.length ≤ 1000) ∧ (∀ f ∈ st.folders, ∀ x ∈ f.items, x.versions.length ≤ 1000) ∧ (∀ n, n ≤ 3000 → largeOf (moreOf st n) ≤ 1000000) ∧ True := by
  have h8 := h.few8
  have ha := h.all
  refine ⟨by omega, fun f hf => ?_, fun f hf x hx => ?_, fun n hn => ?_, trivial⟩
  · have := sum5_mem _ f hf
    unfold size5 at this
    omega
  · have := ((h.short f hf).item x hx).2
    omega
  · have h1 := large_le st n
    have h2 := (sums_le st.folders h.short).2.1
    have h3 : largeOf st = sumOf large1 st.folders := rfl
    omega
theorem left_fits (st : State) (q r : Int) (hq : 0 ≤ q ∧ q ≤ 1048576) (hr : 0 ≤ r) {f : Folder} (hl : st.folders.length ≠ 0) (hi : f.items.length ≠ 0) (hf : st.folders[0]? = some f) (hfit : fitsOf st q r = 0) :
    ∃ n : Nat, leftOf st q r = n ∧ n ≤ 2000 ∧ fitsOf (moreOf st n) q r = 0 ∧ fitsOf (moreOf st (n + 1)) q r ≠ 0 := by
  have hb : ((120 * smallOf st + 1020 * largeOf st : Nat) : Int) ≤ q ∧ ((3 * smallOf st + 18 * largeOf st : Nat) : Int) ≤ r := by
    unfold fitsOf at hfit
    split at hfit
    · cases hfit
    · split at hfit
      · cases hfit
      · omega
  obtain ⟨n, hn⟩ : ∃ n : Nat, (n : Int) = leftOf st q r := by
    unfold leftOf
    rw [if_pos hfit]
    exact ⟨_, Int.toNat_of_nonneg (by omega)⟩
  have hn' := hn
  unfold leftOf at hn'
  rw [if_pos hfit] at hn'
  have hlg : ∀ m, largeOf (moreOf st m) = largeOf st + m := by
    intro m
    rcases hfo : st.folders with _ | ⟨g, l⟩
    · rw [hfo] at hl; simp at hl
    · rw [hfo] at hf
      simp at hf
      subst hf
      rcases hit : g.items with _ | ⟨x, it⟩
      · rw [hit] at hi; simp at hi
      · exact large_more st m hfo hit
  refine ⟨n, hn.symm, by omega, ?_, ?_⟩
  · unfold fitsOf
    rw [small_more, hlg, if_neg (by omega), if_neg (by omega)]
  · unfold fitsOf
    rw [small_more, hlg]
    split
    · simp
    · split
      · simp
      · omega
set_option maxRecDepth 100000 in
set_option maxHeartbeats 4000000 in
theorem walk_boundLeft (w : World) (st : State) (cs : List Value) (h : rState (fun _ => True) w cs st) (q : Int) (wq : (Lit.int .u32 q).wf = true) (r : Int) (wr0 : (Lit.int .u16 r).wf = true) :
    Calls Try.prog 3 #[.agg cs.toArray, .int .u32 q, .int .u16 r] w fun e w' => e = .returned (.bool true) ∧ Below w.heap.size w w' := by
  have hR := h
  obtain ⟨st_A1, st_c1, st_A2, st_c2, st_A3, st_c3, rfl, st_turn_ok, st_users_l, st_users_m, st_users_n, st_users_s, st_deposits_l, st_deposits_m, st_deposits_n, st_deposits_s, st_folders_l, st_folders_m, st_folders_n, st_folders_s⟩ := open_State h
  have hq : 0 ≤ q ∧ q ≤ 4294967295 := by
    have h := wq
    simp [Lit.wf, IntKind.min, IntKind.max, IntKind.signed, IntKind.bits] at h
    omega
  have hr : 0 ≤ r ∧ r ≤ 65535 := by
    have h := wr0
    simp [Lit.wf, IntKind.min, IntKind.max, IntKind.signed, IntKind.bits] at h
    omega
  cases hf : few st
  · have HF := Lib.hid hf
    clear hf
    obtain ⟨w0, hw0, cw0, fzw0, Bw0, qw0⟩ := boxed w #[.int .i64 st.turn, .slice st_A1 st.users.length st_c1, .slice st_A2 st.deposits.length st_c2, .slice st_A3 st.folders.length st_c3] 26
    have w0_0 := cw0 0 _ rfl
    have w0_1 := cw0 1 _ rfl
    have w0_2 := cw0 2 _ rfl
    have w0_3 := cw0 3 _ rfl
    clear cw0
    have zw0 := Bw0.size
    go_enter Try.func3, Try.ntmps3
    go_wp2_with fail
    refine Calls.mono (awake_any _) ?_
    rintro e w1 ⟨rfl, hb1⟩
    obtain ⟨hc1, hf1⟩ := bcell hb1
    go_wp2_with fail
    refine Calls.mono (few_any st _ _ (fun _ => True) (rState_keep hR (kept_of (bel_call Bw0 hb1)))) ?_
    rintro e w2 ⟨rfl, hb2⟩
    rw [HF.out]
    go_wp2
    go_ret
    exact ⟨rfl, bel_call Bw0 (bel_call hb1 hb2)⟩
  · have SM := few_true st hf
    obtain ⟨n1, n2, n3⟩ := small_counts st SM
    have HF := Lib.hid hf
    clear hf
    by_cases hl0 : st.folders.length = 0
    · have hl0' : ((st.folders.length : Int) == 0) = true := beq_iff_eq.2 (by omega)
      clear hl0
      obtain ⟨w0, hw0, cw0, fzw0, Bw0, qw0⟩ := boxed w #[.int .i64 st.turn, .slice st_A1 st.users.length st_c1, .slice st_A2 st.deposits.length st_c2, .slice st_A3 st.folders.length st_c3] 26
      have w0_0 := cw0 0 _ rfl
      have w0_1 := cw0 1 _ rfl
      have w0_2 := cw0 2 _ rfl
      have w0_3 := cw0 3 _ rfl
      clear cw0
      have zw0 := Bw0.size
      have k0 := held_cells w0_0
      have k1 := held_cells w0_1
      have k2 := held_cells w0_2
      have k3 := held_cells w0_3
      go_enter Try.func3, Try.ntmps3
      go_wp2_with fail
      refine Calls.mono (awake_any _) ?_
      rintro e w1 ⟨rfl, hb1⟩
      go_wp2_with fail
      refine Calls.mono (few_any st _ _ (fun _ => True) (rState_keep hR (kept_of (bel_call Bw0 hb1)))) ?_
      rintro e w2 ⟨rfl, hb2⟩
      have B2 := bel_call hb1 hb2
      clear hb1 hb2
      obtain ⟨hc2, hf2⟩ := bcell B2
      rw [HF.out]
      go_wp2
      go_ret
      exact ⟨rfl, bel_call Bw0 B2⟩
    · have hl0' : ((st.folders.length : Int) == 0) = false := beq_eq_false_iff_ne.2 (by omega)
      obtain ⟨w0, hw0, cw0, fzw0, Bw0, qw0⟩ := boxed w #[.int .i64 st.turn, .slice st_A1 st.users.length st_c1, .slice st_A2 st.deposits.length st_c2, .slice st_A3 st.folders.length st_c3] 26
      have w0_0 := cw0 0 _ rfl
      have w0_1 := cw0 1 _ rfl
      have w0_2 := cw0 2 _ rfl
      have w0_3 := cw0 3 _ rfl
      clear cw0
      have zw0 := Bw0.size
      have k0 := held_cells w0_0
      have k1 := held_cells w0_1
      have k2 := held_cells w0_2
      have k3 := held_cells w0_3
      obtain ⟨f, f_b, f_o, f_A2, f_c2, f_A3, f_c3, f_A4, f_c4, f_A5, f_c5, f_A6, f_c6, f_k, f_d, f_m, rfl, f_l, f_S, f_0, f_1, f_2, f_3, f_4, f_5, f_6, f_R, f_name_le, f_turn_ok, f_manifests_l, f_manifests_m, f_manifests_n, f_manifests_s, f_epochs_l, f_epochs_m, f_epochs_n, f_epochs_s, f_items_l, f_items_m, f_items_n, f_items_s, f_wraps_l, f_wraps_m, f_wraps_n, f_wraps_s, f_links_l, f_links_m, f_links_n, f_links_s⟩ := get_Folder st_folders_s (show 0 < st.folders.length by omega) (kept_of Bw0)
      simp only [Nat.zero_mul, Nat.add_zero] at f_0 f_1 f_2 f_3 f_4 f_5 f_6
      have f_lt : f_b < w0.heap.size := by omega
      by_cases hi0 : f.items.length = 0
      · have hi0' : ((f.items.length : Int) == 0) = true := beq_iff_eq.2 (by omega)
        go_enter Try.func3, Try.ntmps3
        go_wp2_with fail
        refine Calls.mono (awake_any _) ?_
        rintro e w1 ⟨rfl, hb1⟩
        go_wp2_with fail
        refine Calls.mono (few_any st _ _ (fun _ => True) (rState_keep hR (kept_of (bel_call Bw0 hb1)))) ?_
        rintro e w2 ⟨rfl, hb2⟩
        have B2 := bel_call hb1 hb2
        clear hb1 hb2
        obtain ⟨hc2, hf2⟩ := bcell B2
        rw [HF.out]
        go_wp2
        go_ret
        exact ⟨rfl, bel_call Bw0 B2⟩
      · have hi0' : ((f.items.length : Int) == 0) = false := beq_eq_false_iff_ne.2 (by omega)
        by_cases hq20 : 1048576 < q
        · go_enter Try.func3, Try.ntmps3
          go_wp2_with fail
          refine Calls.mono (awake_any _) ?_
          rintro e w1 ⟨rfl, hb1⟩
          go_wp2_with fail
          refine Calls.mono (few_any st _ _ (fun _ => True) (rState_keep hR (kept_of (bel_call Bw0 hb1)))) ?_
          rintro e w2 ⟨rfl, hb2⟩
          have B2 := bel_call hb1 hb2
          clear hb1 hb2
          obtain ⟨hc2, hf2⟩ := bcell B2
          rw [HF.out]
          go_wp2
          go_ret
          exact ⟨rfl, bel_call Bw0 B2⟩
        · go_enter Try.func3, Try.ntmps3
          go_wp2_with fail
          refine Calls.mono (awake_any _) ?_
          rintro e w1 ⟨rfl, hb1⟩
          go_wp2_with fail
          refine Calls.mono (few_any st _ _ (fun _ => True) (rState_keep hR (kept_of (bel_call Bw0 hb1)))) ?_
          rintro e w2 ⟨rfl, hb2⟩
          have B2 := bel_call hb1 hb2
          clear hb1 hb2
          obtain ⟨hc2, hf2⟩ := bcell B2
          rw [HF.out]
          go_wp2_with fail
          refine Calls.mono (left_any st q r (by omega) (by omega) n1 n2 _ _ (fun _ => True) (rState_keep hR (kept_of (bel_call Bw0 B2)))) ?_
          rintro e w3 ⟨rfl, hb3⟩
          have B3 := bel_call B2 hb3
          obtain ⟨hc3, hf3⟩ := bcell B3
          clear hc2 hf2 hb3
          by_cases hfit : fitsOf st q r = 0
          · obtain ⟨n, hn, hn1, hn2, hn3⟩ : ∃ n : Nat, leftOf st q r = n ∧ n ≤ 2000 ∧ fitsOf (moreOf st n) q r = 0 ∧ fitsOf (moreOf st (n + 1)) q r ≠ 0 := left_fits st q r (by omega) (by omega) hl0 hi0 f_k hfit
            rw [hn]
            have HN1 := Lib.hid hn2
            obtain ⟨fo, hfe⟩ : ∃ fo : Int, fo = fitsOf (moreOf st (n + 1)) q r := ⟨_, rfl⟩
            have hf0 : fo ≠ 0 := by rw [hfe]; exact hn3
            have hfn : (fo == 0) = false := beq_eq_false_iff_ne.2 hf0
            have hfd : decide (fo = 0) = false := decide_eq_false hf0
            have HN2 := Lib.hid hfe
            have HF0 := Lib.hid hfit
            obtain ⟨mb1, mb2, mb3, mb4, mb5⟩ := more_bounds st SM
            have cm2 : ∀ (cs : List Value) (w : World), rState (fun _ => True) w cs st → Calls Try.prog 10 #[.agg cs.toArray, .int .i64 ((n : Int) + 1)] w fun e w' => (∃ cs', e = .returned (.agg cs'.toArray) ∧ rState (fun _ => True) w' cs' (moreOf st (n + 1))) ∧ Below w.heap.size w w' :=
              fun cs w h => more_any st (n + 1) cs w (fun _ => True) h mb1 mb2 mb3 (by omega)
            clear hfit hfe hn hn2 hn3
            go_wp2_with fail
            refine Calls.mono (fits_any st q r n1 n2 _ _ (fun _ => True) (rState_keep hR (kept_of (bel_call Bw0 B3)))) ?_
            rintro e w4 ⟨rfl, hb4⟩
            have B4 := bel_call B3 hb4
            obtain ⟨hc4, hf4⟩ := bcell B4
            clear hc3 hf3 hb4
            rw [HF0.out]
            go_wp2_with fail
            refine Calls.mono (more_any st n _ _ (fun _ => True) (rState_keep hR (kept_of (bel_call Bw0 B4))) mb1 mb2 mb3 (by omega)) ?_
            rintro e w5 ⟨⟨cs5, rfl, hR5⟩, hb5⟩
            have B5 := bel_call B4 hb5
            obtain ⟨hc5, hf5⟩ := bcell B5
            clear hc4 hf4 hb5
            go_wp2_with fail
            refine Calls.mono (fits_any (moreOf st n) q r (by rw [small_more]; omega) (mb4 n (by omega)) _ _ (fun _ => True) hR5) ?_
            rintro e w6 ⟨rfl, hb6⟩
            have B6 := bel_call B5 hb6
            obtain ⟨hc6, hf6⟩ := bcell B6
            clear hc5 hf5 hb6
            rw [HN1.out]
            go_wp2_with fail
            refine Calls.mono (cm2 _ _ (rState_keep hR (kept_of (bel_call Bw0 B6)))) ?_
            rintro e w7 ⟨⟨cs7, rfl, hR7⟩, hb7⟩
            have B7 := bel_call B6 hb7
            go_wp2_with fail
            refine Calls.mono (fits_any (moreOf st (n + 1)) q r (by rw [small_more]; omega) (mb4 (n + 1) (by omega)) _ _ (fun _ => True) hR7) ?_
            rintro e w8 ⟨rfl, hb8⟩
            have B8 := bel_call B7 hb8
            rw [← HN2.out]
            go_wp2
            go_ret
            exact ⟨ret_bool (by simp [hf0]), bel_call Bw0 B8⟩
          · have hleft : leftOf st q r = 0 := by unfold leftOf; rw [if_neg hfit]
            rw [hleft]
            obtain ⟨fo, hfe⟩ : ∃ fo : Int, fo = fitsOf st q r := ⟨_, rfl⟩
            have hf0 : fo ≠ 0 := by rw [hfe]; exact hfit
            have hfH := Lib.hid hfe
            clear hfit hfe
            go_wp2_with fail
            refine Calls.mono (fits_any st q r n1 n2 _ _ (fun _ => True) (rState_keep hR (kept_of (bel_call Bw0 B3)))) ?_
            rintro e w4 ⟨rfl, hb4⟩
            rw [← hfH.out]
            go_wp2
            go_ret
            exact ⟨rfl, bel_call Bw0 (bel_call B3 hb4)⟩

set_option maxRecDepth 100000 in
theorem lifted_boundLeft (os : Os) (started : os.Started) (H : Type) (enc : TypeId × Value → H) :
    ReturnsInHanded {} Try.checked os 3 .any (Rows.boundLeftSpec.pre6 enc Try.prog Try.f3 Rows.boundLeftRow.domain false) (Rows.boundLeftSpec.post enc Try.prog Try.f3 false true false false) := by
  refine returnsInHanded_of_change_sized (C := Try.checked) law_own started (by kernel_rfl) Try.func3
    (ChangeSpec.witness6 (enc := enc) (C := Try.checked) false ⟨#[], #[.agg #[.int .i64 0, .slice none 0 0, .slice none 0 0, .slice none 0 0], .int .u32 0, .int .u16 0], []⟩ 8 (by kernel_rfl) (by kernel_rfl) (by kernel_rfl) (by kernel_rfl)) ?_
  intro W base args ds gs before hval0 hW hcnd hsz0 _
  have hval : ∀ (j : Nat) t v, Try.f3.params[j]? = some t → args[j]? = some v → Value.okWide Try.prog W .any base t v := hval0
  have hW' := hW
  obtain ⟨p, q, hA0, hV, rfl, hfz, hnd⟩ := hW
  have hA : DataW.TrodAll enc Try.prog W 0 (fun _ => true) true Try.f3.params.toList args.toList ds p := hA0
  rw [Try.params3] at hA hval
  obtain ⟨v0, vs0, d0, ds0, p0, q0, hargs, rfl, rfl, h0, r0⟩ := trodAll_cons hA
  obtain ⟨v1, vs1, d1, ds1, p1, q1, rfl, rfl, rfl, h1, r1⟩ := trodAll_cons r0
  obtain ⟨v2, vs2, d2, ds2, p2, q2, rfl, rfl, rfl, h2, r2⟩ := trodAll_cons r1
  obtain ⟨rfl, rfl, rfl⟩ := trodAll_nil r2
  obtain rfl : args = #[v0, v1, v2] := by cases args; simp_all
  obtain ⟨rfl, rfl⟩ := trodVars_none hV
  clear hargs
  obtain ⟨cs0, rfl, _⟩ := okWide_struct Try.underlying26 (hval 0 26 v0 rfl rfl)
  obtain ⟨fu0, hf0⟩ := h0
  obtain ⟨a0, hx0⟩ := rdState hf0 (fun q hq => by simpa using List.all_eq_true.1 hsz0 q (DataW.weights_mem_each (j := 0) rfl rfl q hq))
  obtain ⟨l0, rfl⟩ : ∃ l : List Value, cs0 = l.toArray := ⟨cs0.toList, by simp⟩
  rw [show (Value.agg l0.toArray).cells.toList = l0 from by simp [Value.cells]] at hx0
  obtain ⟨a1, rfl, rfl, rfl, w1⟩ := open_int Try.underlying27 (hval 1 27 v1 rfl rfl) h1
  obtain ⟨a2, rfl, rfl, rfl, w2⟩ := open_int Try.underlying28 (hval 2 28 v2 rfl rfl) h2
  refine (walk_boundLeft W a0 _ hx0 a1 w1 a2 w2).mono fun e W' ⟨he, hg⟩ => ?_
  subst he
  exact ⟨_, rfl, law_post hW' rfl rfl rfl Try.underlying4 law_laid (by kernel_rfl) hg⟩

theorem boundLeft_holds : Rows.BoundLeftSaid :=
  OpenClaim.holds_of_wide 3 Try.f3 rfl rfl rfl rfl rfl rfl rfl ⟨rfl, rfl, rfl, rfl, rfl⟩ rfl rfl rfl rfl rfl (by kernel_rfl) Try.func3 (by kernel_rfl)
    (of_decide_eq_true (by kernel_rfl)) (by unfold Func.isWrapper; first | (rw [if_pos (by decide +kernel)]; kernel_rfl) | (rw [if_neg (by decide +kernel)]; exact ⟨rfl, rfl⟩))
    (fun os started H enc _ => lifted_boundLeft os started H enc)
end Go.Proofs.Ytdddgmmbdofomaa
