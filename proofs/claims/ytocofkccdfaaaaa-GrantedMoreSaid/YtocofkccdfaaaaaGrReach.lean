/- Layer granted: most, Reaches. Conditions: as each theorem says. -/
import Derived.Test.YtocofkccdfaaaaaGrWalk
namespace Go.Proofs.Ytocofkccdfaaaaa
open Go.RowKit Go.Deep Go.Maps

theorem most_take {nm : Nm} {len : Nat} {l : List GN} {k : Nat} {x : GN} (hx : l[k]? = some x) : mostOf nm len (l.take (k + 1)) = mostStep nm len (mostOf nm len (l.take k)) x := by
  rw [List.take_add_one, hx]
  exact mostOf_snoc _ _ _ _
set_option maxHeartbeats 2000000 in
set_option maxRecDepth 100000 in
theorem most_any (f : Folder) (l : List GN) (cs : List Value) (v : Value) (w : World) (S : Nat → Prop) (h : rFolder S w cs f) (hr : RowC 86 3 w v (l.map cG)) (hl : l.length ≤ 6000) : Calls Try.prog 34 #[.agg cs.toArray, v] w fun e w' => e = .returned (.int .i64 (mostOf f.name f.epochs.length l)) ∧ Below w.heap.size w w' := by
  have HR := Lib.hid h
  have HL := Lib.hid hr
  obtain ⟨f_A2, f_c2, f_A3, f_c3, f_A4, f_c4, f_A5, f_c5, f_A6, f_c6, rfl, f_name_le, f_turn_ok, f_manifests_l, f_manifests_m, f_manifests_n, f_manifests_s, f_epochs_l, f_epochs_m, f_epochs_n, f_epochs_s, f_items_l, f_items_m, f_items_n, f_items_s, f_wraps_l, f_wraps_m, f_wraps_n, f_wraps_s, f_links_l, f_links_m, f_links_n, f_links_s⟩ := open_Folder h
  obtain ⟨w0, hw0, cw0, fw0, Bw0, qw0⟩ := boxed w #[.string f.name, .int .i64 f.turn, .slice f_A2 f.manifests.length f_c2, .slice f_A3 f.epochs.length f_c3, .slice f_A4 f.items.length f_c4, .slice f_A5 f.wraps.length f_c5, .slice f_A6 f.links.length f_c6] 43
  have HC0 := Lib.hid cw0
  have HB0 := Lib.hid Bw0
  obtain ⟨A, c, rfl, -⟩ := hr.shape
  rw [List.length_map] at HL ⊢
  clear cw0 fw0 Bw0 hr f_manifests_s f_epochs_s f_items_s f_wraps_s f_links_s
  go_enter Try.func34, Try.ntmps34
  go_wp2
  go_loopw [5, 10] (fun o i wr => ∃ k : Nat, k ≤ l.length ∧ i = .int .i64 k ∧ o = .int .i64 (mostOf f.name f.epochs.length (l.take k)) ∧ Below w0.heap.size w0 wr) (fun _ i _ => l.length - (RowKit.intOf i).toNat)
  case atStart => exact ⟨0, by omega, by go_num, rfl, Below.refl _ _⟩
  case round =>
    obtain ⟨k, hk, rfl, rfl, hbel⟩ := hrel
    have hz := hbel.size
    have hq : w.heap.size < wr.heap.size := by omega
    by_cases hlt : k < l.length
    · obtain ⟨x, hx⟩ : ∃ x, l[k]? = some x := ⟨_, List.getElem?_eq_getElem hlt⟩
      have HB := Lib.hid (bel_call HB0.out hbel)
      obtain ⟨g, off, cap, hv, -, hcm, -, hcz, -⟩ := (HL.out.below HB.out).at (i := k) (x := cG x) (by rw [List.getElem?_map, hx]; rfl)
      unfold maxLen at hcm
      obtain ⟨rfl, -, rfl⟩ : A = some ⟨g, off, none⟩ ∧ l.length = (l.map cG).length ∧ c = cap := by simpa using hv
      have u0 := hcz 0 _ rfl
      have u1 := hcz 1 _ rfl
      have u2 := hcz 2 _ rfl
      rw [Nat.add_zero] at u0
      have HT := Lib.hid (most_take (nm := f.name) (len := f.epochs.length) hx)
      have b0 := (hbel.cell (p := ⟨w.heap.size, 0, none⟩) qw0).trans (HC0.out 0 _ rfl)
      have b1 := (hbel.cell (p := ⟨w.heap.size, 1, none⟩) qw0).trans (HC0.out 1 _ rfl)
      have b2 := (hbel.cell (p := ⟨w.heap.size, 2, none⟩) qw0).trans (HC0.out 2 _ rfl)
      have b3 := (hbel.cell (p := ⟨w.heap.size, 3, none⟩) qw0).trans (HC0.out 3 _ rfl)
      have b4 := (hbel.cell (p := ⟨w.heap.size, 4, none⟩) qw0).trans (HC0.out 4 _ rfl)
      have b5 := (hbel.cell (p := ⟨w.heap.size, 5, none⟩) qw0).trans (HC0.out 5 _ rfl)
      have b6 := (hbel.cell (p := ⟨w.heap.size, 6, none⟩) qw0).trans (HC0.out 6 _ rfl)
      have hki : (k : Int) < (l.length : Int) := by omega
      obtain ⟨a, s, n⟩ := x
      dsimp only at u0 u1 u2
      clear hcz hv hx
      generalize hm : mostOf f.name f.epochs.length (l.take k) = m at HT
      clear hm
      cases a with
      | false =>
        have HE := Lib.hid (show m = mostOf f.name f.epochs.length (l.take (k + 1)) by rw [HT.out, mostStep, if_neg (by simp)])
        go_wp2
        go_roundw
        case rel => exact ⟨k + 1, by omega, by go_num, by rw [← HE.out], by go_grown⟩
        case measure => simp [RowKit.intOf]; omega
      | true =>
        by_cases hs : s = f.name
        · subst hs
          have hse : (f.name.toList == f.name.toList) = true := by simp
          have HH := Lib.hid (fun W hW => hasf_any f n _ W S (rFolder_keep HR.out (kept_of hW)))
          cases hh : hasE f n with
          | true =>
            have hh2 := hasE_iff.1 hh
            have HE := Lib.hid (show max m n = mostOf f.name f.epochs.length (l.take (k + 1)) by rw [HT.out, mostStep, if_pos ⟨rfl, rfl, hh2⟩])
            rw [hh] at HH
            clear hh hh2
            go_wp2_with (go_at_call 38; refine Calls.mono (HH.out _ (bel_call HB.out (by go_grown))) ?_; rintro e w1 ⟨rfl, B1⟩; have HB1 := Lib.hid (show Below wr.heap.size wr w1 from bel_call (by go_grown) B1); have d2 : w1.cell? ⟨wr.heap.size, 2, none⟩ = some (.int .i64 n) := (B1.cell (p := ⟨wr.heap.size, 2, none⟩) (by simp)).trans (by simp); clear B1)
            go_roundw
            case rel => exact ⟨k + 1, by omega, by go_num, by rw [← HE.out], bel_call hbel HB1.out⟩
            case measure => simp [RowKit.intOf]; omega
          | false =>
            have HE := Lib.hid (show m = mostOf f.name f.epochs.length (l.take (k + 1)) by
              rw [HT.out, mostStep, if_neg]
              rintro ⟨_, _, h3, h4⟩
              rw [hasE_iff.2 ⟨h3, h4⟩] at hh
              cases hh)
            rw [hh] at HH
            clear hh
            go_wp2_with (go_at_call 38; refine Calls.mono (HH.out _ (bel_call HB.out (by go_grown))) ?_; rintro e w1 ⟨rfl, B1⟩; have HB1 := Lib.hid (show Below wr.heap.size wr w1 from bel_call (by go_grown) B1); clear B1)
            go_roundw
            case rel => exact ⟨k + 1, by omega, by go_num, by rw [← HE.out], bel_call hbel HB1.out⟩
            case measure => simp [RowKit.intOf]; omega
        · have hse : (s.toList == f.name.toList) = false := eqS_ne hs
          have HE := Lib.hid (show m = mostOf f.name f.epochs.length (l.take (k + 1)) by rw [HT.out, mostStep, if_neg (by simp [hs])])
          clear hs
          go_wp2
          go_roundw
          case rel => exact ⟨k + 1, by omega, by go_num, by rw [← HE.out], by go_grown⟩
          case measure => simp [RowKit.intOf]; omega
    · obtain rfl : k = l.length := by omega
      rw [List.take_length]
      go_wp2
      go_ret
      exact ⟨rfl, bel_call HB0.out hbel⟩
theorem user_any2 (s : Nm) (w : World) : Calls Try.prog 37 #[.string s] w fun e w' => e = .returned (.agg #[.bool false, .string s, .int .i64 0]) ∧ Below w.heap.size w w' := user_any s w
/-- Reach from one node of a graph; the greatest epoch among them. -/
theorem row_one {w : World} {x : GN} {g : Nat} (h : w.heap[g]? = some (.cells #[.bool x.1, .string x.2.1, .int .i64 x.2.2] 86 (0, 0))) : RowC 86 3 w (.slice (some ⟨g, 0, none⟩) 1 1) [cG x] := by
  refine ⟨fun y hy => ?_, .inr ⟨g, 0, 1, _, rfl, h, Nat.le_refl _, by unfold maxLen; omega, by simp, fun q u hq => ?_⟩⟩
  · obtain rfl := List.mem_singleton.1 hy
    exact ⟨cG_len _, cG_one _⟩
  · rw [Nat.zero_add]
    simpa [cG] using hq
set_option maxHeartbeats 2000000 in
set_option maxRecDepth 100000 in
theorem reaches_any (st : State) (u fo : Nm) (cs : List Value) (w : World) (S : Nat → Prop) (h : rState S w cs st) (ok : OkSt st) (hu : u.size ≤ 1000) : Calls Try.prog 10 #[.agg cs.toArray, .string u, .string fo] w fun e w' => (∃ n : Int, e = .returned (.int .i64 n) ∧ IsReach st u fo n) ∧ Below w.heap.size w w' := by
  have HR := Lib.hid h
  obtain ⟨st_A1, st_c1, st_A2, st_c2, st_A3, st_c3, rfl, st_turn_ok, st_users_l, st_users_m, st_users_n, st_users_s, st_deposits_l, st_deposits_m, st_deposits_n, st_deposits_s, st_folders_l, st_folders_m, st_folders_n, st_folders_s⟩ := open_State h
  obtain ⟨w0, hw0, cw0, fw0, Bw0, qw0⟩ := boxed w #[.int .i64 st.turn, .slice st_A1 st.users.length st_c1, .slice st_A2 st.deposits.length st_c2, .slice st_A3 st.folders.length st_c3] 26
  have HB0 := Lib.hid Bw0
  have HC0 := Lib.hid cw0
  have HOK := Lib.hid ok
  have s0 := cw0 0 _ rfl
  have s1 := cw0 1 _ rfl
  have s2 := cw0 2 _ rfl
  have s3 := cw0 3 _ rfl
  clear cw0 fw0 Bw0 ok st_users_s st_deposits_s st_folders_s
  go_enter Try.func10, Try.ntmps10
  go_wp2_with fail
  clear hw0
  refine Calls.mono (find_any st fo _ w0 S (rState_keep HR.out (kept_of HB0.out))) ?_
  rintro e w1 ⟨⟨cf, rfl, hf⟩, B1⟩
  have HB1 := Lib.hid B1
  have hq1 : w.heap.size < w1.heap.size := Nat.lt_of_lt_of_le qw0 B1.size
  clear s0 s1 s2 s3
  cases hF : findF st fo with
  | none =>
    rw [hF] at hf
    replace hf : rFolder S w1 cf zeroF := hf
    simp only [Option.isSome_none]
    have HF := Lib.hid hF
    obtain ⟨f_A2, f_c2, f_A3, f_c3, f_A4, f_c4, f_A5, f_c5, f_A6, f_c6, rfl, f_name_le, f_turn_ok, f_manifests_l, f_manifests_m, f_manifests_n, f_manifests_s, f_epochs_l, f_epochs_m, f_epochs_n, f_epochs_s, f_items_l, f_items_m, f_items_n, f_items_s, f_wraps_l, f_wraps_m, f_wraps_n, f_wraps_s, f_links_l, f_links_m, f_links_n, f_links_s⟩ := open_Folder hf
    clear hF
    go_wp2
    go_ret
    exact ⟨⟨0, rfl, .inl ⟨HF.out, rfl⟩⟩, by have h0 := HB0.out; have h1 := bel_call h0 HB1.out; go_grown⟩
  | some f =>
    rw [hF] at hf
    replace hf : rFolder S w1 cf f := hf
    simp only [Option.isSome_some]
    have HF := Lib.hid hF
    have HFR := Lib.hid hf
    obtain ⟨f_A2, f_c2, f_A3, f_c3, f_A4, f_c4, f_A5, f_c5, f_A6, f_c6, rfl, f_name_le, f_turn_ok, f_manifests_l, f_manifests_m, f_manifests_n, f_manifests_s, f_epochs_l, f_epochs_m, f_epochs_n, f_epochs_s, f_items_l, f_items_m, f_items_n, f_items_s, f_wraps_l, f_wraps_m, f_wraps_n, f_wraps_s, f_links_l, f_links_m, f_links_n, f_links_s⟩ := open_Folder hf
    obtain ⟨w2, hw2, cw2, fw2, Bw2, qw2⟩ := boxed w1 #[.string f.name, .int .i64 f.turn, .slice f_A2 f.manifests.length f_c2, .slice f_A3 f.epochs.length f_c3, .slice f_A4 f.items.length f_c4, .slice f_A5 f.wraps.length f_c5, .slice f_A6 f.links.length f_c6] 43
    have B02 := Lib.hid (bel_call HB1.out Bw2)
    have HC2 := Lib.hid cw2
    have HSQ := Lib.hid (show ∀ W : World, Below w2.heap.size w2 W → (fun W : World => (W.cell? ⟨w.heap.size, 0, none⟩ = some (.int .i64 st.turn) ∧ W.cell? ⟨w.heap.size, 1, none⟩ = some (.slice st_A1 st.users.length st_c1) ∧ W.cell? ⟨w.heap.size, 2, none⟩ = some (.slice st_A2 st.deposits.length st_c2) ∧ W.cell? ⟨w.heap.size, 3, none⟩ = some (.slice st_A3 st.folders.length st_c3)) ∧ W.cell? ⟨w1.heap.size, 0, none⟩ = some (.string f.name) ∧ W.cell? ⟨w1.heap.size, 1, none⟩ = some (.int .i64 f.turn) ∧ W.cell? ⟨w1.heap.size, 2, none⟩ = some (.slice f_A2 f.manifests.length f_c2) ∧ W.cell? ⟨w1.heap.size, 3, none⟩ = some (.slice f_A3 f.epochs.length f_c3) ∧ W.cell? ⟨w1.heap.size, 4, none⟩ = some (.slice f_A4 f.items.length f_c4) ∧ W.cell? ⟨w1.heap.size, 5, none⟩ = some (.slice f_A5 f.wraps.length f_c5) ∧ W.cell? ⟨w1.heap.size, 6, none⟩ = some (.slice f_A6 f.links.length f_c6)) W from fun W hW => by
      have c := fun j v (hj : (#[.int .i64 st.turn, .slice st_A1 st.users.length st_c1, .slice st_A2 st.deposits.length st_c2, .slice st_A3 st.folders.length st_c3] : Array Value)[j]? = some v) => ((bel_call B02.out hW).cell (p := ⟨w.heap.size, j, none⟩) qw0).trans (HC0.out j v hj)
      have d := fun j v (hj : (#[.string f.name, .int .i64 f.turn, .slice f_A2 f.manifests.length f_c2, .slice f_A3 f.epochs.length f_c3, .slice f_A4 f.items.length f_c4, .slice f_A5 f.wraps.length f_c5, .slice f_A6 f.links.length f_c6] : Array Value)[j]? = some v) => (hW.cell (p := ⟨w1.heap.size, j, none⟩) qw2).trans (HC2.out j v hj)
      exact ⟨⟨c 0 _ rfl, c 1 _ rfl, c 2 _ rfl, c 3 _ rfl⟩, d 0 _ rfl, d 1 _ rfl, d 2 _ rfl, d 3 _ rfl, d 4 _ rfl, d 5 _ rfl, d 6 _ rfl⟩)
    have HB2 := Lib.hid (bel_call HB0.out B02.out)
    have HBF := Lib.hid Bw2
    clear hF cw2 fw2 Bw2 f_manifests_s f_epochs_s f_items_s f_wraps_s f_links_s
    go_wp2
    have HS := HSQ.out
    refine wp_region_held_drew (S := fun W : World => (W.cell? ⟨w.heap.size, 0, none⟩ = some (.int .i64 st.turn) ∧ W.cell? ⟨w.heap.size, 1, none⟩ = some (.slice st_A1 st.users.length st_c1) ∧ W.cell? ⟨w.heap.size, 2, none⟩ = some (.slice st_A2 st.deposits.length st_c2) ∧ W.cell? ⟨w.heap.size, 3, none⟩ = some (.slice st_A3 st.folders.length st_c3)) ∧ W.cell? ⟨w1.heap.size, 0, none⟩ = some (.string f.name) ∧ W.cell? ⟨w1.heap.size, 1, none⟩ = some (.int .i64 f.turn) ∧ W.cell? ⟨w1.heap.size, 2, none⟩ = some (.slice f_A2 f.manifests.length f_c2) ∧ W.cell? ⟨w1.heap.size, 3, none⟩ = some (.slice f_A3 f.epochs.length f_c3) ∧ W.cell? ⟨w1.heap.size, 4, none⟩ = some (.slice f_A4 f.items.length f_c4) ∧ W.cell? ⟨w1.heap.size, 5, none⟩ = some (.slice f_A5 f.wraps.length f_c5) ∧ W.cell? ⟨w1.heap.size, 6, none⟩ = some (.slice f_A6 f.links.length f_c6)) (by kernel_rfl) (HS _ (Below.refl _ _).drew) (fun hHeld => ?_)
    refine wpAnyH_take (i := 0) (oi := ?_) (v := ?_) ?_ (by kernel_rfl) (by kernel_rfl) (by kernel_rfl) ?_ (Or.inl ⟨?_, ?_⟩) hHeld ?_
    rotate_left 2
    · simp only [List.getElem?_toArray, List.getElem?_cons_zero]; exact rfl
    · exact fun _ _ _ h => h
    · rfl
    · (intro W' hSw; (try dsimp only at hSw); go_simp; try with_reducible rfl)
    try simp only [Act.put, List.setIfInBounds_toArray, List.set_cons_zero, List.set_cons_succ]
    refine wpAnyH_take (i := 1) (oi := ?_) (v := ?_) ?_ (by kernel_rfl) (by kernel_rfl) (by kernel_rfl) ?_ (Or.inl ⟨?_, ?_⟩) hHeld ?_
    rotate_left 2
    · simp only [List.getElem?_toArray, List.getElem?_cons_succ, List.getElem?_cons_zero]; exact rfl
    · exact fun _ _ _ h => h
    · rfl
    · (intro W' hSw; (try dsimp only at hSw); go_simp; try with_reducible rfl)
    try simp only [Act.put, List.setIfInBounds_toArray, List.set_cons_zero, List.set_cons_succ]
    refine wpAnyH_take (i := 3) (oi := ?_) (v := ?_) ?_ (by kernel_rfl) (by kernel_rfl) (by kernel_rfl) ?_ (Or.inl ⟨?_, ?_⟩) hHeld ?_
    rotate_left 2
    · simp only [List.getElem?_toArray, List.getElem?_cons_succ, List.getElem?_cons_zero]; exact rfl
    · exact fun _ _ _ h => h
    · rfl
    · (intro W' hSw; (try dsimp only at hSw); go_simp; try with_reducible rfl)
    try simp only [Act.put, List.setIfInBounds_toArray, List.set_cons_zero, List.set_cons_succ]
    refine wpAnyH_ready (rs := [2]) (by kernel_rfl) (by simp) ?_
    refine AllReadyH.cons rfl (fun K hK => ?_) AllReadyH.nil
    go_simp
    go_at_call 35
    refine Calls.mono (graph_any st _ _ S (rState_keep HR.out (kept_of (bel_call HB2.out (Below.refl _ _).drew))) HOK.out) ?_
    rintro e w3 ⟨⟨t, B, rfl, hg, hB⟩, b3⟩
    have B3 : Below w2.heap.size w2 w3 := bel_call (Below.refl _ _).drew b3
    clear b3 hHeld
    refine hK.out _ _ (HS _ B3) (fun hHeld => ?_)
    clear hK K
    refine wpAnyH_ready (rs := [4]) (by kernel_rfl) (by simp) ?_
    refine AllReadyH.cons rfl (fun K hK => ?_) AllReadyH.nil
    go_simp
    go_at_call 37
    refine Calls.mono (user_any2 _ _) ?_
    rintro e w4 ⟨rfl, b4⟩
    have B4 : Below w2.heap.size w2 w4 := bel_call B3 b4
    have hg4 := hg.below b4
    clear b4 hHeld
    refine hK.out _ _ (HS _ B4) (fun hHeld => ?_)
    clear hK K
    obtain ⟨w5, hw5, cw5, fw5, Bw5, qw5⟩ := boxed w4 #[.bool false, .string u, .int .i64 0] 86
    have hrow := row_one (w := w5) (x := uN u) (g := w4.heap.size) (by rw [← hw5]; exact blk_alloc_new _ rfl)
    have B5 : Below w2.heap.size w2 w5 := bel_call B4 Bw5
    have HG5 := Lib.hid (hg4.below Bw5)
    refine wpAnyH_ready (rs := [5]) (by kernel_rfl) (by simp) ?_
    refine AllReadyH.cons rfl (fun K hK => ?_) AllReadyH.nil
    go_simp
    clear hHeld
    refine hK.out _ _ (HS _ B5) (fun hHeld => ?_)
    clear hK K hw5 cw5 fw5
    refine wpAnyH_ready (rs := [6]) (by kernel_rfl) (by simp) ?_
    refine AllReadyH.cons rfl (fun K hK => ?_) AllReadyH.nil
    go_simp
    go_at_call 36
    refine Calls.mono (reach_any HG5.out (by decide) (uN u) (okU hu) _ hrow) ?_
    rintro e w6 ⟨va, all, rfl, hall, hmem, hlen, -, b6⟩
    have B6 : Below w2.heap.size w2 w6 := bel_call B5 b6
    clear b6 hHeld
    refine hK.out _ _ (HS _ B6) (fun hHeld => ?_)
    clear hK K
    refine wpAnyH_ready (rs := [7]) (by kernel_rfl) (by simp) ?_
    refine AllReadyH.cons rfl (fun K hK => ?_) AllReadyH.nil
    go_simp
    go_at_call 34
    refine Calls.mono (most_any f all _ _ _ S (rFolder_keep HFR.out (kept_of (bel_call HBF.out B6))) hall hlen) ?_
    rintro e w7 ⟨rfl, b7⟩
    have B7 := Lib.hid (show Below w2.heap.size w2 w7 from bel_call B6 b7)
    clear b7 hHeld
    refine hK.out _ _ (HS _ B7.out) (fun hHeld => ?_)
    clear hK K
    refine wpAnyH_take (i := 8) (oi := ?_) (v := ?_) ?_ (by kernel_rfl) (by kernel_rfl) (by kernel_rfl) ?_ (Or.inl ⟨?_, ?_⟩) hHeld ?_
    rotate_left 2
    · simp only [List.getElem?_toArray, List.getElem?_cons_succ, List.getElem?_cons_zero]; exact rfl
    · exact fun _ _ _ h => h
    · rfl
    · (intro W' hSw; (try dsimp only at hSw); go_simp; try with_reducible rfl)
    try simp only [Act.put, List.setIfInBounds_toArray, List.set_cons_zero, List.set_cons_succ]
    refine wpAnyH_done (by kernel_rfl) ?_ _
    clear hHeld HS
    have HM := Lib.hid (most_reach (u := u) HF.out hmem)
    go_wp2
    go_ret
    exact ⟨⟨_, rfl, HM.out⟩, bel_call HB2.out B7.out⟩
end Go.Proofs.Ytocofkccdfaaaaa
