/- Layer granted: Who. Conditions: as each theorem says. -/
import Derived.Test.YtocofkccdfaaaaaGrSort
namespace Go.Proofs.Ytocofkccdfaaaaa
open Go.RowKit Go.Deep Go.Maps

/-- Whom an epoch's users are. -/
def WhoP (st : State) (fo : Nm) (n : Int) (x : Nm) : Prop := ∃ f, findF st fo = some f ∧ 1 ≤ n ∧ n ≤ f.epochs.length ∧ (∃ u ∈ st.users, u.name = x) ∧ reachP st x fo n
theorem take_ex {l : List User} {k : Nat} {y : User} (hy : l[k]? = some y) (x : Nm) : (∃ u ∈ l.take (k + 1), u.name = x) ↔ (∃ u ∈ l.take k, u.name = x) ∨ x = y.name := by
  rw [List.take_add_one, hy]
  constructor
  · rintro ⟨u, hu, rfl⟩
    rcases List.mem_append.1 hu with h | h
    · exact .inl ⟨u, h, rfl⟩
    · obtain rfl : u = y := by simpa using h
      exact .inr rfl
  · rintro (⟨u, hu, rfl⟩ | rfl)
    · exact ⟨u, List.mem_append_left _ hu, rfl⟩
    · exact ⟨y, List.mem_append_right _ (by simp), rfl⟩
set_option maxHeartbeats 4000000 in
set_option maxRecDepth 100000 in
theorem who_any (st : State) (fo : Nm) (n : Int) (cs : List Value) (w : World) (S : Nat → Prop) (h : rState S w cs st) (ok : OkSt st) (hus : ∀ u ∈ st.users, u.name.size ≤ 1000) (hul : st.users.length ≤ 1000) : Calls Try.prog 11 #[.agg cs.toArray, .string fo, .int .i64 n] w fun e w' => (∃ (v : Value) (R : List Nm), e = .returned v ∧ Sl 1 rStr (fun _ => True) w' v R ∧ IsNames (WhoP st fo n) R ∧ R.length ≤ st.users.length) ∧ Below w.heap.size w w' := by
  have HR := Lib.hid h
  obtain ⟨st_A1, st_c1, st_A2, st_c2, st_A3, st_c3, rfl, st_turn_ok, st_users_l, st_users_m, st_users_n, st_users_s, st_deposits_l, st_deposits_m, st_deposits_n, st_deposits_s, st_folders_l, st_folders_m, st_folders_n, st_folders_s⟩ := open_State h
  obtain ⟨w0, hw0, cw0, fw0, Bw0, qw0⟩ := boxed w #[.int .i64 st.turn, .slice st_A1 st.users.length st_c1, .slice st_A2 st.deposits.length st_c2, .slice st_A3 st.folders.length st_c3] 26
  have HB0 := Lib.hid Bw0
  have HC0 := Lib.hid cw0
  have HOK := Lib.hid ok
  have HUS := Lib.hid hus
  have s0 := cw0 0 _ rfl
  have s1 := cw0 1 _ rfl
  have s2 := cw0 2 _ rfl
  have s3 := cw0 3 _ rfl
  clear cw0 fw0 Bw0 ok hus st_deposits_s st_folders_s
  obtain ⟨istring, histring, hzstring, h1string, h2string⟩ := info_parts (show (Try.prog.info? 9).map (fun i => (i.zero, i.size, i.bytes)) = some (some (.string ⟨#[]⟩), 1, 16) from by kernel_rfl)
  go_enter Try.func11, Try.ntmps11
  go_wp2_with fail
  clear hw0
  refine Calls.mono (find_any st fo _ w0 S (rState_keep HR.out (kept_of HB0.out))) ?_
  rintro e w1 ⟨⟨cf, rfl, hf⟩, B1⟩
  have HB1 := Lib.hid B1
  have hq1 : w.heap.size < w1.heap.size := Nat.lt_of_lt_of_le qw0 B1.size
  clear s0 s1 s2 s3
  cases hF : findF st fo with
  | none =>
    rw [hF] at hf
    replace hf : rFolder S w1 cf zeroF := hf
    simp only [Option.isSome_none]
    have HN := Lib.hid (IsNames.nil (P := WhoP st fo n) fun x hx => by
      obtain ⟨g, hg, _⟩ := hx
      rw [hF] at hg
      cases hg)
    obtain ⟨f_A2, f_c2, f_A3, f_c3, f_A4, f_c4, f_A5, f_c5, f_A6, f_c6, rfl, f_name_le, f_turn_ok, f_manifests_l, f_manifests_m, f_manifests_n, f_manifests_s, f_epochs_l, f_epochs_m, f_epochs_n, f_epochs_s, f_items_l, f_items_m, f_items_n, f_items_s, f_wraps_l, f_wraps_m, f_wraps_n, f_wraps_s, f_links_l, f_links_m, f_links_n, f_links_s⟩ := open_Folder hf
    clear hF
    go_wp2
    go_ret
    exact ⟨⟨_, [], rfl, Sl_nil _ _ _ _, HN.out, Nat.zero_le _⟩, by have h0 := HB0.out; have h1 := bel_call h0 HB1.out; go_grown⟩
  | some f =>
    rw [hF] at hf
    replace hf : rFolder S w1 cf f := hf
    simp only [Option.isSome_some]
    have HF := Lib.hid hF
    have HFR := Lib.hid hf
    obtain ⟨f_A2, f_c2, f_A3, f_c3, f_A4, f_c4, f_A5, f_c5, f_A6, f_c6, rfl, f_name_le, f_turn_ok, f_manifests_l, f_manifests_m, f_manifests_n, f_manifests_s, f_epochs_l, f_epochs_m, f_epochs_n, f_epochs_s, f_items_l, f_items_m, f_items_n, f_items_s, f_wraps_l, f_wraps_m, f_wraps_n, f_wraps_s, f_links_l, f_links_m, f_links_n, f_links_s⟩ := open_Folder hf
    obtain ⟨w2, hw2, cw2, fw2, Bw2, qw2⟩ := boxed w1 #[.string f.name, .int .i64 f.turn, .slice f_A2 f.manifests.length f_c2, .slice f_A3 f.epochs.length f_c3, .slice f_A4 f.items.length f_c4, .slice f_A5 f.wraps.length f_c5, .slice f_A6 f.links.length f_c6] 43
    have B02 := Lib.hid (bel_call HB1.out Bw2)
    have HC2 := Lib.hid cw2
    have HB2 := Lib.hid (bel_call HB0.out B02.out)
    have HBF := Lib.hid Bw2
    have HH := Lib.hid (fun W hW => hasf_any f n _ W S (rFolder_keep HFR.out (kept_of hW)))
    have d0 := cw2 0 _ rfl
    have d1 := cw2 1 _ rfl
    have d2 := cw2 2 _ rfl
    have d3 := cw2 3 _ rfl
    have d4 := cw2 4 _ rfl
    have d5 := cw2 5 _ rfl
    have d6 := cw2 6 _ rfl
    clear hF cw2 fw2 Bw2 f_manifests_s f_epochs_s f_items_s f_wraps_s f_links_s
    cases hh : hasE f n with
    | false =>
      have HN := Lib.hid (IsNames.nil (P := WhoP st fo n) fun x hx => by
        obtain ⟨g, hg, h1, h2, _⟩ := hx
        obtain rfl : f = g := Option.some.inj (HF.out.symm.trans hg)
        rw [hasE_iff.2 ⟨h1, h2⟩] at hh
        cases hh)
      rw [hh] at HH
      clear hh
      go_wp2_with (go_at_call 38; refine Calls.mono (HH.out _ HBF.out) ?_; rintro e w3 ⟨rfl, b3⟩; have B3 := Lib.hid b3; clear b3)
      go_ret
      exact ⟨⟨_, [], rfl, Sl_nil _ _ _ _, HN.out, Nat.zero_le _⟩, bel_call HB2.out B3.out⟩
    | true =>
      have hn := hasE_iff.1 hh
      have HNN := Lib.hid hn
      rw [hh] at HH
      clear hh hn
      go_wp2_with (go_at_call 38; refine Calls.mono (HH.out _ HBF.out) ?_; rintro e w3 ⟨rfl, b3⟩; have B3 := Lib.hid b3; have c := fun j v (hj : (#[.int .i64 st.turn, .slice st_A1 st.users.length st_c1, .slice st_A2 st.deposits.length st_c2, .slice st_A3 st.folders.length st_c3] : Array Value)[j]? = some v) => ((bel_call B02.out b3).cell (p := ⟨w.heap.size, j, none⟩) qw0).trans (HC0.out j v hj); have s0 := c 0 _ rfl; have s1 := c 1 _ rfl; have s2 := c 2 _ rfl; have s3 := c 3 _ rfl; clear c b3)
      clear hw2 d0 d1 d2 d3 d4 d5 d6
      refine Calls.mono (graph_any st _ w3 S (rState_keep HR.out (kept_of (bel_call HB2.out B3.out))) HOK.out) ?_
      rintro e w4 ⟨⟨t, B, rfl, hg, hB⟩, b4⟩
      have HG := Lib.hid hg
      have B4 := Lib.hid (bel_call B3.out b4)
      have s1 := (b4.cell (p := ⟨w.heap.size, 1, none⟩) (Nat.lt_of_lt_of_le hq1 (by have := HBF.out.size; have := B3.out.size; omega))).trans s1
      clear hg b4 s0 s2 s3 hB
      go_wp2
      clear s1
      go_loopw [10, 32] (fun vo i wr => ∃ (k : Nat) (L : List Nm), k ≤ st.users.length ∧ i = .int .i64 k ∧ Hid (Grow 9 1 rStr (fun _ => False) wr w4.heap.size vo L) ∧ Hid (∀ x, x ∈ L ↔ (∃ u ∈ st.users.take k, u.name = x) ∧ reachP st x fo n) ∧ L.length ≤ k ∧ Below w4.heap.size w4 wr) (fun _ i _ => st.users.length - (RowKit.intOf i).toNat)
      case atStart => exact ⟨0, [], by omega, by go_num, Grow.nil, (fun x => by simp), by simp, Below.refl _ _⟩
      case round =>
        obtain ⟨k, L, hk, rfl, HL, HM, hLk, hbel⟩ := hrel
        have HB4 := Lib.hid (bel_call (bel_call HB2.out B4.out) hbel)
        have HW2 := Lib.hid (bel_call B4.out hbel)
        by_cases hlt : k < st.users.length
        · obtain ⟨x, x_b, x_o, x_k, x_d, x_m, rfl, x_l, x_S, x_0, x_1, x_R, x_name_le⟩ := get_User st_users_s hlt (kept_of HB4.out)
          have HX := Lib.hid x_k
          have HXM := Lib.hid (HUS.out x x_m)
          obtain ⟨wx, hwx, cwx, fwx, Bwx, qwx⟩ := boxed wr #[.string x.name, .bool x.lost] 50
          have HBX := Lib.hid Bwx
          have HCX := Lib.hid cwx
          have HSQ := Lib.hid (show ∀ W : World, Below wx.heap.size wx W → (fun W : World => W.cell? ⟨wr.heap.size, 0, none⟩ = some (.string x.name) ∧ W.cell? ⟨w1.heap.size, 0, none⟩ = some (.string f.name) ∧ W.cell? ⟨w1.heap.size, 1, none⟩ = some (.int .i64 f.turn) ∧ W.cell? ⟨w1.heap.size, 2, none⟩ = some (.slice f_A2 f.manifests.length f_c2) ∧ W.cell? ⟨w1.heap.size, 3, none⟩ = some (.slice f_A3 f.epochs.length f_c3) ∧ W.cell? ⟨w1.heap.size, 4, none⟩ = some (.slice f_A4 f.items.length f_c4) ∧ W.cell? ⟨w1.heap.size, 5, none⟩ = some (.slice f_A5 f.wraps.length f_c5) ∧ W.cell? ⟨w1.heap.size, 6, none⟩ = some (.slice f_A6 f.links.length f_c6)) W from fun W hW => by
            have d := fun j v (hj : (#[.string f.name, .int .i64 f.turn, .slice f_A2 f.manifests.length f_c2, .slice f_A3 f.epochs.length f_c3, .slice f_A4 f.items.length f_c4, .slice f_A5 f.wraps.length f_c5, .slice f_A6 f.links.length f_c6] : Array Value)[j]? = some v) => ((bel_call HW2.out (bel_call HBX.out hW)).cell (p := ⟨w1.heap.size, j, none⟩) qw2).trans (HC2.out j v hj)
            exact ⟨(hW.cell (p := ⟨wr.heap.size, 0, none⟩) qwx).trans (HCX.out 0 _ rfl), d 0 _ rfl, d 1 _ rfl, d 2 _ rfl, d 3 _ rfl, d 4 _ rfl, d 5 _ rfl, d 6 _ rfl⟩)
          have HLK := Lib.hid hLk
          have hlb : L.length ≤ 1000 := by omega
          clear x_k x_d x_m cwx fwx Bwx hLk
          go_wp2
          have HS := HSQ.out
          refine wp_region_held_drew (S := fun W : World => W.cell? ⟨wr.heap.size, 0, none⟩ = some (.string x.name) ∧ W.cell? ⟨w1.heap.size, 0, none⟩ = some (.string f.name) ∧ W.cell? ⟨w1.heap.size, 1, none⟩ = some (.int .i64 f.turn) ∧ W.cell? ⟨w1.heap.size, 2, none⟩ = some (.slice f_A2 f.manifests.length f_c2) ∧ W.cell? ⟨w1.heap.size, 3, none⟩ = some (.slice f_A3 f.epochs.length f_c3) ∧ W.cell? ⟨w1.heap.size, 4, none⟩ = some (.slice f_A4 f.items.length f_c4) ∧ W.cell? ⟨w1.heap.size, 5, none⟩ = some (.slice f_A5 f.wraps.length f_c5) ∧ W.cell? ⟨w1.heap.size, 6, none⟩ = some (.slice f_A6 f.links.length f_c6)) (by kernel_rfl) (HS _ (Below.refl _ _).drew) (fun hHeld => ?_)
          refine wpAnyH_take (i := 0) (oi := ?_) (v := ?_) ?_ (by kernel_rfl) (by kernel_rfl) (by kernel_rfl) ?_ (Or.inl ⟨?_, ?_⟩) hHeld ?_
          rotate_left 2
          · simp only [List.getElem?_toArray, List.getElem?_cons_zero]; exact rfl
          · exact fun _ _ _ h => h
          · rfl
          · (intro W' hSw; (try dsimp only at hSw); go_simp; try with_reducible rfl)
          try simp only [Act.put, List.setIfInBounds_toArray, List.set_cons_zero, List.set_cons_succ]
          refine wpAnyH_take (i := 1) (oi := ?_) (v := ?_) ?_ (by kernel_rfl) (by kernel_rfl) (by kernel_rfl) ?_ (Or.inl ⟨?_, ?_⟩) hHeld ?_
          rotate_left 2
          · simp only [List.getElem?_toArray, List.getElem?_cons_succ, List.getElem?_cons_zero]; exact rfl
          · exact fun _ _ _ h => h
          · rfl
          · (intro W' hSw; (try dsimp only at hSw); go_simp; try with_reducible rfl)
          try simp only [Act.put, List.setIfInBounds_toArray, List.set_cons_zero, List.set_cons_succ]
          refine wpAnyH_take (i := 2) (oi := ?_) (v := ?_) ?_ (by kernel_rfl) (by kernel_rfl) (by kernel_rfl) ?_ (Or.inl ⟨?_, ?_⟩) hHeld ?_
          rotate_left 2
          · simp only [List.getElem?_toArray, List.getElem?_cons_succ, List.getElem?_cons_zero]; exact rfl
          · exact fun _ _ _ h => h
          · rfl
          · (intro W' hSw; (try dsimp only at hSw); go_simp; try with_reducible rfl)
          try simp only [Act.put, List.setIfInBounds_toArray, List.set_cons_zero, List.set_cons_succ]
          refine wpAnyH_take (i := 3) (oi := ?_) (v := ?_) ?_ (by kernel_rfl) (by kernel_rfl) (by kernel_rfl) ?_ (Or.inl ⟨?_, ?_⟩) hHeld ?_
          rotate_left 2
          · simp only [List.getElem?_toArray, List.getElem?_cons_succ, List.getElem?_cons_zero]; exact rfl
          · exact fun _ _ _ h => h
          · rfl
          · (intro W' hSw; (try dsimp only at hSw); go_simp; try with_reducible rfl)
          try simp only [Act.put, List.setIfInBounds_toArray, List.set_cons_zero, List.set_cons_succ]
          refine wpAnyH_take (i := 8) (oi := ?_) (v := ?_) ?_ (by kernel_rfl) (by kernel_rfl) (by kernel_rfl) ?_ (Or.inl ⟨?_, ?_⟩) hHeld ?_
          rotate_left 2
          · simp only [List.getElem?_toArray, List.getElem?_cons_succ, List.getElem?_cons_zero]; exact rfl
          · exact fun _ _ _ h => h
          · rfl
          · (intro W' hSw; (try dsimp only at hSw); go_simp; try with_reducible rfl)
          try simp only [Act.put, List.setIfInBounds_toArray, List.set_cons_zero, List.set_cons_succ]
          refine wpAnyH_ready (rs := [4]) (by kernel_rfl) (by simp) ?_
          refine AllReadyH.cons rfl (fun K hK => ?_) AllReadyH.nil
          go_simp
          go_at_call 37
          refine Calls.mono (user_any2 _ _) ?_
          rintro e w5 ⟨rfl, b5⟩
          have B5 : Below wx.heap.size wx w5 := bel_call (Below.refl _ _).drew b5
          clear b5 hHeld
          refine hK.out _ _ (HS _ B5) (fun hHeld => ?_)
          clear hK K
          obtain ⟨w6, hw6, cw6, fw6, Bw6, qw6⟩ := boxed w5 #[.bool false, .string x.name, .int .i64 0] 86
          have hrow := row_one (w := w6) (x := uN x.name) (g := w5.heap.size) (by rw [← hw6]; exact blk_alloc_new _ rfl)
          have B6 : Below wx.heap.size wx w6 := bel_call B5 Bw6
          have HG6 := Lib.hid (HG.out.below (bel_call hbel (bel_call HBX.out B6)))
          refine wpAnyH_ready (rs := [5]) (by kernel_rfl) (by simp) ?_
          refine AllReadyH.cons rfl (fun K hK => ?_) AllReadyH.nil
          go_simp
          clear hHeld
          refine hK.out _ _ (HS _ B6) (fun hHeld => ?_)
          clear hK K hw6 cw6 fw6
          refine wpAnyH_ready (rs := [6]) (by kernel_rfl) (by simp) ?_
          refine AllReadyH.cons rfl (fun K hK => ?_) AllReadyH.nil
          go_simp
          go_at_call 36
          refine Calls.mono (reach_any HG6.out (by decide) (uN x.name) (okU HXM.out) _ hrow) ?_
          rintro e w7 ⟨va, all, rfl, hall, hmem, hlen, -, b7⟩
          have B7 : Below wx.heap.size wx w7 := bel_call B6 b7
          clear b7 hHeld
          refine hK.out _ _ (HS _ B7) (fun hHeld => ?_)
          clear hK K
          refine wpAnyH_ready (rs := [7]) (by kernel_rfl) (by simp) ?_
          refine AllReadyH.cons rfl (fun K hK => ?_) AllReadyH.nil
          go_simp
          go_at_call 34
          refine Calls.mono (most_any f all _ _ _ S (rFolder_keep HFR.out (kept_of (bel_call HBF.out (bel_call HW2.out (bel_call HBX.out B7))))) hall hlen) ?_
          rintro e w8 ⟨rfl, b8⟩
          have B8 := Lib.hid (show Below wx.heap.size wx w8 from bel_call B7 b8)
          clear b8 hHeld
          have HMR := Lib.hid ((most_reach (u := x.name) HF.out hmem).iff HF.out HNN.out.1 HNN.out.2)
          refine hK.out _ _ (HS _ B8.out) (fun hHeld => ?_)
          clear hK K
          have u0 := hHeld.1
          refine wpAnyH_take (i := 9) (oi := ?_) (v := ?_) ?_ (by kernel_rfl) (by kernel_rfl) (by kernel_rfl) ?_ (Or.inl ⟨?_, ?_⟩) hHeld ?_
          rotate_left 2
          · simp only [List.getElem?_toArray, List.getElem?_cons_succ, List.getElem?_cons_zero]; exact rfl
          · exact fun _ _ _ h => h
          · rfl
          · (intro W' hSw; (try dsimp only at hSw); go_simp; try with_reducible rfl)
          try simp only [Act.put, List.setIfInBounds_toArray, List.set_cons_zero, List.set_cons_succ]
          refine wpAnyH_done (by kernel_rfl) ?_ _
          clear hHeld HS hrow B5 B6 B7 hall hmem hlen
          generalize mostOf f.name f.epochs.length all = m at HMR
          have B48 := Lib.hid (bel_call HBX.out B8.out)
          have HEX := Lib.hid (take_ex HX.out)
          by_cases hge : n ≤ m
          · have hd : decide (n ≤ m) = true := decide_eq_true hge
            have HYES := Lib.hid (HMR.out.1 hge)
            clear hge
            rw [hd]
            clear hd
            have GL := Lib.hid (HL.out.below rStr_ok B48.out)
            obtain ⟨A2, n2, c2, rfl, hn2⟩ := HL.out.shape'
            have hz8 := B48.out.size
            have hzr := hbel.size
            have HXL := Lib.hid x_name_le
            clear hn2
            go_wp2_with (at_builtin; go_loud (refine wpList_grow1 (R := rStr) _ _ rfl (.tmp 46) (.tmp 49) 47 rfl 9 istring _ 1 16 Try.underlying47 histring hzstring h1string h2string rfl (by decide) rStr_ok w4.heap.size (by omega) _ _ rfl GL.out _ _ rfl (by simp only [World.size_alloc, World.size_setCell, World.size_drew]) _ (by intro b hb; exact hb.elim) ⟨rfl, x_name_le⟩ (by omega) (by decide) ?_); intro v9 w9 g9 gg9 go9; obtain ⟨A9, n9, c9, rfl, hn9⟩ := g9.shape'; have G9 := Lib.hid g9; have GG9 := Lib.hid gg9; clear hn9 g9 gg9 go9)
            go_roundw
            case rel => exact ⟨k + 1, L ++ [x.name], by omega, by go_num, G9.out, fun z => by
              rw [List.mem_append, List.mem_singleton, HM.out, HEX.out]
              constructor
              · rintro (⟨h1, h2⟩ | rfl)
                · exact ⟨.inl h1, h2⟩
                · exact ⟨.inr rfl, HYES.out⟩
              · rintro ⟨h1 | rfl, h2⟩
                · exact .inl ⟨h1, h2⟩
                · exact .inr rfl, by rw [List.length_append, List.length_singleton]; have := HLK.out; omega, Below.grown (bel_call hbel B48.out) GG9.out (by omega) fun b hb => (GL.out.base_le b hb).1⟩
            case measure => simp [RowKit.intOf]; omega
          · have hd : decide (n ≤ m) = false := decide_eq_false hge
            rw [hd]
            clear hd
            have HNO := Lib.hid (fun h => hge (HMR.out.2 h))
            clear hge
            go_wp2
            go_roundw
            case rel => exact ⟨k + 1, L, by omega, by go_num, HL.out.below rStr_ok B48.out, fun z => by
              rw [HM.out, HEX.out]
              constructor
              · rintro ⟨h1, h2⟩; exact ⟨.inl h1, h2⟩
              · rintro ⟨h1 | rfl, h2⟩
                · exact ⟨h1, h2⟩
                · exact absurd h2 HNO.out, Nat.le_succ_of_le HLK.out, bel_call hbel B48.out⟩
            case measure => simp [RowKit.intOf]; omega
        · obtain rfl : k = st.users.length := by omega
          rw [List.take_length] at HM
          have HS9 := Lib.hid (sorted_any HL.out (by omega) fun s hs => by
            obtain ⟨⟨u, hu, rfl⟩, _⟩ := (HM.out s).1 hs
            exact HUS.out u hu)
          have HBS := Lib.hid fun b hb => (HL.out.base_le b hb).1
          have hzr := hbel.size
          clear HL
          go_wp2_with fail
          refine Calls.mono HS9.out ?_
          rintro e w5 ⟨⟨v', rfl, R, hR, hI, hRl⟩, hg5⟩
          have HRR := Lib.hid hR
          have HI := Lib.hid (show IsNames (WhoP st fo n) R from ⟨hI.1, fun x => (hI.2 x).trans ((HM.out x).trans ⟨fun h => ⟨f, HF.out, HNN.out.1, HNN.out.2, h.1, h.2⟩, fun ⟨_, _, _, _, h4, h5⟩ => ⟨h4, h5⟩⟩)⟩)
          have HRL := Lib.hid (Nat.le_trans hRl hLk)
          have HB5 := Lib.hid (bel_call (bel_call HB2.out B4.out) (Below.grown hbel hg5 hzr HBS.out))
          clear hR hI hRl hg5
          go_wp2
          go_ret
          exact ⟨⟨v', R, rfl, HRR.out, HI.out, HRL.out⟩, HB5.out⟩
end Go.Proofs.Ytocofkccdfaaaaa
