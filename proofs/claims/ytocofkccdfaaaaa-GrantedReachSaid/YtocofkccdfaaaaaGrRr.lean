/- Layer granted: the document's Readers. Conditions: as each theorem says. -/
import Derived.Test.YtocofkccdfaaaaaGrPut
namespace Go.Proofs.Ytocofkccdfaaaaa
open Go.RowKit Go.Deep

set_option maxHeartbeats 8000000 in
set_option maxRecDepth 100000 in
theorem refreaders_any (st : State) (hsm : Small st) (fo : Nm) (cs : List Value) (w : World) (S : Nat → Prop) (h : rState S w cs st) : Calls Try.prog 16 #[.agg cs.toArray, .string fo] w fun e w' => (∃ (v : Value) (R : List Nm), e = .returned v ∧ Sl 1 rStr (fun _ => True) w' v R ∧ IsNames (ReadP st fo) R) ∧ Below w.heap.size w w' := by
  have HR := Lib.hid (rState_keep h (show Kept S (fun z => z < w.heap.size) w w from fun b _ hl => ⟨hl, rfl⟩))
  have HSM := Lib.hid hsm
  clear hsm
  replace h := HR.out
  obtain ⟨st_A1, st_c1, st_A2, st_c2, st_A3, st_c3, rfl, st_turn_ok, st_users_l, st_users_m, st_users_n, st_users_s, st_deposits_l, st_deposits_m, st_deposits_n, st_deposits_s, st_folders_l, st_folders_m, st_folders_n, st_folders_s⟩ := open_State h
  obtain ⟨w0, hw0, cw0, fw0, Bw0, qw0⟩ := boxed w #[.int .i64 st.turn, .slice st_A1 st.users.length st_c1, .slice st_A2 st.deposits.length st_c2, .slice st_A3 st.folders.length st_c3] 26
  have HB0 := Lib.hid Bw0
  have HC0 := Lib.hid cw0
  have HST := Lib.hid fun W (hW : Below w0.heap.size w0 W) => rState_keep HR.out (kept_of (bel_call HB0.out hW))
  have s0 := cw0 0 _ rfl
  have s1 := cw0 1 _ rfl
  have s2 := cw0 2 _ rfl
  have s3 := cw0 3 _ rfl
  clear cw0 fw0 Bw0 st_users_s
  obtain ⟨istring, histring, hzstring, h1string, h2string⟩ := info_parts (show (Try.prog.info? 9).map (fun i => (i.zero, i.size, i.bytes)) = some (some (.string ⟨#[]⟩), 1, 16) from by kernel_rfl)
  go_enter Try.func16, Try.ntmps16
  go_wp2_with fail
  clear hw0 s0 s1 s2 s3
  refine Calls.mono (refchain_any st fo _ w0 _ (HST.out _ (Below.refl _ _))) ?_
  rintro e w1 ⟨⟨v1, rfl, hs1⟩, b1⟩
  obtain ⟨c, hc⟩ : ∃ c, chainOf st 4 fo = c := ⟨_, rfl⟩
  have HCC := Lib.hid hc
  rw [hc] at hs1
  have hc4 : c.length ≤ 4 := by rw [← hc]; exact chainOf_len _ _ _
  obtain ⟨A1, c1, rfl, hl1, hcm1, hn1, hs1⟩ := hs1
  unfold maxLen at hcm1
  have HB1 := Lib.hid b1
  clear hc b1
  go_wp2
  go_loopw [5, 7] (fun vo i wr => ∃ (k : Nat), k ≤ c.length ∧ i = .int .i64 k ∧ Hid (Grow 9 1 rStr (fun _ => False) wr w1.heap.size vo (memsOf st (c.take k))) ∧ Below w1.heap.size w1 wr) (fun _ i _ => c.length - (RowKit.intOf i).toNat)
  case atStart => exact ⟨0, by omega, by go_num, Grow.nil, Below.refl _ _⟩
  case round =>
    obtain ⟨k, hk, rfl, HG, hbel⟩ := hrel
    have B0 := Lib.hid (bel_call HB1.out hbel)
    obtain ⟨A2, n2, c2, rfl, hn2⟩ := HG.out.shape'
    clear hn2
    have hz1 := hbel.size
    by_cases hlt : k < c.length
    · obtain ⟨x, hx⟩ : ∃ x, c[k]? = some x := ⟨_, List.getElem?_eq_getElem hlt⟩
      obtain ⟨bx, ox, yx, hAx, hbx, hRx, hcx⟩ := SlAt.elem hs1 hx (by decide) hbel
      obtain ⟨g, hg⟩ := chain_found (st := st) (x := x) (by rw [HCC.out]; exact List.mem_of_getElem? hx)
      obtain ⟨m, hme⟩ : ∃ m, nowM g = m := ⟨_, rfl⟩
      have HM := Lib.hid hme
      have HMS := Lib.hid (show memsAt st x.name = m.members by rw [memsAt, hg, ← hme]; rfl)
      obtain ⟨j, hj, hgj⟩ := atIdx_some hg
      have HJ := Lib.hid hj
      have hjl := (List.getElem?_eq_some_iff.1 hgj).1
      have hji : (j : Int) < (st.folders.length : Int) := by omega
      obtain ⟨bg, og, yg, hAg, hbg, hRg, hcg⟩ := SlAt.elem st_folders_s hgj (by decide) (bel_call HB0.out B0.out)
      have HGR := Lib.hid hRg
      obtain ⟨rfl, x_name_le, x_seq_ok⟩ := open_At hRx
      obtain ⟨g_A2, g_c2, g_A3, g_c3, g_A4, g_c4, g_A5, g_c5, g_A6, g_c6, rfl, g_name_le, g_turn_ok, g_manifests_l, g_manifests_m, g_manifests_n, g_manifests_s, g_epochs_l, g_epochs_m, g_epochs_n, g_epochs_s, g_items_l, g_items_m, g_items_n, g_items_s, g_wraps_l, g_wraps_m, g_wraps_n, g_wraps_s, g_links_l, g_links_m, g_links_n, g_links_s⟩ := open_Folder hRg
      have u0 := hcx 0 _ rfl
      have g0 := hcg 0 _ rfl
      have g1 := hcg 1 _ rfl
      have g2 := hcg 2 _ rfl
      have g3 := hcg 3 _ rfl
      have g4 := hcg 4 _ rfl
      have g5 := hcg 5 _ rfl
      have g6 := hcg 6 _ rfl
      rw [Nat.add_zero] at u0 g0
      subst hAx
      subst hAg
      have hki : (k : Int) < (c.length : Int) := by omega
      have HT := Lib.hid (memsOf_take (st := st) hx)
      have HML := Lib.hid (memsOf_len HSM.out (c.take k))
      have hkl : (c.take k).length ≤ 4 := by have := len_take c k; omega
      have HSQ := Lib.hid (show ∀ W : World, Below wr.heap.size wr W → (fun W : World => (W.cell? ⟨w.heap.size, 0, none⟩ = some (.int .i64 st.turn) ∧ W.cell? ⟨w.heap.size, 1, none⟩ = some (.slice st_A1 st.users.length st_c1) ∧ W.cell? ⟨w.heap.size, 2, none⟩ = some (.slice st_A2 st.deposits.length st_c2) ∧ W.cell? ⟨w.heap.size, 3, none⟩ = some (.slice (some ⟨bg, og, none⟩) st.folders.length st_c3)) ∧ W.cell? ⟨bx, ox + k * 2, none⟩ = some (.string x.name) ∧ W.cell? ⟨bg, og + j * 7, none⟩ = some (.string g.name) ∧ W.cell? ⟨bg, og + j * 7 + 1, none⟩ = some (.int .i64 g.turn) ∧ W.cell? ⟨bg, og + j * 7 + 2, none⟩ = some (.slice g_A2 g.manifests.length g_c2) ∧ W.cell? ⟨bg, og + j * 7 + 3, none⟩ = some (.slice g_A3 g.epochs.length g_c3) ∧ W.cell? ⟨bg, og + j * 7 + 4, none⟩ = some (.slice g_A4 g.items.length g_c4) ∧ W.cell? ⟨bg, og + j * 7 + 5, none⟩ = some (.slice g_A5 g.wraps.length g_c5) ∧ W.cell? ⟨bg, og + j * 7 + 6, none⟩ = some (.slice g_A6 g.links.length g_c6)) W from fun W hW => by
        have c := fun j v hj => ((bel_call B0.out hW).cell (p := ⟨w.heap.size, j, none⟩) qw0).trans (HC0.out j v hj)
        have q := fun (o : Nat) v (h : wr.cell? ⟨bg, o, none⟩ = some v) => (hW.cell (p := ⟨bg, o, none⟩) (cell_lt h)).trans h
        exact ⟨⟨c 0 _ rfl, c 1 _ rfl, c 2 _ rfl, c 3 _ rfl⟩, (hW.cell (p := ⟨bx, ox + k * 2, none⟩) (cell_lt u0)).trans u0, q _ _ g0, q _ _ g1, q _ _ g2, q _ _ g3, q _ _ g4, q _ _ g5, q _ _ g6⟩)
      clear hx hg hme hj hgj hcx hcg u0 g0 g1 g2 g3 g4 g5 g6 g_manifests_s g_epochs_s g_items_s g_wraps_s g_links_s
      go_wp2
      have HS := HSQ.out
      refine wp_region_held_drew (S := fun W : World => (W.cell? ⟨w.heap.size, 0, none⟩ = some (.int .i64 st.turn) ∧ W.cell? ⟨w.heap.size, 1, none⟩ = some (.slice st_A1 st.users.length st_c1) ∧ W.cell? ⟨w.heap.size, 2, none⟩ = some (.slice st_A2 st.deposits.length st_c2) ∧ W.cell? ⟨w.heap.size, 3, none⟩ = some (.slice (some ⟨bg, og, none⟩) st.folders.length st_c3)) ∧ W.cell? ⟨bx, ox + k * 2, none⟩ = some (.string x.name) ∧ W.cell? ⟨bg, og + j * 7, none⟩ = some (.string g.name) ∧ W.cell? ⟨bg, og + j * 7 + 1, none⟩ = some (.int .i64 g.turn) ∧ W.cell? ⟨bg, og + j * 7 + 2, none⟩ = some (.slice g_A2 g.manifests.length g_c2) ∧ W.cell? ⟨bg, og + j * 7 + 3, none⟩ = some (.slice g_A3 g.epochs.length g_c3) ∧ W.cell? ⟨bg, og + j * 7 + 4, none⟩ = some (.slice g_A4 g.items.length g_c4) ∧ W.cell? ⟨bg, og + j * 7 + 5, none⟩ = some (.slice g_A5 g.wraps.length g_c5) ∧ W.cell? ⟨bg, og + j * 7 + 6, none⟩ = some (.slice g_A6 g.links.length g_c6)) (by kernel_rfl) (HS _ (Below.refl _ _).drew) (fun hHeld => ?_)
      refine wpAnyH_take (i := 0) (oi := ?_) (v := ?_) ?_ (by kernel_rfl) (by kernel_rfl) (by kernel_rfl) ?_ (Or.inl ⟨?_, ?_⟩) hHeld ?_
      rotate_left 2
      · simp only [List.getElem?_toArray, List.getElem?_cons_zero]; exact rfl
      · exact fun _ _ _ h => h
      · rfl
      · (intro W' hSw; (try dsimp only at hSw); go_simp; try with_reducible rfl)
      try simp only [Act.put, List.setIfInBounds_toArray, List.set_cons_zero, List.set_cons_succ]
      refine wpAnyH_take (i := 1) (oi := ?_) (v := ?_) ?_ (by kernel_rfl) (by kernel_rfl) (by kernel_rfl) ?_ (Or.inl ⟨?_, ?_⟩) hHeld ?_
      rotate_left 2
      · simp only [List.getElem?_toArray, List.getElem?_cons_succ, List.getElem?_cons_zero]; exact rfl
      · exact fun _ _ _ h => h
      · rfl
      · (intro W' hSw; (try dsimp only at hSw); go_simp; try with_reducible rfl)
      try simp only [Act.put, List.setIfInBounds_toArray, List.set_cons_zero, List.set_cons_succ]
      refine wpAnyH_take (i := 2) (oi := ?_) (v := ?_) ?_ (by kernel_rfl) (by kernel_rfl) (by kernel_rfl) ?_ (Or.inl ⟨?_, ?_⟩) hHeld ?_
      rotate_left 2
      · simp only [List.getElem?_toArray, List.getElem?_cons_succ, List.getElem?_cons_zero]; exact rfl
      · exact fun _ _ _ h => h
      · rfl
      · (intro W' hSw; (try dsimp only at hSw); go_simp; try with_reducible rfl)
      try simp only [Act.put, List.setIfInBounds_toArray, List.set_cons_zero, List.set_cons_succ]
      refine wpAnyH_take (i := 3) (oi := ?_) (v := ?_) ?_ (by kernel_rfl) (by kernel_rfl) (by kernel_rfl) ?_ (Or.inl ⟨?_, ?_⟩) hHeld ?_
      rotate_left 2
      · simp only [List.getElem?_toArray, List.getElem?_cons_succ, List.getElem?_cons_zero]; exact rfl
      · exact fun _ _ _ h => h
      · rfl
      · (intro W' hSw; (try dsimp only at hSw); go_simp; try with_reducible rfl)
      try simp only [Act.put, List.setIfInBounds_toArray, List.set_cons_zero, List.set_cons_succ]
      refine wpAnyH_take (i := 4) (oi := ?_) (v := ?_) ?_ (by kernel_rfl) (by kernel_rfl) (by kernel_rfl) ?_ (Or.inl ⟨?_, ?_⟩) hHeld ?_
      rotate_left 2
      · simp only [List.getElem?_toArray, List.getElem?_cons_succ, List.getElem?_cons_zero]; exact rfl
      · exact fun _ _ _ h => h
      · rfl
      · (intro W' hSw; (try dsimp only at hSw); go_simp; try with_reducible rfl)
      try simp only [Act.put, List.setIfInBounds_toArray, List.set_cons_zero, List.set_cons_succ]
      refine wpAnyH_take (i := 5) (oi := ?_) (v := ?_) ?_ (by kernel_rfl) (by kernel_rfl) (by kernel_rfl) ?_ (Or.inl ⟨?_, ?_⟩) hHeld ?_
      rotate_left 2
      · simp only [List.getElem?_toArray, List.getElem?_cons_succ, List.getElem?_cons_zero]; exact rfl
      · exact fun _ _ _ h => h
      · rfl
      · (intro W' hSw; (try dsimp only at hSw); go_simp; try with_reducible rfl)
      try simp only [Act.put, List.setIfInBounds_toArray, List.set_cons_zero, List.set_cons_succ]
      refine wpAnyH_take (i := 6) (oi := ?_) (v := ?_) ?_ (by kernel_rfl) (by kernel_rfl) (by kernel_rfl) ?_ (Or.inl ⟨?_, ?_⟩) hHeld ?_
      rotate_left 2
      · simp only [List.getElem?_toArray, List.getElem?_cons_succ, List.getElem?_cons_zero]; exact rfl
      · exact fun _ _ _ h => h
      · rfl
      · (intro W' hSw; (try dsimp only at hSw); go_simp; try with_reducible rfl)
      try simp only [Act.put, List.setIfInBounds_toArray, List.set_cons_zero, List.set_cons_succ]
      refine wpAnyH_take (i := 7) (oi := ?_) (v := ?_) ?_ (by kernel_rfl) (by kernel_rfl) (by kernel_rfl) ?_ (Or.inl ⟨?_, ?_⟩) hHeld ?_
      rotate_left 2
      · simp only [List.getElem?_toArray, List.getElem?_cons_succ, List.getElem?_cons_zero]; exact rfl
      · exact fun _ _ _ h => h
      · rfl
      · (intro W' hSw; (try dsimp only at hSw); go_simp; try with_reducible rfl)
      try simp only [Act.put, List.setIfInBounds_toArray, List.set_cons_zero, List.set_cons_succ]
      refine wpAnyH_ready (rs := [8]) (by kernel_rfl) (by simp) ?_
      refine AllReadyH.cons rfl (fun K hK => ?_) AllReadyH.nil
      go_simp
      go_at_call 23
      refine Calls.mono (refat2_any st x.name _ _ _ (HST.out _ (bel_call B0.out (Below.refl _ _).drew))) ?_
      rw [HJ.out]
      rintro e6 w6 ⟨rfl, b6⟩
      have B6 : Below wr.heap.size wr w6 := bel_call (Below.refl _ _).drew b6
      clear b6 hHeld
      refine hK.out _ _ (HS _ B6) (fun hHeld => ?_)
      clear hK K
      refine wpAnyH_take (i := 9) (oi := ?_) (v := ?_) ?_ (by kernel_rfl) (by kernel_rfl) (by kernel_rfl) ?_ (Or.inl ⟨?_, ?_⟩) hHeld ?_
      rotate_left 2
      · simp only [List.getElem?_toArray, List.getElem?_cons_succ, List.getElem?_cons_zero]; exact rfl
      · exact fun _ _ _ h => h
      · rfl
      · (intro W' hSw; (try dsimp only at hSw); go_simp; try with_reducible rfl)
      try simp only [Act.put, List.setIfInBounds_toArray, List.set_cons_zero, List.set_cons_succ]
      refine wpAnyH_take (i := 10) (oi := ?_) (v := ?_) ?_ (by kernel_rfl) (by kernel_rfl) (by kernel_rfl) ?_ (Or.inl ⟨?_, ?_⟩) hHeld ?_
      rotate_left 2
      · simp only [List.getElem?_toArray, List.getElem?_cons_succ, List.getElem?_cons_zero]; exact rfl
      · exact fun _ _ _ h => h
      · rfl
      · (intro W' hSw; (try dsimp only at hSw); go_simp; try with_reducible rfl)
      try simp only [Act.put, List.setIfInBounds_toArray, List.set_cons_zero, List.set_cons_succ]
      refine wpAnyH_ready (rs := [11]) (by kernel_rfl) (by simp) ?_
      refine AllReadyH.cons rfl (fun K hK => ?_) AllReadyH.nil
      go_simp
      go_at_call 29
      refine Calls.mono (refnow_any g _ _ _ (rFolder_keep HGR.out (kept_of (bel_call HB0.out (bel_call B0.out B6))))) ?_
      rw [HM.out]
      rintro e7 w7 ⟨⟨cm, rfl, hm⟩, b7⟩
      have B7 : Below wr.heap.size wr w7 := bel_call B6 b7
      clear b7 hHeld
      obtain ⟨m_A2, m_c2, m_A4, m_c4, rfl, m_folder_le, m_seq_ok, m_prev_l, m_prev_m, m_prev_n, m_prev_s, m_parent_le, m_members_l, m_members_m, m_members_n, m_members_s, m_cut_ok, m_who_le⟩ := open_Manifest hm
      have hfd := field_mems m.folder m.parent m.who m.seq m.cut m.gone (.slice m_A2 m.prev.length m_c2) (.slice m_A4 m.members.length m_c4)
      refine hK.out _ _ (HS _ B7) (fun hHeld => ?_)
      clear hK K m_prev_s
      refine wpAnyH_take (i := 12) (oi := ?_) (v := ?_) ?_ (by kernel_rfl) (by kernel_rfl) (by kernel_rfl) ?_ (Or.inl ⟨?_, ?_⟩) hHeld ?_
      rotate_left 2
      · simp only [List.getElem?_toArray, List.getElem?_cons_succ, List.getElem?_cons_zero]; exact rfl
      · exact fun _ _ _ h => h
      · rfl
      · (intro W' hSw; (try dsimp only at hSw); go_simp; try with_reducible rfl)
      try simp only [Act.put, List.setIfInBounds_toArray, List.set_cons_zero, List.set_cons_succ]
      refine wpAnyH_take (i := 13) (oi := ?_) (v := ?_) ?_ (by kernel_rfl) (by kernel_rfl) (by kernel_rfl) ?_ (Or.inl ⟨?_, ?_⟩) hHeld ?_
      rotate_left 2
      · simp only [List.getElem?_toArray, List.getElem?_cons_succ, List.getElem?_cons_zero]; exact rfl
      · exact fun _ _ _ h => h
      · rfl
      · (intro W' hSw; (try dsimp only at hSw); go_simp; try with_reducible rfl)
      try simp only [Act.put, List.setIfInBounds_toArray, List.set_cons_zero, List.set_cons_succ]
      refine wpAnyH_done (by kernel_rfl) ?_ _
      clear hHeld HS hfd
      have HG5 := Lib.hid (HG.out.below rStr_ok B7)
      have HB5 := Lib.hid (bel_call hbel B7)
      have hml : m.members.length ≤ 20 := by have := (memsAt_small HSM.out x.name).1; rwa [HMS.out] at this
      clear B6 B7
      go_wp2
      go_loopw [5, 9] (fun vo i wr2 => ∃ j : Nat, j ≤ m.members.length ∧ i = .int .i64 j ∧ Hid (Grow 9 1 rStr (fun _ => False) wr2 w1.heap.size vo (memsOf st (c.take k) ++ (m.members.take j).map Member.name)) ∧ Below w1.heap.size w1 wr2) (fun _ i _ => m.members.length - (RowKit.intOf i).toNat)
      case atStart => exact ⟨0, by omega, by go_num, (Lib.hid (by simpa using HG5.out)), HB5.out⟩
      case round =>
        clear HG HG5 hz1
        obtain ⟨wr2, rfl⟩ : ∃ q, q = wr := ⟨_, rfl⟩
        obtain ⟨i, hi, rfl, HG, hbel2⟩ := hrel
        obtain ⟨A6, n6, c6, rfl, hn6⟩ := HG.out.shape'
        clear hn6
        by_cases hlj : i < m.members.length
        · obtain ⟨y, hy⟩ : ∃ y, m.members[i]? = some y := ⟨_, List.getElem?_eq_getElem hlj⟩
          obtain ⟨b', o', ys', hA', hSb, hlen', hcz', hRy⟩ := m_members_s i y hy
          have hcy := fun q v hq => ((stay2 HB0.out.size (bel_call HB1.out HB5.out) (bel_call HB1.out hbel2)) b' hSb).trans rfl |> fun e => (World.cell?_of_block (a := ⟨b', o' + (i * 2 + q), none⟩) e).trans (hcz' q v hq)
          obtain ⟨rfl, y_name_le, y_role_ok⟩ := open_Member hRy
          have u0 := hcy 0 _ rfl
          have u1 := hcy 1 _ rfl
          rw [Nat.add_zero] at u0
          rw [← Nat.add_assoc] at u1
          subst hA'
          have hii : (i : Int) < (m.members.length : Int) := by omega
          have HTJ := Lib.hid (show (memsOf st (c.take k) ++ (m.members.take i).map Member.name) ++ [y.name] = memsOf st (c.take k) ++ (m.members.take (i + 1)).map Member.name by rw [List.take_add_one, hy, List.map_append, List.append_assoc]; rfl)
          have hll : (memsOf st (c.take k) ++ (m.members.take i).map Member.name).length ≤ 200 := by
            rw [List.length_append, List.length_map]
            have := HML.out
            have := len_take m.members i
            omega
          have hz6 : w1.heap.size ≤ wr2.heap.size := hbel2.size
          have HYL := Lib.hid y_name_le
          have HTL := Lib.hid (show Below wr2.heap.size wr2 wr2.drew from (Below.refl _ _).drew)
          clear hy hcy
          go_wp2_with (at_builtin; go_loud (refine wpList_grow1 (R := rStr) _ _ rfl (.tmp 42) (.tmp 48) 47 rfl 9 istring _ 1 16 Try.underlying47 histring hzstring h1string h2string rfl (by decide) rStr_ok w1.heap.size hz6 _ _ rfl HG.out _ _ rfl (by simp only [World.size_alloc, World.size_setCell, World.size_drew]) _ (by intro b hb; exact hb.elim) ⟨rfl, HYL.out⟩ (by omega) (by decide) ?_); intro v7 w8 g7 gg7 go7; obtain ⟨A7, n7, c7, rfl, hn7⟩ := g7.shape'; have G7 := Lib.hid g7; have GG7 := Lib.hid gg7; clear hn7 g7 gg7 go7)
          go_roundw
          case rel =>
            refine ⟨i + 1, by omega, by go_num, ?_, ?_⟩
            · show Grow _ _ _ _ _ _ _ _
              rw [← HTJ.out]
              exact G7.out
            · exact Below.grown hbel2 GG7.out hz6 fun b hb => (HG.out.base_le b hb).1
          case measure => simp [RowKit.intOf]; omega
        · obtain rfl : i = m.members.length := by omega
          have HGE := Lib.hid (show Grow 9 1 rStr (fun _ => False) wr2 w1.heap.size (.slice A6 n6 c6) (memsOf st (c.take (k + 1))) by rw [HT.out, HMS.out]; have := HG.out; rwa [List.take_length] at this)
          clear HG
          go_wp2
          go_roundw
          case rel => exact ⟨k + 1, by omega, by go_num, HGE, hbel2⟩
          case measure => simp [RowKit.intOf]; omega
    · obtain rfl : k = c.length := by omega
      rw [List.take_length] at HG
      have hS80 : (memsOf st c).length ≤ 80 := by have := memsOf_len HSM.out c; omega
      have hd100 : st.deposits.length ≤ 100 := by have := HSM.out.all; omega
      have HCL := Lib.hid (Cl.start (depE st.deposits) (memsOf st c))
      clear hlt hk
      go_wp2
      go_loopw [5, 10] (fun vo i wr => ∃ (q : Nat) (L : List Nm), q ≤ L.length ∧ i = .int .i64 q ∧ Hid (Grow 9 1 rStr (fun _ => False) wr w1.heap.size vo L) ∧ Hid (Cl (depE st.deposits) (memsOf st c) L q) ∧ Below w1.heap.size w1 wr) (fun _ i _ => 200 - (RowKit.intOf i).toNat)
      case atStart => exact ⟨0, _, by omega, by go_num, HG, HCL, hbel⟩
      case round =>
        clear HG HCL hbel hz1 B0
        obtain ⟨wr3, rfl⟩ : ∃ q, q = wr := ⟨_, rfl⟩
        obtain ⟨q, L, hq, rfl, HG, HCL, hbel⟩ := hrel
        have B0 := Lib.hid (bel_call HB1.out hbel)
        obtain ⟨A6, n6, c6, rfl, hn6⟩ := HG.out.shape'
        have hLL : L.length ≤ 180 := by have := HCL.out.len; rw [depE_len] at this; omega
        have hz1 := hbel.size
        subst hn6
        by_cases hlt : q < L.length
        · obtain ⟨y, hy⟩ : ∃ y, L[q]? = some y := ⟨_, List.getElem?_eq_getElem hlt⟩
          have HQ := Lib.hid (show ∀ r ∈ st.deposits.take 0, r.frm = y → r.to ∈ L from fun r hr => by simp at hr)
          have HY := Lib.hid hy
          clear hy
          go_wp2
          go_loopw [5, 11] (fun vo i wr => ∃ (d : Nat) (L' : List Nm), d ≤ st.deposits.length ∧ i = .int .i64 d ∧ q < L'.length ∧ Hid (L'[q]? = some y) ∧ Hid (Grow 9 1 rStr (fun _ => False) wr w1.heap.size vo L') ∧ Hid (Cl (depE st.deposits) (memsOf st c) L' q) ∧ Hid (∀ r ∈ st.deposits.take d, r.frm = y → r.to ∈ L') ∧ Below w1.heap.size w1 wr) (fun _ i _ => st.deposits.length - (RowKit.intOf i).toNat)
          case atStart => exact ⟨0, L, by omega, by go_num, hlt, HY, HG, HCL, HQ, hbel⟩
          case round =>
            clear HQ HG HCL hbel hLL hlt hz1 B0 hq HY
            obtain ⟨wr4, rfl⟩ : ∃ q, q = wr := ⟨_, rfl⟩
            obtain ⟨d, L', hd, rfl, hqL, HY, HG, HCL, HQ, hbel⟩ := hrel
            have B0 := Lib.hid (bel_call HB1.out hbel)
            have hLL : L'.length ≤ 180 := by have := HCL.out.len; rw [depE_len] at this; omega
            have hz1 := hbel.size
            have s2 := (B0.out.cell (p := ⟨w.heap.size, 2, none⟩) qw0).trans (HC0.out 2 _ rfl)
            obtain ⟨A7, c7, hv7, hl7, hc7, hn7, hs7⟩ := Own.sl rStr_ok HG.out
            subst hv7
            unfold maxLen at hc7
            by_cases hld : d < st.deposits.length
            · obtain ⟨p, hp⟩ : ∃ p, st.deposits[d]? = some p := ⟨_, List.getElem?_eq_getElem hld⟩
              obtain ⟨b, o, ys, hA, hbl, hRp, hcz⟩ := SlAt.elem st_deposits_s hp (by decide) (bel_call HB0.out B0.out)
              obtain ⟨y', by_, oy, hy', _, _, hA7, q0⟩ := get_str hs7 hqL (Kept.refl wr4 fun _ h => h)
              obtain rfl : y = y' := Option.some.inj (HY.out.symm.trans hy')
              obtain ⟨rfl, p_frm_le, p_to_le⟩ := open_Pair hRp
              have u0 := hcz 0 _ rfl
              have u1 := hcz 1 _ rfl
              rw [Nat.add_zero] at u0
              subst hA
              subst hA7
              have hdi : (d : Int) < (st.deposits.length : Int) := by omega
              have hqi : (q : Int) < (L'.length : Int) := by omega
              have HPL := Lib.hid p_to_le
              have HP := Lib.hid hp
              have HSL := Lib.hid (Own.sl rStr_ok HG.out)
              clear hp hy' hcz
              by_cases hfr : p.frm = y
              · have hse : (p.frm.toList == y.toList) = true := by rw [hfr]; simp
                have HCN := Lib.hid (fun nq => in_any L' _ p.to (wr4.drewN nq) _ (HSL.out.keep rStr_ok (by decide) (kept_of (belN (Below.refl _ _) nq))))
                have HFR := Lib.hid hfr
                clear hfr
                cases hmem : memB L' p.to with
                | true =>
                  have HQ2 := Lib.hid (deps_take HP.out (P := fun x => x ∈ L') HQ.out fun _ => memB_iff.1 hmem)
                  rw [hmem] at HCN
                  clear hmem
                  go_wp2_with fail
                  go_quiet ((go_at_call 44; refine Calls.quiet_of_same (HCN.out _)))
                  go_wp2
                  go_roundw
                  case rel => exact ⟨d + 1, L', by omega, by go_num, hqL, HY, (HG.out.below rStr_ok (belN (Below.refl _ _) _)), HCL, HQ2, belN hbel _⟩
                  case measure => simp [RowKit.intOf]; omega
                | false =>
                  have HNM := Lib.hid (show p.to ∉ L' from fun hm => by rw [memB_iff.2 hm] at hmem; cases hmem)
                  have HED := Lib.hid (show (y, p.to) ∈ depE st.deposits from mem_depE.2 ⟨p, List.mem_of_getElem? HP.out, HFR.out, rfl⟩)
                  rw [hmem] at HCN
                  clear hmem
                  go_wp2_with fail
                  go_quiet ((go_at_call 44; refine Calls.quiet_of_same (HCN.out _)))
                  generalize hw7 : wr4.drewN nq = w7
                  have B67 : Below wr4.heap.size wr4 w7 := by rw [← hw7]; exact belN (Below.refl _ _) _
                  have HG7 := Lib.hid (HG.out.below rStr_ok B67)
                  have u1' := (B67.cell (p := ⟨b, o + d * 2 + 1, none⟩) (cell_lt u1)).trans u1
                  have s2' := (B67.cell (p := ⟨w.heap.size, 2, none⟩) (cell_lt s2)).trans s2
                  have HB7 := Lib.hid (bel_call hbel B67)
                  have hz7 : w1.heap.size ≤ w7.heap.size := HB7.out.size
                  clear hw7 B67 u0 u1 s2 q0
                  go_wp2_with (at_builtin; go_loud (refine wpList_grow1 (R := rStr) _ _ rfl (.tmp 85) (.tmp 92) 47 rfl 9 istring _ 1 16 Try.underlying47 histring hzstring h1string h2string rfl (by decide) rStr_ok w1.heap.size hz7 _ _ rfl HG7.out _ _ rfl (by simp only [World.size_alloc, World.size_setCell, World.size_drew]) _ (by intro b hb; exact hb.elim) ⟨rfl, HPL.out⟩ (by omega) (by decide) ?_); intro v8 w8 g8 gg8 go8; obtain ⟨A8, n8, c8, rfl, hn8⟩ := g8.shape'; have G8 := Lib.hid g8; have GG8 := Lib.hid gg8; clear hn8 g8 gg8 go8)
                  go_roundw
                  case rel => exact ⟨d + 1, L' ++ [p.to], by omega, by go_num, by rw [List.length_append]; omega, (Lib.hid (by rw [List.getElem?_append_left hqL]; exact HY.out)), G8, (Lib.hid (HCL.out.add (List.mem_of_getElem? HY.out) HED.out HNM.out (by omega))), (Lib.hid (deps_take HP.out (P := fun x => x ∈ L' ++ [p.to]) (fun r hr e => List.mem_append_left _ (HQ.out r hr e)) fun _ => List.mem_append_right _ (by simp))), Below.grown HB7.out GG8.out hz7 fun b hb => (HG7.out.base_le b hb).1⟩
                  case measure => simp [RowKit.intOf]; omega
              · have hse : (p.frm.toList == y.toList) = false := eqS_ne hfr
                have HQ2 := Lib.hid (deps_take HP.out (P := fun x => x ∈ L') HQ.out fun e => absurd e hfr)
                clear hfr
                go_wp2_with fail
                go_quiet (fail)
                go_wp2
                go_roundw
                case rel => exact ⟨d + 1, L', by omega, by go_num, hqL, HY, (HG.out.below rStr_ok (belN (Below.refl _ _) _)), HCL, HQ2, belN hbel _⟩
                case measure => simp [RowKit.intOf]; omega
            · obtain rfl : d = st.deposits.length := by omega
              have HN := Lib.hid (HCL.out.next HY.out fun z hz => by
                obtain ⟨p, hp, e1, e2⟩ := mem_depE.1 hz
                subst e2
                exact HQ.out p (by rw [List.take_length]; exact hp) e1)
              go_wp2
              go_roundw
              case rel => exact ⟨q + 1, L', by omega, by go_num, HG, HN, hbel⟩
              case measure => simp [RowKit.intOf]; omega
        · obtain rfl : q = L.length := by omega
          have HALL := Lib.hid (HCL.out.all (Nat.le_refl _))
          obtain ⟨A7, c7, hv7, hl7, hc7, hn7, hs7⟩ := Own.sl rStr_ok HG.out
          cases hv7
          unfold maxLen at hc7
          have HS0 := Lib.hid (show IsNames (fun x => x ∈ L.take 0) [] from IsNames.nil fun x hx => by simp at hx)
          clear HG hlt hq
          go_wp2
          go_loopw [12, 13] (fun vo i wr => ∃ (q : Nat) (R : List Nm), q ≤ L.length ∧ i = .int .i64 q ∧ Hid (RowC 9 1 wr vo (strs R)) ∧ Hid (∀ b, vo.ownBlock = some b → wr3.heap.size ≤ b) ∧ Hid (IsNames (fun x => x ∈ L.take q) R) ∧ R.length ≤ q ∧ Below wr3.heap.size wr3 wr) (fun _ i _ => L.length - (RowKit.intOf i).toNat)
          case atStart => exact ⟨0, [], by omega, by go_num, RowC.nil _, (fun b hb => by cases hb), HS0, Nat.le_refl _, Below.refl _ _⟩
          case round =>
            clear HS0
            obtain ⟨wr5, rfl⟩ : ∃ q, q = wr := ⟨_, rfl⟩
            obtain ⟨q, R, hq, rfl, HRW, HOB, HI, hRq, hbel5⟩ := hrel
            have HRZ := Lib.hid (show ∀ x ∈ R, x.size ≤ 1000 from fun x hx => read_size HSM.out ((HALL.out x).1 (List.mem_of_mem_take ((HI.out.2 x).1 hx))))
            by_cases hlt : q < L.length
            · obtain ⟨y, b, o, hy, _, hym, hA7, q0⟩ := get_str hs7 hlt (kept_of hbel5)
              subst hA7
              have hqi : (q : Int) < (L.length : Int) := by omega
              have HPU := Lib.hid (put_any HRW.out (by omega) HRZ.out HI.out.1 y)
              have HI2 := Lib.hid (show IsNames (fun x => x ∈ L.take (q + 1)) (putS R y) from by
                have h1 := putS_is HI.out y
                refine ⟨h1.1, fun x => (h1.2 x).trans ?_⟩
                show x = y ∨ x ∈ L.take q ↔ x ∈ L.take (q + 1)
                rw [List.take_add_one, hy, List.mem_append]
                simp [or_comm])
              have HPL := Lib.hid (putS_len R y)
              obtain ⟨A9, n9, c9, hv9⟩ := HRW.out.shape3
              subst hv9
              clear hy hym
              go_wp2_with fail
              refine Calls.mono HPU.out ?_
              rintro e6 w6 ⟨v6, rfl, r6, g6, o6⟩
              have HR6 := Lib.hid r6
              have HO6 := Lib.hid (show ∀ b, v6.ownBlock = some b → wr3.heap.size ≤ b from fun b hb => by
                rcases o6 with o | ⟨z, o, hz⟩
                · exact HOB.out b (o ▸ hb)
                · obtain rfl := Option.some.inj (o.symm.trans hb)
                  exact Nat.le_trans hbel5.size hz)
              have HB6 := Lib.hid (Below.grown hbel5 g6 hbel5.size fun b hb => HOB.out b hb)
              clear r6 g6 o6
              go_wp2
              go_roundw
              case rel => exact ⟨q + 1, _, by omega, by go_num, HR6, HO6, HI2, by have := HPL.out; omega, HB6.out⟩
              case measure => simp [RowKit.intOf]; omega
            · obtain rfl : q = L.length := by omega
              have HSL := Lib.hid (strs_sl HRW.out (by omega) HRZ.out)
              have HIF := Lib.hid (show IsNames (ReadP st fo) R from ⟨HI.out.1, fun x => (HI.out.2 x).trans (by rw [List.take_length]; exact (HALL.out x).trans (by rw [ReadP, HCC.out]))⟩)
              have HBF := Lib.hid (bel_call HB0.out (bel_call HB1.out (bel_call hbel hbel5)))
              clear HRW
              go_wp2
              go_ret
              exact ⟨⟨_, R, rfl, HSL.out, HIF.out⟩, HBF.out⟩
end Go.Proofs.Ytocofkccdfaaaaa
