/- Layer granted: the document's Chain. Conditions: as each theorem says. -/
import Derived.Test.YtkapaafbnbnpjaaGreatDoorSeRef
import Derived.Test.YtkapaafbnbnpjaaGreatDoorStep
import Derived.Deep.RegionHeld3
namespace Go.Proofs.YtkapaafbnbnpjaaGreatDoor
open Go.RowKit Go.Deep

def lenV : Value → Nat
  | .slice _ n _ => n
  | _ => 0
set_option maxHeartbeats 4000000 in
set_option maxRecDepth 100000 in
theorem refchain_any (st : State) (name : Nm) (cs : List Value) (w : World) (S : Nat → Prop) (h : rState S w cs st) : Calls Tryz.prog 11 #[.agg cs.toArray, .string name] w fun e w' => (∃ v, e = .returned v ∧ Sl 2 rAt (fun _ => True) w' v (chainOf st 4 name)) ∧ Below w.heap.size w w' := by
  have HR := Lib.hid h
  obtain ⟨st_A1, st_c1, st_A2, st_c2, st_A3, st_c3, rfl, st_turn_ok, st_users_l, st_users_m, st_users_n, st_users_s, st_deposits_l, st_deposits_m, st_deposits_n, st_deposits_s, st_folders_l, st_folders_m, st_folders_n, st_folders_s⟩ := open_State h
  obtain ⟨w0, hw0, cw0, fw0, Bw0, qw0⟩ := boxed w #[.int .i64 st.turn, .slice st_A1 st.users.length st_c1, .slice st_A2 st.deposits.length st_c2, .slice st_A3 st.folders.length st_c3] 26
  have HB0 := Lib.hid Bw0
  have HC0 := Lib.hid cw0
  have HST := Lib.hid fun W (hW : Below w0.heap.size w0 W) => rState_keep HR.out (kept_of (bel_call HB0.out hW))
  have s0 := cw0 0 _ rfl
  have s1 := cw0 1 _ rfl
  have s2 := cw0 2 _ rfl
  have s3 := cw0 3 _ rfl
  clear cw0 fw0 Bw0 st_users_s st_deposits_s
  obtain ⟨iAt, hiAt, hzAt, h1At, h2At⟩ := info_parts (show (Tryz.prog.info? 65).map (fun i => (i.zero, i.size, i.bytes)) = some (some (.agg #[.string ⟨#[]⟩, .int .i64 0]), 2, 24) from by kernel_rfl)
  go_enter Tryz.func11, Tryz.ntmps11
  go_wp2_with fail
  clear hw0
  refine Calls.mono (refat_any st name _ w0 S (HST.out _ (Below.refl _ _))) ?_
  rintro e w1 ⟨⟨i0, rfl, hi0⟩, B1⟩
  have HI0 := Lib.hid hi0
  have HB1 := Lib.hid B1
  clear s0 s1 s2 s3 hi0 B1
  go_wp2
  go_loopw [5, 6] (fun vo i wr => ∃ (z : Int) (cur : Nm) (L : List At), i = .int .i64 z ∧ lenV vo = L.length ∧ Hid (AtI (isF cur) st.folders z) ∧ Hid (Grow 65 2 rAt (fun _ => False) wr w0.heap.size vo L) ∧ Hid (L ++ chainOf st (4 - L.length) cur = chainOf st 4 name) ∧ L.length ≤ 4 ∧ Below w0.heap.size w0 wr) (fun vo _ _ => 4 - lenV vo)
  case atStart => exact ⟨i0, name, [], rfl, rfl, HI0, Grow.nil, (Lib.hid rfl), by simp, HB1.out⟩
  case round =>
    clear HI0 HB1
    obtain ⟨z, cur, L, rfl, hlv, HI, HG, HL, hL4, hbel⟩ := hrel
    have B0 := Lib.hid (bel_call HB0.out hbel)
    have s0 := (hbel.cell (p := ⟨w.heap.size, 0, none⟩) qw0).trans (HC0.out 0 _ rfl)
    have s1 := (hbel.cell (p := ⟨w.heap.size, 1, none⟩) qw0).trans (HC0.out 1 _ rfl)
    have s2 := (hbel.cell (p := ⟨w.heap.size, 2, none⟩) qw0).trans (HC0.out 2 _ rfl)
    have s3 := (hbel.cell (p := ⟨w.heap.size, 3, none⟩) qw0).trans (HC0.out 3 _ rfl)
    obtain ⟨A2, n2, c2, rfl, hn2⟩ := HG.out.shape'
    have hzr := hbel.size
    subst hn2
    clear hlv
    rcases HI.out with ⟨k, f, rfl, hk, hff⟩ | ⟨rfl, hff⟩
    rotate_left
    · have HE := Lib.hid (show L = chainOf st 4 name by rw [← HL.out, chainOf_none hff, List.append_nil])
      clear hff
      go_wp2
      go_ret
      exact ⟨⟨_, rfl, by rw [← HE.out]; exact Own.sl rAt_ok HG.out⟩, B0.out⟩
    have hkd : decide ((0 : Int) ≤ (k : Int)) = true := decide_eq_true (by omega)
    rcases Nat.lt_or_ge L.length 4 with hl4 | hl4
    rotate_left
    · have hl : L.length = 4 := by omega
      have HE := Lib.hid (show L = chainOf st 4 name by have := HL.out; rw [hl] at this; rwa [Nat.sub_self, chainOf, List.append_nil] at this)
      have hd : decide ((L.length : Int) < 4) = false := decide_eq_false (by omega)
      clear hff hk
      go_wp2
      go_ret
      exact ⟨⟨_, rfl, by rw [← HE.out]; exact Own.sl rAt_ok HG.out⟩, B0.out⟩
    have hd : decide ((L.length : Int) < 4) = true := decide_eq_true (by omega)
    have hki : (k : Int) < (st.folders.length : Int) := by have := (List.getElem?_eq_some_iff.1 hk).1; omega
    have hnm : f.name = cur := by simpa [isF] using List.find?_some hff
    subst hnm
    obtain ⟨b, o, ys, hA, hbl, hRf, hcz⟩ := SlAt.elem st_folders_s hk (by decide) B0.out
    have HRF := Lib.hid hRf
    obtain ⟨f_A2, f_c2, f_A3, f_c3, f_A4, f_c4, f_A5, f_c5, f_A6, f_c6, rfl, f_name_le, f_turn_ok, f_manifests_l, f_manifests_m, f_manifests_n, f_manifests_s, f_epochs_l, f_epochs_m, f_epochs_n, f_epochs_s, f_items_l, f_items_m, f_items_n, f_items_s, f_wraps_l, f_wraps_m, f_wraps_n, f_wraps_s, f_links_l, f_links_m, f_links_n, f_links_s⟩ := open_Folder hRf
    have u0 := hcz 0 _ rfl
    have u1 := hcz 1 _ rfl
    have u2 := hcz 2 _ rfl
    have u3 := hcz 3 _ rfl
    have u4 := hcz 4 _ rfl
    have u5 := hcz 5 _ rfl
    have u6 := hcz 6 _ rfl
    rw [Nat.add_zero] at u0
    have HU0 := Lib.hid u0
    subst hA
    obtain ⟨m, hm⟩ : ∃ m, nowM f = m := ⟨_, rfl⟩
    have HE := Lib.hid (show (L ++ [(⟨f.name, m.seq⟩ : At)]) ++ chainOf st (4 - (L ++ [(⟨f.name, m.seq⟩ : At)]).length) m.parent = chainOf st 4 name by
      rw [← HL.out, List.length_append, List.length_singleton, show 4 - L.length = (4 - (L.length + 1)) + 1 by omega, chainOf_some (f := f) hff, hm, List.append_assoc]
      rfl)
    have HN := Lib.hid (refnow_any f _ wr S (rFolder_keep HRF.out (kept_of B0.out)))
    clear hk hff hcz f_manifests_s f_epochs_s f_items_s f_wraps_s f_links_s
    go_wp2_with fail
    clear s0 s1 s2 s3 u0 u1 u2 u3 u4 u5 u6
    refine Calls.mono HN.out ?_
    rintro e w3 ⟨⟨cm, rfl, hmr⟩, b3⟩
    rw [hm] at hmr
    have HG3 := Lib.hid (HG.out.below rAt_ok b3)
    have HB3 := Lib.hid (bel_call hbel b3)
    have hz3 := b3.size
    obtain ⟨m_A2, m_c2, m_A4, m_c4, rfl, m_folder_le, m_seq_ok, m_prev_l, m_prev_m, m_prev_n, m_prev_s, m_parent_le, m_members_l, m_members_m, m_members_n, m_members_s, m_cut_ok, m_who_le⟩ := open_Manifest hmr
    obtain ⟨w4, hw4, cw4, fw4, Bw4, qw4⟩ := boxed w3 #[.string m.folder, .int .i64 m.seq, .slice m_A2 m.prev.length m_c2, .string m.parent, .slice m_A4 m.members.length m_c4, .int .i64 m.cut, .bool m.gone, .string m.who] 43
    have HG4 := Lib.hid (HG3.out.below rAt_ok Bw4)
    have HB4 := Lib.hid (bel_call HB3.out Bw4)
    have HC4 := Lib.hid cw4
    have t1 := cw4 1 _ rfl
    have t3 := cw4 3 _ rfl
    have hz4 := Bw4.size
    have s3 := (HB4.out.cell (p := ⟨w.heap.size, 3, none⟩) qw0).trans (HC0.out 3 _ rfl)
    have u0 := (Below.cell (bel_call b3 Bw4) (p := ⟨b, o + k * 7, none⟩) (cell_lt HU0.out)).trans HU0.out
    clear cw4 fw4 Bw4 b3 hm m_prev_s m_members_s
    go_wp2_with fail
    clear hw4
    have HSQ := Lib.hid (show ∀ W : World, Below w4.heap.size w4 W → (fun W : World => W.cell? ⟨w3.heap.size, 1, none⟩ = some (.int .i64 m.seq) ∧ W.cell? ⟨w.heap.size, 3, none⟩ = some (.slice (some ⟨b, o, none⟩) st.folders.length st_c3) ∧ W.cell? ⟨b, o + k * 7, none⟩ = some (.string f.name)) W from fun W hW => ⟨(hW.cell (p := ⟨w3.heap.size, 1, none⟩) qw4).trans t1, (hW.cell (p := ⟨w.heap.size, 3, none⟩) (cell_lt s3)).trans s3, (hW.cell (p := ⟨b, o + k * 7, none⟩) (cell_lt u0)).trans u0⟩)
    have hml : m.parent.size ≤ 140737488355328 := m_parent_le
    have HQ4 := Lib.hid qw4
    clear t1 t3 s3 u0
    have HS := HSQ.out
    refine wp_region_held_drew (S := fun W : World => W.cell? ⟨w3.heap.size, 1, none⟩ = some (.int .i64 m.seq) ∧ W.cell? ⟨w.heap.size, 3, none⟩ = some (.slice (some ⟨b, o, none⟩) st.folders.length st_c3) ∧ W.cell? ⟨b, o + k * 7, none⟩ = some (.string f.name)) (by kernel_rfl) (HS _ (Below.refl _ _).drew) (fun hHeld => ?_)
    refine wpAnyH_take (i := 0) (oi := ?_) (v := ?_) ?_ (by kernel_rfl) (by kernel_rfl) (by kernel_rfl) ?_ (Or.inl ⟨?_, ?_⟩) hHeld ?_
    rotate_left 2
    · simp only [List.getElem?_toArray, List.getElem?_cons_zero]; exact rfl
    · exact fun _ _ _ h => h
    · rfl
    · (intro W' hSw; (try dsimp only at hSw); go_simp; try with_reducible rfl)
    try simp only [Act.put, List.setIfInBounds_toArray, List.set_cons_zero, List.set_cons_succ]
    refine wpAnyH_take (i := 1) (oi := ?_) (v := ?_) ?_ (by kernel_rfl) (by kernel_rfl) (by kernel_rfl) ?_ (Or.inl ⟨?_, ?_⟩) hHeld ?_
    rotate_left 2
    · simp only [List.getElem?_toArray, List.getElem?_cons_succ, List.getElem?_cons_zero]; exact rfl
    · exact fun _ _ _ h => h
    · rfl
    · (intro W' hSw; (try dsimp only at hSw); go_simp; try with_reducible rfl)
    try simp only [Act.put, List.setIfInBounds_toArray, List.set_cons_zero, List.set_cons_succ]
    refine wpAnyH_take (i := 2) (oi := ?_) (v := ?_) ?_ (by kernel_rfl) (by kernel_rfl) (by kernel_rfl) ?_ (Or.inl ⟨?_, ?_⟩) hHeld ?_
    rotate_left 2
    · simp only [List.getElem?_toArray, List.getElem?_cons_succ, List.getElem?_cons_zero]; exact rfl
    · exact fun _ _ _ h => h
    · rfl
    · (intro W' hSw; (try dsimp only at hSw); go_simp; try with_reducible rfl)
    try simp only [Act.put, List.setIfInBounds_toArray, List.set_cons_zero, List.set_cons_succ]
    refine wpAnyH_take (i := 3) (oi := ?_) (v := ?_) ?_ (by kernel_rfl) (by kernel_rfl) (by kernel_rfl) ?_ (Or.inl ⟨?_, ?_⟩) hHeld ?_
    rotate_left 2
    · simp only [List.getElem?_toArray, List.getElem?_cons_succ, List.getElem?_cons_zero]; exact rfl
    · exact fun _ _ _ h => h
    · rfl
    · (intro W' hSw; (try dsimp only at hSw); go_simp; try with_reducible rfl)
    try simp only [Act.put, List.setIfInBounds_toArray, List.set_cons_zero, List.set_cons_succ]
    refine wpAnyH_take (i := 4) (oi := ?_) (v := ?_) ?_ (by kernel_rfl) (by kernel_rfl) (by kernel_rfl) ?_ (Or.inl ⟨?_, ?_⟩) hHeld ?_
    rotate_left 2
    · simp only [List.getElem?_toArray, List.getElem?_cons_succ, List.getElem?_cons_zero]; exact rfl
    · exact fun _ _ _ h => h
    · rfl
    · (intro W' hSw; (try dsimp only at hSw); go_simp; try with_reducible rfl)
    try simp only [Act.put, List.setIfInBounds_toArray, List.set_cons_zero, List.set_cons_succ]
    refine wpAnyH_take (i := 5) (oi := ?_) (v := ?_) ?_ (by kernel_rfl) (by kernel_rfl) (by kernel_rfl) ?_ (Or.inl ⟨?_, ?_⟩) hHeld ?_
    rotate_left 2
    · simp only [List.getElem?_toArray, List.getElem?_cons_succ, List.getElem?_cons_zero]; exact rfl
    · exact fun _ _ _ h => h
    · rfl
    · (intro W' hSw; (try dsimp only at hSw); go_simp; try with_reducible rfl)
    try simp only [Act.put, List.setIfInBounds_toArray, List.set_cons_zero, List.set_cons_succ]
    refine wpAnyH_take (i := 6) (oi := ?_) (v := ?_) ?_ (by kernel_rfl) (by kernel_rfl) (by kernel_rfl) ?_ (Or.inl ⟨?_, ?_⟩) hHeld ?_
    rotate_left 2
    · simp only [List.getElem?_toArray, List.getElem?_cons_succ, List.getElem?_cons_zero]; exact rfl
    · exact fun _ _ _ h => h
    · rfl
    · (intro W' hSw; (try dsimp only at hSw); go_simp; try with_reducible rfl)
    try simp only [Act.put, List.setIfInBounds_toArray, List.set_cons_zero, List.set_cons_succ]
    refine wpAnyH_take (i := 7) (oi := ?_) (v := ?_) ?_ (by kernel_rfl) (by kernel_rfl) (by kernel_rfl) ?_ (Or.inl ⟨?_, ?_⟩) hHeld ?_
    rotate_left 2
    · simp only [List.getElem?_toArray, List.getElem?_cons_succ, List.getElem?_cons_zero]; exact rfl
    · exact fun _ _ _ h => h
    · rfl
    · (intro W' hSw; (try dsimp only at hSw); go_simp; try with_reducible rfl)
    try simp only [Act.put, List.setIfInBounds_toArray, List.set_cons_zero, List.set_cons_succ]
    refine wpAnyH_take (i := 8) (oi := ?_) (v := ?_) ?_ (by kernel_rfl) (by kernel_rfl) (by kernel_rfl) ?_ (Or.inl ⟨?_, ?_⟩) hHeld ?_
    rotate_left 2
    · simp only [List.getElem?_toArray, List.getElem?_cons_succ, List.getElem?_cons_zero]; exact rfl
    · exact fun _ _ _ h => h
    · rfl
    · (intro W' hSw; (try dsimp only at hSw); go_simp; try with_reducible rfl)
    try simp only [Act.put, List.setIfInBounds_toArray, List.set_cons_zero, List.set_cons_succ]
    refine wpAnyH_take (i := 9) (oi := ?_) (v := ?_) ?_ (by kernel_rfl) (by kernel_rfl) (by kernel_rfl) ?_ (Or.inl ⟨?_, ?_⟩) hHeld ?_
    rotate_left 2
    · simp only [List.getElem?_toArray, List.getElem?_cons_succ, List.getElem?_cons_zero]; exact rfl
    · exact fun _ _ _ h => h
    · rfl
    · (intro W' hSw; (try dsimp only at hSw); go_simp; try with_reducible rfl)
    try simp only [Act.put, List.setIfInBounds_toArray, List.set_cons_zero, List.set_cons_succ]
    obtain ⟨w5, hw5, cw5, fw5, Bw5, qw5⟩ := boxed w4.drew #[.string f.name, .int .i64 m.seq] 65
    have B5 : Below w4.heap.size w4 w5 := bel_call (Below.refl _ _).drew Bw5
    have HG5 := Lib.hid (HG4.out.below rAt_ok B5)
    have HB5 := Lib.hid (bel_call HB4.out B5)
    have HC5 := Lib.hid fun j v hj => (B5.cell (p := ⟨w3.heap.size, j, none⟩) qw4).trans (HC4.out j v hj)
    have hz5 := B5.size
    have HROW := Lib.hid (show SlAt 2 rAt (Free (fun _ => False) w5 (.slice A2 L.length c2)) w5 (some ⟨w4.drew.heap.size, 0, none⟩) [(⟨f.name, m.seq⟩ : At)] from SlAt_one [.string f.name, .int .i64 m.seq] ⟨qw5, fun h => h, fun e => by have h1 := (HG4.out.base_le _ e).2; have h2 : w4.drew.heap.size = w4.heap.size := rfl; omega⟩ rfl (fun j y hj => by rw [Nat.zero_add]; exact cw5 j y (by simpa using hj)) ⟨rfl, f_name_le, m_seq_ok⟩)
    refine wpAnyH_ready (rs := [10]) (by kernel_rfl) (by simp) ?_
    refine AllReadyH.cons rfl (fun K hK => ?_) AllReadyH.nil
    go_simp
    clear hHeld
    refine hK.out _ _ (HS _ B5) (fun hHeld => ?_)
    clear hK K hw5 cw5 fw5
    refine wpAnyH_ready (rs := [11]) (by kernel_rfl) (by simp) ?_
    refine AllReadyH.cons rfl (fun K hK => ?_) AllReadyH.nil
    refine step_grow w5 rfl (.tmp 24) (.tmp 34) 46 rfl 65 iAt _ 2 24 Tryz.underlying46 hiAt hzAt h1At h2At rfl (by decide) rAt_ok w0.heap.size (by omega) (.slice A2 L.length c2) L rfl HG5.out _ 1 _ rfl [(⟨f.name, m.seq⟩ : At)] rfl HROW.out (by omega) (by decide) ?_
    intro v6 w6 g6 gg6
    obtain ⟨A6, n6, c6, rfl, hn6⟩ := g6.shape'
    have G6 := Lib.hid g6
    have HN6 := Lib.hid hn6
    have T := fun z (hz : z < w5.heap.size) (hn : (Value.slice A2 L.length c2).ownBlock ≠ some z) => gg6.block z hz fun e => hn e.symm
    have T3 := T w3.heap.size (by have := HQ4.out; omega) fun e => by have := (HG3.out.base_le _ e).2; omega
    have HT3 := Lib.hid T3
    have B6 := Below.grown HB5.out gg6 (by omega) (fun b hb => (HG5.out.base_le b hb).1)
    have HB6 := Lib.hid B6
    have HS6 : (fun W : World => W.cell? ⟨w3.heap.size, 1, none⟩ = some (.int .i64 m.seq) ∧ W.cell? ⟨w.heap.size, 3, none⟩ = some (.slice (some ⟨b, o, none⟩) st.folders.length st_c3) ∧ W.cell? ⟨b, o + k * 7, none⟩ = some (.string f.name)) w6 := by
      have hh := HS _ B5
      refine ⟨(World.cell?_of_block T3).trans hh.1, (B6.cell (p := ⟨w.heap.size, 3, none⟩) qw0).trans (HC0.out 3 _ rfl), ?_⟩
      have hbl0 : b < w0.heap.size := Nat.lt_of_lt_of_le hbl HB0.out.size
      exact ((bel_call (Below.refl _ _) B6).cell (p := ⟨b, o + k * 7, none⟩) hbl0).trans (((HB5.out.cell (p := ⟨b, o + k * 7, none⟩) hbl0).symm).trans hh.2.2)
    clear g6 gg6 hn6 T T3 B6 hHeld
    refine hK.out _ _ HS6 (fun hHeld => ?_)
    clear hK K HS6
    refine wpAnyH_take (i := 12) (oi := ?_) (v := ?_) ?_ (by kernel_rfl) (by kernel_rfl) (by kernel_rfl) ?_ (Or.inl ⟨?_, ?_⟩) hHeld ?_
    rotate_left 2
    · simp only [List.getElem?_toArray, List.getElem?_cons_succ, List.getElem?_cons_zero]; exact rfl
    · exact fun _ _ _ h => h
    · rfl
    · (intro W' hSw; (try dsimp only at hSw); go_simp; try with_reducible rfl)
    try simp only [Act.put, List.setIfInBounds_toArray, List.set_cons_zero, List.set_cons_succ]
    refine wpAnyH_done (by kernel_rfl) ?_ _
    clear hHeld HS
    have t3 := (World.cell?_of_block (a := ⟨w3.heap.size, 3, none⟩) HT3.out).trans (HC5.out 3 _ rfl)
    have s0 := (HB6.out.cell (p := ⟨w.heap.size, 0, none⟩) qw0).trans (HC0.out 0 _ rfl)
    have s1 := (HB6.out.cell (p := ⟨w.heap.size, 1, none⟩) qw0).trans (HC0.out 1 _ rfl)
    have s2 := (HB6.out.cell (p := ⟨w.heap.size, 2, none⟩) qw0).trans (HC0.out 2 _ rfl)
    have s3 := (HB6.out.cell (p := ⟨w.heap.size, 3, none⟩) qw0).trans (HC0.out 3 _ rfl)
    go_wp2_with fail
    clear s0 s1 s2 s3 t3
    refine Calls.mono (refat_any st m.parent _ w6 S (HST.out _ HB6.out)) ?_
    rintro e w7 ⟨⟨i7, rfl, hi7⟩, b7⟩
    have HI7 := Lib.hid hi7
    have G7 := Lib.hid (G6.out.below rAt_ok b7)
    have HB7 := Lib.hid (bel_call HB6.out b7)
    clear b7 hi7
    go_wp2
    go_roundw
    case rel => exact ⟨i7, m.parent, L ++ [⟨f.name, m.seq⟩], rfl, (by show n6 = _; exact HN6.out), HI7, G7, HE, by rw [List.length_append, List.length_singleton]; omega, HB7.out⟩
    case measure =>
      have := HN6.out
      rw [List.length_append, List.length_singleton] at this
      simp [lenV]
      omega
end Go.Proofs.YtkapaafbnbnpjaaGreatDoor
