/- Layer granted: the document's Stale. Conditions: as each theorem says. -/
import Derived.Test.YtocofkccdfaaaaaGrStD
namespace Go.Proofs.Ytocofkccdfaaaaa
open Go.RowKit Go.Deep

/-- Where the first folder of a name stands. -/
def atIdx (st : State) (s : Nm) : Int := match st.folders.findIdx? (isF s) with
  | some k => k
  | none => -1
theorem atIdx_here {st : State} {s : Nm} {k : Nat} {x : Folder} (h : ∀ y ∈ st.folders.take k, isF s y = false) (hx : st.folders[k]? = some x) (hp : isF s x = true) : atIdx st s = k := by
  have hk := List.getElem?_eq_some_iff.1 hx
  have hk1 := hk.1
  have : st.folders.findIdx? (isF s) = some k := by
    rw [List.findIdx?_eq_some_iff_getElem]
    refine ⟨hk.1, by rw [hk.2]; exact hp, fun j hj => ?_⟩
    rw [Bool.not_eq_true]
    refine h _ ?_
    exact List.mem_of_getElem? (i := j) (by rw [List.getElem?_take, if_pos hj, List.getElem?_eq_getElem (by omega)])
  rw [atIdx, this]
theorem atIdx_no {st : State} {s : Nm} (h : ∀ y ∈ st.folders, isF s y = false) : atIdx st s = -1 := by
  have : st.folders.findIdx? (isF s) = none := by rw [List.findIdx?_eq_none_iff]; exact h
  rw [atIdx, this]
theorem atIdx_some {st : State} {s : Nm} {f : Folder} (h : findF st s = some f) : ∃ k : Nat, atIdx st s = k ∧ st.folders[k]? = some f := by
  obtain ⟨hp, a, b, hl, hn⟩ := List.find?_eq_some_iff_append.1 h
  have hk : st.folders[a.length]? = some f := by rw [hl, List.getElem?_append_right (Nat.le_refl _), Nat.sub_self]; rfl
  refine ⟨a.length, atIdx_here (fun y hy => ?_) hk hp, hk⟩
  rw [hl, List.take_left] at hy
  simpa [isF] using hn y hy
theorem atIdx_none {st : State} {s : Nm} (h : findF st s = none) : atIdx st s = -1 := atIdx_no fun y hy => by
  have := List.find?_eq_none.1 h y hy
  simpa [isF] using this
set_option maxHeartbeats 2000000 in
theorem refat2_any (st : State) (s : Nm) (cs : List Value) (w : World) (S : Nat → Prop) (h : rState S w cs st) : Calls Try.prog 23 #[.agg cs.toArray, .string s] w fun e w' => e = .returned (.int .i64 (atIdx st s)) ∧ Below w.heap.size w w' := by
  obtain ⟨st_A1, st_c1, st_A2, st_c2, st_A3, st_c3, rfl, st_turn_ok, st_users_l, st_users_m, st_users_n, st_users_s, st_deposits_l, st_deposits_m, st_deposits_n, st_deposits_s, st_folders_l, st_folders_m, st_folders_n, st_folders_s⟩ := open_State h
  obtain ⟨w0, hw0, cw0, fw0, Bw0, qw0⟩ := boxed w #[.int .i64 st.turn, .slice st_A1 st.users.length st_c1, .slice st_A2 st.deposits.length st_c2, .slice st_A3 st.folders.length st_c3] 26
  have HB0 := Lib.hid Bw0
  have b3 := cw0 3 _ rfl
  clear cw0 fw0 Bw0 st_users_s st_deposits_s
  go_enter Try.func23, Try.ntmps23
  go_wp2
  clear hw0
  go_loop [5] (fun i => ∃ k : Nat, k ≤ st.folders.length ∧ i = .int .i64 k ∧ Hid (∀ y ∈ st.folders.take k, isF s y = false)) (fun i => st.folders.length - (RowKit.intOf i).toNat)
  case atStart => exact ⟨0, by omega, by go_num, fun y hy => by simp at hy⟩
  case round =>
    obtain ⟨k, hk, rfl, HN⟩ := hrel
    by_cases hlt : k < st.folders.length
    · obtain ⟨x, hx⟩ : ∃ x, st.folders[k]? = some x := ⟨_, List.getElem?_eq_getElem hlt⟩
      obtain ⟨b, o, ys, hA, hbl, hRx, hcz⟩ := SlAt.elem st_folders_s hx (by decide) HB0.out
      obtain ⟨x_A2, x_c2, x_A3, x_c3, x_A4, x_c4, x_A5, x_c5, x_A6, x_c6, rfl, x_name_le, x_turn_ok, x_manifests_l, x_manifests_m, x_manifests_n, x_manifests_s, x_epochs_l, x_epochs_m, x_epochs_n, x_epochs_s, x_items_l, x_items_m, x_items_n, x_items_s, x_wraps_l, x_wraps_m, x_wraps_n, x_wraps_s, x_links_l, x_links_m, x_links_n, x_links_s⟩ := open_Folder hRx
      have u0 := hcz 0 _ rfl
      rw [Nat.add_zero] at u0
      subst hA
      have hki : (k : Int) < (st.folders.length : Int) := by omega
      have HX := Lib.hid hx
      clear hcz hx x_manifests_s x_epochs_s x_items_s x_wraps_s x_links_s
      by_cases hnm : x.name = s
      · have hse : (x.name.toList == s.toList) = true := by rw [hnm]; simp
        have HF := Lib.hid (atIdx_here HN.out HX.out (show isF s x = true by unfold isF; exact decide_eq_true hnm))
        clear hnm
        go_wp2
        go_ret
        exact ⟨by rw [HF.out]; rfl, HB0.out⟩
      · have hse : (x.name.toList == s.toList) = false := eqS_ne hnm
        have HF := Lib.hid (none_step HN.out HX.out (show isF s x = false by unfold isF; exact decide_eq_false hnm))
        clear hnm
        go_wp2
        go_round
        case rel => exact ⟨k + 1, by omega, by go_num, HF⟩
        case measure => simp [RowKit.intOf]; omega
    · obtain rfl : k = st.folders.length := by omega
      rw [List.take_length] at HN
      go_wp2
      go_ret
      exact ⟨by rw [atIdx_no HN.out]; rfl, HB0.out⟩
theorem store8 {w : World} {pb : Nat} {T : TypeId} {z0 z1 z2 z3 z4 z5 z6 z7 : Value} (h : w.heap[pb]? = some (.cells #[z0, z1, z2, z3, z4, z5, z6, z7] T (0, 0))) (a0 a1 a2 a3 a4 a5 a6 a7 : Value) :
    ((((((((w.setCell ⟨pb, 0, none⟩ a0).setCell ⟨pb, 1, none⟩ a1).setCell ⟨pb, 2, none⟩ a2).setCell ⟨pb, 3, none⟩ a3).setCell ⟨pb, 4, none⟩ a4).setCell ⟨pb, 5, none⟩ a5).setCell ⟨pb, 6, none⟩ a6).setCell ⟨pb, 7, none⟩ a7).heap[pb]? = some (.cells #[a0, a1, a2, a3, a4, a5, a6, a7] T (0, 0)) ∧ ButB (fun x => x = pb) w ((((((((w.setCell ⟨pb, 0, none⟩ a0).setCell ⟨pb, 1, none⟩ a1).setCell ⟨pb, 2, none⟩ a2).setCell ⟨pb, 3, none⟩ a3).setCell ⟨pb, 4, none⟩ a4).setCell ⟨pb, 5, none⟩ a5).setCell ⟨pb, 6, none⟩ a6).setCell ⟨pb, 7, none⟩ a7) := by
  have b0 : ButB (fun x => x = pb) w w := ButB.refl _ _
  have h0 := blk_set_same (i := 0) (cs' := #[a0, z1, z2, z3, z4, z5, z6, z7]) a0 h rfl
  have b1 := b0.set ⟨pb, 0, none⟩ a0 rfl
  generalize w.setCell ⟨pb, 0, none⟩ a0 = w1 at h0 b1 ⊢
  have h1 := blk_set_same (i := 1) (cs' := #[a0, a1, z2, z3, z4, z5, z6, z7]) a1 h0 rfl
  have b2 := b1.set ⟨pb, 1, none⟩ a1 rfl
  generalize w1.setCell ⟨pb, 1, none⟩ a1 = w2 at h1 b2 ⊢
  have h2 := blk_set_same (i := 2) (cs' := #[a0, a1, a2, z3, z4, z5, z6, z7]) a2 h1 rfl
  have b3 := b2.set ⟨pb, 2, none⟩ a2 rfl
  generalize w2.setCell ⟨pb, 2, none⟩ a2 = w3 at h2 b3 ⊢
  have h3 := blk_set_same (i := 3) (cs' := #[a0, a1, a2, a3, z4, z5, z6, z7]) a3 h2 rfl
  have b4 := b3.set ⟨pb, 3, none⟩ a3 rfl
  generalize w3.setCell ⟨pb, 3, none⟩ a3 = w4 at h3 b4 ⊢
  have h4 := blk_set_same (i := 4) (cs' := #[a0, a1, a2, a3, a4, z5, z6, z7]) a4 h3 rfl
  have b5 := b4.set ⟨pb, 4, none⟩ a4 rfl
  generalize w4.setCell ⟨pb, 4, none⟩ a4 = w5 at h4 b5 ⊢
  have h5 := blk_set_same (i := 5) (cs' := #[a0, a1, a2, a3, a4, a5, z6, z7]) a5 h4 rfl
  have b6 := b5.set ⟨pb, 5, none⟩ a5 rfl
  generalize w5.setCell ⟨pb, 5, none⟩ a5 = w6 at h5 b6 ⊢
  have h6 := blk_set_same (i := 6) (cs' := #[a0, a1, a2, a3, a4, a5, a6, z7]) a6 h5 rfl
  have b7 := b6.set ⟨pb, 6, none⟩ a6 rfl
  generalize w6.setCell ⟨pb, 6, none⟩ a6 = w7 at h6 b7 ⊢
  have h7 := blk_set_same (i := 7) (cs' := #[a0, a1, a2, a3, a4, a5, a6, a7]) a7 h6 rfl
  have b8 := b7.set ⟨pb, 7, none⟩ a7 rfl
  exact ⟨h7, b8⟩
theorem man_cells {S : Nat → Prop} {w : World} {cs : List Value} {m : Manifest} (h : rManifest S w cs m) : ∃ A2 c2 A4 c4, cs = [.string m.folder, .int .i64 m.seq, .slice A2 m.prev.length c2, .string m.parent, .slice A4 m.members.length c4, .int .i64 m.cut, .bool m.gone, .string m.who] := by
  obtain ⟨m_A2, m_c2, m_A4, m_c4, rfl, m_folder_le, m_seq_ok, m_prev_l, m_prev_m, m_prev_n, m_prev_s, m_parent_le, m_members_l, m_members_m, m_members_n, m_members_s, m_cut_ok, m_who_le⟩ := open_Manifest h
  exact ⟨_, _, _, _, rfl⟩
set_option maxHeartbeats 8000000 in
set_option maxRecDepth 100000 in
theorem refstale_any (st : State) (name : Nm) (cs : List Value) (w : World) (S : Nat → Prop) (h : rState S w cs st) : Calls Try.prog 22 #[.agg cs.toArray, .string name] w fun e w' => e = .returned (.bool (staleB st name)) ∧ Below w.heap.size w w' := by
  have HR := Lib.hid h
  obtain ⟨st_A1, st_c1, st_A2, st_c2, st_A3, st_c3, rfl, st_turn_ok, st_users_l, st_users_m, st_users_n, st_users_s, st_deposits_l, st_deposits_m, st_deposits_n, st_deposits_s, st_folders_l, st_folders_m, st_folders_n, st_folders_s⟩ := open_State h
  obtain ⟨w0, hw0, cw0, fw0, Bw0, qw0⟩ := boxed w #[.int .i64 st.turn, .slice st_A1 st.users.length st_c1, .slice st_A2 st.deposits.length st_c2, .slice st_A3 st.folders.length st_c3] 26
  have HB0 := Lib.hid Bw0
  have HC0 := Lib.hid cw0
  have HST := Lib.hid fun W (hW : Below w0.heap.size w0 W) => rState_keep HR.out (kept_of (bel_call HB0.out hW))
  have s0 := cw0 0 _ rfl
  have s1 := cw0 1 _ rfl
  have s2 := cw0 2 _ rfl
  have s3 := cw0 3 _ rfl
  clear cw0 fw0 Bw0 st_users_s st_deposits_s
  go_enter Try.func22, Try.ntmps22
  go_wp2_with fail
  clear hw0 s0 s1 s2 s3
  refine Calls.mono (refat2_any st name _ w0 S (HST.out _ (Below.refl _ _))) ?_
  rintro e1 w2 ⟨rfl, B2⟩
  have HB2 := Lib.hid B2
  have s3 := (B2.cell (p := ⟨w.heap.size, 3, none⟩) qw0).trans (HC0.out 3 _ rfl)
  cases hF : findF st name with
  | none =>
    have HE := Lib.hid (staleB_none hF)
    rw [atIdx_none hF]
    clear hF B2
    go_wp2
    go_ret
    exact ⟨by rw [HE.out]; rfl, bel_call HB0.out HB2.out⟩
  | some f =>
  have HFF := Lib.hid hF
  obtain ⟨kf, hkf, hf⟩ := atIdx_some hF
  rw [hkf]
  have hk0 : decide ((kf : Int) < 0) = false := decide_eq_false (by omega)
  have hfl := (List.getElem?_eq_some_iff.1 hf).1
  have hfi : (kf : Int) < (st.folders.length : Int) := by omega
  obtain ⟨bf, of, yf, hAf, hbf, hRf, hcf⟩ := SlAt.elem st_folders_s hf (by decide) (bel_call HB0.out B2)
  have HFR := Lib.hid hRf
  obtain ⟨f_A2, f_c2, f_A3, f_c3, f_A4, f_c4, f_A5, f_c5, f_A6, f_c6, rfl, f_name_le, f_turn_ok, f_manifests_l, f_manifests_m, f_manifests_n, f_manifests_s, f_epochs_l, f_epochs_m, f_epochs_n, f_epochs_s, f_items_l, f_items_m, f_items_n, f_items_s, f_wraps_l, f_wraps_m, f_wraps_n, f_wraps_s, f_links_l, f_links_m, f_links_n, f_links_s⟩ := open_Folder hRf
  have u0 := hcf 0 _ rfl
  have u1 := hcf 1 _ rfl
  have u2 := hcf 2 _ rfl
  have u3 := hcf 3 _ rfl
  have u4 := hcf 4 _ rfl
  have u5 := hcf 5 _ rfl
  have u6 := hcf 6 _ rfl
  rw [Nat.add_zero] at u0
  subst hAf
  clear hF hkf hf hcf B2 f_manifests_s f_items_s f_wraps_s f_links_s
  rcases Nat.eq_zero_or_pos f.epochs.length with hz | hz
  · have HE := Lib.hid (staleB_nil HFF.out hz)
    have hzd : ((f.epochs.length : Int) == 0) = true := by simp [hz]
    clear hz
    go_wp2
    go_ret
    exact ⟨by rw [HE.out]; rfl, bel_call HB0.out HB2.out⟩
  have hzd : ((f.epochs.length : Int) == 0) = false := beq_eq_false_iff_ne.2 (by omega)
  obtain ⟨n, hn⟩ : ∃ n, f.epochs.length = n + 1 := ⟨f.epochs.length - 1, by omega⟩
  obtain ⟨e, he⟩ : ∃ e, f.epochs[n]? = some e := ⟨_, List.getElem?_eq_getElem (by omega)⟩
  have HSB := Lib.hid (staleB_some HFF.out hn he)
  obtain ⟨be, oe, ye, hA, hbl, hRe, hcz⟩ := SlAt.elem f_epochs_s he (by decide) (bel_call HB0.out HB2.out)
  obtain ⟨e_A3, e_c3, rfl, e_place_ok, e_frm_ok, e_seq_ok, e_chain_l, e_chain_m, e_chain_n, e_chain_s, e_who_le⟩ := open_Epoch hRe
  have v3 := hcz 3 _ rfl
  subst hA
  have hw1 : IntKind.i64.wrap (n : Int) = (n : Int) := IntWalk.i64_in _ (by have := f_epochs_n; omega)
  have hni : (n : Int) < (n : Int) + 1 := by omega
  obtain ⟨w3, hw3, cw3, fw3, Bw3, qw3⟩ := boxed w2 #[.string f.name, .int .i64 f.turn, .slice f_A2 f.manifests.length f_c2, .slice (some ⟨be, oe, none⟩) f.epochs.length f_c3, .slice f_A4 f.items.length f_c4, .slice f_A5 f.wraps.length f_c5, .slice f_A6 f.links.length f_c6] 43
  have HB3 := Lib.hid (bel_call HB2.out Bw3)
  have d3 := cw3 3 _ rfl
  have v3' := (Bw3.cell (p := ⟨be, oe + n * 5 + 3, none⟩) (cell_lt v3)).trans v3
  have HCH := Lib.hid (Sl.keep rAt_ok (by decide) (show Sl 2 rAt S w (.slice e_A3 e.chain.length e_c3) e.chain from ⟨_, _, rfl, e_chain_l, e_chain_m, e_chain_n, e_chain_s⟩) (kept_of (bel_call HB0.out HB3.out)))
  have hcl : e.chain.length ≤ 140737488355328 := e_chain_n
  have cc := fun j v hj => (HB3.out.cell (p := ⟨w.heap.size, j, none⟩) qw0).trans (HC0.out j v hj)
  have s0' := cc 0 _ rfl
  have s1' := cc 1 _ rfl
  have s2' := cc 2 _ rfl
  have s3' := cc 3 _ rfl
  rw [hn] at hw3 d3 u3
  clear cc hz he hcz cw3 fw3 Bw3
  go_wp2_with fail
  clear hn hzd hw3 d3 v3 v3' u0 u1 u2 u3 u4 u5 u6 s3 s0' s1' s2' s3'
  refine Calls.mono (refchain_any st name _ w3 S (HST.out _ HB3.out)) ?_
  rintro e5 w5 ⟨⟨v5, rfl, hs5⟩, b5⟩
  have HS5 := Lib.hid hs5
  have B5 := Lib.hid b5
  clear hs5 b5
  obtain ⟨now, hnow⟩ : ∃ now, chainOf st 4 name = now := ⟨_, rfl⟩
  have HNOW := Lib.hid hnow
  rw [hnow] at HS5 HSB
  have hn4 : now.length ≤ 4 := by rw [← hnow]; exact chainOf_len _ _ _
  clear hnow
  obtain ⟨A5, c5, rfl, hl5, hc5, hn5, hs5⟩ := HS5.out
  unfold maxLen at hc5
  by_cases hlen : e.chain.length = now.length
  rotate_left
  · rw [if_neg hlen] at HSB
    have hld : ((e.chain.length : Int) == (now.length : Int)) = false := beq_eq_false_iff_ne.2 (by omega)
    clear hlen
    go_wp2
    go_ret
    exact ⟨by rw [HSB.out]; rfl, bel_call HB0.out (bel_call HB3.out B5.out)⟩
  rw [if_pos hlen] at HSB
  have HLEN := Lib.hid hlen
  have hld : ((e.chain.length : Int) == (now.length : Int)) = true := beq_iff_eq.2 (by omega)
  have HCH5 := Lib.hid (HCH.out.keep rAt_ok (by decide) (kept_of B5.out))
  have B05 := Lib.hid (bel_call HB3.out B5.out)
  clear hlen
  go_wp2
  clear hld
  go_loopw [9] (fun i wr => ∃ k : Nat, k ≤ now.length ∧ i = .int .i64 k ∧ Hid (staleGo st (e.chain.drop k) (now.drop k) = staleB st name) ∧ Below w5.heap.size w5 wr) (fun i _ => now.length - (RowKit.intOf i).toNat)
  case atStart => exact ⟨0, by omega, by go_num, (by show _ = _; rw [HSB.out]; rfl), Below.refl _ _⟩
  case round =>
    obtain ⟨k, hk, rfl, HG, hbel⟩ := hrel
    have B0r := Lib.hid (bel_call B05.out hbel)
    by_cases hlt : k < now.length
    · obtain ⟨x, hx⟩ : ∃ x, now[k]? = some x := ⟨_, List.getElem?_eq_getElem hlt⟩
      obtain ⟨y, hy⟩ : ∃ y, e.chain[k]? = some y := ⟨_, List.getElem?_eq_getElem (by have := HLEN.out; omega)⟩
      have HST2 := Lib.hid (staleGo_at (st := st) hy hx)
      obtain ⟨g, hg⟩ := chain_found (st := st) (x := x) (by rw [HNOW.out]; exact List.mem_of_getElem? hx)
      have HCUT := Lib.hid (show cutOf st x.name = (nowM g).cut by rw [cutOf, hg]; rfl)
      obtain ⟨m, hme⟩ : ∃ m, nowM g = m := ⟨_, rfl⟩
      have HM := Lib.hid hme
      have HCUT2 := Lib.hid (show cutOf st x.name = m.cut by rw [HCUT.out, hme])
      clear hme
      obtain ⟨j, hj, hgj⟩ := atIdx_some hg
      have HJ := Lib.hid hj
      have hjl := (List.getElem?_eq_some_iff.1 hgj).1
      have hji : (j : Int) < (st.folders.length : Int) := by omega
      obtain ⟨bx, ox, yx, hAx, hbx, hRx, hcx⟩ := SlAt.elem hs5 hx (by decide) hbel
      obtain ⟨Aw, cw, hAw', -, -, -, hsw⟩ := HCH5.out
      cases hAw'
      obtain ⟨bw, ow, yw, hAw, hbw, hRw, hcw⟩ := SlAt.elem hsw hy (by decide) hbel
      obtain ⟨bg, og, yg, hAg, hbg, hRg, hcg⟩ := SlAt.elem st_folders_s hgj (by decide) (bel_call HB0.out B0r.out)
      cases hAg
      have HGR := Lib.hid hRg
      obtain ⟨rfl, x_name_le, x_seq_ok⟩ := open_At hRx
      obtain ⟨rfl, y_name_le, y_seq_ok⟩ := open_At hRw
      obtain ⟨g_A2, g_c2, g_A3, g_c3, g_A4, g_c4, g_A5, g_c5, g_A6, g_c6, rfl, g_name_le, g_turn_ok, g_manifests_l, g_manifests_m, g_manifests_n, g_manifests_s, g_epochs_l, g_epochs_m, g_epochs_n, g_epochs_s, g_items_l, g_items_m, g_items_n, g_items_s, g_wraps_l, g_wraps_m, g_wraps_n, g_wraps_s, g_links_l, g_links_m, g_links_n, g_links_s⟩ := open_Folder hRg
      have u0 := hcx 0 _ rfl
      have v0 := hcw 0 _ rfl
      have v1 := hcw 1 _ rfl
      have g0 := hcg 0 _ rfl
      have g1 := hcg 1 _ rfl
      have g2 := hcg 2 _ rfl
      have g3 := hcg 3 _ rfl
      have g4 := hcg 4 _ rfl
      have g5 := hcg 5 _ rfl
      have g6 := hcg 6 _ rfl
      rw [Nat.add_zero] at u0 v0 g0
      subst hAx
      subst hAw
      have hki : (k : Int) < (now.length : Int) := by omega
      have hki2 : (k : Int) < (e.chain.length : Int) := by have := HLEN.out; omega
      have HSQ := Lib.hid (show ∀ W : World, Below wr.heap.size wr W → (fun W : World => (W.cell? ⟨w.heap.size, 0, none⟩ = some (.int .i64 st.turn) ∧ W.cell? ⟨w.heap.size, 1, none⟩ = some (.slice st_A1 st.users.length st_c1) ∧ W.cell? ⟨w.heap.size, 2, none⟩ = some (.slice st_A2 st.deposits.length st_c2) ∧ W.cell? ⟨w.heap.size, 3, none⟩ = some (.slice (some ⟨bf, of, none⟩) st.folders.length st_c3)) ∧ W.cell? ⟨bx, ox + k * 2, none⟩ = some (.string x.name) ∧ W.cell? ⟨bf, of + j * 7, none⟩ = some (.string g.name) ∧ W.cell? ⟨bf, of + j * 7 + 1, none⟩ = some (.int .i64 g.turn) ∧ W.cell? ⟨bf, of + j * 7 + 2, none⟩ = some (.slice g_A2 g.manifests.length g_c2) ∧ W.cell? ⟨bf, of + j * 7 + 3, none⟩ = some (.slice g_A3 g.epochs.length g_c3) ∧ W.cell? ⟨bf, of + j * 7 + 4, none⟩ = some (.slice g_A4 g.items.length g_c4) ∧ W.cell? ⟨bf, of + j * 7 + 5, none⟩ = some (.slice g_A5 g.wraps.length g_c5) ∧ W.cell? ⟨bf, of + j * 7 + 6, none⟩ = some (.slice g_A6 g.links.length g_c6)) W from fun W hW => by
        have c := fun j v hj => ((bel_call B0r.out hW).cell (p := ⟨w.heap.size, j, none⟩) qw0).trans (HC0.out j v hj)
        have q := fun (o : Nat) v (h : wr.cell? ⟨bf, o, none⟩ = some v) => (hW.cell (p := ⟨bf, o, none⟩) (cell_lt h)).trans h
        exact ⟨⟨c 0 _ rfl, c 1 _ rfl, c 2 _ rfl, c 3 _ rfl⟩, (hW.cell (p := ⟨bx, ox + k * 2, none⟩) (cell_lt u0)).trans u0, q _ _ g0, q _ _ g1, q _ _ g2, q _ _ g3, q _ _ g4, q _ _ g5, q _ _ g6⟩)
      have HU0 := Lib.hid u0
      have HV0 := Lib.hid v0
      have HV1 := Lib.hid v1
      clear hx hy hg hj hgj hcx hcw hcg u0 v0 v1 g0 g1 g2 g3 g4 g5 g6 g_manifests_s g_epochs_s g_items_s g_wraps_s g_links_s
      go_wp2
      have HS := HSQ.out
      refine wp_region_held_drew (S := fun W : World => (W.cell? ⟨w.heap.size, 0, none⟩ = some (.int .i64 st.turn) ∧ W.cell? ⟨w.heap.size, 1, none⟩ = some (.slice st_A1 st.users.length st_c1) ∧ W.cell? ⟨w.heap.size, 2, none⟩ = some (.slice st_A2 st.deposits.length st_c2) ∧ W.cell? ⟨w.heap.size, 3, none⟩ = some (.slice (some ⟨bf, of, none⟩) st.folders.length st_c3)) ∧ W.cell? ⟨bx, ox + k * 2, none⟩ = some (.string x.name) ∧ W.cell? ⟨bf, of + j * 7, none⟩ = some (.string g.name) ∧ W.cell? ⟨bf, of + j * 7 + 1, none⟩ = some (.int .i64 g.turn) ∧ W.cell? ⟨bf, of + j * 7 + 2, none⟩ = some (.slice g_A2 g.manifests.length g_c2) ∧ W.cell? ⟨bf, of + j * 7 + 3, none⟩ = some (.slice g_A3 g.epochs.length g_c3) ∧ W.cell? ⟨bf, of + j * 7 + 4, none⟩ = some (.slice g_A4 g.items.length g_c4) ∧ W.cell? ⟨bf, of + j * 7 + 5, none⟩ = some (.slice g_A5 g.wraps.length g_c5) ∧ W.cell? ⟨bf, of + j * 7 + 6, none⟩ = some (.slice g_A6 g.links.length g_c6)) (by kernel_rfl) (HS _ (Below.refl _ _).drew) (fun hHeld => ?_)
      refine wpAnyH_take (i := 0) (oi := ?_) (v := ?_) ?_ (by kernel_rfl) (by kernel_rfl) (by kernel_rfl) ?_ (Or.inl ⟨?_, ?_⟩) hHeld ?_
      rotate_left 2
      · simp only [List.getElem?_toArray, List.getElem?_cons_zero]; exact rfl
      · exact fun _ _ _ h => h
      · rfl
      · (intro W' hSw; (try dsimp only at hSw); go_simp; try with_reducible rfl)
      try simp only [Act.put, List.setIfInBounds_toArray, List.set_cons_zero, List.set_cons_succ]
      refine wpAnyH_take (i := 1) (oi := ?_) (v := ?_) ?_ (by kernel_rfl) (by kernel_rfl) (by kernel_rfl) ?_ (Or.inl ⟨?_, ?_⟩) hHeld ?_
      rotate_left 2
      · simp only [List.getElem?_toArray, List.getElem?_cons_succ, List.getElem?_cons_zero]; exact rfl
      · exact fun _ _ _ h => h
      · rfl
      · (intro W' hSw; (try dsimp only at hSw); go_simp; try with_reducible rfl)
      try simp only [Act.put, List.setIfInBounds_toArray, List.set_cons_zero, List.set_cons_succ]
      refine wpAnyH_take (i := 2) (oi := ?_) (v := ?_) ?_ (by kernel_rfl) (by kernel_rfl) (by kernel_rfl) ?_ (Or.inl ⟨?_, ?_⟩) hHeld ?_
      rotate_left 2
      · simp only [List.getElem?_toArray, List.getElem?_cons_succ, List.getElem?_cons_zero]; exact rfl
      · exact fun _ _ _ h => h
      · rfl
      · (intro W' hSw; (try dsimp only at hSw); go_simp; try with_reducible rfl)
      try simp only [Act.put, List.setIfInBounds_toArray, List.set_cons_zero, List.set_cons_succ]
      refine wpAnyH_take (i := 3) (oi := ?_) (v := ?_) ?_ (by kernel_rfl) (by kernel_rfl) (by kernel_rfl) ?_ (Or.inl ⟨?_, ?_⟩) hHeld ?_
      rotate_left 2
      · simp only [List.getElem?_toArray, List.getElem?_cons_succ, List.getElem?_cons_zero]; exact rfl
      · exact fun _ _ _ h => h
      · rfl
      · (intro W' hSw; (try dsimp only at hSw); go_simp; try with_reducible rfl)
      try simp only [Act.put, List.setIfInBounds_toArray, List.set_cons_zero, List.set_cons_succ]
      refine wpAnyH_take (i := 4) (oi := ?_) (v := ?_) ?_ (by kernel_rfl) (by kernel_rfl) (by kernel_rfl) ?_ (Or.inl ⟨?_, ?_⟩) hHeld ?_
      rotate_left 2
      · simp only [List.getElem?_toArray, List.getElem?_cons_succ, List.getElem?_cons_zero]; exact rfl
      · exact fun _ _ _ h => h
      · rfl
      · (intro W' hSw; (try dsimp only at hSw); go_simp; try with_reducible rfl)
      try simp only [Act.put, List.setIfInBounds_toArray, List.set_cons_zero, List.set_cons_succ]
      refine wpAnyH_take (i := 5) (oi := ?_) (v := ?_) ?_ (by kernel_rfl) (by kernel_rfl) (by kernel_rfl) ?_ (Or.inl ⟨?_, ?_⟩) hHeld ?_
      rotate_left 2
      · simp only [List.getElem?_toArray, List.getElem?_cons_succ, List.getElem?_cons_zero]; exact rfl
      · exact fun _ _ _ h => h
      · rfl
      · (intro W' hSw; (try dsimp only at hSw); go_simp; try with_reducible rfl)
      try simp only [Act.put, List.setIfInBounds_toArray, List.set_cons_zero, List.set_cons_succ]
      refine wpAnyH_take (i := 6) (oi := ?_) (v := ?_) ?_ (by kernel_rfl) (by kernel_rfl) (by kernel_rfl) ?_ (Or.inl ⟨?_, ?_⟩) hHeld ?_
      rotate_left 2
      · simp only [List.getElem?_toArray, List.getElem?_cons_succ, List.getElem?_cons_zero]; exact rfl
      · exact fun _ _ _ h => h
      · rfl
      · (intro W' hSw; (try dsimp only at hSw); go_simp; try with_reducible rfl)
      try simp only [Act.put, List.setIfInBounds_toArray, List.set_cons_zero, List.set_cons_succ]
      refine wpAnyH_take (i := 7) (oi := ?_) (v := ?_) ?_ (by kernel_rfl) (by kernel_rfl) (by kernel_rfl) ?_ (Or.inl ⟨?_, ?_⟩) hHeld ?_
      rotate_left 2
      · simp only [List.getElem?_toArray, List.getElem?_cons_succ, List.getElem?_cons_zero]; exact rfl
      · exact fun _ _ _ h => h
      · rfl
      · (intro W' hSw; (try dsimp only at hSw); go_simp; try with_reducible rfl)
      try simp only [Act.put, List.setIfInBounds_toArray, List.set_cons_zero, List.set_cons_succ]
      have BD : Below wr.heap.size wr wr.drew := (Below.refl _ _).drew
      refine wpAnyH_ready (rs := [8, 12]) (by kernel_rfl) (by simp) ?_
      refine AllReadyH.cons rfl (fun K hK => ?_) (AllReadyH.cons rfl (fun K hK => ?_) AllReadyH.nil)
      · go_simp
        go_at_call 23
        refine Calls.mono (refat2_any st x.name _ _ S (HST.out _ (bel_call B0r.out BD))) ?_
        rw [HJ.out]
        rintro e6 w6 ⟨rfl, b6⟩
        have B6 := bel_call BD b6
        clear b6
        clear hHeld
        refine hK.out _ _ (HS _ B6) (fun hHeld => ?_)
        clear hK K
        refine wpAnyH_take (i := 9) (oi := ?_) (v := ?_) ?_ (by kernel_rfl) (by kernel_rfl) (by kernel_rfl) ?_ (Or.inl ⟨?_, ?_⟩) hHeld ?_
        rotate_left 2
        · simp only [List.getElem?_toArray, List.getElem?_cons_succ, List.getElem?_cons_zero]; exact rfl
        · exact fun _ _ _ h => h
        · rfl
        · (intro W' hSw; (try dsimp only at hSw); go_simp; try with_reducible rfl)
        try simp only [Act.put, List.setIfInBounds_toArray, List.set_cons_zero, List.set_cons_succ]
        refine wpAnyH_take (i := 10) (oi := ?_) (v := ?_) ?_ (by kernel_rfl) (by kernel_rfl) (by kernel_rfl) ?_ (Or.inl ⟨?_, ?_⟩) hHeld ?_
        rotate_left 2
        · simp only [List.getElem?_toArray, List.getElem?_cons_succ, List.getElem?_cons_zero]; exact rfl
        · exact fun _ _ _ h => h
        · rfl
        · (intro W' hSw; (try dsimp only at hSw); go_simp; try with_reducible rfl)
        try simp only [Act.put, List.setIfInBounds_toArray, List.set_cons_zero, List.set_cons_succ]
        refine wpAnyH_ready (rs := [11, 12]) (by kernel_rfl) (by simp) ?_
        refine AllReadyH.cons rfl (fun K hK => ?_) (AllReadyH.cons rfl (fun K hK => ?_) AllReadyH.nil)
        · go_simp
          go_at_call 29
          refine Calls.mono (refnow_any g _ _ S (rFolder_keep HGR.out (kept_of (bel_call HB0.out (bel_call B0r.out B6))))) ?_
          rw [HM.out]
          rintro e7 w7 ⟨⟨cm, rfl, hm⟩, b7⟩
          obtain ⟨m_A2, m_c2, m_A4, m_c4, rfl⟩ := man_cells hm
          have B7 := bel_call B6 b7
          clear b7 hm
          clear hHeld
          refine hK.out _ _ (HS _ B7) (fun hHeld => ?_)
          clear hK K
          obtain ⟨w8, hwa, cwa, fwa, Bwa, qwa⟩ := boxed w7 #[.string ⟨#[]⟩, .int .i64 0, .slice none 0 0, .string ⟨#[]⟩, .slice none 0 0, .int .i64 0, .bool false, .string ⟨#[]⟩] 72
          have B8 : Below wr.heap.size wr w8 := bel_call B7 Bwa
          have TA : w8.heap[w7.heap.size]? = some (.cells #[.string ⟨#[]⟩, .int .i64 0, .slice none 0 0, .string ⟨#[]⟩, .slice none 0 0, .int .i64 0, .bool false, .string ⟨#[]⟩] 72 (0, 0)) := by rw [← hwa]; exact blk_alloc_new _ rfl
          have hpb : wr.heap.size ≤ w7.heap.size := B7.size
          refine wpAnyH_ready (rs := [12]) (by kernel_rfl) (by simp) ?_
          refine AllReadyH.cons rfl (fun K hK => ?_) AllReadyH.nil
          go_simp
          clear hHeld
          refine hK.out _ _ (HS _ B8) (fun hHeld => ?_)
          clear hK K
          clear hwa cwa fwa Bwa qwa
          obtain ⟨cT, fT⟩ := blk_cells TA
          have c_0 := cT 0 _ rfl
          have c_1 := cT 1 _ rfl
          have c_2 := cT 2 _ rfl
          have c_3 := cT 3 _ rfl
          have c_4 := cT 4 _ rfl
          have c_5 := cT 5 _ rfl
          have c_6 := cT 6 _ rfl
          have c_7 := cT 7 _ rfl
          have HTA := Lib.hid TA
          clear cT TA
          refine wpAnyH_ready (rs := [13]) (by kernel_rfl) (by simp) ?_
          refine AllReadyH.cons rfl (fun K hK => ?_) AllReadyH.nil
          go_simp
          clear c_0 c_1 c_2 c_3 c_4 c_5 c_6 c_7 fT hHeld
          obtain ⟨E1, E2⟩ := store8 HTA.out (.string m.folder) (.int .i64 m.seq) (.slice m_A2 m.prev.length m_c2) (.string m.parent) (.slice m_A4 m.members.length m_c4) (.int .i64 m.cut) (.bool m.gone) (.string m.who)
          have BE := ButB.below B8 B8.size (fun z hz => by rw [hz]; exact hpb) E2
          generalize hW : World.setCell _ _ _ = W at E1 E2 BE ⊢
          clear hW
          refine hK.out _ _ (HS _ BE) (fun hHeld => ?_)
          clear hK K
          refine wpAnyH_done (by kernel_rfl) ?_ _
          clear hHeld HS
          have bcut := (blk_cells E1).1 5 _ rfl
          have HBE := Lib.hid BE
          have t0 := (World.cell?_of_block (a := ⟨bw, ow + k * 2, none⟩) (BE.block _ (cell_lt HV0.out))).trans HV0.out
          have t1 := (World.cell?_of_block (a := ⟨bw, ow + k * 2 + 1, none⟩) (BE.block _ (cell_lt HV1.out))).trans HV1.out
          have t2 := (World.cell?_of_block (a := ⟨bx, ox + k * 2, none⟩) (BE.block _ (cell_lt HU0.out))).trans HU0.out
          clear BE E1 E2
          by_cases hne : y.name = x.name
          rotate_left
          · have HEND := Lib.hid (show staleB st name = true by rw [← HG.out, HST2.out, if_neg hne])
            have hse : (y.name.toList == x.name.toList) = false := eqS_ne hne
            clear hne
            go_wp2_with fail
            go_quiet (fail)
            go_wp2
            go_ret
            exact ⟨by rw [HEND.out]; rfl, belN (bel_call HB0.out (bel_call B0r.out HBE.out)) _⟩
          have hse : (y.name.toList == x.name.toList) = true := by rw [hne]; simp
          have HNE := Lib.hid hne
          clear hne
          by_cases hct : y.seq < m.cut
          · have hcd : decide (y.seq < m.cut) = true := decide_eq_true hct
            have HEND := Lib.hid (show staleB st name = true by rw [← HG.out, HST2.out, if_pos HNE.out, HCUT2.out, if_pos hct])
            clear hct
            go_wp2_with fail
            go_quiet (fail)
            go_wp2
            go_ret
            exact ⟨by rw [HEND.out]; rfl, belN (bel_call HB0.out (bel_call B0r.out HBE.out)) _⟩
          · have hcd : decide (y.seq < m.cut) = false := decide_eq_false hct
            have HEND := Lib.hid (show staleGo st (e.chain.drop (k + 1)) (now.drop (k + 1)) = staleB st name by rw [← HG.out, HST2.out, if_pos HNE.out, HCUT2.out, if_neg hct])
            clear hct
            go_wp2_with fail
            go_quiet (fail)
            go_wp2
            go_roundw
            case rel =>
              have HF : ∃ j' : Nat, j' ≤ now.length ∧ Value.int .i64 ((k : Int) + 1) = .int .i64 j' ∧ Hid (staleGo st (e.chain.drop j') (now.drop j') = staleB st name) ∧ Below w5.heap.size w5 (W.drewN nq) := ⟨k + 1, by omega, by go_num, HEND, belN (bel_call hbel HBE.out) _⟩
              first | exact HF | ((repeat apply Exists.intro); refine ⟨HF, ?_⟩; first | rfl | ((repeat' apply And.intro) <;> rfl) | (simp; (repeat' apply And.intro) <;> first | rfl | (have := HLEN.out; omega)))
            case measure => simp [RowKit.intOf]; omega
        · obtain ⟨w7, hwa, cwa, fwa, Bwa, qwa⟩ := boxed w6 #[.string ⟨#[]⟩, .int .i64 0, .slice none 0 0, .string ⟨#[]⟩, .slice none 0 0, .int .i64 0, .bool false, .string ⟨#[]⟩] 72
          have B7 : Below wr.heap.size wr w7 := bel_call B6 Bwa
          have TA : w7.heap[w6.heap.size]? = some (.cells #[.string ⟨#[]⟩, .int .i64 0, .slice none 0 0, .string ⟨#[]⟩, .slice none 0 0, .int .i64 0, .bool false, .string ⟨#[]⟩] 72 (0, 0)) := by rw [← hwa]; exact blk_alloc_new _ rfl
          have hpb : wr.heap.size ≤ w6.heap.size := B6.size
          go_simp
          clear hHeld
          refine hK.out _ _ (HS _ B7) (fun hHeld => ?_)
          clear hK K
          clear hwa cwa fwa Bwa
          refine wpAnyH_ready (rs := [11]) (by kernel_rfl) (by simp) ?_
          refine AllReadyH.cons rfl (fun K hK => ?_) AllReadyH.nil
          go_simp
          go_at_call 29
          refine Calls.mono (refnow_any g _ _ S (rFolder_keep HGR.out (kept_of (bel_call HB0.out (bel_call B0r.out B7))))) ?_
          rw [HM.out]
          rintro e7 w8 ⟨⟨cm, rfl, hm⟩, b7⟩
          obtain ⟨m_A2, m_c2, m_A4, m_c4, rfl⟩ := man_cells hm
          have B8 := bel_call B7 b7
          replace TA := (b7.block _ (blk_lt TA)).trans TA
          clear b7 hm qwa
          clear hHeld
          refine hK.out _ _ (HS _ B8) (fun hHeld => ?_)
          clear hK K
          obtain ⟨cT, fT⟩ := blk_cells TA
          have c_0 := cT 0 _ rfl
          have c_1 := cT 1 _ rfl
          have c_2 := cT 2 _ rfl
          have c_3 := cT 3 _ rfl
          have c_4 := cT 4 _ rfl
          have c_5 := cT 5 _ rfl
          have c_6 := cT 6 _ rfl
          have c_7 := cT 7 _ rfl
          have HTA := Lib.hid TA
          clear cT TA
          refine wpAnyH_ready (rs := [13]) (by kernel_rfl) (by simp) ?_
          refine AllReadyH.cons rfl (fun K hK => ?_) AllReadyH.nil
          go_simp
          clear c_0 c_1 c_2 c_3 c_4 c_5 c_6 c_7 fT hHeld
          obtain ⟨E1, E2⟩ := store8 HTA.out (.string m.folder) (.int .i64 m.seq) (.slice m_A2 m.prev.length m_c2) (.string m.parent) (.slice m_A4 m.members.length m_c4) (.int .i64 m.cut) (.bool m.gone) (.string m.who)
          have BE := ButB.below B8 B8.size (fun z hz => by rw [hz]; exact hpb) E2
          generalize hW : World.setCell _ _ _ = W at E1 E2 BE ⊢
          clear hW
          refine hK.out _ _ (HS _ BE) (fun hHeld => ?_)
          clear hK K
          refine wpAnyH_done (by kernel_rfl) ?_ _
          clear hHeld HS
          have bcut := (blk_cells E1).1 5 _ rfl
          have HBE := Lib.hid BE
          have t0 := (World.cell?_of_block (a := ⟨bw, ow + k * 2, none⟩) (BE.block _ (cell_lt HV0.out))).trans HV0.out
          have t1 := (World.cell?_of_block (a := ⟨bw, ow + k * 2 + 1, none⟩) (BE.block _ (cell_lt HV1.out))).trans HV1.out
          have t2 := (World.cell?_of_block (a := ⟨bx, ox + k * 2, none⟩) (BE.block _ (cell_lt HU0.out))).trans HU0.out
          clear BE E1 E2
          by_cases hne : y.name = x.name
          rotate_left
          · have HEND := Lib.hid (show staleB st name = true by rw [← HG.out, HST2.out, if_neg hne])
            have hse : (y.name.toList == x.name.toList) = false := eqS_ne hne
            clear hne
            go_wp2_with fail
            go_quiet (fail)
            go_wp2
            go_ret
            exact ⟨by rw [HEND.out]; rfl, belN (bel_call HB0.out (bel_call B0r.out HBE.out)) _⟩
          have hse : (y.name.toList == x.name.toList) = true := by rw [hne]; simp
          have HNE := Lib.hid hne
          clear hne
          by_cases hct : y.seq < m.cut
          · have hcd : decide (y.seq < m.cut) = true := decide_eq_true hct
            have HEND := Lib.hid (show staleB st name = true by rw [← HG.out, HST2.out, if_pos HNE.out, HCUT2.out, if_pos hct])
            clear hct
            go_wp2_with fail
            go_quiet (fail)
            go_wp2
            go_ret
            exact ⟨by rw [HEND.out]; rfl, belN (bel_call HB0.out (bel_call B0r.out HBE.out)) _⟩
          · have hcd : decide (y.seq < m.cut) = false := decide_eq_false hct
            have HEND := Lib.hid (show staleGo st (e.chain.drop (k + 1)) (now.drop (k + 1)) = staleB st name by rw [← HG.out, HST2.out, if_pos HNE.out, HCUT2.out, if_neg hct])
            clear hct
            go_wp2_with fail
            go_quiet (fail)
            go_wp2
            go_roundw
            case rel =>
              have HF : ∃ j' : Nat, j' ≤ now.length ∧ Value.int .i64 ((k : Int) + 1) = .int .i64 j' ∧ Hid (staleGo st (e.chain.drop j') (now.drop j') = staleB st name) ∧ Below w5.heap.size w5 (W.drewN nq) := ⟨k + 1, by omega, by go_num, HEND, belN (bel_call hbel HBE.out) _⟩
              first | exact HF | ((repeat apply Exists.intro); refine ⟨HF, ?_⟩; first | rfl | ((repeat' apply And.intro) <;> rfl) | (simp; (repeat' apply And.intro) <;> first | rfl | (have := HLEN.out; omega)))
            case measure => simp [RowKit.intOf]; omega
      · obtain ⟨w6, hwa, cwa, fwa, Bwa, qwa⟩ := boxed wr.drew #[.string ⟨#[]⟩, .int .i64 0, .slice none 0 0, .string ⟨#[]⟩, .slice none 0 0, .int .i64 0, .bool false, .string ⟨#[]⟩] 72
        have B6 : Below wr.heap.size wr w6 := bel_call BD Bwa
        have TA : w6.heap[wr.heap.size]? = some (.cells #[.string ⟨#[]⟩, .int .i64 0, .slice none 0 0, .string ⟨#[]⟩, .slice none 0 0, .int .i64 0, .bool false, .string ⟨#[]⟩] 72 (0, 0)) := by rw [← hwa]; exact blk_alloc_new _ rfl
        have hpb : wr.heap.size ≤ wr.heap.size := Nat.le_refl _
        go_simp
        clear hHeld
        refine hK.out _ _ (HS _ B6) (fun hHeld => ?_)
        clear hK K
        clear hwa cwa fwa Bwa
        refine wpAnyH_ready (rs := [8]) (by kernel_rfl) (by simp) ?_
        refine AllReadyH.cons rfl (fun K hK => ?_) AllReadyH.nil
        go_simp
        go_at_call 23
        refine Calls.mono (refat2_any st x.name _ _ S (HST.out _ (bel_call B0r.out B6))) ?_
        rw [HJ.out]
        rintro e6 w7 ⟨rfl, b6⟩
        have B7 := bel_call B6 b6
        replace TA := (b6.block _ (blk_lt TA)).trans TA
        clear b6 qwa
        clear hHeld
        refine hK.out _ _ (HS _ B7) (fun hHeld => ?_)
        clear hK K
        refine wpAnyH_take (i := 9) (oi := ?_) (v := ?_) ?_ (by kernel_rfl) (by kernel_rfl) (by kernel_rfl) ?_ (Or.inl ⟨?_, ?_⟩) hHeld ?_
        rotate_left 2
        · simp only [List.getElem?_toArray, List.getElem?_cons_succ, List.getElem?_cons_zero]; exact rfl
        · exact fun _ _ _ h => h
        · rfl
        · (intro W' hSw; (try dsimp only at hSw); go_simp; try with_reducible rfl)
        try simp only [Act.put, List.setIfInBounds_toArray, List.set_cons_zero, List.set_cons_succ]
        refine wpAnyH_take (i := 10) (oi := ?_) (v := ?_) ?_ (by kernel_rfl) (by kernel_rfl) (by kernel_rfl) ?_ (Or.inl ⟨?_, ?_⟩) hHeld ?_
        rotate_left 2
        · simp only [List.getElem?_toArray, List.getElem?_cons_succ, List.getElem?_cons_zero]; exact rfl
        · exact fun _ _ _ h => h
        · rfl
        · (intro W' hSw; (try dsimp only at hSw); go_simp; try with_reducible rfl)
        try simp only [Act.put, List.setIfInBounds_toArray, List.set_cons_zero, List.set_cons_succ]
        refine wpAnyH_ready (rs := [11]) (by kernel_rfl) (by simp) ?_
        refine AllReadyH.cons rfl (fun K hK => ?_) AllReadyH.nil
        go_simp
        go_at_call 29
        refine Calls.mono (refnow_any g _ _ S (rFolder_keep HGR.out (kept_of (bel_call HB0.out (bel_call B0r.out B7))))) ?_
        rw [HM.out]
        rintro e7 w8 ⟨⟨cm, rfl, hm⟩, b7⟩
        obtain ⟨m_A2, m_c2, m_A4, m_c4, rfl⟩ := man_cells hm
        have B8 := bel_call B7 b7
        replace TA := (b7.block _ (blk_lt TA)).trans TA
        clear b7 hm
        clear hHeld
        refine hK.out _ _ (HS _ B8) (fun hHeld => ?_)
        clear hK K
        obtain ⟨cT, fT⟩ := blk_cells TA
        have c_0 := cT 0 _ rfl
        have c_1 := cT 1 _ rfl
        have c_2 := cT 2 _ rfl
        have c_3 := cT 3 _ rfl
        have c_4 := cT 4 _ rfl
        have c_5 := cT 5 _ rfl
        have c_6 := cT 6 _ rfl
        have c_7 := cT 7 _ rfl
        have HTA := Lib.hid TA
        clear cT TA
        refine wpAnyH_ready (rs := [13]) (by kernel_rfl) (by simp) ?_
        refine AllReadyH.cons rfl (fun K hK => ?_) AllReadyH.nil
        go_simp
        clear c_0 c_1 c_2 c_3 c_4 c_5 c_6 c_7 fT hHeld
        obtain ⟨E1, E2⟩ := store8 HTA.out (.string m.folder) (.int .i64 m.seq) (.slice m_A2 m.prev.length m_c2) (.string m.parent) (.slice m_A4 m.members.length m_c4) (.int .i64 m.cut) (.bool m.gone) (.string m.who)
        have BE := ButB.below B8 B8.size (fun z hz => by rw [hz]; exact hpb) E2
        generalize hW : World.setCell _ _ _ = W at E1 E2 BE ⊢
        clear hW
        refine hK.out _ _ (HS _ BE) (fun hHeld => ?_)
        clear hK K
        refine wpAnyH_done (by kernel_rfl) ?_ _
        clear hHeld HS
        have bcut := (blk_cells E1).1 5 _ rfl
        have HBE := Lib.hid BE
        have t0 := (World.cell?_of_block (a := ⟨bw, ow + k * 2, none⟩) (BE.block _ (cell_lt HV0.out))).trans HV0.out
        have t1 := (World.cell?_of_block (a := ⟨bw, ow + k * 2 + 1, none⟩) (BE.block _ (cell_lt HV1.out))).trans HV1.out
        have t2 := (World.cell?_of_block (a := ⟨bx, ox + k * 2, none⟩) (BE.block _ (cell_lt HU0.out))).trans HU0.out
        clear BE E1 E2
        by_cases hne : y.name = x.name
        rotate_left
        · have HEND := Lib.hid (show staleB st name = true by rw [← HG.out, HST2.out, if_neg hne])
          have hse : (y.name.toList == x.name.toList) = false := eqS_ne hne
          clear hne
          go_wp2_with fail
          go_quiet (fail)
          go_wp2
          go_ret
          exact ⟨by rw [HEND.out]; rfl, belN (bel_call HB0.out (bel_call B0r.out HBE.out)) _⟩
        have hse : (y.name.toList == x.name.toList) = true := by rw [hne]; simp
        have HNE := Lib.hid hne
        clear hne
        by_cases hct : y.seq < m.cut
        · have hcd : decide (y.seq < m.cut) = true := decide_eq_true hct
          have HEND := Lib.hid (show staleB st name = true by rw [← HG.out, HST2.out, if_pos HNE.out, HCUT2.out, if_pos hct])
          clear hct
          go_wp2_with fail
          go_quiet (fail)
          go_wp2
          go_ret
          exact ⟨by rw [HEND.out]; rfl, belN (bel_call HB0.out (bel_call B0r.out HBE.out)) _⟩
        · have hcd : decide (y.seq < m.cut) = false := decide_eq_false hct
          have HEND := Lib.hid (show staleGo st (e.chain.drop (k + 1)) (now.drop (k + 1)) = staleB st name by rw [← HG.out, HST2.out, if_pos HNE.out, HCUT2.out, if_neg hct])
          clear hct
          go_wp2_with fail
          go_quiet (fail)
          go_wp2
          go_roundw
          case rel =>
            have HF : ∃ j' : Nat, j' ≤ now.length ∧ Value.int .i64 ((k : Int) + 1) = .int .i64 j' ∧ Hid (staleGo st (e.chain.drop j') (now.drop j') = staleB st name) ∧ Below w5.heap.size w5 (W.drewN nq) := ⟨k + 1, by omega, by go_num, HEND, belN (bel_call hbel HBE.out) _⟩
            first | exact HF | ((repeat apply Exists.intro); refine ⟨HF, ?_⟩; first | rfl | ((repeat' apply And.intro) <;> rfl) | (simp; (repeat' apply And.intro) <;> first | rfl | (have := HLEN.out; omega)))
          case measure => simp [RowKit.intOf]; omega
    · obtain rfl : k = now.length := by omega
      have HE := Lib.hid (show staleB st name = false by rw [← HG.out, List.drop_length, staleGo_nil])
      go_wp2
      go_ret
      exact ⟨by rw [HE.out]; rfl, bel_call HB0.out B0r.out⟩
end Go.Proofs.Ytocofkccdfaaaaa
