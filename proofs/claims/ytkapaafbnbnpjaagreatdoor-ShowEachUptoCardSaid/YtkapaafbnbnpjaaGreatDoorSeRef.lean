/- Layer granted: Chain; the document's Now and At. Conditions: as each theorem says. -/
import Derived.Test.YtkapaafbnbnpjaaGreatDoorSeFind
namespace Go.Proofs.YtkapaafbnbnpjaaGreatDoor
open Go.RowKit Go.Deep

set_option maxHeartbeats 2000000 in
theorem refnow_any (f : Folder) (cs : List Value) (w : World) (S : Nat → Prop) (h : rFolder S w cs f) : Calls Tryz.prog 9 #[.agg cs.toArray] w fun e w' => (∃ cm : List Value, e = .returned (.agg cm.toArray) ∧ rManifest S w' cm (nowM f)) ∧ Below w.heap.size w w' := by
  obtain ⟨f_A2, f_c2, f_A3, f_c3, f_A4, f_c4, f_A5, f_c5, f_A6, f_c6, rfl, f_name_le, f_turn_ok, f_manifests_l, f_manifests_m, f_manifests_n, f_manifests_s, f_epochs_l, f_epochs_m, f_epochs_n, f_epochs_s, f_items_l, f_items_m, f_items_n, f_items_s, f_wraps_l, f_wraps_m, f_wraps_n, f_wraps_s, f_links_l, f_links_m, f_links_n, f_links_s⟩ := open_Folder h
  obtain ⟨w0, hw0, cw0, fw0, Bw0, qw0⟩ := boxed w #[.string f.name, .int .i64 f.turn, .slice f_A2 f.manifests.length f_c2, .slice f_A3 f.epochs.length f_c3, .slice f_A4 f.items.length f_c4, .slice f_A5 f.wraps.length f_c5, .slice f_A6 f.links.length f_c6] 35
  obtain ⟨w1, hw1, cw1, fw1, Bw1, qw1⟩ := boxed w0 #[.string ⟨#[]⟩, .int .i64 0, .slice none 0 0, .string ⟨#[]⟩, .slice none 0 0, .int .i64 0, .bool false, .string ⟨#[]⟩] 43
  have B1 : Below w.heap.size w w1 := bel_call Bw0 Bw1
  have x2 := (Bw1.cell (p := ⟨w.heap.size, 2, none⟩) qw0).trans (cw0 2 _ rfl)
  have HB1 := Lib.hid B1
  have HW1 := Lib.hid hw1
  have hblk : w1.heap[w0.heap.size]? = some (.cells #[.string ⟨#[]⟩, .int .i64 0, .slice none 0 0, .string ⟨#[]⟩, .slice none 0 0, .int .i64 0, .bool false, .string ⟨#[]⟩] 43 (0, 0)) := by rw [← hw1]; exact blk_alloc_new _ rfl
  have o0 := cw1 0 _ rfl
  have o1 := cw1 1 _ rfl
  have o2 := cw1 2 _ rfl
  have o3 := cw1 3 _ rfl
  have o4 := cw1 4 _ rfl
  have o5 := cw1 5 _ rfl
  have o6 := cw1 6 _ rfl
  have o7 := cw1 7 _ rfl
  have hwl : w.heap.size ≤ w0.heap.size := Nat.le_of_lt qw0
  rcases Nat.eq_zero_or_pos f.manifests.length with h0 | h0
  · have HE := Lib.hid (show nowM f = zeroM by
      have : f.manifests = [] := List.eq_nil_of_length_eq_zero h0
      unfold nowM
      rw [this]
      rfl)
    rw [h0] at x2 hw0 ⊢
    clear h0 cw0 cw1 Bw0 Bw1 B1 f_manifests_s f_epochs_s f_items_s f_wraps_s f_links_s
    go_enter Tryz.func9, Tryz.ntmps9
    go_wp2
    try simp only [Exit.inBlock, Exit.then]
    refine bodyPost_ret (results_cell_row rfl _ _ w0.heap.size 43 #[.string ⟨#[]⟩, .int .i64 0, .slice none 0 0, .string ⟨#[]⟩, .slice none 0 0, .int .i64 0, .bool false, .string ⟨#[]⟩] (0, 0) _ rfl (by repeat' (first | (with_reducible assumption) | (with_reducible refine blk_set_other _ ?_ ?_; rotate_left; first | (with_reducible rfl) | ((try dsimp only); first | (with_reducible assumption) | omega | (simp only [World.size_alloc, World.size_setCell, World.size_drew]; done) | (simp only [World.size_alloc, World.size_setCell, World.size_drew]; omega))) | (with_reducible apply blk_set_same) | ((with_reducible apply blk_alloc_new); first | (with_reducible rfl) | ((try dsimp only); first | (with_reducible assumption) | omega | (simp only [World.size_alloc, World.size_setCell, World.size_drew]; done) | (simp only [World.size_alloc, World.size_setCell, World.size_drew]; omega))) | (with_reducible refine blk_alloc_old _ ?_) | (with_reducible refine blk_drew ?_) | (refine (rfl : (_ : Array Value) = _)))) Tryz.underlying43 rfl (by kernel_rfl)) rfl ?_
    have hbb := HB1.out
    refine ⟨⟨_, rfl, ?_⟩, by go_grown⟩
    rw [HE.out]
    exact ⟨_, _, rfl, Nat.zero_le _, (show I64 0 from ⟨by decide, by decide⟩), Sl_nil _ _ _ _, Nat.zero_le _, Sl_nil _ _ _ _, (show I64 0 from ⟨by decide, by decide⟩), Nat.zero_le _⟩
  · obtain ⟨n, hn⟩ : ∃ n, f.manifests.length = n + 1 := ⟨f.manifests.length - 1, by omega⟩
    obtain ⟨m, hm⟩ : ∃ m, f.manifests[n]? = some m := ⟨_, List.getElem?_eq_getElem (by omega)⟩
    have HE := Lib.hid (show nowM f = m by
      unfold nowM
      rw [List.getLast?_eq_getElem?, hn, Nat.add_sub_cancel, hm]
      rfl)
    obtain ⟨b, o, ys, hA, hbl, hR, hcz⟩ := SlAt.elem f_manifests_s hm (by decide) B1
    have HR := Lib.hid hR
    obtain ⟨m_A2, m_c2, m_A4, m_c4, rfl, m_folder_le, m_seq_ok, m_prev_l, m_prev_m, m_prev_n, m_prev_s, m_parent_le, m_members_l, m_members_m, m_members_n, m_members_s, m_cut_ok, m_who_le⟩ := open_Manifest hR
    have u0 := hcz 0 _ rfl
    have u1 := hcz 1 _ rfl
    have u2 := hcz 2 _ rfl
    have u3 := hcz 3 _ rfl
    have u4 := hcz 4 _ rfl
    have u5 := hcz 5 _ rfl
    have u6 := hcz 6 _ rfl
    have u7 := hcz 7 _ rfl
    rw [Nat.add_zero] at u0
    rw [hn] at x2 hw0 f_manifests_l f_manifests_n ⊢
    subst hA
    clear h0 hn hm hcz cw0 cw1 Bw0 Bw1 B1 f_manifests_s f_epochs_s f_items_s f_wraps_s f_links_s m_prev_s m_members_s
    go_enter Tryz.func9, Tryz.ntmps9
    go_wp2
    try simp only [Exit.inBlock, Exit.then]
    refine bodyPost_ret (results_cell_row rfl _ _ w0.heap.size 43 #[.string m.folder, .int .i64 m.seq, .slice m_A2 m.prev.length m_c2, .string m.parent, .slice m_A4 m.members.length m_c4, .int .i64 m.cut, .bool m.gone, .string m.who] (0, 0) _ rfl (by repeat' (first | (with_reducible assumption) | (with_reducible refine blk_set_other _ ?_ ?_; rotate_left; first | (with_reducible rfl) | ((try dsimp only); first | (with_reducible assumption) | omega | (simp only [World.size_alloc, World.size_setCell, World.size_drew]; done) | (simp only [World.size_alloc, World.size_setCell, World.size_drew]; omega))) | (with_reducible apply blk_set_same) | ((with_reducible apply blk_alloc_new); first | (with_reducible rfl) | ((try dsimp only); first | (with_reducible assumption) | omega | (simp only [World.size_alloc, World.size_setCell, World.size_drew]; done) | (simp only [World.size_alloc, World.size_setCell, World.size_drew]; omega))) | (with_reducible refine blk_alloc_old _ ?_) | (with_reducible refine blk_drew ?_) | (refine (rfl : (_ : Array Value) = _)))) Tryz.underlying43 rfl (by kernel_rfl)) rfl ?_
    have hbb := HB1.out
    refine ⟨⟨_, rfl, ?_⟩, by go_grown⟩
    rw [HE.out]
    exact rManifest_keep HR.out (kept_of (by go_grown))
/-- A folder, what it is in, and so on. -/
def chainOf (st : State) : Nat → Nm → List At
  | 0, _ => []
  | n + 1, s => match findF st s with
    | none => []
    | some f => ⟨s, (nowM f).seq⟩ :: chainOf st n (nowM f).parent
theorem chainOf_none {st : State} {s : Nm} (h : findF st s = none) : ∀ n, chainOf st n s = []
  | 0 => rfl
  | n + 1 => by rw [chainOf, h]
theorem chainOf_some {st : State} {s : Nm} {f : Folder} (h : findF st s = some f) (n : Nat) : chainOf st (n + 1) s = ⟨s, (nowM f).seq⟩ :: chainOf st n (nowM f).parent := by rw [chainOf, h]
theorem chainOf_len (st : State) : ∀ (n : Nat) (s : Nm), (chainOf st n s).length ≤ n
  | 0, _ => Nat.le_refl _
  | n + 1, s => by
    cases h : findF st s with
    | none => rw [chainOf_none h]; simp
    | some f => rw [chainOf_some h]; have := chainOf_len st n (nowM f).parent; simp; omega
set_option maxHeartbeats 2000000 in
set_option maxRecDepth 100000 in
theorem chain_any (st : State) (name : Nm) (hnm : name.size ≤ 140737488355328) (cs : List Value) (w : World) (S : Nat → Prop) (h : rState S w cs st) : Calls Tryz.prog 51 #[.agg cs.toArray, .string name] w fun e w' => (∃ v, e = .returned v ∧ Sl 2 rAt (fun _ => True) w' v (chainOf st 4 name)) ∧ Below w.heap.size w w' := by
  have HR := Lib.hid h
  obtain ⟨st_A1, st_c1, st_A2, st_c2, st_A3, st_c3, rfl, st_turn_ok, st_users_l, st_users_m, st_users_n, st_users_s, st_deposits_l, st_deposits_m, st_deposits_n, st_deposits_s, st_folders_l, st_folders_m, st_folders_n, st_folders_s⟩ := open_State h
  obtain ⟨w0, hw0, cw0, fw0, Bw0, qw0⟩ := boxed w #[.int .i64 st.turn, .slice st_A1 st.users.length st_c1, .slice st_A2 st.deposits.length st_c2, .slice st_A3 st.folders.length st_c3] 26
  have HB0 := Lib.hid Bw0
  have HC0 := Lib.hid cw0
  clear cw0 fw0 Bw0 st_users_s st_deposits_s st_folders_s
  obtain ⟨iAt, hiAt, hzAt, h1At, h2At⟩ := info_parts (show (Tryz.prog.info? 65).map (fun i => (i.zero, i.size, i.bytes)) = some (some (.agg #[.string ⟨#[]⟩, .int .i64 0]), 2, 24) from by kernel_rfl)
  go_enter Tryz.func51, Tryz.ntmps51
  go_wp2
  clear hw0
  go_loopw [1, 5, 9] (fun s vo i wr => ∃ (k : Nat) (cur : Nm) (L : List At), k ≤ 4 ∧ i = .int .i64 k ∧ s = .string cur ∧ cur.size ≤ 140737488355328 ∧ Hid (Grow 65 2 rAt (fun _ => False) wr w0.heap.size vo L) ∧ Hid (L ++ chainOf st (4 - k) cur = chainOf st 4 name) ∧ L.length ≤ k ∧ Below w0.heap.size w0 wr) (fun _ _ i _ => 4 - (RowKit.intOf i).toNat)
  case atStart => exact ⟨0, name, [], by omega, by go_num, rfl, hnm, Grow.nil, (Lib.hid rfl), by simp, Below.refl _ _⟩
  case round =>
    obtain ⟨k, cur, L, hk, rfl, rfl, hcur, HG, HL, hLk, hbel⟩ := hrel
    have B0 := Lib.hid (bel_call HB0.out hbel)
    have s0 := (hbel.cell (p := ⟨w.heap.size, 0, none⟩) qw0).trans (HC0.out 0 _ rfl)
    have s1 := (hbel.cell (p := ⟨w.heap.size, 1, none⟩) qw0).trans (HC0.out 1 _ rfl)
    have s2 := (hbel.cell (p := ⟨w.heap.size, 2, none⟩) qw0).trans (HC0.out 2 _ rfl)
    have s3 := (hbel.cell (p := ⟨w.heap.size, 3, none⟩) qw0).trans (HC0.out 3 _ rfl)
    obtain ⟨A2, n2, c2, rfl, hn2⟩ := HG.out.shape'
    clear hn2
    have hzr := hbel.size
    rcases Nat.lt_or_ge k 4 with hk4 | hk4
    · have hkl : (k : Int) < 4 := by omega
      go_wp2_with fail
      clear s0 s1 s2 s3
      refine Calls.mono (find_any st cur _ wr S (rState_keep HR.out (kept_of B0.out))) ?_
      rintro e w1 ⟨⟨cf, rfl, hf⟩, b1⟩
      have B1 := Lib.hid (bel_call hbel b1)
      have HG1 := Lib.hid (HG.out.below rAt_ok b1)
      have hz1 := b1.size
      clear b1
      cases hF : findF st cur with
      | none =>
        rw [hF] at hf
        replace hf : rFolder S w1 cf zeroF := hf
        simp only [Option.isSome_none]
        have HE := Lib.hid (show L = chainOf st 4 name by rw [← HL.out, chainOf_none hF, List.append_nil])
        obtain ⟨f, hfz⟩ : ∃ f, zeroF = f := ⟨_, rfl⟩
        rw [hfz] at hf
        obtain ⟨f_A2, f_c2, f_A3, f_c3, f_A4, f_c4, f_A5, f_c5, f_A6, f_c6, rfl, f_name_le, f_turn_ok, f_manifests_l, f_manifests_m, f_manifests_n, f_manifests_s, f_epochs_l, f_epochs_m, f_epochs_n, f_epochs_s, f_items_l, f_items_m, f_items_n, f_items_s, f_wraps_l, f_wraps_m, f_wraps_n, f_wraps_s, f_links_l, f_links_m, f_links_n, f_links_s⟩ := open_Folder hf
        obtain ⟨w2, hw2, cw2, fw2, Bw2, qw2⟩ := boxed w1 #[.string f.name, .int .i64 f.turn, .slice f_A2 f.manifests.length f_c2, .slice f_A3 f.epochs.length f_c3, .slice f_A4 f.items.length f_c4, .slice f_A5 f.wraps.length f_c5, .slice f_A6 f.links.length f_c6] 35
        have HG2 := Lib.hid (HG1.out.below rAt_ok Bw2)
        have HB2 := Lib.hid (bel_call HB0.out (bel_call B1.out Bw2))
        clear hF hfz cw2 fw2 Bw2
        go_wp2
        go_ret
        exact ⟨⟨_, rfl, by rw [← HE.out]; exact Own.sl rAt_ok HG2.out⟩, HB2.out⟩
      | some f =>
        rw [hF] at hf
        replace hf : rFolder S w1 cf f := hf
        simp only [Option.isSome_some]
        have HFR := Lib.hid hf
        obtain ⟨m, hm⟩ : ∃ m, nowM f = m := ⟨_, rfl⟩
        have HE := Lib.hid (show (L ++ [(⟨cur, m.seq⟩ : At)]) ++ chainOf st (4 - (k + 1)) m.parent = chainOf st 4 name by
          rw [← HL.out, show 4 - k = (4 - (k + 1)) + 1 by omega, chainOf_some hF, hm, List.append_assoc]
          rfl)
        obtain ⟨f_A2, f_c2, f_A3, f_c3, f_A4, f_c4, f_A5, f_c5, f_A6, f_c6, rfl, f_name_le, f_turn_ok, f_manifests_l, f_manifests_m, f_manifests_n, f_manifests_s, f_epochs_l, f_epochs_m, f_epochs_n, f_epochs_s, f_items_l, f_items_m, f_items_n, f_items_s, f_wraps_l, f_wraps_m, f_wraps_n, f_wraps_s, f_links_l, f_links_m, f_links_n, f_links_s⟩ := open_Folder hf
        obtain ⟨w2, hw2, cw2, fw2, Bw2, qw2⟩ := boxed w1 #[.string f.name, .int .i64 f.turn, .slice f_A2 f.manifests.length f_c2, .slice f_A3 f.epochs.length f_c3, .slice f_A4 f.items.length f_c4, .slice f_A5 f.wraps.length f_c5, .slice f_A6 f.links.length f_c6] 35
        have HG2 := Lib.hid (HG1.out.below rAt_ok Bw2)
        have HB2 := Lib.hid (bel_call B1.out Bw2)
        have t0 := cw2 0 _ rfl
        have t1 := cw2 1 _ rfl
        have t2 := cw2 2 _ rfl
        have t3 := cw2 3 _ rfl
        have t4 := cw2 4 _ rfl
        have t5 := cw2 5 _ rfl
        have t6 := cw2 6 _ rfl
        have hz2 := Bw2.size
        have HN := Lib.hid (now_any f _ w2 S (rFolder_keep HFR.out (kept_of Bw2)))
        clear hF cw2 fw2 Bw2 f_manifests_s f_epochs_s f_items_s f_wraps_s f_links_s
        go_wp2_with fail
        clear hw2 t0 t1 t2 t3 t4 t5 t6
        refine Calls.mono HN.out ?_
        rintro e w3 ⟨⟨cm, rfl, hmr⟩, b3⟩
        rw [hm] at hmr
        have HG3 := Lib.hid (HG2.out.below rAt_ok b3)
        have HB3 := Lib.hid (bel_call HB2.out b3)
        have hz3 := b3.size
        obtain ⟨m_A2, m_c2, m_A4, m_c4, rfl, m_folder_le, m_seq_ok, m_prev_l, m_prev_m, m_prev_n, m_prev_s, m_parent_le, m_members_l, m_members_m, m_members_n, m_members_s, m_cut_ok, m_who_le⟩ := open_Manifest hmr
        obtain ⟨w4, hw4, cw4, fw4, Bw4, qw4⟩ := boxed w3 #[.string m.folder, .int .i64 m.seq, .slice m_A2 m.prev.length m_c2, .string m.parent, .slice m_A4 m.members.length m_c4, .int .i64 m.cut, .bool m.gone, .string m.who] 43
        have HG4 := Lib.hid (HG3.out.below rAt_ok Bw4)
        have HB4 := Lib.hid (bel_call HB3.out Bw4)
        have HC4 := Lib.hid cw4
        have t1 := cw4 1 _ rfl
        have t3 := cw4 3 _ rfl
        have hz4 := Bw4.size
        have hLL : L.length ≤ 4 := by omega
        have HLK := Lib.hid hLk
        clear cw4 fw4 Bw4 b3 hm hLk m_prev_s m_members_s
        go_wp2_with (at_builtin; go_loud (refine wpList_grow1 (R := rAt) _ _ rfl (.tmp 21) (.tmp 26) 46 rfl 65 iAt _ 2 24 Tryz.underlying46 hiAt hzAt h1At h2At rfl (by decide) rAt_ok w0.heap.size (by omega) _ _ rfl HG4.out _ _ rfl (by simp only [World.size_alloc, World.size_setCell, World.size_drew]) _ (by intro b hb; exact hb.elim) (show rAt _ _ _ (⟨cur, m.seq⟩ : At) from ⟨rfl, hcur, m_seq_ok⟩) (by omega) (by decide) ?_); intro v5 w5 g5 gg5 go5; obtain ⟨A5, n5, c5, rfl, hn5⟩ := g5.shape'; have G5 := Lib.hid g5; have GG5 := Lib.hid gg5; have hne : ∀ b, (Value.slice A2 n2 c2).ownBlock = some b → b ≠ w3.heap.size := (fun b hb e => by have := (HG3.out.base_le b hb).2; omega); have T := (gg5.block w3.heap.size qw4 fun e => hne _ e.symm rfl); have t3' := (World.cell?_of_block (a := ⟨w3.heap.size, 3, none⟩) T).trans (HC4.out 3 _ rfl); clear hn5 g5 gg5 go5 hne T)
        go_roundw
        case rel => exact ⟨k + 1, m.parent, L ++ [⟨cur, m.seq⟩], by omega, by go_num, rfl, m_parent_le, G5, HE, by rw [List.length_append, List.length_singleton]; have := HLK.out; omega, Below.grown HB4.out GG5.out (by omega) fun b hb => (HG4.out.base_le b hb).1⟩
        case measure => simp [RowKit.intOf]; omega
    · obtain rfl : k = 4 := by omega
      have HE := Lib.hid (show L = chainOf st 4 name by have := HL.out; rwa [Nat.sub_self, chainOf, List.append_nil] at this)
      go_wp2
      go_ret
      exact ⟨⟨_, rfl, by rw [← HE.out]; exact Own.sl rAt_ok HG.out⟩, B0.out⟩
/-- Where the first folder of a name stands. -/
def atIdx (st : State) (s : Nm) : Int := match st.folders.findIdx? (isF s) with
  | some k => k
  | none => -1
theorem atIdx_here {st : State} {s : Nm} {k : Nat} {x : Folder} (h : ∀ y ∈ st.folders.take k, isF s y = false) (hx : st.folders[k]? = some x) (hp : isF s x = true) : atIdx st s = k := by
  have hk := List.getElem?_eq_some_iff.1 hx
  have hk1 := hk.1
  have : st.folders.findIdx? (isF s) = some k := by
    rw [List.findIdx?_eq_some_iff_getElem]
    refine ⟨hk.1, by rw [hk.2]; exact hp, fun j hj => ?_⟩
    rw [Bool.not_eq_true]
    refine h _ ?_
    exact List.mem_of_getElem? (i := j) (by rw [List.getElem?_take, if_pos hj, List.getElem?_eq_getElem (by omega)])
  rw [atIdx, this]
theorem atIdx_no {st : State} {s : Nm} (h : ∀ y ∈ st.folders, isF s y = false) : atIdx st s = -1 := by
  have : st.folders.findIdx? (isF s) = none := by rw [List.findIdx?_eq_none_iff]; exact h
  rw [atIdx, this]
theorem atIdx_some {st : State} {s : Nm} {f : Folder} (h : findF st s = some f) : ∃ k : Nat, atIdx st s = k ∧ st.folders[k]? = some f := by
  obtain ⟨hp, a, b, hl, hn⟩ := List.find?_eq_some_iff_append.1 h
  have hk : st.folders[a.length]? = some f := by rw [hl, List.getElem?_append_right (Nat.le_refl _), Nat.sub_self]; rfl
  refine ⟨a.length, atIdx_here (fun y hy => ?_) hk hp, hk⟩
  rw [hl, List.take_left] at hy
  simpa [isF] using hn y hy
theorem atIdx_none {st : State} {s : Nm} (h : findF st s = none) : atIdx st s = -1 := atIdx_no fun y hy => by
  have := List.find?_eq_none.1 h y hy
  simpa [isF] using this
set_option maxHeartbeats 2000000 in
theorem refat2_any (st : State) (s : Nm) (cs : List Value) (w : World) (S : Nat → Prop) (h : rState S w cs st) : Calls Tryz.prog 8 #[.agg cs.toArray, .string s] w fun e w' => e = .returned (.int .i64 (atIdx st s)) ∧ Below w.heap.size w w' := by
  obtain ⟨st_A1, st_c1, st_A2, st_c2, st_A3, st_c3, rfl, st_turn_ok, st_users_l, st_users_m, st_users_n, st_users_s, st_deposits_l, st_deposits_m, st_deposits_n, st_deposits_s, st_folders_l, st_folders_m, st_folders_n, st_folders_s⟩ := open_State h
  obtain ⟨w0, hw0, cw0, fw0, Bw0, qw0⟩ := boxed w #[.int .i64 st.turn, .slice st_A1 st.users.length st_c1, .slice st_A2 st.deposits.length st_c2, .slice st_A3 st.folders.length st_c3] 26
  have HB0 := Lib.hid Bw0
  have b3 := cw0 3 _ rfl
  clear cw0 fw0 Bw0 st_users_s st_deposits_s
  go_enter Tryz.func8, Tryz.ntmps8
  go_wp2
  clear hw0
  go_loop [5] (fun i => ∃ k : Nat, k ≤ st.folders.length ∧ i = .int .i64 k ∧ Hid (∀ y ∈ st.folders.take k, isF s y = false)) (fun i => st.folders.length - (RowKit.intOf i).toNat)
  case atStart => exact ⟨0, by omega, by go_num, fun y hy => by simp at hy⟩
  case round =>
    obtain ⟨k, hk, rfl, HN⟩ := hrel
    by_cases hlt : k < st.folders.length
    · obtain ⟨x, hx⟩ : ∃ x, st.folders[k]? = some x := ⟨_, List.getElem?_eq_getElem hlt⟩
      obtain ⟨b, o, ys, hA, hbl, hRx, hcz⟩ := SlAt.elem st_folders_s hx (by decide) HB0.out
      obtain ⟨x_A2, x_c2, x_A3, x_c3, x_A4, x_c4, x_A5, x_c5, x_A6, x_c6, rfl, x_name_le, x_turn_ok, x_manifests_l, x_manifests_m, x_manifests_n, x_manifests_s, x_epochs_l, x_epochs_m, x_epochs_n, x_epochs_s, x_items_l, x_items_m, x_items_n, x_items_s, x_wraps_l, x_wraps_m, x_wraps_n, x_wraps_s, x_links_l, x_links_m, x_links_n, x_links_s⟩ := open_Folder hRx
      have u0 := hcz 0 _ rfl
      rw [Nat.add_zero] at u0
      subst hA
      have hki : (k : Int) < (st.folders.length : Int) := by omega
      have HX := Lib.hid hx
      clear hcz hx x_manifests_s x_epochs_s x_items_s x_wraps_s x_links_s
      by_cases hnm : x.name = s
      · have hse : (x.name.toList == s.toList) = true := by rw [hnm]; simp
        have HF := Lib.hid (atIdx_here HN.out HX.out (show isF s x = true by unfold isF; exact decide_eq_true hnm))
        clear hnm
        go_wp2
        go_ret
        exact ⟨by rw [HF.out]; rfl, HB0.out⟩
      · have hse : (x.name.toList == s.toList) = false := eqS_ne hnm
        have HF := Lib.hid (none_step HN.out HX.out (show isF s x = false by unfold isF; exact decide_eq_false hnm))
        clear hnm
        go_wp2
        go_round
        case rel => exact ⟨k + 1, by omega, by go_num, HF⟩
        case measure => simp [RowKit.intOf]; omega
    · obtain rfl : k = st.folders.length := by omega
      rw [List.take_length] at HN
      go_wp2
      go_ret
      exact ⟨by rw [atIdx_no HN.out]; rfl, HB0.out⟩
theorem atI_idx (st : State) (s : Nm) : AtI (isF s) st.folders (atIdx st s) := by
  cases h : findF st s with
  | none => exact .inr ⟨atIdx_none h, h⟩
  | some f =>
    obtain ⟨k, e, hk⟩ := atIdx_some h
    exact .inl ⟨k, f, e, hk, h⟩
theorem refat_any (st : State) (s : Nm) (cs : List Value) (w : World) (S : Nat → Prop) (h : rState S w cs st) : Calls Tryz.prog 8 #[.agg cs.toArray, .string s] w fun e w' => (∃ i : Int, e = .returned (.int .i64 i) ∧ AtI (isF s) st.folders i) ∧ Below w.heap.size w w' :=
  (refat2_any st s cs w S h).mono fun _ _ ⟨he, hb⟩ => ⟨⟨_, he, atI_idx st s⟩, hb⟩
end Go.Proofs.YtkapaafbnbnpjaaGreatDoor
