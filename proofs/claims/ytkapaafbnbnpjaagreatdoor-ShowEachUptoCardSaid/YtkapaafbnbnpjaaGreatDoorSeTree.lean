/- Layer show: Tree. Conditions: as each theorem says. -/
import Derived.Test.YtkapaafbnbnpjaaGreatDoorSeTrA
import Derived.Deep.RegionHeld3
namespace Go.Proofs.YtkapaafbnbnpjaaGreatDoor
open Go.RowKit Go.Deep

def BelowPost (st : State) (cs : List Value) (bs bo bb base : Nat) (w0 : World) (n deep : Nat) (parent : Nm) (X : List Nm) (v : Value) (W : World) (e : Ending) (w' : World) : Prop :=
  e = .returned (.tuple #[]) ∧ ∃ v' L, TS cs bs bo bb base w0 w' v' (X ++ L) ∧ Gr1 bo W v w' v' ∧ TreeL st n deep parent L ∧ OkLines L ∧ L.length ≤ maxL n
def ByOk (st : State) : Prop := ∀ f ∈ st.folders, ∀ x ∈ f.items, ∀ v ∈ x.versions, v.who.size ≤ 1048576

set_option maxHeartbeats 8000000 in
set_option maxRecDepth 100000 in
theorem below_any (st : State) (hsm : Small st) (hby : ByOk st) (cs : List Value) (w0 : World) (h : rState (fun z => z < w0.heap.size) w0 cs st) (hp : Pow w0) (bs bo bb base : Nat) (k1 : bs < base) (k2 : bo < base) (k3 : bb < base) (k4 : bs ≠ bo) (k5 : bb ≠ bo) (k6 : w0.heap.size ≤ bo) :
    ∀ (n deep : Nat), deep + n = 4 → ∀ (parent : Nm) (X : List Nm) (v : Value) (W : World), X.length + maxL n ≤ 500000 → TS cs bs bo bb base w0 W v X →
      Calls Tryz.prog 18 #[.string parent, .int .i64 deep, .pointer (some ⟨bs, 0, none⟩), .pointer (some ⟨bo, 0, none⟩), .pointer (some ⟨bb, 0, none⟩)] W (BelowPost st cs bs bo bb base w0 n deep parent X v W) := by
  have HR := Lib.hid h
  have HSM := Lib.hid hsm
  have HBY := Lib.hid hby
  have HP := Lib.hid hp
  obtain ⟨st_A1, st_c1, st_A2, st_c2, st_A3, st_c3, rfl, st_turn_ok, st_users_l, st_users_m, st_users_n, st_users_s, st_deposits_l, st_deposits_m, st_deposits_n, st_deposits_s, st_folders_l, st_folders_m, st_folders_n, st_folders_s⟩ := open_State h
  clear hsm hby hp st_users_s st_deposits_s st_folders_s
  intro n
  induction n with
  | zero =>
    intro deep hdn parent X v W hX hT
    obtain rfl : deep = 4 := by omega
    have HT := Lib.hid hT
    clear hT
    go_enter Tryz.func18, Tryz.ntmps18
    go_wp2
    try simp only [Exit.inBlock, Exit.then]
    refine bodyPost_ret (results_none rfl _ _ _) rfl ?_
    exact ⟨rfl, v, [], by rw [List.append_nil]; exact HT.out, Gr1.refl _ _ _, rfl, (fun x hx => by cases hx), Nat.zero_le _⟩
  | succ n ih =>
    intro deep hdn parent X v W hX hT
    have IH := Lib.hid ih
    have HT := Lib.hid hT
    have hdd : (deep : Int) < 4 := by omega
    have hdd2 : ¬ (4 : Int) ≤ (deep : Int) := by omega
    clear ih hT
    have q0 := (blk_cells HT.out.state).1 0 _ rfl
    have q1 := (blk_cells HT.out.state).1 1 _ rfl
    have q2 := (blk_cells HT.out.state).1 2 _ rfl
    have q3 := (blk_cells HT.out.state).1 3 _ rfl
    have HIN := Lib.hid (showin_any st HSM.out parent _ W (fun z => z < w0.heap.size) (rState_keep HR.out (kept_of HT.out.below)))
    go_enter Tryz.func18, Tryz.ntmps18
    go_wp2_with fail
    clear q0 q1 q2 q3
    refine Calls.mono HIN.out ?_
    rintro e w1 ⟨⟨vR, rfl, R, hRs, hRn, hRl⟩, B1⟩
    obtain ⟨AR, cR, rfl, hl, hc, hn, hs⟩ := hRs
    unfold maxLen at hc
    have HRN := Lib.hid hRn
    have HB1 := Lib.hid B1
    have HT1 := Lib.hid (HT.out.to B1)
    have hr8 : R.length ≤ 8 := by have := HSM.out.few8; omega
    have HX := Lib.hid hX
    obtain ⟨istr, histr, hzstr, h1str, h2str⟩ := info_parts (show (Tryz.prog.info? 9).map (fun i => (i.zero, i.size, i.bytes)) = some (some (.string ⟨#[]⟩), 1, 16) from by kernel_rfl)
    clear hRn B1 HIN hX hdd hdd2 hRl
    go_wp2
    go_loopw [17] (fun vi wr => ∃ (k : Nat) (v' : Value) (L : List Nm), k ≤ R.length ∧ vi = .int .i64 k ∧ Hid (TS [.int .i64 st.turn, .slice st_A1 st.users.length st_c1, .slice st_A2 st.deposits.length st_c2, .slice st_A3 st.folders.length st_c3] bs bo bb base w0 wr v' (X ++ L)) ∧ Hid (Gr1 bo w1 v wr v') ∧ Hid (Parts (TreeL st n (deep + 1)) deep (R.take k) L) ∧ Hid (OkLines L) ∧ Hid (L.length ≤ k * (101 + maxL n))) (fun vi _ => R.length - (RowKit.intOf vi).toNat)
    case atStart => exact ⟨0, v, [], by omega, by go_num, Lib.hid (by rw [List.append_nil]; exact HT1.out), Lib.hid (Gr1.refl _ _ _), Lib.hid Parts.nil, Lib.hid (fun x hx => by cases hx), Lib.hid (by simp)⟩
    case round =>
      obtain ⟨k, v1, L, hk, rfl, HT2, HG2, HPA, HOK, HLN⟩ := hrel
      by_cases hlt : k < R.length
      · obtain ⟨x, hx⟩ : ∃ x, R[k]? = some x := ⟨_, List.getElem?_eq_getElem hlt⟩
        have hxm := List.mem_of_getElem? hx
        obtain ⟨f, hff, hfg, hfp⟩ := (HRN.out.2 x).1 hxm
        have hfm := List.mem_of_find?_eq_some hff
        have hfn : f.name = x := by simpa using List.find?_some hff
        obtain ⟨br, or, yr, hAr, hSr, hlr, hcr, hRr⟩ := hs k x hx
        have u0 := hcr 0 _ (by rw [hRr.1]; rfl)
        have hki : (k : Int) < (R.length : Int) := by omega
        have hbr : br < w1.heap.size := cell_lt u0
        have hKP : ∀ z, W.heap.size ≤ z → z < w1.heap.size → wr.heap[z]? = w1.heap[z]? := fun z h1 h2 => HG2.out.1.block z h2 fun e => by
          rcases e with e | e
          · have := HT.out.size; omega
          · have := (HT.out.grow.base_le z e).2; omega
        replace u0 : w1.cell? ⟨br, or + k, none⟩ = some (.string x) := by simpa using u0
        have x0 : wr.cell? ⟨br, or + k, none⟩ = some (.string x) := (World.cell?_of_block (a := ⟨br, or + k, none⟩) (hKP br hSr hbr)).trans u0
        subst hAr
        have q0 := (blk_cells HT2.out.state).1 0 _ rfl
        have q1 := (blk_cells HT2.out.state).1 1 _ rfl
        have q2 := (blk_cells HT2.out.state).1 2 _ rfl
        have q3 := (blk_cells HT2.out.state).1 3 _ rfl
        have HFI := Lib.hid (find_any st x _ wr (fun z => z < w0.heap.size) (rState_keep HR.out (kept_of HT2.out.below)))
        rw [hff] at HFI
        have HXK := Lib.hid hx
        have HFN := Lib.hid hfn
        have HFM := Lib.hid hfm
        have HIP := Lib.hid (show inP st parent x from ⟨f, hff, hfg, hfp⟩)
        clear hx hxm hff hfg hfp hfm hfn hcr hRr hlr u0 hKP
        go_wp2_with fail
        clear q0 q1 q2 q3 x0
        refine Calls.mono HFI.out ?_
        rintro e w2 ⟨⟨cf, rfl, hf⟩, B2⟩
        replace hf : rFolder (fun z => z < w0.heap.size) w2 cf f := hf
        simp only [Option.isSome_some]
        have HF := Lib.hid hf
        have HT3 := Lib.hid (HT2.out.to B2)
        have hz2 : wr.heap.size ≤ w2.heap.size := B2.size
        obtain ⟨f_A2, f_c2, f_A3, f_c3, f_A4, f_c4, f_A5, f_c5, f_A6, f_c6, rfl, f_name_le, f_turn_ok, f_manifests_l, f_manifests_m, f_manifests_n, f_manifests_s, f_epochs_l, f_epochs_m, f_epochs_n, f_epochs_s, f_items_l, f_items_m, f_items_n, f_items_s, f_wraps_l, f_wraps_m, f_wraps_n, f_wraps_s, f_links_l, f_links_m, f_links_n, f_links_s⟩ := open_Folder hf
        obtain ⟨w3, hw3, cw3, fw3, Bw3, qw3⟩ := boxed w2 #[.string f.name, .int .i64 f.turn, .slice f_A2 f.manifests.length f_c2, .slice f_A3 f.epochs.length f_c3, .slice f_A4 f.items.length f_c4, .slice f_A5 f.wraps.length f_c5, .slice f_A6 f.links.length f_c6] 35
        have HC3 := Lib.hid cw3
        have HT4 := Lib.hid (HT3.out.to Bw3)
        have HB3 := Lib.hid (bel_call B2 Bw3)
        have HB23 := Lib.hid Bw3
        have hz3 := HB3.out.size
        have hq3 := qw3
        have HBX := Lib.hid (show w3.heap[w2.heap.size]? = some (.cells #[.string f.name, .int .i64 f.turn, .slice f_A2 f.manifests.length f_c2, .slice f_A3 f.epochs.length f_c3, .slice f_A4 f.items.length f_c4, .slice f_A5 f.wraps.length f_c5, .slice f_A6 f.links.length f_c6] 35 (0, 0)) by rw [← hw3]; exact blk_alloc_new _ rfl)
        have HSB := Lib.hid (show ∀ Z : World, Z.heap[bs]? = some (.cells [.int .i64 st.turn, .slice st_A1 st.users.length st_c1, .slice st_A2 st.deposits.length st_c2, .slice st_A3 st.folders.length st_c3].toArray 26 (0, 0)) → Z.heap[w2.heap.size]? = some (.cells #[.string f.name, .int .i64 f.turn, .slice f_A2 f.manifests.length f_c2, .slice f_A3 f.epochs.length f_c3, .slice f_A4 f.items.length f_c4, .slice f_A5 f.wraps.length f_c5, .slice f_A6 f.links.length f_c6] 35 (0, 0)) → (fun W : World => (W.cell? ⟨bs, 0, none⟩ = some (.int .i64 st.turn) ∧ W.cell? ⟨bs, 1, none⟩ = some (.slice st_A1 st.users.length st_c1) ∧ W.cell? ⟨bs, 2, none⟩ = some (.slice st_A2 st.deposits.length st_c2) ∧ W.cell? ⟨bs, 3, none⟩ = some (.slice st_A3 st.folders.length st_c3)) ∧ W.cell? ⟨w2.heap.size, 0, none⟩ = some (.string f.name) ∧ W.cell? ⟨w2.heap.size, 1, none⟩ = some (.int .i64 f.turn) ∧ W.cell? ⟨w2.heap.size, 2, none⟩ = some (.slice f_A2 f.manifests.length f_c2) ∧ W.cell? ⟨w2.heap.size, 3, none⟩ = some (.slice f_A3 f.epochs.length f_c3) ∧ W.cell? ⟨w2.heap.size, 4, none⟩ = some (.slice f_A4 f.items.length f_c4) ∧ W.cell? ⟨w2.heap.size, 5, none⟩ = some (.slice f_A5 f.wraps.length f_c5) ∧ W.cell? ⟨w2.heap.size, 6, none⟩ = some (.slice f_A6 f.links.length f_c6)) Z from fun Z h1 h2 => by
          have c1 := (blk_cells h1).1
          have c2 := (blk_cells h2).1
          exact ⟨⟨c1 0 _ rfl, c1 1 _ rfl, c1 2 _ rfl, c1 3 _ rfl⟩, c2 0 _ rfl, c2 1 _ rfl, c2 2 _ rfl, c2 3 _ rfl, c2 4 _ rfl, c2 5 _ rfl, c2 6 _ rfl⟩)
        have HSQ := Lib.hid (show ∀ Z : World, Below w3.heap.size w3 Z → (fun W : World => (W.cell? ⟨bs, 0, none⟩ = some (.int .i64 st.turn) ∧ W.cell? ⟨bs, 1, none⟩ = some (.slice st_A1 st.users.length st_c1) ∧ W.cell? ⟨bs, 2, none⟩ = some (.slice st_A2 st.deposits.length st_c2) ∧ W.cell? ⟨bs, 3, none⟩ = some (.slice st_A3 st.folders.length st_c3)) ∧ W.cell? ⟨w2.heap.size, 0, none⟩ = some (.string f.name) ∧ W.cell? ⟨w2.heap.size, 1, none⟩ = some (.int .i64 f.turn) ∧ W.cell? ⟨w2.heap.size, 2, none⟩ = some (.slice f_A2 f.manifests.length f_c2) ∧ W.cell? ⟨w2.heap.size, 3, none⟩ = some (.slice f_A3 f.epochs.length f_c3) ∧ W.cell? ⟨w2.heap.size, 4, none⟩ = some (.slice f_A4 f.items.length f_c4) ∧ W.cell? ⟨w2.heap.size, 5, none⟩ = some (.slice f_A5 f.wraps.length f_c5) ∧ W.cell? ⟨w2.heap.size, 6, none⟩ = some (.slice f_A6 f.links.length f_c6)) Z from fun Z hZ => HSB.out Z (HT4.out.to hZ).state (blk_below hZ HBX.out qw3))
        have hfsh := HSM.out.short f HFM.out
        have HFSH := Lib.hid hfsh
        have HFO := Lib.hid fun (Z : World) (hZ : Below w3.heap.size w3 Z) => folder_any st f HFSH.out deep (by omega) _ _ Z (fun z => z < w0.heap.size) (rState_keep HR.out (kept_of (HT4.out.to hZ).below)) (rFolder_keep HF.out (kept_of (bel_call HB23.out hZ))) (HP.out.below (HT4.out.to hZ).below)
        clear cw3 fw3 Bw3 B2 HFI hfsh f_manifests_s f_epochs_s f_items_s f_wraps_s f_links_s
        go_wp2_with fail
        clear hw3
        have HS := HSQ.out
        refine wp_region_held_drew (S := fun W : World => (W.cell? ⟨bs, 0, none⟩ = some (.int .i64 st.turn) ∧ W.cell? ⟨bs, 1, none⟩ = some (.slice st_A1 st.users.length st_c1) ∧ W.cell? ⟨bs, 2, none⟩ = some (.slice st_A2 st.deposits.length st_c2) ∧ W.cell? ⟨bs, 3, none⟩ = some (.slice st_A3 st.folders.length st_c3)) ∧ W.cell? ⟨w2.heap.size, 0, none⟩ = some (.string f.name) ∧ W.cell? ⟨w2.heap.size, 1, none⟩ = some (.int .i64 f.turn) ∧ W.cell? ⟨w2.heap.size, 2, none⟩ = some (.slice f_A2 f.manifests.length f_c2) ∧ W.cell? ⟨w2.heap.size, 3, none⟩ = some (.slice f_A3 f.epochs.length f_c3) ∧ W.cell? ⟨w2.heap.size, 4, none⟩ = some (.slice f_A4 f.items.length f_c4) ∧ W.cell? ⟨w2.heap.size, 5, none⟩ = some (.slice f_A5 f.wraps.length f_c5) ∧ W.cell? ⟨w2.heap.size, 6, none⟩ = some (.slice f_A6 f.links.length f_c6)) (by kernel_rfl) (HS _ (Below.refl _ _).drew) (fun hHeld => ?_)
        refine wpAnyH_take (i := 1) (oi := ?_) (v := ?_) ?_ (by kernel_rfl) (by kernel_rfl) (by kernel_rfl) ?_ (Or.inl ⟨?_, ?_⟩) hHeld ?_
        rotate_left 2
        · simp only [List.getElem?_toArray, List.getElem?_cons_succ, List.getElem?_cons_zero]; exact rfl
        · exact fun _ _ _ h => h
        · rfl
        · (intro W' hSw; (try dsimp only at hSw); go_simp; try with_reducible rfl)
        try simp only [Act.put, List.setIfInBounds_toArray, List.set_cons_zero, List.set_cons_succ]
        refine wpAnyH_take (i := 2) (oi := ?_) (v := ?_) ?_ (by kernel_rfl) (by kernel_rfl) (by kernel_rfl) ?_ (Or.inl ⟨?_, ?_⟩) hHeld ?_
        rotate_left 2
        · simp only [List.getElem?_toArray, List.getElem?_cons_succ, List.getElem?_cons_zero]; exact rfl
        · exact fun _ _ _ h => h
        · rfl
        · (intro W' hSw; (try dsimp only at hSw); go_simp; try with_reducible rfl)
        try simp only [Act.put, List.setIfInBounds_toArray, List.set_cons_zero, List.set_cons_succ]
        refine wpAnyH_take (i := 3) (oi := ?_) (v := ?_) ?_ (by kernel_rfl) (by kernel_rfl) (by kernel_rfl) ?_ (Or.inl ⟨?_, ?_⟩) hHeld ?_
        rotate_left 2
        · simp only [List.getElem?_toArray, List.getElem?_cons_succ, List.getElem?_cons_zero]; exact rfl
        · exact fun _ _ _ h => h
        · rfl
        · (intro W' hSw; (try dsimp only at hSw); go_simp; try with_reducible rfl)
        try simp only [Act.put, List.setIfInBounds_toArray, List.set_cons_zero, List.set_cons_succ]
        have HTd := Lib.hid (HT4.out.to (Below.refl _ _).drew)
        refine wpAnyH_ready (rs := [0, 4]) (by kernel_rfl) (by simp) ?_
        refine AllReadyH.cons rfl (fun K hK => ?_) (AllReadyH.cons rfl (fun K hK => ?_) AllReadyH.nil)
        have o0 := (blk_cells HTd.out.out).1 0 _ rfl
        go_simp
        clear o0
        refine hK.out _ _ (HS _ (Below.refl _ _).drew) (fun hHeld => ?_)
        clear hK K
        refine wpAnyH_ready (rs := [4]) (by kernel_rfl) (by simp) ?_
        refine AllReadyH.cons rfl (fun K hK => ?_) AllReadyH.nil
        go_simp
        go_at_call 21
        refine Calls.mono (HFO.out _ (Below.refl _ _).drew) ?_
        rintro e w5 ⟨⟨z, rfl, hz1, hz2⟩, b5⟩
        have B5 := Lib.hid (show Below w3.heap.size w3 w5 from bel_call (Below.refl _ _).drew b5)
        rw [HFN.out] at hz1
        have HZ1 := Lib.hid hz1
        clear hz1 b5 hHeld
        refine hK.out _ _ (HS _ B5.out) (fun hHeld => ?_)
        clear hK K
        obtain ⟨w6, hw6, cw6, fw6, Bw6, qw6⟩ := boxed w5 #[.string z] 9
        have HW6 := Lib.hid hw6
        have CW6 := Lib.hid cw6
        have BW6 := Lib.hid Bw6
        have B6 := Lib.hid (bel_call B5.out Bw6)
        clear cw6 fw6 Bw6
        refine wpAnyH_ready (rs := [5]) (by kernel_rfl) (by simp) ?_
        refine AllReadyH.cons rfl (fun K hK => ?_) AllReadyH.nil
        go_simp
        clear hw6
        clear hHeld
        refine hK.out _ _ (HS _ B6.out) (fun hHeld => ?_)
        clear hK K
        rotate_left
        go_simp
        go_at_call 21
        refine Calls.mono (HFO.out _ (Below.refl _ _).drew) ?_
        rintro e w5 ⟨⟨z, rfl, hz1, hz2⟩, b5⟩
        have B5 := Lib.hid (show Below w3.heap.size w3 w5 from bel_call (Below.refl _ _).drew b5)
        rw [HFN.out] at hz1
        have HZ1 := Lib.hid hz1
        clear hz1 b5 hHeld
        refine hK.out _ _ (HS _ B5.out) (fun hHeld => ?_)
        clear hK K
        refine wpAnyH_ready (rs := [0, 5]) (by kernel_rfl) (by simp) ?_
        refine AllReadyH.cons rfl (fun K hK => ?_) (AllReadyH.cons rfl (fun K hK => ?_) AllReadyH.nil)
        have o0 := (blk_cells (HT4.out.to B5.out).out).1 0 _ rfl
        go_simp
        clear o0
        clear hHeld
        refine hK.out _ _ (HS _ B5.out) (fun hHeld => ?_)
        clear hK K
        obtain ⟨w6, hw6, cw6, fw6, Bw6, qw6⟩ := boxed w5 #[.string z] 9
        have HW6 := Lib.hid hw6
        have CW6 := Lib.hid cw6
        have BW6 := Lib.hid Bw6
        have B6 := Lib.hid (bel_call B5.out Bw6)
        clear cw6 fw6 Bw6
        refine wpAnyH_ready (rs := [5]) (by kernel_rfl) (by simp) ?_
        refine AllReadyH.cons rfl (fun K hK => ?_) AllReadyH.nil
        go_simp
        clear hw6
        clear hHeld
        refine hK.out _ _ (HS _ B6.out) (fun hHeld => ?_)
        clear hK K
        rotate_left
        obtain ⟨w6, hw6, cw6, fw6, Bw6, qw6⟩ := boxed w5 #[.string z] 9
        have HW6 := Lib.hid hw6
        have CW6 := Lib.hid cw6
        have BW6 := Lib.hid Bw6
        have B6 := Lib.hid (bel_call B5.out Bw6)
        clear cw6 fw6 Bw6
        go_simp
        clear hw6
        clear hHeld
        refine hK.out _ _ (HS _ B6.out) (fun hHeld => ?_)
        clear hK K
        refine wpAnyH_ready (rs := [0]) (by kernel_rfl) (by simp) ?_
        refine AllReadyH.cons rfl (fun K hK => ?_) AllReadyH.nil
        have o0 := (blk_cells (HT4.out.to B6.out).out).1 0 _ rfl
        go_simp
        clear o0
        clear hHeld
        refine hK.out _ _ (HS _ B6.out) (fun hHeld => ?_)
        clear hK K
        rotate_left
        all_goals
          have HT6 := Lib.hid (HT4.out.to B6.out)
          refine wpAnyH_ready (rs := [6]) (by kernel_rfl) (by simp) ?_
          refine AllReadyH.cons rfl (fun K hK => ?_) AllReadyH.nil
          have hlen := HLN.out
          have hXL : (X ++ L).length + (101 + maxL n) ≤ 500000 := by
            have h9 := Nat.mul_le_mul_right (101 + maxL n) (show k + 1 ≤ 8 by omega)
            rw [Nat.add_mul, Nat.one_mul] at h9
            have h8 := HX.out
            have : maxL (n + 1) = 8 * (1 + 100 + maxL n) := rfl
            rw [List.length_append]
            omega
          have HXL := Lib.hid hXL
          have HT5 := Lib.hid (HT4.out.to B5.out)
          have hq5 := BW6.out.size
          have HROW := Lib.hid (show SlAt 1 rStr (Free (fun z => z = bo) w6 v1) w6 (some ⟨w5.heap.size, 0, none⟩) [z] from SlAt_one [.string z] ⟨qw6, (fun (e : w5.heap.size = bo) => by have := HT5.out.size; omega), (fun e => by have := (HT5.out.grow.base_le _ e).2; omega)⟩ rfl (fun j y hj => by rw [Nat.zero_add]; exact CW6.out j y (by simpa using hj)) ⟨rfl, by omega⟩)
          refine step_grow2 w6 rfl (.tmp 27) (.tmp 32) 37 rfl 9 istr _ 1 16 Tryz.underlying37 histr hzstr h1str h2str rfl (by decide) rStr_ok base HT6.out.size v1 (X ++ L) rfl HT6.out.grow _ 1 _ rfl [z] rfl HROW.out (by omega) (by decide) ?_
          intro v7 w7 g7 gg7 o7
          obtain ⟨A7, n7, c7, rfl, hn7⟩ := g7.shape'
          clear hn7
          obtain ⟨hT8, hG8⟩ := HT6.out.step k1 k2 k3 k4 k5 k6 g7 gg7 o7
          have hb6 := HT6.out.grow.base_le
          have hb2 := HT2.out.grow.base_le
          have hn1 : ∀ y, y < base → v1.ownBlock ≠ some y := fun y hy e => by have := (hb2 y e).1; omega
          have hn2 : v1.ownBlock ≠ some w2.heap.size := fun e => by have := (hb2 _ e).2; omega
          have hbx6 : w6.heap[w2.heap.size]? = some (.cells #[.string f.name, .int .i64 f.turn, .slice f_A2 f.manifests.length f_c2, .slice f_A3 f.epochs.length f_c3, .slice f_A4 f.items.length f_c4, .slice f_A5 f.wraps.length f_c5, .slice f_A6 f.links.length f_c6] 35 (0, 0)) := blk_below B6.out HBX.out hq3
          have hbx7 := blk_grown gg7 hbx6 hn2
          have hst7 := blk_grown gg7 HT6.out.state (hn1 bs k1)
          have hout7 := blk_grown gg7 HT6.out.out (hn1 bo k2)
          have hbx8 : (w7.setCell ⟨bo, 0, none⟩ (.slice A7 n7 c7)).heap[w2.heap.size]? = some (.cells #[.string f.name, .int .i64 f.turn, .slice f_A2 f.manifests.length f_c2, .slice f_A3 f.epochs.length f_c3, .slice f_A4 f.items.length f_c4, .slice f_A5 f.wraps.length f_c5, .slice f_A6 f.links.length f_c6] 35 (0, 0)) := blk_set_other _ hbx7 (fun e => by have : w2.heap.size = bo := e; have := HT3.out.size; omega)
          have HT8 := Lib.hid hT8
          have HG8 := Lib.hid hG8
          have HBX8 := Lib.hid hbx8
          have HS7 := HSB.out _ hst7 hbx7
          have HS8 := Lib.hid (HSB.out _ hT8.state hbx8)
          have HO7 := Lib.hid hout7
          clear hT8 hG8 hb6 hb2 hn1 hn2 hbx6 hbx7 hst7 hout7 hbx8 g7 gg7 o7 hlen hXL hHeld
          refine hK.out _ _ HS7 (fun hHeld => ?_)
          clear hK K HS7
          have oc := (blk_cells HO7.out).1 0 _ rfl
          have of := (blk_cells HO7.out).2 0
          refine wpAnyH_ready (rs := [7]) (by kernel_rfl) (by simp) ?_
          refine AllReadyH.cons rfl (fun K hK => ?_) AllReadyH.nil
          go_simp
          clear oc of hHeld
          refine hK.out _ _ HS8.out (fun hHeld => ?_)
          clear hK K
          refine wpAnyH_done (by kernel_rfl) ?_ _
          clear hHeld HS8 HS
          have HGW := Lib.hid ((HG2.out.trans (Gr1.below v1 (bel_call HB3.out B6.out))).trans HG8.out)
          obtain ⟨w8, hw8⟩ : ∃ w8 : World, w7.setCell ⟨bo, 0, none⟩ (.slice A7 n7 c7) = w8 := ⟨_, rfl⟩
          rw [hw8] at HT8 HBX8 HGW HG8 ⊢
          have HNO7 := Lib.hid (show (Value.slice A7 n7 c7).ownBlock ≠ some w2.heap.size from fun e => by
            have hw36 := B6.out.size
            rcases HG8.out.2 _ e with h9 | h9
            · have := (HT2.out.grow.base_le _ h9).2; omega
            · omega)
          clear hw8 HG8 HO7 HROW BW6 CW6 HW6 HTd
          obtain ⟨dp, hdp⟩ : ∃ dp, deep + 1 = dp := ⟨_, rfl⟩
          have hdi : (deep : Int) + 1 = (dp : Int) := by omega
          have hdw : IntKind.i64.wrap (dp : Int) = (dp : Int) := IntWalk.i64_in _ (by omega)
          have hsum := sum5_mem st.folders f HFM.out
          have hsz5 : size5 f ≤ 100 := by have := HSM.out.all; omega
          have hil : f.items.length ≤ 100 := by unfold size5 at hsz5; omega
          have HKP := Lib.hid fun (Z : World) (hZ : Below w0.heap.size w0 Z) => rFolder_keep HF.out (S' := fun z => z < w0.heap.size) fun b hb _ => ⟨hb, (hZ.block b hb).trans (HT3.out.below.block b hb).symm⟩
          have HITB := Lib.hid (show ∀ x ∈ f.items, x.name.size ≤ 20 ∧ ∀ v ∈ x.versions, v.who.size ≤ 1048576 from fun x hx => ⟨(HFSH.out.item x hx).1, HBY.out f HFM.out x hx⟩)
          have HIT := Lib.hid fun (Z : World) (hZ : Below w8.heap.size w8 Z) => items_any f (by omega) HITB.out dp (by omega) _ Z (fun z => z < w0.heap.size) (HKP.out Z (HT8.out.to hZ).below) (HP.out.below (HT8.out.to hZ).below)
          have HS6Q := Lib.hid (show ∀ Z : World, Below w8.heap.size w8 Z → (fun W : World => W.cell? ⟨w2.heap.size, 0, none⟩ = some (.string f.name) ∧ W.cell? ⟨w2.heap.size, 1, none⟩ = some (.int .i64 f.turn) ∧ W.cell? ⟨w2.heap.size, 2, none⟩ = some (.slice f_A2 f.manifests.length f_c2) ∧ W.cell? ⟨w2.heap.size, 3, none⟩ = some (.slice f_A3 f.epochs.length f_c3) ∧ W.cell? ⟨w2.heap.size, 4, none⟩ = some (.slice f_A4 f.items.length f_c4) ∧ W.cell? ⟨w2.heap.size, 5, none⟩ = some (.slice f_A5 f.wraps.length f_c5) ∧ W.cell? ⟨w2.heap.size, 6, none⟩ = some (.slice f_A6 f.links.length f_c6)) Z from fun Z hZ => by
            have c2 := (blk_cells (blk_below hZ HBX8.out (blk_lt HBX8.out))).1
            exact ⟨c2 0 _ rfl, c2 1 _ rfl, c2 2 _ rfl, c2 3 _ rfl, c2 4 _ rfl, c2 5 _ rfl, c2 6 _ rfl⟩)
          clear hsum hsz5
          go_wp2_with fail
          refine wp_region_held_drew (S := fun W : World => W.cell? ⟨w2.heap.size, 0, none⟩ = some (.string f.name) ∧ W.cell? ⟨w2.heap.size, 1, none⟩ = some (.int .i64 f.turn) ∧ W.cell? ⟨w2.heap.size, 2, none⟩ = some (.slice f_A2 f.manifests.length f_c2) ∧ W.cell? ⟨w2.heap.size, 3, none⟩ = some (.slice f_A3 f.epochs.length f_c3) ∧ W.cell? ⟨w2.heap.size, 4, none⟩ = some (.slice f_A4 f.items.length f_c4) ∧ W.cell? ⟨w2.heap.size, 5, none⟩ = some (.slice f_A5 f.wraps.length f_c5) ∧ W.cell? ⟨w2.heap.size, 6, none⟩ = some (.slice f_A6 f.links.length f_c6)) (by kernel_rfl) (HS6Q.out _ (Below.refl _ _).drew) (fun hHeld => ?_)
          refine wpAnyH_take (i := 1) (oi := ?_) (v := ?_) ?_ (by kernel_rfl) (by kernel_rfl) (by kernel_rfl) ?_ (Or.inl ⟨?_, ?_⟩) hHeld ?_
          rotate_left 2
          · simp only [List.getElem?_toArray, List.getElem?_cons_succ, List.getElem?_cons_zero]; exact rfl
          · exact fun _ _ _ h => h
          · rfl
          · (intro W' hSw; (try dsimp only at hSw); go_simp; try with_reducible rfl)
          try simp only [Act.put, List.setIfInBounds_toArray, List.set_cons_zero, List.set_cons_succ]
          refine wpAnyH_take (i := 2) (oi := ?_) (v := ?_) ?_ (by kernel_rfl) (by kernel_rfl) (by kernel_rfl) ?_ (Or.inl ⟨?_, ?_⟩) hHeld ?_
          rotate_left 2
          · simp only [List.getElem?_toArray, List.getElem?_cons_succ, List.getElem?_cons_zero]; exact rfl
          · exact fun _ _ _ h => h
          · rfl
          · (intro W' hSw; (try dsimp only at hSw); go_simp; try with_reducible rfl)
          try simp only [Act.put, List.setIfInBounds_toArray, List.set_cons_zero, List.set_cons_succ]
          refine wpAnyH_take (i := 3) (oi := ?_) (v := ?_) ?_ (by kernel_rfl) (by kernel_rfl) (by kernel_rfl) ?_ (Or.inl ⟨?_, ?_⟩) hHeld ?_
          rotate_left 2
          · simp only [List.getElem?_toArray, List.getElem?_cons_succ, List.getElem?_cons_zero]; exact rfl
          · exact fun _ _ _ h => h
          · rfl
          · (intro W' hSw; (try dsimp only at hSw); go_simp; try with_reducible rfl)
          try simp only [Act.put, List.setIfInBounds_toArray, List.set_cons_zero, List.set_cons_succ]
          refine wpAnyH_ready (rs := [0, 4]) (by kernel_rfl) (by simp) ?_
          refine AllReadyH.cons rfl (fun K hK => ?_) (AllReadyH.cons rfl (fun K hK => ?_) AllReadyH.nil)
          have o0 := (blk_cells (HT8.out.to (Below.refl _ _).drew).out).1 0 _ rfl
          go_simp
          clear o0 hHeld
          refine hK.out _ _ (HS6Q.out _ (Below.refl _ _).drew) (fun hHeld => ?_)
          clear hK K
          refine wpAnyH_ready (rs := [4]) (by kernel_rfl) (by simp) ?_
          refine AllReadyH.cons rfl (fun K hK => ?_) AllReadyH.nil
          go_simp
          go_at_call 22
          refine Calls.mono (HIT.out _ (Below.refl _ _).drew) ?_
          rintro e w9 ⟨⟨vI, rfl, its, hIs, hIl, hIn⟩, b9⟩
          have hz8 : w8.heap.size ≤ w9.heap.size := b9.size
          obtain ⟨AI, cI, rfl, il, ic, inn, is⟩ := hIs
          have B9 := Lib.hid (show Below w8.heap.size w8 w9 from bel_call (Below.refl _ _).drew b9)
          have HIS := Lib.hid (show SlAt 1 rStr (fun z => w8.heap.size ≤ z) w9 AI its from is)
          have HIL := Lib.hid hIl
          clear hIl is b9 hHeld
          refine hK.out _ _ (HS6Q.out _ B9.out) (fun hHeld => ?_)
          clear hK K
          rotate_left
          go_simp
          go_at_call 22
          refine Calls.mono (HIT.out _ (Below.refl _ _).drew) ?_
          rintro e w9 ⟨⟨vI, rfl, its, hIs, hIl, hIn⟩, b9⟩
          have hz8 : w8.heap.size ≤ w9.heap.size := b9.size
          obtain ⟨AI, cI, rfl, il, ic, inn, is⟩ := hIs
          have B9 := Lib.hid (show Below w8.heap.size w8 w9 from bel_call (Below.refl _ _).drew b9)
          have HIS := Lib.hid (show SlAt 1 rStr (fun z => w8.heap.size ≤ z) w9 AI its from is)
          have HIL := Lib.hid hIl
          clear hIl is b9 hHeld
          refine hK.out _ _ (HS6Q.out _ B9.out) (fun hHeld => ?_)
          clear hK K
          refine wpAnyH_ready (rs := [0]) (by kernel_rfl) (by simp) ?_
          refine AllReadyH.cons rfl (fun K hK => ?_) AllReadyH.nil
          have o0 := (blk_cells (HT8.out.to B9.out).out).1 0 _ rfl
          go_simp
          clear o0 hHeld
          refine hK.out _ _ (HS6Q.out _ B9.out) (fun hHeld => ?_)
          clear hK K
          rotate_left
          all_goals
            have HT9 := Lib.hid (HT8.out.to B9.out)
            refine wpAnyH_ready (rs := [5]) (by kernel_rfl) (by simp) ?_
            refine AllReadyH.cons rfl (fun K hK => ?_) AllReadyH.nil
            have hXL := HXL.out
            have HROW := Lib.hid (show SlAt 1 rStr (Free (fun z => z = bo) w9 (.slice A7 n7 c7)) w9 AI its from SlAt.keep rStr_ok (by decide) HIS.out fun b hb hl => ⟨⟨hl, (fun (e : b = bo) => by have := HT8.out.size; omega), (fun e => by have := (HT8.out.grow.base_le _ e).2; omega)⟩, rfl⟩)
            have hln : ((X ++ L) ++ [z]).length = (X ++ L).length + 1 := by rw [List.length_append, List.length_singleton]
            refine step_grow2 w9 rfl (.tmp 34) (.tmp 38) 37 rfl 9 istr _ 1 16 Tryz.underlying37 histr hzstr h1str h2str rfl (by decide) rStr_ok base HT9.out.size (.slice A7 n7 c7) ((X ++ L) ++ [z]) rfl HT9.out.grow _ _ _ rfl its rfl HROW.out (by omega) (by decide) ?_
            intro v10 w10 g10 gg10 o10
            obtain ⟨A10, n10, c10, rfl, hn10⟩ := g10.shape'
            clear hn10
            obtain ⟨hT11, hG11⟩ := HT9.out.step k1 k2 k3 k4 k5 k6 g10 gg10 o10
            have hb8 := HT8.out.grow.base_le
            have hn1 : (Value.slice A7 n7 c7).ownBlock ≠ some bo := fun e => by have := (hb8 _ e).1; omega
            have hbx9 : w9.heap[w2.heap.size]? = some (.cells #[.string f.name, .int .i64 f.turn, .slice f_A2 f.manifests.length f_c2, .slice f_A3 f.epochs.length f_c3, .slice f_A4 f.items.length f_c4, .slice f_A5 f.wraps.length f_c5, .slice f_A6 f.links.length f_c6] 35 (0, 0)) := blk_below B9.out HBX8.out (blk_lt HBX8.out)
            have hne2 : (Value.slice A7 n7 c7).ownBlock ≠ some w2.heap.size := HNO7.out
            have hbx10 := blk_grown gg10 hbx9 hne2
            have hout10 := blk_grown gg10 HT9.out.out hn1
            have hbx11 : (w10.setCell ⟨bo, 0, none⟩ (.slice A10 n10 c10)).heap[w2.heap.size]? = some (.cells #[.string f.name, .int .i64 f.turn, .slice f_A2 f.manifests.length f_c2, .slice f_A3 f.epochs.length f_c3, .slice f_A4 f.items.length f_c4, .slice f_A5 f.wraps.length f_c5, .slice f_A6 f.links.length f_c6] 35 (0, 0)) := blk_set_other _ hbx10 (fun (e : w2.heap.size = bo) => by have := HT3.out.size; omega)
            have HT11 := Lib.hid hT11
            have HG11 := Lib.hid hG11
            have hS10 : (fun W : World => W.cell? ⟨w2.heap.size, 0, none⟩ = some (.string f.name) ∧ W.cell? ⟨w2.heap.size, 1, none⟩ = some (.int .i64 f.turn) ∧ W.cell? ⟨w2.heap.size, 2, none⟩ = some (.slice f_A2 f.manifests.length f_c2) ∧ W.cell? ⟨w2.heap.size, 3, none⟩ = some (.slice f_A3 f.epochs.length f_c3) ∧ W.cell? ⟨w2.heap.size, 4, none⟩ = some (.slice f_A4 f.items.length f_c4) ∧ W.cell? ⟨w2.heap.size, 5, none⟩ = some (.slice f_A5 f.wraps.length f_c5) ∧ W.cell? ⟨w2.heap.size, 6, none⟩ = some (.slice f_A6 f.links.length f_c6)) w10 := by
              have c2 := (blk_cells hbx10).1
              exact ⟨c2 0 _ rfl, c2 1 _ rfl, c2 2 _ rfl, c2 3 _ rfl, c2 4 _ rfl, c2 5 _ rfl, c2 6 _ rfl⟩
            have HS11 := Lib.hid (show (fun W : World => W.cell? ⟨w2.heap.size, 0, none⟩ = some (.string f.name) ∧ W.cell? ⟨w2.heap.size, 1, none⟩ = some (.int .i64 f.turn) ∧ W.cell? ⟨w2.heap.size, 2, none⟩ = some (.slice f_A2 f.manifests.length f_c2) ∧ W.cell? ⟨w2.heap.size, 3, none⟩ = some (.slice f_A3 f.epochs.length f_c3) ∧ W.cell? ⟨w2.heap.size, 4, none⟩ = some (.slice f_A4 f.items.length f_c4) ∧ W.cell? ⟨w2.heap.size, 5, none⟩ = some (.slice f_A5 f.wraps.length f_c5) ∧ W.cell? ⟨w2.heap.size, 6, none⟩ = some (.slice f_A6 f.links.length f_c6)) (w10.setCell ⟨bo, 0, none⟩ (.slice A10 n10 c10)) from by
              have c2 := (blk_cells hbx11).1
              exact ⟨c2 0 _ rfl, c2 1 _ rfl, c2 2 _ rfl, c2 3 _ rfl, c2 4 _ rfl, c2 5 _ rfl, c2 6 _ rfl⟩)
            have HO10 := Lib.hid hout10
            clear hT11 hG11 hb8 hn1 hbx9 hne2 hbx10 hout10 hbx11 g10 gg10 o10 hXL hln hHeld
            refine hK.out _ _ hS10 (fun hHeld => ?_)
            clear hK K hS10
            have oc := (blk_cells HO10.out).1 0 _ rfl
            have of := (blk_cells HO10.out).2 0
            refine wpAnyH_ready (rs := [6]) (by kernel_rfl) (by simp) ?_
            refine AllReadyH.cons rfl (fun K hK => ?_) AllReadyH.nil
            go_simp
            clear oc of hHeld
            refine hK.out _ _ HS11.out (fun hHeld => ?_)
            clear hK K
            refine wpAnyH_done (by kernel_rfl) ?_ _
            clear hHeld HS11 HROW HO10 HS6Q HIT
            have HGX := Lib.hid ((HGW.out.trans (Gr1.below _ B9.out)).trans HG11.out)
            obtain ⟨w11, hw11⟩ : ∃ w11 : World, w10.setCell ⟨bo, 0, none⟩ (.slice A10 n10 c10) = w11 := ⟨_, rfl⟩
            rw [hw11] at HT11 HGX HG11 ⊢
            clear hw11 HG11
            have hfn := (blk_cells HT11.out.fn).1 0 _ rfl
            have hlen := HXL.out
            have HCALL := Lib.hid (IH.out dp (by omega) x (((X ++ L) ++ [z]) ++ its) (.slice A10 n10 c10) w11 (by rw [List.length_append, List.length_append, List.length_singleton]; omega) HT11.out)
            clear hlen
            go_wp2_with fail
            clear hfn
            refine Calls.mono HCALL.out ?_
            rintro e w12 ⟨rfl, v12, L12, hT12, hG12, hTr, hOk, hLn⟩
            have HE := Lib.hid (show TS [.int .i64 st.turn, .slice st_A1 st.users.length st_c1, .slice st_A2 st.deposits.length st_c2, .slice st_A3 st.folders.length st_c3] bs bo bb base w0 w12 v12 (X ++ (((L ++ [z]) ++ its) ++ L12)) from by
              have := hT12
              rwa [List.append_assoc, List.append_assoc, List.append_assoc, ← List.append_assoc [z], ← List.append_assoc L, ← List.append_assoc L] at this)
            have HGE := Lib.hid (HGX.out.trans hG12)
            have HPE := Lib.hid (show Parts (TreeL st n (deep + 1)) deep (R.take (k + 1)) (((L ++ [z]) ++ its) ++ L12) from by
              rw [List.take_add_one, HXK.out]
              exact HPA.out.snoc HZ1.out (fun y hy => by have := (HIL.out y hy).1; rwa [← hdp] at this) (by rw [hdp]; exact hTr))
            have HOE := Lib.hid (show OkLines (((L ++ [z]) ++ its) ++ L12) from ((HOK.out.app (fun y hy => by rw [List.mem_singleton.1 hy]; omega)).app (fun y hy => (HIL.out y hy).2)).app hOk)
            have HLE := Lib.hid (show (((L ++ [z]) ++ its) ++ L12).length ≤ (k + 1) * (101 + maxL n) from by
              have h9 := HLN.out
              rw [Nat.add_mul, Nat.one_mul]
              simp only [List.length_append, List.length_singleton]
              omega)
            clear hT12 hG12 hTr hOk hLn HCALL
            go_wp2
            go_roundw
            case rel => exact ⟨k + 1, v12, _, by omega, by go_num, HE, HGE, HPE, HOE, HLE⟩
            case measure => simp [RowKit.intOf]; omega
      · obtain rfl : k = R.length := by omega
        go_wp2
        go_end0
        refine ⟨rfl, v1, L, HT2.out, (Gr1.below v HB1.out).trans HG2.out, ⟨R, HRN.out, by have := HPA.out; rwa [List.take_length] at this⟩, HOK.out, ?_⟩
        have h9 := HLN.out
        have h8 := Nat.mul_le_mul_right (101 + maxL n) hr8
        have : maxL (n + 1) = 8 * (1 + 100 + maxL n) := rfl
        omega
end Go.Proofs.YtkapaafbnbnpjaaGreatDoor
