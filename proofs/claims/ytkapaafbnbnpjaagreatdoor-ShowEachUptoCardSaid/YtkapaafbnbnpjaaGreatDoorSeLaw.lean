/- ShowEach: the law's walk. Condition: no version was written by a user of more than a million bytes. -/
import Derived.Test.YtkapaafbnbnpjaaGreatDoorSeLawA
import Derived.Test.YtkapaafbnbnpjaaGreatDoorSwF
import Derived.Test.YtkapaafbnbnpjaaGreatDoorFewP
namespace Go.Proofs.YtkapaafbnbnpjaaGreatDoor
open Go.RowKit Go.Deep

theorem pre_iff (s h : Nm) : (h.data.toList <+: s.data.toList) ↔ (h.size ≤ s.size ∧ s.extract 0 h.size = h) := by
  constructor
  · rintro ⟨t, ht⟩
    have hl : s.data.toList.length = h.data.toList.length + t.length := by rw [← ht]; simp
    have h1 : s.data.toList.length = s.size := by simp
    have h2 : h.data.toList.length = h.size := by simp
    refine ⟨by omega, ?_⟩
    apply Go.WideShapes.bytes_inj
    rw [ByteArray.data_extract, Array.toList_extract, ← ht, List.extract_eq_take_drop, List.drop_zero, Nat.sub_zero, ← h2, List.take_left]
  · rintro ⟨h1, h2⟩
    have h3 : h.data.toList = s.data.toList.take h.size := by
      conv => lhs; rw [← h2]
      rw [ByteArray.data_extract, Array.toList_extract, List.extract_eq_take_drop, List.drop_zero, Nat.sub_zero]
    rw [h3]
    exact List.take_prefix _ _
theorem text_at {L : List Nm} {q : Nat} {x : Nm} (h : L[q]? = some x) : (textL (L.take q)).length + x.size < (textL L).length ∧ (⟨(textL L).toArray⟩ : Nm).extract (textL (L.take q)).length ((textL (L.take q)).length + x.size) = x ∧
    (textL L)[(textL (L.take q)).length + x.size]? = some 10 := by
  have hL : textL L = textL (L.take q) ++ (x.data.toList ++ (10 :: textL (L.drop (q + 1)))) := by
    obtain ⟨h1, h2⟩ := List.getElem?_eq_some_iff.1 h
    conv => lhs; rw [← List.take_append_drop q L, List.drop_eq_getElem_cons h1, h2]
    simp [textL]
  have hx : x.data.toList.length = x.size := by simp
  refine ⟨by rw [hL, List.length_append, List.length_append, List.length_cons]; omega, ?_, ?_⟩
  · apply Go.WideShapes.bytes_inj
    rw [ByteArray.data_extract, Array.toList_extract]
    show List.extract (textL L) _ _ = _
    rw [List.extract_eq_take_drop, hL, Nat.add_sub_cancel_left, List.drop_left, ← hx, List.take_left]
  · rw [hL, List.getElem?_append_right (by omega), List.getElem?_append_right (by omega)]
    rw [show (textL (L.take q)).length + x.size - (textL (L.take q)).length - x.data.toList.length = 0 by omega]
    rfl
theorem textL_len : ∀ {L : List Nm}, OkLines L → (textL L).length ≤ L.length * 1048701
  | [], _ => by simp [textL]
  | x :: L, h => by
    have h1 := textL_len (L := L) fun y hy => h y (List.mem_cons_of_mem _ hy)
    have h2 := h x (List.mem_cons_self ..)
    have e : textL (x :: L) = (x.data.toList ++ [10]) ++ textL L := rfl
    have hx : x.data.toList.length = x.size := by simp
    rw [e, List.length_append, List.length_append, hx, show (x :: L).length = L.length + 1 from rfl, Nat.add_mul]
    simp only [List.length_singleton]
    omega
theorem head_data (k : Nat) (s : Nm) : (blankS (2 * k) ++ s ++ ⟨#[32]⟩ : Nm).data.toList = headL k s := by
  simp [blankS, ByteArray.data_append, headL, blanksL]
theorem find_first {st : State} {x : Folder} {k : Nat} (hx : st.folders[k]? = some x) (h : atIdx st x.name = k) : findF st x.name = some x := by
  cases hf : findF st x.name with
  | none =>
    rw [atIdx_none hf] at h
    omega
  | some f =>
    obtain ⟨q, hq, hqf⟩ := atIdx_some hf
    obtain rfl : q = k := by omega
    rw [hx] at hqf
    rw [← Option.some.inj hqf]
set_option maxHeartbeats 8000000 in
set_option maxRecDepth 100000 in
theorem walk_showEach (w : World) (st : State) (hby : ByOk st) (cs : List Value) (h : rState (fun _ => True) w cs st) (hp : Pow w) :
    Calls Tryz.prog 3 #[.agg cs.toArray] w fun e w' => e = .returned (.bool true) ∧ Below w.heap.size w w' := by
  have HR := Lib.hid h
  have HBY := Lib.hid hby
  have HP := Lib.hid hp
  obtain ⟨st_A1, st_c1, st_A2, st_c2, st_A3, st_c3, rfl, st_turn_ok, st_users_l, st_users_m, st_users_n, st_users_s, st_deposits_l, st_deposits_m, st_deposits_n, st_deposits_s, st_folders_l, st_folders_m, st_folders_n, st_folders_s⟩ := open_State h
  clear hby hp
  obtain ⟨w0, hw0, cw0, fw0, Bw0, qw0⟩ := boxed w #[.int .i64 st.turn, .slice st_A1 st.users.length st_c1, .slice st_A2 st.deposits.length st_c2, .slice st_A3 st.folders.length st_c3] 26
  have HB0 := Lib.hid Bw0
  have HC0 := Lib.hid fun (W : World) (hW : Below w0.heap.size w0 W) j v (hj : (#[.int .i64 st.turn, .slice st_A1 st.users.length st_c1, .slice st_A2 st.deposits.length st_c2, .slice st_A3 st.folders.length st_c3] : Array Value)[j]? = some v) => (hW.cell (p := ⟨w.heap.size, j, none⟩) qw0).trans (cw0 j v hj)
  have HST := Lib.hid fun (W : World) (hW : Below w0.heap.size w0 W) => rState_keep HR.out (kept_of (bel_call HB0.out hW))
  clear cw0 fw0 Bw0 st_users_s st_deposits_s
  go_enter Tryz.func3, Tryz.ntmps3
  go_wp2_with fail
  clear hw0
  refine Calls.mono (awake_any _) ?_
  rintro e w1 ⟨rfl, B1⟩
  have HB1 := Lib.hid B1
  have s0 := HC0.out w1 B1 0 _ rfl
  have s1 := HC0.out w1 B1 1 _ rfl
  have s2 := HC0.out w1 B1 2 _ rfl
  have s3 := HC0.out w1 B1 3 _ rfl
  clear B1
  go_wp2_with fail
  clear s0 s1 s2 s3
  refine Calls.mono (few_any st _ w1 _ (HST.out _ HB1.out)) ?_
  rintro e w2 ⟨rfl, B2⟩
  have HB2 := Lib.hid (bel_call HB1.out B2)
  clear B2
  cases hfew : few st with
  | false =>
    clear hfew
    go_wp2
    go_ret
    exact ⟨rfl, bel_call HB0.out HB2.out⟩
  | true =>
    have HSM := Lib.hid (few_true st hfew)
    have s3 := HC0.out w2 HB2.out 3 _ rfl
    clear hfew
    go_wp2
    clear s3
    go_loopw [25] (fun i wr => ∃ (k : Nat), k ≤ st.folders.length ∧ i = .int .i64 k ∧ Hid (∀ f ∈ st.folders.take k, plainS f.name = true) ∧ Below w0.heap.size w0 wr) (fun i _ => st.folders.length - (RowKit.intOf i).toNat)
    case atStart => exact ⟨0, by omega, by go_num, Lib.hid (fun f hf => by simp at hf), HB2.out⟩
    case round =>
      clear HB1 HB2
      obtain ⟨k, hk, rfl, HPL, hbel⟩ := hrel
      by_cases hlt : k < st.folders.length
      · obtain ⟨x, hx⟩ : ∃ x, st.folders[k]? = some x := ⟨_, List.getElem?_eq_getElem hlt⟩
        have hxm := List.mem_of_getElem? hx
        obtain ⟨bx, ox, yx, hAx, hbx, hRx, hcx⟩ := SlAt.elem st_folders_s hx (by decide) (bel_call HB0.out hbel)
        have HXR := Lib.hid hRx
        obtain ⟨x_A2, x_c2, x_A3, x_c3, x_A4, x_c4, x_A5, x_c5, x_A6, x_c6, rfl, x_name_le, x_turn_ok, x_manifests_l, x_manifests_m, x_manifests_n, x_manifests_s, x_epochs_l, x_epochs_m, x_epochs_n, x_epochs_s, x_items_l, x_items_m, x_items_n, x_items_s, x_wraps_l, x_wraps_m, x_wraps_n, x_wraps_s, x_links_l, x_links_m, x_links_n, x_links_s⟩ := open_Folder hRx
        have u0 := hcx 0 _ rfl
        have u1 := hcx 1 _ rfl
        have u2 := hcx 2 _ rfl
        have u3 := hcx 3 _ rfl
        have u4 := hcx 4 _ rfl
        have u5 := hcx 5 _ rfl
        have u6 := hcx 6 _ rfl
        rw [Nat.add_zero] at u0
        subst hAx
        have hki : (k : Int) < (st.folders.length : Int) := by omega
        have hxn : x.name.size ≤ 20 := (HSM.out.short x hxm).name
        obtain ⟨w3, hw3, cw3, fw3, Bw3, qw3⟩ := boxed wr #[.string x.name, .int .i64 x.turn, .slice x_A2 x.manifests.length x_c2, .slice x_A3 x.epochs.length x_c3, .slice x_A4 x.items.length x_c4, .slice x_A5 x.wraps.length x_c5, .slice x_A6 x.links.length x_c6] 35
        have HB3 := Lib.hid (bel_call hbel Bw3)
        have n0 := cw3 0 _ rfl
        have hpc := fun W => plain_any x.name (by omega) W
        obtain ⟨pc, hpe⟩ : ∃ pc, plainS x.name = pc := ⟨_, rfl⟩
        rw [hpe] at hpc
        have HPE := Lib.hid hpe
        have HT := Lib.hid (show st.folders.take (k + 1) = st.folders.take k ++ [x] by rw [List.take_add_one, hx]; rfl)
        clear hpe hx hxm hcx cw3 fw3 Bw3 x_manifests_s x_epochs_s x_items_s x_wraps_s x_links_s
        go_wp2_with fail
        clear hw3 u0 u1 u2 u3 u4 u5 u6
        refine Calls.mono (hpc _) ?_
        rintro e w4 ⟨rfl, rfl⟩
        cases pc with
        | false =>
          clear hpc
          go_wp2
          go_ret
          exact ⟨rfl, bel_call HB0.out HB3.out⟩
        | true =>
          clear hpc
          go_wp2
          go_roundw
          case rel => exact ⟨k + 1, by omega, by go_num, Lib.hid (fun f hf => by rw [HT.out] at hf; exact (List.mem_append.1 hf).elim (HPL.out f) (fun h => by rw [List.mem_singleton.1 h]; exact HPE.out)), HB3.out⟩
          case measure => simp [RowKit.intOf]; omega
      · obtain rfl : k = st.folders.length := by omega
        have HPA := Lib.hid (show ∀ f ∈ st.folders, plainS f.name = true from by have := HPL.out; rwa [List.take_length] at this)
        have s0 := HC0.out wr hbel 0 _ rfl
        have s1 := HC0.out wr hbel 1 _ rfl
        have s2 := HC0.out wr hbel 2 _ rfl
        have s3 := HC0.out wr hbel 3 _ rfl
        clear HPL hlt hk
        go_wp2_with fail
        clear s0 s1 s2 s3
        refine Calls.mono (tree_any st HSM.out HBY.out _ wr _ (HST.out _ hbel) (HP.out.below (bel_call HB0.out hbel))) ?_
        rintro e wt ⟨⟨v, rfl, L, hLs, hTr, hOk, hLn⟩, BT⟩
        obtain ⟨AL, cL, rfl, ll, lc, ln, ls⟩ := hLs
        unfold maxLen at lc
        have HBT := Lib.hid (bel_call hbel BT)
        have HTR := Lib.hid hTr
        have HOK := Lib.hid hOk
        have s3 := HC0.out wt HBT.out 3 _ rfl
        clear hTr hOk BT hbel
        go_wp2
        clear s3
        go_loopw [39] (fun i wr => ∃ (k : Nat), k ≤ st.folders.length ∧ i = .int .i64 k ∧ Below wt.heap.size wt wr) (fun i _ => st.folders.length - (RowKit.intOf i).toNat)
        case atStart => exact ⟨0, by omega, by go_num, Below.refl _ _⟩
        case round =>
          obtain ⟨k, hk, rfl, hbel⟩ := hrel
          have HB0r := Lib.hid (bel_call HBT.out hbel)
          by_cases hlt : k < st.folders.length
          · obtain ⟨x, hx⟩ : ∃ x, st.folders[k]? = some x := ⟨_, List.getElem?_eq_getElem hlt⟩
            have hxm := List.mem_of_getElem? hx
            obtain ⟨bx, ox, yx, hAx, hbx, hRx, hcx⟩ := SlAt.elem st_folders_s hx (by decide) (bel_call HB0.out HB0r.out)
            have HXR := Lib.hid hRx
            obtain ⟨x_A2, x_c2, x_A3, x_c3, x_A4, x_c4, x_A5, x_c5, x_A6, x_c6, rfl, x_name_le, x_turn_ok, x_manifests_l, x_manifests_m, x_manifests_n, x_manifests_s, x_epochs_l, x_epochs_m, x_epochs_n, x_epochs_s, x_items_l, x_items_m, x_items_n, x_items_s, x_wraps_l, x_wraps_m, x_wraps_n, x_wraps_s, x_links_l, x_links_m, x_links_n, x_links_s⟩ := open_Folder hRx
            have u0 := hcx 0 _ rfl
            have u1 := hcx 1 _ rfl
            have u2 := hcx 2 _ rfl
            have u3 := hcx 3 _ rfl
            have u4 := hcx 4 _ rfl
            have u5 := hcx 5 _ rfl
            have u6 := hcx 6 _ rfl
            rw [Nat.add_zero] at u0
            subst hAx
            have hki : (k : Int) < (st.folders.length : Int) := by omega
            have hxn : x.name.size ≤ 20 := (HSM.out.short x hxm).name
            obtain ⟨w3, hw3, cw3, fw3, Bw3, qw3⟩ := boxed wr #[.string x.name, .int .i64 x.turn, .slice x_A2 x.manifests.length x_c2, .slice x_A3 x.epochs.length x_c3, .slice x_A4 x.items.length x_c4, .slice x_A5 x.wraps.length x_c5, .slice x_A6 x.links.length x_c6] 35
            have HB3 := Lib.hid (bel_call hbel Bw3)
            have HB03 := Lib.hid (bel_call HBT.out HB3.out)
            have HX3 := Lib.hid fun (W : World) (hW : Below w3.heap.size w3 W) j v (hj : (#[.string x.name, .int .i64 x.turn, .slice x_A2 x.manifests.length x_c2, .slice x_A3 x.epochs.length x_c3, .slice x_A4 x.items.length x_c4, .slice x_A5 x.wraps.length x_c5, .slice x_A6 x.links.length x_c6] : Array Value)[j]? = some v) => (hW.cell (p := ⟨wr.heap.size, j, none⟩) qw3).trans (cw3 j v hj)
            have n0 := cw3 0 _ rfl
            have HXF := Lib.hid (rFolder_keep HXR.out (kept_of (bel_call HB0.out HB03.out)))
            have HBW3 := Lib.hid (show ∀ W, Below w3.heap.size w3 W → rFolder (fun _ => True) W _ x from fun W hW => rFolder_keep HXR.out (kept_of (bel_call HB0.out (bel_call HB03.out hW))))
            have HXK := Lib.hid hx
            have HXM := Lib.hid hxm
            have s0 := HC0.out w3 HB03.out 0 _ rfl
            have s1 := HC0.out w3 HB03.out 1 _ rfl
            have s2 := HC0.out w3 HB03.out 2 _ rfl
            have s3 := HC0.out w3 HB03.out 3 _ rfl
            clear hx hxm hcx cw3 fw3 Bw3 x_manifests_s x_epochs_s x_items_s x_wraps_s x_links_s
            go_wp2_with fail
            clear hw3 u0 u1 u2 u3 u4 u5 u6 s0 s1 s2 s3 n0
            refine Calls.mono (refat2_any st x.name _ w3 _ (HST.out _ HB03.out)) ?_
            rintro e w4 ⟨rfl, B4⟩
            have HB4 := Lib.hid B4
            obtain ⟨z, hz⟩ : ∃ z, atIdx st x.name = z := ⟨_, rfl⟩
            rw [hz]
            have HZ := Lib.hid hz
            clear B4 hz
            by_cases hzk : z = k
            rotate_left
            · have hne : (z != (k : Int)) = true := by simp [hzk]
              have hne2 : (z == (k : Int)) = false := by simp [hzk]
              clear hzk
              go_wp2
              go_roundw
              case rel => exact ⟨k + 1, by omega, by go_num, bel_call HB3.out HB4.out⟩
              case measure => simp [RowKit.intOf]; omega
            · have hne : (z != (k : Int)) = false := by simp [hzk]
              have hne2 : (z == (k : Int)) = true := by simp [hzk]
              have HFF := Lib.hid (find_first HXK.out (HZ.out.trans hzk))
              have m0 := HX3.out w4 HB4.out 0 _ rfl
              have m1 := HX3.out w4 HB4.out 1 _ rfl
              have m2 := HX3.out w4 HB4.out 2 _ rfl
              have m3 := HX3.out w4 HB4.out 3 _ rfl
              have m4 := HX3.out w4 HB4.out 4 _ rfl
              have m5 := HX3.out w4 HB4.out 5 _ rfl
              have m6 := HX3.out w4 HB4.out 6 _ rfl
              clear hzk
              go_wp2_with fail
              clear hne hne2 m0 m1 m2 m3 m4 m5 m6
              refine Calls.mono (refnow_any x _ w4 _ (HBW3.out _ HB4.out)) ?_
              rintro e w5 ⟨⟨cm, rfl, hm⟩, b5⟩
              have HB5 := Lib.hid (bel_call HB4.out b5)
              obtain ⟨m, hme⟩ : ∃ m, nowM x = m := ⟨_, rfl⟩
              rw [hme] at hm
              obtain ⟨m_A2, m_c2, m_A4, m_c4, rfl, m_folder_le, m_seq_ok, m_prev_l, m_prev_m, m_prev_n, m_prev_s, m_parent_le, m_members_l, m_members_m, m_members_n, m_members_s, m_cut_ok, m_who_le⟩ := open_Manifest hm
              have hfg := field_gone m.folder m.parent m.who m.seq m.cut m.gone (.slice m_A2 m.prev.length m_c2) (.slice m_A4 m.members.length m_c4)
              clear hme b5 m_prev_s m_members_s
              obtain ⟨mg, hmg⟩ : ∃ mg, m.gone = mg := ⟨_, rfl⟩
              rw [hmg] at hfg
              cases mg with
              | true =>
                go_wp2
                go_roundw
                case rel => exact ⟨k + 1, by omega, by go_num, bel_call HB3.out HB5.out⟩
                case measure => simp [RowKit.intOf]; omega
              | false =>
                have HB05 := Lib.hid (bel_call HB03.out HB5.out)
                have s0 := HC0.out w5 HB05.out 0 _ rfl
                have s1 := HC0.out w5 HB05.out 1 _ rfl
                have s2 := HC0.out w5 HB05.out 2 _ rfl
                have s3 := HC0.out w5 HB05.out 3 _ rfl
                have m0 := HX3.out w5 HB5.out 0 _ rfl
                go_wp2_with fail
                clear s0 s1 s2 s3 m0 hfg hmg
                refine Calls.mono (chained_any st HSM.out x.name (by omega) _ w5 _ (HST.out _ HB05.out)) ?_
                rintro e w6 ⟨rfl, b6⟩
                have HB6 := Lib.hid (bel_call HB5.out b6)
                have HB06 := Lib.hid (bel_call HB03.out HB6.out)
                clear b6
                cases hch : chainedGo st 4 x.name with
                | false =>
                  clear hch
                  go_wp2
                  go_roundw
                  case rel => exact ⟨k + 1, by omega, by go_num, bel_call HB3.out HB6.out⟩
                  case measure => simp [RowKit.intOf]; omega
                | true =>
                  have h00 : findF st ⟨#[]⟩ = none := by
                    cases hf0 : findF st ⟨#[]⟩ with
                    | none => rfl
                    | some f =>
                      exfalso
                      have h1 := HPA.out f (List.mem_of_find?_eq_some hf0)
                      have h2 : f.name = ⟨#[]⟩ := by simpa using List.find?_some hf0
                      rw [h2] at h1
                      exact absurd h1 (by decide)
                  obtain ⟨dk, hdk4, hup, hcl⟩ := chained_up h00 4 x.name hch
                  have hlen := hcl 4 hdk4
                  have hpl0 : ∀ t p, inP st p t → plainS t = true := fun t p ⟨f, hf, _⟩ => by
                    have h1 := HPA.out f (List.mem_of_find?_eq_some hf)
                    have h2 : f.name = t := by simpa using List.find?_some hf
                    rwa [h2] at h1
                  have hps : plainS x.name = true := HPA.out x HXM.out
                  have HONE := Lib.hid ((tree_cnt hpl0 (d0 := dk) hps 4 0 ⟨#[]⟩ L HTR.out).1 ⟨Nat.zero_le _, by omega, by rw [Nat.sub_zero]; exact hup⟩)
                  have s0 := HC0.out w6 HB06.out 0 _ rfl
                  have s1 := HC0.out w6 HB06.out 1 _ rfl
                  have s2 := HC0.out w6 HB06.out 2 _ rfl
                  have s3 := HC0.out w6 HB06.out 3 _ rfl
                  have m0 := HX3.out w6 HB6.out 0 _ rfl
                  have HLEN := Lib.hid hlen
                  clear hch h00 hup hcl hpl0 hps hlen
                  go_wp2_with fail
                  clear s0 s1 s2 s3 m0
                  refine Calls.mono (refchain_any st x.name _ w6 _ (HST.out _ HB06.out)) ?_
                  rintro e w7 ⟨⟨vc, rfl, hcs⟩, b7⟩
                  obtain ⟨AC, cC, rfl, -, -, -, -⟩ := hcs
                  rw [HLEN.out]
                  have HB7 := Lib.hid (bel_call HB6.out b7)
                  have m0 := HX3.out w7 HB7.out 0 _ rfl
                  obtain ⟨dd, hdd⟩ : ∃ dd, 2 * dk = dd := ⟨_, rfl⟩
                  have hdi : 2 * (dk : Int) = (dd : Int) := by omega
                  have hdw : IntKind.i64.wrap (dd : Int) = (dd : Int) := IntWalk.i64_in _ (by omega)
                  have hdk1 : ((dk + 1 : Nat) : Int) - 1 = (dk : Int) := by omega
                  have hdk2 : (dk : Int) + 1 - 1 = (dk : Int) := by omega
                  have hdk3 : IntKind.i64.wrap (dk : Int) = (dk : Int) := IntWalk.i64_in _ (by omega)
                  have HBL := Lib.hid fun W => blanks_any dd (by omega) W
                  have hbs := blankS_size dd
                  obtain ⟨rp, hrp⟩ : ∃ rp : Nm, blankS dd = rp := ⟨_, rfl⟩
                  rw [hrp] at HBL hbs
                  obtain ⟨a1, ha1⟩ : ∃ a1 : Nm, rp ++ x.name = a1 := ⟨_, rfl⟩
                  have q1 : a1.size ≤ 30 := by rw [← ha1, ByteArray.size_append]; omega
                  have g1 : ¬ 9223372036854775807 < rp.size + x.name.size := by omega
                  obtain ⟨a2, ha2⟩ : ∃ a2 : Nm, a1 ++ ⟨#[32]⟩ = a2 := ⟨_, rfl⟩
                  have q2 : a2.size ≤ 31 := by rw [← ha2, ByteArray.size_append]; show _ + 1 ≤ _; omega
                  have g2 : ¬ 9223372036854775807 < a1.size + 1 := by omega
                  have HA2 := Lib.hid (show a2.data.toList = headL dk x.name by rw [← ha2, ← ha1, ← hrp, ← hdd]; exact head_data dk x.name)
                  clear b7 hdd hrp hbs
                  go_wp2_with fail
                  go_quiet ((go_at_call 12; refine Calls.quiet_of_same ((HBL.out _).mono fun e w' h => ⟨h.1, h.2.symm⟩)))
                  clear m0 ha1 ha2 g1 g2 hdi hdw hdk1 hdk2 hdk3 HBL
                  have HB8 := Lib.hid (belN HB7.out nq)
                  generalize w7.drewN nq = w8 at HB8 ⊢
                  have hbt8 := Lib.hid (bel_call HB3.out HB8.out)
                  go_wp2
                  obtain ⟨wq, rfl⟩ : ∃ wq : World, wq = w8 := ⟨_, rfl⟩
                  go_loopw [10, 77] (fun vn vq wz => ∃ (n q : Nat), q ≤ L.length ∧ vq = .int .i64 q ∧ vn = .int .i64 n ∧ n ≤ q ∧ Hid (n = cntH dk x.name (L.take q)) ∧ Below wq.heap.size wq wz) (fun _ vq _ => L.length - (RowKit.intOf vq).toNat)
                  case atStart => exact ⟨0, 0, by omega, by go_num, by go_num, by omega, Lib.hid rfl, Below.refl _ _⟩
                  case round =>
                    obtain ⟨n, q, hq, rfl, rfl, hnq, HCN, hbz⟩ := hrel
                    by_cases hqt : q < L.length
                    · obtain ⟨y, hy⟩ : ∃ y, L[q]? = some y := ⟨_, List.getElem?_eq_getElem hqt⟩
                      obtain ⟨by_, oy, rfl, qy, hyz⟩ := str_at ls hy
                      have y2 : wr.cell? ⟨by_, oy + q, none⟩ = some (.string y) := ((bel_call hbt8.out hbz).cell (p := ⟨by_, oy + q, none⟩) (cell_lt qy)).trans qy
                      have hqi : (q : Int) < (L.length : Int) := by omega
                      have HCS := Lib.hid (show cntH dk x.name (L.take (q + 1)) = cntH dk x.name (L.take q) + (if (a2.size ≤ y.size ∧ y.extract 0 a2.size = a2) then 1 else 0) by
                        rw [List.take_add_one, hy, cnt_append]
                        congr 1
                        show List.countP _ [y] = _
                        have h9 := pre_iff y a2
                        rw [HA2.out] at h9
                        by_cases hh : a2.size ≤ y.size ∧ y.extract 0 a2.size = a2
                        · rw [if_pos hh, List.countP_cons_of_pos (by simpa using h9.2 hh)]
                          rfl
                        · rw [if_neg hh, List.countP_cons_of_neg (by simpa using fun z => hh (h9.1 z))]
                          rfl)
                      clear hy qy
                      by_cases hsz : a2.size ≤ y.size
                      · have hszi : (a2.size : Int) ≤ (y.size : Int) := by omega
                        obtain ⟨ex, hex⟩ : ∃ ex : Nm, y.extract 0 a2.size = ex := ⟨_, rfl⟩
                        by_cases heq : ex = a2
                        · have HC2 := Lib.hid (show n + 1 = cntH dk x.name (L.take (q + 1)) by rw [HCS.out, if_pos ⟨hsz, hex.trans heq⟩, HCN.out])
                          have hse : (ex.toList == a2.toList) = true := by rw [heq]; simp
                          clear heq HCS
                          go_wp2
                          go_roundw
                          case rel => exact ⟨n + 1, q + 1, by omega, by go_num, by go_num, by omega, HC2, hbz⟩
                          case measure => simp [RowKit.intOf]; omega
                        · have HC2 := Lib.hid (show n = cntH dk x.name (L.take (q + 1)) by rw [HCS.out, if_neg fun h => heq (hex.symm.trans h.2), Nat.add_zero, HCN.out])
                          have hse : (ex.toList == a2.toList) = false := eqS_ne heq
                          clear heq HCS
                          go_wp2
                          go_roundw
                          case rel => exact ⟨n, q + 1, by omega, by go_num, by go_num, by omega, HC2, hbz⟩
                          case measure => simp [RowKit.intOf]; omega
                      · have hszi : ¬ (a2.size : Int) ≤ (y.size : Int) := by omega
                        have HC2 := Lib.hid (show n = cntH dk x.name (L.take (q + 1)) by rw [HCS.out, if_neg fun h => hsz h.1, Nat.add_zero, HCN.out])
                        clear HCS
                        go_wp2
                        go_roundw
                        case rel => exact ⟨n, q + 1, by omega, by go_num, by go_num, by omega, HC2, hbz⟩
                        case measure => simp [RowKit.intOf]; omega
                    · obtain rfl : q = L.length := by omega
                      obtain rfl : n = 1 := by rw [HCN.out, List.take_length, HONE.out]
                      go_wp2
                      go_roundw
                      case rel => exact ⟨k + 1, by omega, by go_num, bel_call hbt8.out hbz⟩
                      case measure => simp [RowKit.intOf]; omega
          · obtain rfl : k = st.folders.length := by omega
            have CT := Lib.hid (text_any L hLn HOK.out (.slice AL L.length cL) wr (fun _ => True) (Sl.keep rStr_ok (by decide) ⟨AL, cL, rfl, ll, (by unfold maxLen; exact lc), ln, ls⟩ (kept_of hbel)))
            clear hlt hk
            go_wp2_with fail
            refine Calls.mono CT.out ?_
            rintro e w9 ⟨rfl, B9⟩
            have HB9 := Lib.hid (bel_call hbel B9)
            obtain ⟨T, hT⟩ : ∃ T : Nm, (⟨(textL L).toArray⟩ : Nm) = T := ⟨_, rfl⟩
            have hTs : T.size = (textL L).length := by rw [← hT]; simp [ByteArray.size]
            rw [hT]
            have HT := Lib.hid hT
            have HTS := Lib.hid hTs
            have hTl : (textL L).length ≤ 600000000000 := by
              have h1 := textL_len HOK.out
              have h2 : L.length * 1048701 ≤ 500000 * 1048701 := Nat.mul_le_mul_right _ hLn
              omega
            have HTL := Lib.hid hTl
            have hTz : T.size ≤ 600000000000 := by omega
            clear B9 CT hT hTs hTl
            go_wp2
            go_loopw [14, 104] (fun va vq wz => ∃ (n q : Nat), q ≤ L.length ∧ vq = .int .i64 q ∧ va = .int .i64 n ∧ Hid (n = (textL (L.take q)).length) ∧ Below w9.heap.size w9 wz) (fun _ vq _ => L.length - (RowKit.intOf vq).toNat)
            case atStart => exact ⟨0, 0, by omega, by go_num, by go_num, Lib.hid (by simp [textL]), Below.refl _ _⟩
            case round =>
              obtain ⟨n, q, hq, rfl, rfl, HN, hbz⟩ := hrel
              by_cases hqt : q < L.length
              · obtain ⟨y, hy⟩ : ∃ y, L[q]? = some y := ⟨_, List.getElem?_eq_getElem hqt⟩
                obtain ⟨by_, oy, rfl, qy, hyz⟩ := str_at ls hy
                have y2 : wr.cell? ⟨by_, oy + q, none⟩ = some (.string y) := ((bel_call HB9.out hbz).cell (p := ⟨by_, oy + q, none⟩) (cell_lt qy)).trans qy
                have hqi : (q : Int) < (L.length : Int) := by omega
                obtain ⟨t1, t2, t3⟩ := text_at hy
                rw [HT.out, ← HN.out] at t2
                rw [← HN.out] at t1 t3
                obtain ⟨e, he⟩ : ∃ e, n + y.size = e := ⟨_, rfl⟩
                rw [he] at t1 t2 t3
                have heT : e < T.size := by have := HTS.out; omega
                have hbyte : (T[e]'heT).toNat = 10 := by
                  have h1 : T.data.toList = textL L := by rw [← HT.out]
                  have h2 : T.data.toList[e]? = some (T[e]'heT) := by
                    rw [List.getElem?_eq_getElem (by simpa using heT)]
                    rfl
                  rw [h1, t3] at h2
                  rw [← Option.some.inj h2]
                  rfl
                have hei : (n : Int) + (y.size : Int) = (e : Int) := by omega
                have hew : IntKind.i64.wrap (e : Int) = (e : Int) := IntWalk.i64_in _ (by omega)
                have hge : ¬ (T.size : Int) ≤ (e : Int) := by omega
                have hne : (n : Int) ≤ (e : Int) := by omega
                have hle : (e : Int) ≤ (T.size : Int) := by omega
                have hlt2 : (e : Int) < (T.size : Int) := by omega
                have HNX := Lib.hid (show e + 1 = (textL (L.take (q + 1))).length by
                  rw [List.take_add_one, hy, show (some y).toList = [y] from rfl, textL_snoc, List.length_append, List.length_append, ← HN.out]
                  have : y.data.toList.length = y.size := by simp
                  rw [this]
                  simp only [List.length_singleton]
                  omega)
                clear hy qy t1 t3 he
                go_wp2
                go_roundw
                case rel => exact ⟨e + 1, q + 1, by omega, by go_num, by go_num, HNX, hbz⟩
                case measure => simp [RowKit.intOf]; omega
              · obtain rfl : q = L.length := by omega
                have hnT : n = T.size := by rw [HN.out, List.take_length, HTS.out]
                have hnI : ((n : Int) == (T.size : Int)) = true := by simp [hnT]
                clear hnT
                go_wp2
                go_ret
                exact ⟨rfl, bel_call HB0.out (bel_call HBT.out (bel_call HB9.out hbz))⟩
end Go.Proofs.YtkapaafbnbnpjaaGreatDoor
