/- Layer bound: the document's limits (bastilleref33.Within). No condition. -/
import Derived.Test.YtdddgmmbdofomaaWithin
namespace Go.Proofs.Ytdddgmmbdofomaa
open Go.RowKit Go.Deep

/-- The folders, as the reference goes through them. -/
def refW : List Folder → Bool
  | [] => true
  | f :: l => if withinF f then refW l else false
theorem refW_eq : ∀ l : List Folder, refW l = decide (sumOf bad1 l = 0)
  | [] => rfl
  | f :: l => by
    rw [refW, refW_eq l, sumOf, bad1]
    cases withinF f
    · simp
    · simp
def refWithin (st : State) : Bool := if 16 < st.users.length then false else if 64 < st.folders.length then false else refW st.folders
theorem refWithin_eq (st : State) : refWithin st = withinOf st := by
  unfold refWithin withinOf
  rw [refW_eq]
  by_cases c1 : 16 < st.users.length
  · simp [c1]; omega
  · by_cases c2 : 64 < st.folders.length
    · simp [c1, c2]; omega
    · simp [c1, c2]; omega

set_option maxRecDepth 100000 in
set_option maxHeartbeats 4000000 in
theorem refwithin_any (st : State) (cs : List Value) (w : World) (S : Nat → Prop) (h : rState S w cs st) :
    Calls Try.prog 19 #[.agg cs.toArray] w fun e w' => e = .returned (.bool (withinOf st)) ∧ Below w.heap.size w w' := by
  obtain ⟨st_A1, st_c1, st_A2, st_c2, st_A3, st_c3, rfl, st_turn_ok, st_users_l, st_users_m, st_users_n, st_users_s, st_deposits_l, st_deposits_m, st_deposits_n, st_deposits_s, st_folders_l, st_folders_m, st_folders_n, st_folders_s⟩ := open_State h
  rw [← refWithin_eq]
  by_cases c1 : 16 < st.users.length
  · have F := Lib.hid (show refWithin st = false by unfold refWithin; rw [if_pos c1])
    obtain ⟨w0, hw0, cw0, fzw0, Bw0, qw0⟩ := boxed w #[.int .i64 st.turn, .slice st_A1 st.users.length st_c1, .slice st_A2 st.deposits.length st_c2, .slice st_A3 st.folders.length st_c3] 26
    have w0_0 := cw0 0 _ rfl
    have w0_1 := cw0 1 _ rfl
    have w0_2 := cw0 2 _ rfl
    have w0_3 := cw0 3 _ rfl
    clear cw0
    have zw0 := Bw0.size
    go_enter Try.func19, Try.ntmps19
    go_wp2
    go_ret
    exact ⟨ret_bool (by rw [F.out]), Bw0⟩
  by_cases c2 : 64 < st.folders.length
  · have F := Lib.hid (show refWithin st = false by unfold refWithin; rw [if_neg c1, if_pos c2])
    obtain ⟨w0, hw0, cw0, fzw0, Bw0, qw0⟩ := boxed w #[.int .i64 st.turn, .slice st_A1 st.users.length st_c1, .slice st_A2 st.deposits.length st_c2, .slice st_A3 st.folders.length st_c3] 26
    have w0_0 := cw0 0 _ rfl
    have w0_1 := cw0 1 _ rfl
    have w0_2 := cw0 2 _ rfl
    have w0_3 := cw0 3 _ rfl
    clear cw0
    have zw0 := Bw0.size
    go_enter Try.func19, Try.ntmps19
    go_wp2
    go_ret
    exact ⟨ret_bool (by rw [F.out]), Bw0⟩
  have F := Lib.hid (show refWithin st = refW st.folders by unfold refWithin; rw [if_neg c1, if_neg c2])
  obtain ⟨w0, hw0, cw0, fzw0, Bw0, qw0⟩ := boxed w #[.int .i64 st.turn, .slice st_A1 st.users.length st_c1, .slice st_A2 st.deposits.length st_c2, .slice st_A3 st.folders.length st_c3] 26
  have w0_0 := cw0 0 _ rfl
  have w0_1 := cw0 1 _ rfl
  have w0_2 := cw0 2 _ rfl
  have w0_3 := cw0 3 _ rfl
  clear cw0
  have zw0 := Bw0.size
  go_enter Try.func19, Try.ntmps19
  go_wp2
  go_loopw [3] (fun i wr => ∃ (k : Nat), k ≤ st.folders.length ∧ i = .int .i64 k ∧ refW (st.folders.drop k) = refW st.folders ∧ Below w0.heap.size w0 wr) (fun i _ => st.folders.length - (intOf i).toNat)
  case atStart => exact ⟨0, by omega, by go_num, by simp, by go_grown⟩
  case round =>
    obtain ⟨k, hk, rfl, E0, hbel⟩ := hrel
    have hz := hbel.size
    obtain ⟨hcr, hfr⟩ := bcell hbel
    by_cases hlt : k < st.folders.length
    · obtain ⟨x, x_b, x_o, x_A2, x_c2, x_A3, x_c3, x_A4, x_c4, x_A5, x_c5, x_A6, x_c6, x_k, x_d, x_m, rfl, x_l, x_S, x_0, x_1, x_2, x_3, x_4, x_5, x_6, x_R, x_name_le, x_turn_ok, x_manifests_l, x_manifests_m, x_manifests_n, x_manifests_s, x_epochs_l, x_epochs_m, x_epochs_n, x_epochs_s, x_items_l, x_items_m, x_items_n, x_items_s, x_wraps_l, x_wraps_m, x_wraps_n, x_wraps_s, x_links_l, x_links_m, x_links_n, x_links_s⟩ := get_Folder st_folders_s hlt (kept_of (bel_call Bw0 hbel))
      rw [x_d, refW] at E0
      clear x_k x_d
      have E := Lib.hid E0
      clear E0
      obtain ⟨wb, hwb, cwb, fzwb, Bwb, qwb⟩ := boxed wr #[.string x.name, .int .i64 x.turn, .slice x_A2 x.manifests.length x_c2, .slice x_A3 x.epochs.length x_c3, .slice x_A4 x.items.length x_c4, .slice x_A5 x.wraps.length x_c5, .slice x_A6 x.links.length x_c6] 37
      have wb_0 := cwb 0 _ rfl
      have wb_1 := cwb 1 _ rfl
      have wb_2 := cwb 2 _ rfl
      have wb_3 := cwb 3 _ rfl
      have wb_4 := cwb 4 _ rfl
      have wb_5 := cwb 5 _ rfl
      have wb_6 := cwb 6 _ rfl
      clear cwb
      have zwb := Bwb.size
      obtain ⟨wx, rfl⟩ : ∃ W : World, W = wr := ⟨_, rfl⟩
      by_cases d1 : x.manifests.length < 1
      · have G := Lib.hid (show refW st.folders = false by rw [← E.out]; simp [withinF, d1])
        have d1' : ((x.manifests.length : Int) == 0) = true := beq_iff_eq.2 (by omega)
        go_wp2
        go_ret
        exact ⟨ret_bool (by rw [F.out, G.out]), bel_call Bw0 (bel_call hbel (by go_grown))⟩
      have d1' : ((x.manifests.length : Int) == 0) = false := beq_eq_false_iff_ne.2 (by omega)
      by_cases d2 : x.epochs.length < 1
      · have G := Lib.hid (show refW st.folders = false by rw [← E.out]; simp [withinF, d1, d2])
        have d2' : ((x.epochs.length : Int) == 0) = true := beq_iff_eq.2 (by omega)
        go_wp2
        go_ret
        exact ⟨ret_bool (by rw [F.out, G.out]), bel_call Bw0 (bel_call hbel (by go_grown))⟩
      have d2' : ((x.epochs.length : Int) == 0) = false := beq_eq_false_iff_ne.2 (by omega)
      by_cases d3 : 32 < x.items.length
      · have G := Lib.hid (show refW st.folders = false by rw [← E.out]; simp [withinF, d1, d2, d3])
        go_wp2
        go_ret
        exact ⟨ret_bool (by rw [F.out, G.out]), bel_call Bw0 (bel_call hbel (by go_grown))⟩
      go_wp2
      go_loopw [5] (fun i wr => ∃ (j1 : Nat), j1 ≤ x.manifests.length ∧ i = .int .i64 j1 ∧ (x.manifests.drop j1).any pMan = x.manifests.any pMan ∧ Below wb.heap.size wb wr) (fun i _ => x.manifests.length - (intOf i).toNat)
      case atStart => exact ⟨0, by omega, by go_num, by simp, by go_grown⟩
      case round =>
        obtain ⟨j1, hj1, rfl, E1, hbel1⟩ := hrel
        have hzj1 := hbel1.size
        obtain ⟨hcj1, hfj1⟩ := bcell hbel1
        by_cases hlj1 : j1 < x.manifests.length
        · obtain ⟨y1, y1_b, y1_o, y1_A2, y1_c2, y1_A4, y1_c4, y1_k, y1_d, y1_m, rfl, y1_l, y1_S, y1_0, y1_1, y1_2, y1_3, y1_4, y1_5, y1_6, y1_7, y1_R, y1_folder_le, y1_seq_ok, y1_prev_l, y1_prev_m, y1_prev_n, y1_prev_s, y1_parent_le, y1_members_l, y1_members_m, y1_members_n, y1_members_s, y1_cut_ok, y1_who_le⟩ := get_Manifest x_manifests_s hlj1 (kept_of (bel_call Bwb hbel1))
          rw [y1_d, List.any_cons] at E1
          clear y1_k y1_d
          by_cases e1 : 8 < y1.members.length
          · have P := Lib.hid (show pMan y1 = true by simp only [pMan, Bool.or_eq_true, decide_eq_true_eq]; omega)
            have A : x.manifests.any pMan = true := by rw [← E1, P.out]; rfl
            have H := Lib.hid (show refW st.folders = false by rw [E.out.symm, show withinF x = false by unfold withinF; rw [if_neg d1, if_neg d2, if_neg d3, A]; rfl]; rfl)
            clear E1
            go_wp2
            go_ret
            exact ⟨ret_bool (by rw [F.out, H.out]), bel_call Bw0 (bel_call hbel (bel_call Bwb hbel1))⟩
          have P : pMan y1 = false := by simp only [pMan, Bool.or_eq_false_iff, decide_eq_false_iff_not]; omega
          rw [P, Bool.false_or] at E1
          clear P
          have H := Lib.hid E1
          clear E1
          go_wp2
          go_roundw
          case rel => exact ⟨j1 + 1, by omega, by go_num, H.out, by go_grown⟩
          case measure => simp [intOf]; omega
        · obtain rfl : j1 = x.manifests.length := by omega
          rw [List.drop_length] at E1
          have N1 := Lib.hid (show x.manifests.any pMan = false from E1.symm)
          clear E1 hlj1 hj1
          obtain ⟨v1, rfl⟩ : ∃ W : World, W = wr := ⟨_, rfl⟩
          have B1 : Below wb.heap.size wb v1 := hbel1
          obtain ⟨hcv1, hfv1⟩ := bcell B1
          have zv1 := B1.size
          have qv1 : wx.heap.size < v1.heap.size := by omega
          clear hbel1 hcj1 hfj1 hzj1
          go_wp2
          go_loopw [6] (fun i wr => ∃ (j2 : Nat), j2 ≤ x.epochs.length ∧ i = .int .i64 j2 ∧ (x.epochs.drop j2).any pEp = x.epochs.any pEp ∧ Below v1.heap.size v1 wr) (fun i _ => x.epochs.length - (intOf i).toNat)
          case atStart => exact ⟨0, by omega, by go_num, by simp, by go_grown⟩
          case round =>
            obtain ⟨j2, hj2, rfl, E2, hbel2⟩ := hrel
            have hzj2 := hbel2.size
            obtain ⟨hcj2, hfj2⟩ := bcell hbel2
            by_cases hlj2 : j2 < x.epochs.length
            · obtain ⟨y2, y2_b, y2_o, y2_A3, y2_c3, y2_k, y2_d, y2_m, rfl, y2_l, y2_S, y2_0, y2_1, y2_2, y2_3, y2_4, y2_R, y2_place_ok, y2_frm_ok, y2_seq_ok, y2_chain_l, y2_chain_m, y2_chain_n, y2_chain_s, y2_who_le⟩ := get_Epoch x_epochs_s hlj2 (kept_of (bel_call Bwb (bel_call B1 hbel2)))
              rw [y2_d, List.any_cons] at E2
              clear y2_k y2_d
              by_cases e1 : y2.place < 1
              · have P := Lib.hid (show pEp y2 = true by simp only [pEp, Bool.or_eq_true, decide_eq_true_eq]; omega)
                have A : x.epochs.any pEp = true := by rw [← E2, P.out]; rfl
                have H := Lib.hid (show refW st.folders = false by rw [E.out.symm, show withinF x = false by unfold withinF; rw [if_neg d1, if_neg d2, if_neg d3, N1.out, A]; rfl]; rfl)
                clear E2
                go_wp2
                go_ret
                exact ⟨ret_bool (by rw [F.out, H.out]), bel_call Bw0 (bel_call hbel (bel_call Bwb (bel_call B1 hbel2)))⟩
              by_cases e2 : 4 < y2.place
              · have P := Lib.hid (show pEp y2 = true by simp only [pEp, Bool.or_eq_true, decide_eq_true_eq]; omega)
                have A : x.epochs.any pEp = true := by rw [← E2, P.out]; rfl
                have H := Lib.hid (show refW st.folders = false by rw [E.out.symm, show withinF x = false by unfold withinF; rw [if_neg d1, if_neg d2, if_neg d3, N1.out, A]; rfl]; rfl)
                clear E2
                go_wp2
                go_ret
                exact ⟨ret_bool (by rw [F.out, H.out]), bel_call Bw0 (bel_call hbel (bel_call Bwb (bel_call B1 hbel2)))⟩
              have P : pEp y2 = false := by simp only [pEp, Bool.or_eq_false_iff, decide_eq_false_iff_not]; omega
              rw [P, Bool.false_or] at E2
              clear P
              have H := Lib.hid E2
              clear E2
              go_wp2
              go_roundw
              case rel => exact ⟨j2 + 1, by omega, by go_num, H.out, by go_grown⟩
              case measure => simp [intOf]; omega
            · obtain rfl : j2 = x.epochs.length := by omega
              rw [List.drop_length] at E2
              have N2 := Lib.hid (show x.epochs.any pEp = false from E2.symm)
              clear E2 hlj2 hj2
              obtain ⟨v2, rfl⟩ : ∃ W : World, W = wr := ⟨_, rfl⟩
              have B2 : Below wb.heap.size wb v2 := bel_call B1 hbel2
              obtain ⟨hcv2, hfv2⟩ := bcell B2
              have zv2 := B2.size
              have qv2 : wx.heap.size < v2.heap.size := by omega
              clear hbel2 hcj2 hfj2 hzj2
              go_wp2
              go_loopw [7] (fun i wr => ∃ (j3 : Nat), j3 ≤ x.items.length ∧ i = .int .i64 j3 ∧ (x.items.drop j3).any pIt = x.items.any pIt ∧ Below v2.heap.size v2 wr) (fun i _ => x.items.length - (intOf i).toNat)
              case atStart => exact ⟨0, by omega, by go_num, by simp, by go_grown⟩
              case round =>
                obtain ⟨j3, hj3, rfl, E3, hbel3⟩ := hrel
                have hzj3 := hbel3.size
                obtain ⟨hcj3, hfj3⟩ := bcell hbel3
                by_cases hlj3 : j3 < x.items.length
                · obtain ⟨y3, y3_b, y3_o, y3_A1, y3_c1, y3_k, y3_d, y3_m, rfl, y3_l, y3_S, y3_0, y3_1, y3_R, y3_name_le, y3_versions_l, y3_versions_m, y3_versions_n, y3_versions_s⟩ := get_Item x_items_s hlj3 (kept_of (bel_call Bwb (bel_call B2 hbel3)))
                  rw [y3_d, List.any_cons] at E3
                  clear y3_k y3_d
                  by_cases e1 : y3.versions.length < 1
                  · have P := Lib.hid (show pIt y3 = true by simp only [pIt, Bool.or_eq_true, decide_eq_true_eq]; omega)
                    have A : x.items.any pIt = true := by rw [← E3, P.out]; rfl
                    have e1' : ((y3.versions.length : Int) == 0) = true := beq_iff_eq.2 (by omega)
                    have H := Lib.hid (show refW st.folders = false by rw [E.out.symm, show withinF x = false by unfold withinF; rw [if_neg d1, if_neg d2, if_neg d3, N1.out, N2.out, A]; rfl]; rfl)
                    clear E3
                    go_wp2
                    go_ret
                    exact ⟨ret_bool (by rw [F.out, H.out]), bel_call Bw0 (bel_call hbel (bel_call Bwb (bel_call B2 hbel3)))⟩
                  have e1' : ((y3.versions.length : Int) == 0) = false := beq_eq_false_iff_ne.2 (by omega)
                  by_cases e2 : 256 < y3.versions.length
                  · have P := Lib.hid (show pIt y3 = true by simp only [pIt, Bool.or_eq_true, decide_eq_true_eq]; omega)
                    have A : x.items.any pIt = true := by rw [← E3, P.out]; rfl
                    have H := Lib.hid (show refW st.folders = false by rw [E.out.symm, show withinF x = false by unfold withinF; rw [if_neg d1, if_neg d2, if_neg d3, N1.out, N2.out, A]; rfl]; rfl)
                    clear E3
                    go_wp2
                    go_ret
                    exact ⟨ret_bool (by rw [F.out, H.out]), bel_call Bw0 (bel_call hbel (bel_call Bwb (bel_call B2 hbel3)))⟩
                  have P : pIt y3 = false := by simp only [pIt, Bool.or_eq_false_iff, decide_eq_false_iff_not]; omega
                  rw [P, Bool.false_or] at E3
                  clear P
                  have H := Lib.hid E3
                  clear E3
                  go_wp2
                  go_roundw
                  case rel => exact ⟨j3 + 1, by omega, by go_num, H.out, by go_grown⟩
                  case measure => simp [intOf]; omega
                · obtain rfl : j3 = x.items.length := by omega
                  rw [List.drop_length] at E3
                  have N3 := Lib.hid (show x.items.any pIt = false from E3.symm)
                  clear E3 hlj3 hj3
                  have H := Lib.hid (show refW (st.folders.drop (k + 1)) = refW st.folders by rw [← E.out, show withinF x = true by unfold withinF; rw [if_neg d1, if_neg d2, if_neg d3, N1.out, N2.out, N3.out]; rfl]; rfl)
                  go_wp2
                  go_roundw
                  case rel => exact ⟨k + 1, by omega, by go_num, H.out, bel_call hbel (bel_call Bwb (bel_call B2 hbel3))⟩
                  case measure => simp [intOf]; omega
    · obtain rfl : k = st.folders.length := by omega
      rw [List.drop_length] at E0
      have EH := Lib.hid E0
      clear E0
      go_wp2
      go_ret
      exact ⟨ret_bool (by rw [F.out, ← EH.out]; rfl), bel_call Bw0 hbel⟩
end Go.Proofs.Ytdddgmmbdofomaa
