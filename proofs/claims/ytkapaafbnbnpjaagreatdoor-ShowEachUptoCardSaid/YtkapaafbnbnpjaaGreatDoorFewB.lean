/- Whether a state is small (bastillelaw32.Few). No condition. -/
import Derived.Test.YtkapaafbnbnpjaaGreatDoorFew
namespace Go.Proofs.YtkapaafbnbnpjaaGreatDoor
open Go.RowKit Go.Deep

def fewUsers : List User → Bool
  | [] => true
  | x :: l => if 20 < x.name.size then false else fewUsers l
def fewPairs : List Pair → Bool
  | [] => true
  | x :: l => if 20 < x.frm.size then false else if 20 < x.to.size then false else fewPairs l
def fewFolders : List Folder → Nat → Bool
  | [], n => decide (n ≤ 100)
  | x :: l, n => if 100 < n + x.manifests.length + x.epochs.length + x.items.length + x.wraps.length + x.links.length then false else if longOf x ≤ 20 then fewFolders l (n + x.manifests.length + x.epochs.length + x.items.length + x.wraps.length + x.links.length) else false
def few (st : State) : Bool := if fewUsers st.users then (if fewPairs st.deposits then (if 8 < st.folders.length then false else fewFolders st.folders (st.users.length + st.deposits.length)) else false) else false

set_option maxRecDepth 100000 in
set_option maxHeartbeats 4000000 in
theorem few_any (st : State) (cs : List Value) (w : World) (S : Nat → Prop) (h : rState S w cs st) :
    Calls Tryz.prog 5 #[.agg cs.toArray] w fun e w' => e = .returned (.bool (few st)) ∧ Below w.heap.size w w' := by
  obtain ⟨st_A1, st_c1, st_A2, st_c2, st_A3, st_c3, rfl, st_turn_ok, st_users_l, st_users_m, st_users_n, st_users_s, st_deposits_l, st_deposits_m, st_deposits_n, st_deposits_s, st_folders_l, st_folders_m, st_folders_n, st_folders_s⟩ := open_State h
  obtain ⟨w0, hw0, cw0, fzw0, Bw0, qw0⟩ := boxed w #[.int .i64 st.turn, .slice st_A1 st.users.length st_c1, .slice st_A2 st.deposits.length st_c2, .slice st_A3 st.folders.length st_c3] 26
  have w0_0 := cw0 0 _ rfl
  have w0_1 := cw0 1 _ rfl
  have w0_2 := cw0 2 _ rfl
  have w0_3 := cw0 3 _ rfl
  clear cw0
  have zw0 := Bw0.size
  go_enter Tryz.func5, Tryz.ntmps5
  go_wp2
  go_loopw [20] (fun i wr => ∃ (j1 : Nat), j1 ≤ st.users.length ∧ i = .int .i64 j1 ∧ fewUsers (st.users.drop j1) = fewUsers st.users ∧ Below w0.heap.size w0 wr) (fun i _ => st.users.length - (intOf i).toNat)
  case atStart => exact ⟨0, by omega, by go_num, by simp, by go_grown⟩
  case round =>
    obtain ⟨j1, hj1, rfl, E1, hbel1⟩ := hrel
    have hzj1 := hbel1.size
    by_cases hlj1 : j1 < st.users.length
    · obtain ⟨y1, y1_b, y1_o, y1_k, y1_d, y1_m, rfl, y1_l, y1_S, y1_0, y1_1, y1_R, y1_name_le⟩ := get_User st_users_s hlj1 (kept_of (bel_call Bw0 hbel1))
      rw [y1_d, fewUsers] at E1
      clear y1_k y1_d
      by_cases e1 : 20 < y1.name.size
      · have H := Lib.hid (show few st = false by unfold few; skip; rw [← E1]; simp [e1])
        clear E1
        go_wp2
        go_ret
        exact ⟨ret_bool (by rw [H.out]), bel_call Bw0 (by go_grown)⟩
      have H := Lib.hid (show fewUsers (st.users.drop (j1 + 1)) = fewUsers st.users by rw [← E1]; simp [e1])
      clear E1
      go_wp2
      go_roundw
      case rel => exact ⟨j1 + 1, by omega, by go_num, H.out, by go_grown⟩
      case measure => simp [intOf]; omega
    · obtain rfl : j1 = st.users.length := by omega
      rw [List.drop_length] at E1
      have N1 := Lib.hid (show fewUsers st.users = true from E1.symm)
      clear E1 hlj1 hj1
      obtain ⟨v1, rfl⟩ : ∃ W : World, W = wr := ⟨_, rfl⟩
      have B1 : Below w0.heap.size w0 v1 := hbel1
      obtain ⟨hcv1, hfv1⟩ := bcell B1
      have zv1 := B1.size
      have qv1 : w.heap.size < v1.heap.size := by omega
      clear hbel1 hzj1
      go_wp2
      go_loopw [32] (fun i wr => ∃ (j2 : Nat), j2 ≤ st.deposits.length ∧ i = .int .i64 j2 ∧ fewPairs (st.deposits.drop j2) = fewPairs st.deposits ∧ Below v1.heap.size v1 wr) (fun i _ => st.deposits.length - (intOf i).toNat)
      case atStart => exact ⟨0, by omega, by go_num, by simp, by go_grown⟩
      case round =>
        obtain ⟨j2, hj2, rfl, E2, hbel2⟩ := hrel
        have hzj2 := hbel2.size
        by_cases hlj2 : j2 < st.deposits.length
        · obtain ⟨y2, y2_b, y2_o, y2_k, y2_d, y2_m, rfl, y2_l, y2_S, y2_0, y2_1, y2_R, y2_frm_le, y2_to_le⟩ := get_Pair st_deposits_s hlj2 (kept_of (bel_call Bw0 (bel_call B1 hbel2)))
          rw [y2_d, fewPairs] at E2
          clear y2_k y2_d
          by_cases e1 : 20 < y2.frm.size
          · have H := Lib.hid (show few st = false by unfold few; rw [N1.out]; rw [← E2]; simp [e1])
            clear E2
            go_wp2
            go_ret
            exact ⟨ret_bool (by rw [H.out]), bel_call Bw0 (bel_call B1 (by go_grown))⟩
          by_cases e2 : 20 < y2.to.size
          · have H := Lib.hid (show few st = false by unfold few; rw [N1.out]; rw [← E2]; simp [e1, e2])
            clear E2
            go_wp2
            go_ret
            exact ⟨ret_bool (by rw [H.out]), bel_call Bw0 (bel_call B1 (by go_grown))⟩
          have H := Lib.hid (show fewPairs (st.deposits.drop (j2 + 1)) = fewPairs st.deposits by rw [← E2]; simp [e1, e2])
          clear E2
          go_wp2
          go_roundw
          case rel => exact ⟨j2 + 1, by omega, by go_num, H.out, by go_grown⟩
          case measure => simp [intOf]; omega
        · obtain rfl : j2 = st.deposits.length := by omega
          rw [List.drop_length] at E2
          have N2 := Lib.hid (show fewPairs st.deposits = true from E2.symm)
          clear E2 hlj2 hj2
          obtain ⟨v2, rfl⟩ : ∃ W : World, W = wr := ⟨_, rfl⟩
          have B2 : Below w0.heap.size w0 v2 := bel_call B1 hbel2
          obtain ⟨hcv2, hfv2⟩ := bcell B2
          have zv2 := B2.size
          have qv2 : w.heap.size < v2.heap.size := by omega
          clear hbel2 hzj2
          by_cases c8 : 8 < st.folders.length
          · have H := Lib.hid (show few st = false by unfold few; rw [N1.out, N2.out]; simp [c8])
            go_wp2
            go_ret
            exact ⟨ret_bool (by rw [H.out]), bel_call Bw0 B2⟩
          have F := Lib.hid (show few st = fewFolders st.folders (st.users.length + st.deposits.length) by unfold few; rw [N1.out, N2.out]; simp [c8])
          go_wp2
          go_loopw [3, 54] (fun n i wr => ∃ (k m : Nat), k ≤ st.folders.length ∧ m ≤ 281474976710656 ∧ i = .int .i64 k ∧ n = .int .i64 m ∧ fewFolders (st.folders.drop k) m = fewFolders st.folders (st.users.length + st.deposits.length) ∧ Below v2.heap.size v2 wr) (fun _ i _ => st.folders.length - (intOf i).toNat)
          case atStart => exact ⟨0, st.users.length + st.deposits.length, by omega, by omega, by go_num, by go_num, by simp, by go_grown⟩
          case round =>
            obtain ⟨k, m, hk, hm, rfl, rfl, E, hbel⟩ := hrel
            have hz := hbel.size
            by_cases hlt : k < st.folders.length
            · obtain ⟨x, x_b, x_o, x_A2, x_c2, x_A3, x_c3, x_A4, x_c4, x_A5, x_c5, x_A6, x_c6, x_k, x_d, x_m, rfl, x_l, x_S, x_0, x_1, x_2, x_3, x_4, x_5, x_6, x_R, x_name_le, x_turn_ok, x_manifests_l, x_manifests_m, x_manifests_n, x_manifests_s, x_epochs_l, x_epochs_m, x_epochs_n, x_epochs_s, x_items_l, x_items_m, x_items_n, x_items_s, x_wraps_l, x_wraps_m, x_wraps_n, x_wraps_s, x_links_l, x_links_m, x_links_n, x_links_s⟩ := get_Folder st_folders_s hlt (kept_of (bel_call Bw0 (bel_call B2 hbel)))
              rw [x_d, fewFolders] at E
              clear x_k x_d
              by_cases c1 : 100 < m + x.manifests.length + x.epochs.length + x.items.length + x.wraps.length + x.links.length
              · have H := Lib.hid (show few st = false by rw [F.out, ← E, if_pos c1])
                clear E
                go_wp2
                go_ret
                exact ⟨ret_bool (by rw [H.out]), bel_call Bw0 (bel_call B2 (by go_grown))⟩
              rw [if_neg c1] at E
              by_cases c2 : longOf x ≤ 20
              · rw [if_pos c2] at E
                have H := Lib.hid E
                have C := Lib.hid c2
                clear E c2
                go_wp2_with fail
                refine Calls.mono (names_any x _ _ S (rFolder_keep x_R (kept_of (by go_grown)))) ?_
                rintro e w1 ⟨rfl, hb1⟩
                rw [decide_eq_true C.out]
                go_wp2
                go_roundw
                case rel => exact ⟨k + 1, m + x.manifests.length + x.epochs.length + x.items.length + x.wraps.length + x.links.length, by omega, by omega, by go_num, by go_num, H.out, bel_call (by go_grown) hb1⟩
                case measure => simp [intOf]; omega
              · rw [if_neg c2] at E
                have H := Lib.hid (show few st = false by rw [F.out, ← E])
                have C := Lib.hid c2
                clear E c2
                go_wp2_with fail
                refine Calls.mono (names_any x _ _ S (rFolder_keep x_R (kept_of (by go_grown)))) ?_
                rintro e w1 ⟨rfl, hb1⟩
                rw [decide_eq_false C.out]
                go_wp2
                go_ret
                exact ⟨ret_bool (by rw [H.out]), bel_call Bw0 (bel_call B2 (bel_call (by go_grown) hb1))⟩
            · obtain rfl : k = st.folders.length := by omega
              rw [List.drop_length] at E
              have H := Lib.hid E
              clear E
              go_wp2
              go_ret
              exact ⟨ret_bool (by rw [F.out, ← H.out, fewFolders]; exact decide_eq_decide.2 (by omega)), bel_call Bw0 (bel_call B2 hbel)⟩
end Go.Proofs.YtkapaafbnbnpjaaGreatDoor
