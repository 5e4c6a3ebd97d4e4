/- Whether a state is small (bastillelaw32.Few). No condition. -/
import Derived.Test.YtkapaafbnbnpjaaGreatDoorApi
namespace Go.Proofs.YtkapaafbnbnpjaaGreatDoor
open Go.RowKit Go.Deep

def mxMem : List Member → Nat → Nat
  | [], a => a
  | x :: l, a => mxMem l (max a x.name.size)
def mxMan : List Manifest → Nat → Nat
  | [], a => a
  | x :: l, a => mxMan l (mxMem x.members (max a (max x.parent.size x.members.length)))
def mxAt : List At → Nat → Nat
  | [], a => a
  | x :: l, a => mxAt l (max a x.name.size)
def mxEp : List Epoch → Nat → Nat
  | [], a => a
  | x :: l, a => mxEp l (mxAt x.chain (max a x.chain.length))
def mxItem : List Item → Nat → Nat
  | [], a => a
  | x :: l, a => mxItem l (max a (max x.name.size x.versions.length))
def mxWrap : List Wrap → Nat → Nat
  | [], a => a
  | x :: l, a => mxWrap l (max a x.name.size)
def mxLink : List Link → Nat → Nat
  | [], a => a
  | x :: l, a => mxLink l (max a x.to.size)
def longOf (f : Folder) : Nat := mxLink f.links (mxWrap f.wraps (mxItem f.items (mxEp f.epochs (mxMan f.manifests f.name.size))))
def I63 (n : Nat) : Prop := n ≤ 9223372036854775807

theorem names_any (f : Folder) (cs : List Value) (w : World) (S : Nat → Prop) (h : rFolder S w cs f) :
    Calls Tryz.prog 17 #[.agg cs.toArray] w fun e w' => e = .returned (.bool (decide (longOf f ≤ 20))) ∧ Below w.heap.size w w' := by
  obtain ⟨f_A2, f_c2, f_A3, f_c3, f_A4, f_c4, f_A5, f_c5, f_A6, f_c6, rfl, f_name_le, f_turn_ok, f_manifests_l, f_manifests_m, f_manifests_n, f_manifests_s, f_epochs_l, f_epochs_m, f_epochs_n, f_epochs_s, f_items_l, f_items_m, f_items_n, f_items_s, f_wraps_l, f_wraps_m, f_wraps_n, f_wraps_s, f_links_l, f_links_m, f_links_n, f_links_s⟩ := open_Folder h
  have F : Hid (longOf f = mxLink f.links (mxWrap f.wraps (mxItem f.items (mxEp f.epochs (mxMan f.manifests f.name.size))))) := rfl
  obtain ⟨w0, hw0, cw0, fzw0, Bw0, qw0⟩ := boxed w #[.string f.name, .int .i64 f.turn, .slice f_A2 f.manifests.length f_c2, .slice f_A3 f.epochs.length f_c3, .slice f_A4 f.items.length f_c4, .slice f_A5 f.wraps.length f_c5, .slice f_A6 f.links.length f_c6] 35
  have w0_0 := cw0 0 _ rfl
  have w0_1 := cw0 1 _ rfl
  have w0_2 := cw0 2 _ rfl
  have w0_3 := cw0 3 _ rfl
  have w0_4 := cw0 4 _ rfl
  have w0_5 := cw0 5 _ rfl
  have w0_6 := cw0 6 _ rfl
  clear cw0
  have zw0 := Bw0.size
  go_enter Tryz.func17, Tryz.ntmps17
  go_wp2
  clear hw0
  go_loopw [3, 24] (fun v3 i wr => ∃ (k : Nat) (m : Nat), k ≤ f.manifests.length ∧ m ≤ 9223372036854775807 ∧ i = .int .i64 k ∧ v3 = .int .i64 m ∧ mxMan (f.manifests.drop k) m = mxMan f.manifests f.name.size ∧ Below w0.heap.size w0 wr) (fun _ i _ => f.manifests.length - (intOf i).toNat)
  case atStart => exact ⟨0, f.name.size, by omega, by omega, by go_num, (by first | rfl | go_num), by simp, by go_grown⟩
  case round =>
    obtain ⟨k, m, hkk, hbk0, rfl, rfl, E, hbel⟩ := hrel
    have hzk := hbel.size
    by_cases hltk : k < f.manifests.length
    · obtain ⟨x, x_b, x_o, x_A2, x_c2, x_A4, x_c4, x_k, x_d, x_m, rfl, x_l, x_S, x_0, x_1, x_2, x_3, x_4, x_5, x_6, x_7, x_R, x_folder_le, x_seq_ok, x_prev_l, x_prev_m, x_prev_n, x_prev_s, x_parent_le, x_members_l, x_members_m, x_members_n, x_members_s, x_cut_ok, x_who_le⟩ := get_Manifest f_manifests_s hltk (kept_of (bel_call Bw0 hbel))
      rw [x_d, mxMan] at E
      have EH := Lib.hid E
      clear x_k x_d E
      go_wp2
      obtain ⟨wo, rfl⟩ : ∃ wo : World, wo = wr := ⟨_, rfl⟩
      go_loopw [3, 39] (fun v3 i wr => ∃ (k' : Nat) (m' : Nat), k' ≤ x.members.length ∧ m' ≤ 9223372036854775807 ∧ i = .int .i64 k' ∧ v3 = .int .i64 m' ∧ mxMem (x.members.drop k') m' = mxMem x.members (max m (max x.parent.size x.members.length)) ∧ Below wo.heap.size wo wr) (fun _ i _ => x.members.length - (intOf i).toNat)
      case atStart => exact ⟨0, max m (max x.parent.size x.members.length), by omega, by omega, by go_num, (by first | rfl | go_num), by simp, by go_grown⟩
      case round =>
        obtain ⟨k', m', hkk', hbk'0, rfl, rfl, E, hbel'⟩ := hrel
        have hzk' := hbel'.size
        by_cases hltk' : k' < x.members.length
        · obtain ⟨y, y_b, y_o, y_k, y_d, y_m, rfl, y_l, y_S, y_0, y_1, y_R, y_name_le, y_role_ok⟩ := get_Member x_members_s hltk' (kept_of hbel')
          rw [y_d, mxMem] at E
          have EH2 := Lib.hid E
          clear y_k y_d E
          go_wp2
          go_roundw
          case rel => exact ⟨k' + 1, max m' y.name.size, by omega, by omega, by go_num, (by first | rfl | go_num | (congr 1; omega)), EH2.out, by go_grown⟩
          case measure => simp [intOf]; omega
        · obtain rfl : k' = x.members.length := by omega
          rw [List.drop_length] at E
          have EH2 := Lib.hid E
          clear E
          go_wp2
          go_roundw
          case rel => exact ⟨k + 1, m', by omega, by omega, by go_num, (by first | rfl | go_num | (congr 1; omega)), by rw [← EH.out, ← EH2.out]; rfl, bel_call hbel hbel'⟩
          case measure => simp [intOf]; omega
    · obtain rfl : k = f.manifests.length := by omega
      rw [List.drop_length] at E
      have F1 := Lib.hid E
      have b1 : m ≤ 9223372036854775807 := hbk0
      clear E hltk hkk hzk hbk0
      obtain ⟨w1, rfl⟩ : ∃ W : World, W = wr := ⟨_, rfl⟩
      obtain ⟨m1, rfl⟩ : ∃ q : Nat, q = m := ⟨_, rfl⟩
      have B1 := hbel
      clear hbel
      have Z1 := B1.size
      obtain ⟨hc1, hf1⟩ := bcell B1
      have B1' := bel_call Bw0 B1
      have qq1 : w.heap.size < w1.heap.size := by omega
      go_wp2
      go_loopw [3, 53] (fun v3 i wr => ∃ (k : Nat) (m : Nat), k ≤ f.epochs.length ∧ m ≤ 9223372036854775807 ∧ i = .int .i64 k ∧ v3 = .int .i64 m ∧ mxEp (f.epochs.drop k) m = mxEp f.epochs m1 ∧ Below w1.heap.size w1 wr) (fun _ i _ => f.epochs.length - (intOf i).toNat)
      case atStart => exact ⟨0, m1, by omega, by omega, by go_num, (by first | rfl | go_num), by simp, by go_grown⟩
      case round =>
        obtain ⟨k, m, hkk, hbk0, rfl, rfl, E, hbel⟩ := hrel
        have hzk := hbel.size
        by_cases hltk : k < f.epochs.length
        · obtain ⟨x, x_b, x_o, x_A3, x_c3, x_k, x_d, x_m, rfl, x_l, x_S, x_0, x_1, x_2, x_3, x_4, x_R, x_place_ok, x_frm_ok, x_seq_ok, x_chain_l, x_chain_m, x_chain_n, x_chain_s, x_who_le⟩ := get_Epoch f_epochs_s hltk (kept_of (bel_call B1' hbel))
          rw [x_d, mxEp] at E
          have EH := Lib.hid E
          clear x_k x_d E
          go_wp2
          obtain ⟨wo, rfl⟩ : ∃ wo : World, wo = wr := ⟨_, rfl⟩
          go_loopw [3, 65] (fun v3 i wr => ∃ (k' : Nat) (m' : Nat), k' ≤ x.chain.length ∧ m' ≤ 9223372036854775807 ∧ i = .int .i64 k' ∧ v3 = .int .i64 m' ∧ mxAt (x.chain.drop k') m' = mxAt x.chain (max m x.chain.length) ∧ Below wo.heap.size wo wr) (fun _ i _ => x.chain.length - (intOf i).toNat)
          case atStart => exact ⟨0, max m x.chain.length, by omega, by omega, by go_num, (by first | rfl | go_num), by simp, by go_grown⟩
          case round =>
            obtain ⟨k', m', hkk', hbk'0, rfl, rfl, E, hbel'⟩ := hrel
            have hzk' := hbel'.size
            by_cases hltk' : k' < x.chain.length
            · obtain ⟨y, y_b, y_o, y_k, y_d, y_m, rfl, y_l, y_S, y_0, y_1, y_R, y_name_le, y_seq_ok⟩ := get_At x_chain_s hltk' (kept_of hbel')
              rw [y_d, mxAt] at E
              have EH2 := Lib.hid E
              clear y_k y_d E
              go_wp2
              go_roundw
              case rel => exact ⟨k' + 1, max m' y.name.size, by omega, by omega, by go_num, (by first | rfl | go_num | (congr 1; omega)), EH2.out, by go_grown⟩
              case measure => simp [intOf]; omega
            · obtain rfl : k' = x.chain.length := by omega
              rw [List.drop_length] at E
              have EH2 := Lib.hid E
              clear E
              go_wp2
              go_roundw
              case rel => exact ⟨k + 1, m', by omega, by omega, by go_num, (by first | rfl | go_num | (congr 1; omega)), by rw [← EH.out, ← EH2.out]; rfl, bel_call hbel hbel'⟩
              case measure => simp [intOf]; omega
        · obtain rfl : k = f.epochs.length := by omega
          rw [List.drop_length] at E
          have F2 := Lib.hid E
          have b2 : m ≤ 9223372036854775807 := hbk0
          clear E hltk hkk hzk hbk0
          obtain ⟨w2, rfl⟩ : ∃ W : World, W = wr := ⟨_, rfl⟩
          obtain ⟨m2, rfl⟩ : ∃ q : Nat, q = m := ⟨_, rfl⟩
          have B2 := hbel
          clear hbel
          have Z2 := B2.size
          obtain ⟨hc2, hf2⟩ := bcell B2
          have B2' := bel_call B1' B2
          have qq2 : w.heap.size < w2.heap.size := by omega
          go_wp2
          go_loopw [3, 79] (fun v3 i wr => ∃ (k : Nat) (m : Nat), k ≤ f.items.length ∧ m ≤ 9223372036854775807 ∧ i = .int .i64 k ∧ v3 = .int .i64 m ∧ mxItem (f.items.drop k) m = mxItem f.items m2 ∧ Below w2.heap.size w2 wr) (fun _ i _ => f.items.length - (intOf i).toNat)
          case atStart => exact ⟨0, m2, by omega, by omega, by go_num, (by first | rfl | go_num), by simp, by go_grown⟩
          case round =>
            obtain ⟨k, m, hkk, hbk0, rfl, rfl, E, hbel⟩ := hrel
            have hzk := hbel.size
            by_cases hltk : k < f.items.length
            · obtain ⟨x, x_b, x_o, x_A1, x_c1, x_k, x_d, x_m, rfl, x_l, x_S, x_0, x_1, x_R, x_name_le, x_versions_l, x_versions_m, x_versions_n, x_versions_s⟩ := get_Item f_items_s hltk (kept_of (bel_call B2' hbel))
              rw [x_d, mxItem] at E
              have EH := Lib.hid E
              clear x_k x_d E
              go_wp2
              go_roundw
              case rel => exact ⟨k + 1, max m (max x.name.size x.versions.length), by omega, by omega, by go_num, (by first | rfl | go_num | (congr 1; omega)), EH.out, by go_grown⟩
              case measure => simp [intOf]; omega
            · obtain rfl : k = f.items.length := by omega
              rw [List.drop_length] at E
              have F3 := Lib.hid E
              have b3 : m ≤ 9223372036854775807 := hbk0
              clear E hltk hkk hzk hbk0
              obtain ⟨w3, rfl⟩ : ∃ W : World, W = wr := ⟨_, rfl⟩
              obtain ⟨m3, rfl⟩ : ∃ q : Nat, q = m := ⟨_, rfl⟩
              have B3 := hbel
              clear hbel
              have Z3 := B3.size
              obtain ⟨hc3, hf3⟩ := bcell B3
              have B3' := bel_call B2' B3
              have qq3 : w.heap.size < w3.heap.size := by omega
              go_wp2
              go_loopw [3, 95] (fun v3 i wr => ∃ (k : Nat) (m : Nat), k ≤ f.wraps.length ∧ m ≤ 9223372036854775807 ∧ i = .int .i64 k ∧ v3 = .int .i64 m ∧ mxWrap (f.wraps.drop k) m = mxWrap f.wraps m3 ∧ Below w3.heap.size w3 wr) (fun _ i _ => f.wraps.length - (intOf i).toNat)
              case atStart => exact ⟨0, m3, by omega, by omega, by go_num, (by first | rfl | go_num), by simp, by go_grown⟩
              case round =>
                obtain ⟨k, m, hkk, hbk0, rfl, rfl, E, hbel⟩ := hrel
                have hzk := hbel.size
                by_cases hltk : k < f.wraps.length
                · obtain ⟨x, x_b, x_o, x_k, x_d, x_m, rfl, x_l, x_S, x_0, x_1, x_2, x_R, x_name_le, x_epoch_ok⟩ := get_Wrap f_wraps_s hltk (kept_of (bel_call B3' hbel))
                  rw [x_d, mxWrap] at E
                  have EH := Lib.hid E
                  clear x_k x_d E
                  go_wp2
                  go_roundw
                  case rel => exact ⟨k + 1, max m x.name.size, by omega, by omega, by go_num, (by first | rfl | go_num | (congr 1; omega)), EH.out, by go_grown⟩
                  case measure => simp [intOf]; omega
                · obtain rfl : k = f.wraps.length := by omega
                  rw [List.drop_length] at E
                  have F4 := Lib.hid E
                  have b4 : m ≤ 9223372036854775807 := hbk0
                  clear E hltk hkk hzk hbk0
                  obtain ⟨w4, rfl⟩ : ∃ W : World, W = wr := ⟨_, rfl⟩
                  obtain ⟨m4, rfl⟩ : ∃ q : Nat, q = m := ⟨_, rfl⟩
                  have B4 := hbel
                  clear hbel
                  have Z4 := B4.size
                  obtain ⟨hc4, hf4⟩ := bcell B4
                  have B4' := bel_call B3' B4
                  have qq4 : w.heap.size < w4.heap.size := by omega
                  go_wp2
                  go_loopw [3, 108] (fun v3 i wr => ∃ (k : Nat) (m : Nat), k ≤ f.links.length ∧ m ≤ 9223372036854775807 ∧ i = .int .i64 k ∧ v3 = .int .i64 m ∧ mxLink (f.links.drop k) m = mxLink f.links m4 ∧ Below w4.heap.size w4 wr) (fun _ i _ => f.links.length - (intOf i).toNat)
                  case atStart => exact ⟨0, m4, by omega, by omega, by go_num, (by first | rfl | go_num), by simp, by go_grown⟩
                  case round =>
                    obtain ⟨k, m, hkk, hbk0, rfl, rfl, E, hbel⟩ := hrel
                    have hzk := hbel.size
                    by_cases hltk : k < f.links.length
                    · obtain ⟨x, x_b, x_o, x_k, x_d, x_m, rfl, x_l, x_S, x_0, x_1, x_2, x_R, x_epoch_ok, x_to_le, x_seq_ok⟩ := get_Link f_links_s hltk (kept_of (bel_call B4' hbel))
                      rw [x_d, mxLink] at E
                      have EH := Lib.hid E
                      clear x_k x_d E
                      go_wp2
                      go_roundw
                      case rel => exact ⟨k + 1, max m x.to.size, by omega, by omega, by go_num, (by first | rfl | go_num | (congr 1; omega)), EH.out, by go_grown⟩
                      case measure => simp [intOf]; omega
                    · obtain rfl : k = f.links.length := by omega
                      rw [List.drop_length] at E
                      have F5 := Lib.hid E
                      clear E
                      go_wp2
                      go_ret
                      have f1 : m1 = _ := F1.out
                      have f2 : m2 = _ := F2.out
                      have f3 : m3 = _ := F3.out
                      have f4 : m4 = _ := F4.out
                      have f5 : m = _ := F5.out
                      rw [f4, f3, f2, f1] at f5
                      exact ⟨ret_bool (by rw [F.out, ← f5]; exact decide_eq_decide.2 (by omega)), bel_call B4' hbel⟩
end Go.Proofs.YtkapaafbnbnpjaaGreatDoor
