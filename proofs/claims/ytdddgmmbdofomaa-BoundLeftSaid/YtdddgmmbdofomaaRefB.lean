/- Layer bound: the document's counts (bastilleref33). Conditions: the counts are at most a million. -/
import Derived.Test.YtdddgmmbdofomaaBoundB
namespace Go.Proofs.Ytdddgmmbdofomaa
open Go.RowKit Go.Deep

/-! The same counts, as the reference goes through them. -/
def smallOf (st : State) : Nat := min st.folders.length 1 + 2 * st.users.length + st.deposits.length + st.folders.length + sumOf small1 st.folders
def largeOf (st : State) : Nat := sumOf large1 st.folders
def refSmall : List Folder → Nat → Nat
  | [], m => m
  | f :: l, m => refSmall l (m + 1 + f.items.length + f.wraps.length + f.links.length)
theorem refSmall_eq : ∀ (l : List Folder) (m : Nat), refSmall l m = m + l.length + sumOf small1 l
  | [], m => by simp [refSmall, sumOf]
  | f :: l, m => by rw [refSmall, refSmall_eq l]; simp [sumOf, small1]; omega
def refVer : List Item → Nat → Nat
  | [], m => m
  | x :: l, m => refVer l (m + x.versions.length)
theorem refVer_eq : ∀ (l : List Item) (m : Nat), refVer l m = m + verCount l
  | [], m => by simp [refVer, verCount]
  | f :: l, m => by rw [refVer, refVer_eq l]; simp [verCount]; omega
def refLarge : List Folder → Nat → Nat
  | [], m => m
  | f :: l, m => refLarge l (refVer f.items (m + f.manifests.length + f.epochs.length))
theorem refLarge_eq : ∀ (l : List Folder) (m : Nat), refLarge l m = m + sumOf large1 l
  | [], m => by simp [refLarge, sumOf]
  | f :: l, m => by rw [refLarge, refLarge_eq l, refVer_eq]; simp [sumOf, large1]; omega

theorem small_any (st : State) (h1 : smallOf st ≤ 1000000) (cs : List Value) (w : World) (S : Nat → Prop) (h : rState S w cs st) :
    Calls Try.prog 13 #[.agg cs.toArray] w fun e w' => e = .returned (.int .i64 ((smallOf st : Nat) : Int)) ∧ Below w.heap.size w w' := by
  obtain ⟨st_A1, st_c1, st_A2, st_c2, st_A3, st_c3, rfl, st_turn_ok, st_users_l, st_users_m, st_users_n, st_users_s, st_deposits_l, st_deposits_m, st_deposits_n, st_deposits_s, st_folders_l, st_folders_m, st_folders_n, st_folders_s⟩ := open_State h
  have h1' : min st.folders.length 1 + 2 * st.users.length + st.deposits.length + st.folders.length + sumOf small1 st.folders ≤ 1000000 := h1
  have H1 := Lib.hid h1
  clear h1
  by_cases hm : 0 < st.folders.length
  · obtain ⟨w0, hw0, cw0, fzw0, Bw0, qw0⟩ := boxed w #[.int .i64 st.turn, .slice st_A1 st.users.length st_c1, .slice st_A2 st.deposits.length st_c2, .slice st_A3 st.folders.length st_c3] 26
    have w0_0 := cw0 0 _ rfl
    have w0_1 := cw0 1 _ rfl
    have w0_2 := cw0 2 _ rfl
    have w0_3 := cw0 3 _ rfl
    clear cw0
    have zw0 := Bw0.size
    go_enter Try.func13, Try.ntmps13
    have G := Lib.hid (show refSmall st.folders (2 * st.users.length + st.deposits.length + 1) = smallOf st from by rw [refSmall_eq]; unfold smallOf; omega)
    have hnn := hm
    go_wp2
    go_loopw [3, 4] (fun v3 i wr => ∃ (k : Nat) (m : Nat), k ≤ st.folders.length ∧ m ≤ 9223372036854775807 ∧ i = .int .i64 k ∧ v3 = .int .i64 m ∧ refSmall (st.folders.drop k) m = refSmall st.folders (2 * st.users.length + st.deposits.length + 1) ∧ Below w0.heap.size w0 wr) (fun _ i _ => st.folders.length - (intOf i).toNat)
    case atStart => exact ⟨0, 2 * st.users.length + st.deposits.length + 1, by omega, by omega, by go_num, (by first | rfl | go_num), by simp, by go_grown⟩
    case round =>
      obtain ⟨k, m, hkk, hbk0, rfl, rfl, E, hbel⟩ := hrel
      have hzk := hbel.size
      obtain ⟨hcrk, hfrk⟩ := bcell hbel
      by_cases hltk : k < st.folders.length
      · obtain ⟨x, x_b, x_o, x_A2, x_c2, x_A3, x_c3, x_A4, x_c4, x_A5, x_c5, x_A6, x_c6, x_k, x_d, x_m, rfl, x_l, x_S, x_0, x_1, x_2, x_3, x_4, x_5, x_6, x_R, x_name_le, x_turn_ok, x_manifests_l, x_manifests_m, x_manifests_n, x_manifests_s, x_epochs_l, x_epochs_m, x_epochs_n, x_epochs_s, x_items_l, x_items_m, x_items_n, x_items_s, x_wraps_l, x_wraps_m, x_wraps_n, x_wraps_s, x_links_l, x_links_m, x_links_n, x_links_s⟩ := get_Folder st_folders_s hltk (kept_of (bel_call Bw0 hbel))
        rw [x_d, refSmall] at E
        have E2 := E
        rw [refSmall_eq, refSmall_eq] at E2
        have EH := Lib.hid E
        have b1 : m + 1 + x.items.length + x.wraps.length + x.links.length ≤ 1000000 := by have := H1.out; unfold smallOf at this; omega
        clear x_k x_d E E2
        go_wp2
        go_roundw
        case rel => exact ⟨k + 1, m + 1 + x.items.length + x.wraps.length + x.links.length, by omega, by omega, by go_num, (by first | rfl | go_num | (congr 1; omega)), EH.out, by go_grown⟩
        case measure => simp [intOf]; omega
      · obtain rfl : k = st.folders.length := by omega
        rw [List.drop_length] at E
        have EH := Lib.hid E
        clear E
        go_wp2
        go_ret
        exact ⟨ret_int (by rw [← G.out, ← EH.out]; rfl), bel_call Bw0 hbel⟩
  · obtain ⟨w0, hw0, cw0, fzw0, Bw0, qw0⟩ := boxed w #[.int .i64 st.turn, .slice st_A1 st.users.length st_c1, .slice st_A2 st.deposits.length st_c2, .slice st_A3 st.folders.length st_c3] 26
    have w0_0 := cw0 0 _ rfl
    have w0_1 := cw0 1 _ rfl
    have w0_2 := cw0 2 _ rfl
    have w0_3 := cw0 3 _ rfl
    clear cw0
    have zw0 := Bw0.size
    go_enter Try.func13, Try.ntmps13
    have G := Lib.hid (show refSmall st.folders (2 * st.users.length + st.deposits.length) = smallOf st from by rw [refSmall_eq]; unfold smallOf; omega)
    have hnn := hm
    go_wp2
    go_loopw [3, 4] (fun v3 i wr => ∃ (k : Nat) (m : Nat), k ≤ st.folders.length ∧ m ≤ 9223372036854775807 ∧ i = .int .i64 k ∧ v3 = .int .i64 m ∧ refSmall (st.folders.drop k) m = refSmall st.folders (2 * st.users.length + st.deposits.length) ∧ Below w0.heap.size w0 wr) (fun _ i _ => st.folders.length - (intOf i).toNat)
    case atStart => exact ⟨0, 2 * st.users.length + st.deposits.length, by omega, by omega, by go_num, (by first | rfl | go_num), by simp, by go_grown⟩
    case round =>
      obtain ⟨k, m, hkk, hbk0, rfl, rfl, E, hbel⟩ := hrel
      have hzk := hbel.size
      obtain ⟨hcrk, hfrk⟩ := bcell hbel
      by_cases hltk : k < st.folders.length
      · obtain ⟨x, x_b, x_o, x_A2, x_c2, x_A3, x_c3, x_A4, x_c4, x_A5, x_c5, x_A6, x_c6, x_k, x_d, x_m, rfl, x_l, x_S, x_0, x_1, x_2, x_3, x_4, x_5, x_6, x_R, x_name_le, x_turn_ok, x_manifests_l, x_manifests_m, x_manifests_n, x_manifests_s, x_epochs_l, x_epochs_m, x_epochs_n, x_epochs_s, x_items_l, x_items_m, x_items_n, x_items_s, x_wraps_l, x_wraps_m, x_wraps_n, x_wraps_s, x_links_l, x_links_m, x_links_n, x_links_s⟩ := get_Folder st_folders_s hltk (kept_of (bel_call Bw0 hbel))
        rw [x_d, refSmall] at E
        exfalso
        omega
      · obtain rfl : k = st.folders.length := by omega
        rw [List.drop_length] at E
        have EH := Lib.hid E
        clear E
        go_wp2
        go_ret
        exact ⟨ret_int (by rw [← G.out, ← EH.out]; rfl), bel_call Bw0 hbel⟩

theorem large_any (st : State) (h1 : largeOf st ≤ 1000000) (cs : List Value) (w : World) (S : Nat → Prop) (h : rState S w cs st) :
    Calls Try.prog 14 #[.agg cs.toArray] w fun e w' => e = .returned (.int .i64 ((largeOf st : Nat) : Int)) ∧ Below w.heap.size w w' := by
  obtain ⟨st_A1, st_c1, st_A2, st_c2, st_A3, st_c3, rfl, st_turn_ok, st_users_l, st_users_m, st_users_n, st_users_s, st_deposits_l, st_deposits_m, st_deposits_n, st_deposits_s, st_folders_l, st_folders_m, st_folders_n, st_folders_s⟩ := open_State h
  have H1 := Lib.hid h1
  clear h1
  obtain ⟨w0, hw0, cw0, fzw0, Bw0, qw0⟩ := boxed w #[.int .i64 st.turn, .slice st_A1 st.users.length st_c1, .slice st_A2 st.deposits.length st_c2, .slice st_A3 st.folders.length st_c3] 26
  have w0_0 := cw0 0 _ rfl
  have w0_1 := cw0 1 _ rfl
  have w0_2 := cw0 2 _ rfl
  have w0_3 := cw0 3 _ rfl
  clear cw0
  have zw0 := Bw0.size
  go_enter Try.func14, Try.ntmps14
  have G := Lib.hid (show refLarge st.folders 0 = largeOf st from by rw [refLarge_eq]; unfold largeOf; omega)
  go_wp2
  go_loopw [3, 4] (fun v3 i wr => ∃ (k : Nat) (m : Nat), k ≤ st.folders.length ∧ m ≤ 9223372036854775807 ∧ i = .int .i64 k ∧ v3 = .int .i64 m ∧ refLarge (st.folders.drop k) m = refLarge st.folders 0 ∧ Below w0.heap.size w0 wr) (fun _ i _ => st.folders.length - (intOf i).toNat)
  case atStart => exact ⟨0, 0, by omega, by omega, by go_num, (by first | rfl | go_num), by simp, by go_grown⟩
  case round =>
    obtain ⟨k, m, hkk, hbk0, rfl, rfl, E, hbel⟩ := hrel
    have hzk := hbel.size
    obtain ⟨hcrk, hfrk⟩ := bcell hbel
    by_cases hltk : k < st.folders.length
    · obtain ⟨x, x_b, x_o, x_A2, x_c2, x_A3, x_c3, x_A4, x_c4, x_A5, x_c5, x_A6, x_c6, x_k, x_d, x_m, rfl, x_l, x_S, x_0, x_1, x_2, x_3, x_4, x_5, x_6, x_R, x_name_le, x_turn_ok, x_manifests_l, x_manifests_m, x_manifests_n, x_manifests_s, x_epochs_l, x_epochs_m, x_epochs_n, x_epochs_s, x_items_l, x_items_m, x_items_n, x_items_s, x_wraps_l, x_wraps_m, x_wraps_n, x_wraps_s, x_links_l, x_links_m, x_links_n, x_links_s⟩ := get_Folder st_folders_s hltk (kept_of (bel_call Bw0 hbel))
      rw [x_d, refLarge] at E
      have E3 := E
      rw [refLarge_eq, refLarge_eq, refVer_eq] at E3
      have EH := Lib.hid E
      have b1 : m + x.manifests.length + x.epochs.length + verCount x.items ≤ 1000000 := by have := H1.out; unfold largeOf at this; omega
      clear x_k x_d E E3
      obtain ⟨wb, hwb, cwb, fzwb, Bwb, qwb⟩ := boxed wr #[.string x.name, .int .i64 x.turn, .slice x_A2 x.manifests.length x_c2, .slice x_A3 x.epochs.length x_c3, .slice x_A4 x.items.length x_c4, .slice x_A5 x.wraps.length x_c5, .slice x_A6 x.links.length x_c6] 37
      have wb_0 := cwb 0 _ rfl
      have wb_1 := cwb 1 _ rfl
      have wb_2 := cwb 2 _ rfl
      have wb_3 := cwb 3 _ rfl
      have wb_4 := cwb 4 _ rfl
      have wb_5 := cwb 5 _ rfl
      have wb_6 := cwb 6 _ rfl
      clear cwb
      have zwb := Bwb.size
      go_wp2
      go_loopw [3, 6] (fun v3 i wr => ∃ (k' : Nat) (m' : Nat), k' ≤ x.items.length ∧ m' ≤ 9223372036854775807 ∧ i = .int .i64 k' ∧ v3 = .int .i64 m' ∧ refVer (x.items.drop k') m' = refVer x.items (m + x.manifests.length + x.epochs.length) ∧ Below wb.heap.size wb wr) (fun _ i _ => x.items.length - (intOf i).toNat)
      case atStart => exact ⟨0, m + x.manifests.length + x.epochs.length, by omega, by omega, by go_num, (by first | rfl | go_num), by simp, by go_grown⟩
      case round =>
        obtain ⟨k', m', hkk', hbk'0, rfl, rfl, E2, hbel'⟩ := hrel
        have hzk' := hbel'.size
        obtain ⟨hcrk', hfrk'⟩ := bcell hbel'
        by_cases hltk' : k' < x.items.length
        · obtain ⟨y, y_b, y_o, y_A1, y_c1, y_k, y_d, y_m, rfl, y_l, y_S, y_0, y_1, y_R, y_name_le, y_versions_l, y_versions_m, y_versions_n, y_versions_s⟩ := get_Item x_items_s hltk' (kept_of (bel_call Bwb hbel'))
          rw [y_d, refVer] at E2
          have E4 := E2
          rw [refVer_eq, refVer_eq] at E4
          have b2 : m' + y.versions.length ≤ 1000000 := by omega
          have EH2 := Lib.hid E2
          clear y_k y_d E2 E4
          go_wp2
          go_roundw
          case rel => exact ⟨k' + 1, m' + y.versions.length, by omega, by omega, by go_num, (by first | rfl | go_num | (congr 1; omega)), EH2.out, by go_grown⟩
          case measure => simp [intOf]; omega
        · obtain rfl : k' = x.items.length := by omega
          rw [List.drop_length] at E2
          have EH2 := Lib.hid E2
          clear E2
          go_wp2
          go_roundw
          case rel => exact ⟨k + 1, m', by omega, by omega, by go_num, (by first | rfl | go_num | (congr 1; omega)), by rw [← EH.out, ← EH2.out]; rfl, bel_call hbel (bel_call (by go_grown) hbel')⟩
          case measure => simp [intOf]; omega
    · obtain rfl : k = st.folders.length := by omega
      rw [List.drop_length] at E
      have EH := Lib.hid E
      clear E
      go_wp2
      go_ret
      exact ⟨ret_int (by rw [← G.out, ← EH.out]; rfl), bel_call Bw0 hbel⟩
end Go.Proofs.Ytdddgmmbdofomaa
