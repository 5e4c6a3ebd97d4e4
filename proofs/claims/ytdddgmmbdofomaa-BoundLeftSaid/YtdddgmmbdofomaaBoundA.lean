/- Layer bound: what each function that only reads computes, of any state that is small. Conditions: the counts are at most a million. -/
import Derived.Test.YtdddgmmbdofomaaApi
namespace Go.Proofs.Ytdddgmmbdofomaa
open Go.RowKit Go.Deep

theorem count1_any (f : Folder) (cs : List Value) (w : World) (S : Nat → Prop) (h : rFolder S w cs f) (hb : f.items.length + f.wraps.length + f.links.length ≤ 1000000) :
    Calls Try.prog 24 #[.agg cs.toArray] w fun e w' => e = .returned (.int .i64 ((f.items.length + f.wraps.length + f.links.length : Nat) : Int)) ∧ Below w.heap.size w w' := by
  obtain ⟨f_A2, f_c2, f_A3, f_c3, f_A4, f_c4, f_A5, f_c5, f_A6, f_c6, rfl, f_name_le, f_turn_ok, f_manifests_l, f_manifests_m, f_manifests_n, f_manifests_s, f_epochs_l, f_epochs_m, f_epochs_n, f_epochs_s, f_items_l, f_items_m, f_items_n, f_items_s, f_wraps_l, f_wraps_m, f_wraps_n, f_wraps_s, f_links_l, f_links_m, f_links_n, f_links_s⟩ := open_Folder h
  go_enter Try.func24, Try.ntmps24
  go_wp2
  go_ret
  exact ⟨by simp, by go_grown⟩

def verCount : List Item → Nat
  | [] => 0
  | x :: l => x.versions.length + verCount l
def large1 (f : Folder) : Nat := f.manifests.length + f.epochs.length + verCount f.items

theorem count2_any (f : Folder) (cs : List Value) (w : World) (S : Nat → Prop) (h : rFolder S w cs f) (hb : large1 f ≤ 1000000) :
    Calls Try.prog 25 #[.agg cs.toArray] w fun e w' => e = .returned (.int .i64 ((large1 f : Nat) : Int)) ∧ Below w.heap.size w w' := by
  obtain ⟨f_A2, f_c2, f_A3, f_c3, f_A4, f_c4, f_A5, f_c5, f_A6, f_c6, rfl, f_name_le, f_turn_ok, f_manifests_l, f_manifests_m, f_manifests_n, f_manifests_s, f_epochs_l, f_epochs_m, f_epochs_n, f_epochs_s, f_items_l, f_items_m, f_items_n, f_items_s, f_wraps_l, f_wraps_m, f_wraps_n, f_wraps_s, f_links_l, f_links_m, f_links_n, f_links_s⟩ := open_Folder h
  unfold large1 at hb
  go_enter Try.func25, Try.ntmps25
  go_wp2
  go_loopw [3, 16] (fun n i wr => ∃ k m : Nat, k ≤ f.items.length ∧ i = .int .i64 k ∧ n = .int .i64 m ∧ m + verCount (f.items.drop k) = large1 f ∧ Below w.heap.size w wr) (fun n i _ => f.items.length - (intOf i).toNat)
  case atStart =>
    exact ⟨0, f.manifests.length + f.epochs.length, by omega, by go_num, by go_num, by simp [large1], by go_grown⟩
  case round =>
    obtain ⟨k, m, hk, rfl, rfl, E, hbel⟩ := hrel
    have hz := hbel.size
    by_cases hlt : k < f.items.length
    · obtain ⟨x, x_b, x_o, x_A1, x_c1, x_k, x_d, x_m, rfl, x_l, x_S, x_0, x_1, x_R, x_name_le, x_versions_l, x_versions_m, x_versions_n, x_versions_s⟩ := get_Item f_items_s hlt (kept_of hbel)
      rw [x_d, verCount] at E
      have b1 : m + x.versions.length ≤ 1000000 := by unfold large1 at E; omega
      have EH := Lib.hid E
      clear x_k x_d E
      go_wp2
      go_roundw
      case rel => exact ⟨k + 1, m + x.versions.length, by omega, by go_num, by go_num, by rw [← EH.out]; omega, by go_grown⟩
      case measure => simp [intOf]; omega
    · obtain rfl : k = f.items.length := by omega
      rw [List.drop_length] at E
      have EH := Lib.hid E
      clear E
      go_wp2
      go_ret
      exact ⟨by rw [← EH.out]; simp [verCount], hbel⟩
end Go.Proofs.Ytdddgmmbdofomaa
