/- Layer bound: the sums over all folders, and what is made of them. Conditions: the counts are at most a million. -/
import Derived.Test.YtdddgmmbdofomaaBoundA
namespace Go.Proofs.Ytdddgmmbdofomaa
open Go.RowKit Go.Deep

def sumOf (g : Folder → Nat) : List Folder → Nat
  | [] => 0
  | f :: l => g f + sumOf g l
theorem sumOf_mem (g : Folder → Nat) : ∀ (l : List Folder) (f : Folder), f ∈ l → g f ≤ sumOf g l
  | [], f, h => by simp at h
  | x :: l, f, h => by
    rcases List.mem_cons.1 h with rfl | h
    · simp [sumOf]
    · have := sumOf_mem g l f h; simp [sumOf]; omega

def GoodOne (K : FuncId) (g : Folder → Nat) (l : List Folder) : Prop :=
  ∀ (f : Folder) (cs : List Value) (w : World) (S : Nat → Prop), rFolder S w cs f → f ∈ l → Calls Try.prog K #[.agg cs.toArray] w fun e w' => e = .returned (.int .i64 ((g f : Nat) : Int)) ∧ Below w.heap.size w w'

theorem sum_any (K : FuncId) (hK : K = 24 ∨ K = 25 ∨ K = 26) (g : Folder → Nat) (st : State) (hg : GoodOne K g st.folders) (hb : sumOf g st.folders ≤ 1000000)
    (cs : List Value) (w : World) (S : Nat → Prop) (h : rState S w cs st) :
    Calls Try.prog 23 #[.agg cs.toArray, .func (.func K) #[] #[]] w fun e w' => e = .returned (.int .i64 ((sumOf g st.folders : Nat) : Int)) ∧ Below w.heap.size w w' := by
  obtain ⟨st_A1, st_c1, st_A2, st_c2, st_A3, st_c3, rfl, st_turn_ok, st_users_l, st_users_m, st_users_n, st_users_s, st_deposits_l, st_deposits_m, st_deposits_n, st_deposits_s, st_folders_l, st_folders_m, st_folders_n, st_folders_s⟩ := open_State h
  have hgH : Hid (GoodOne K g st.folders) := hg
  clear hg
  rcases hK with rfl | rfl | rfl
  all_goals
    go_enter Try.func23, Try.ntmps23
    go_wp2
    go_loopw [5, 11] (fun n i wr => ∃ k m : Nat, k ≤ st.folders.length ∧ i = .int .i64 k ∧ n = .int .i64 m ∧ m + sumOf g (st.folders.drop k) = sumOf g st.folders ∧ Below w.heap.size w wr) (fun n i _ => st.folders.length - (intOf i).toNat)
    case atStart =>
      exact ⟨0, 0, by omega, by go_num, by go_num, by simp, by go_grown⟩
    case round =>
      obtain ⟨k, m, hk, rfl, rfl, E, hbel⟩ := hrel
      have hz := hbel.size
      by_cases hlt : k < st.folders.length
      · obtain ⟨x, x_b, x_o, x_A2, x_c2, x_A3, x_c3, x_A4, x_c4, x_A5, x_c5, x_A6, x_c6, x_k, x_d, x_m, rfl, x_l, x_S, x_0, x_1, x_2, x_3, x_4, x_5, x_6, x_R, x_name_le, x_turn_ok, x_manifests_l, x_manifests_m, x_manifests_n, x_manifests_s, x_epochs_l, x_epochs_m, x_epochs_n, x_epochs_s, x_items_l, x_items_m, x_items_n, x_items_s, x_wraps_l, x_wraps_m, x_wraps_n, x_wraps_s, x_links_l, x_links_m, x_links_n, x_links_s⟩ := get_Folder st_folders_s hlt (kept_of hbel)
        rw [x_d, sumOf] at E
        have b1 : m + g x ≤ 1000000 := by omega
        have EH := Lib.hid E
        clear x_k x_d E
        go_wp2_with fail
        refine (hgH.out x _ _ S (rFolder_keep x_R (Kept.below (by go_grown) fun _ h => h)) x_m).mono ?_
        rintro e w1 ⟨rfl, hb1⟩
        go_wp2
        go_roundw
        case rel => exact ⟨k + 1, m + g x, by omega, by go_num, by go_num, by rw [← EH.out]; omega, bel_call (by go_grown) hb1⟩
        case measure => simp [intOf]; omega
      · obtain rfl : k = st.folders.length := by omega
        rw [List.drop_length] at E
        have EH := Lib.hid E
        clear E
        go_wp2
        go_ret
        exact ⟨by rw [← EH.out]; simp [sumOf], hbel⟩


/-! What the counts are. -/
def small1 (f : Folder) : Nat := f.items.length + f.wraps.length + f.links.length
theorem good1 (l : List Folder) (h : sumOf small1 l ≤ 1000000) : GoodOne 24 small1 l := fun f cs w S hR hm =>
  count1_any f cs w S hR (by have := sumOf_mem small1 l f hm; unfold small1 at this h; omega)
theorem good2 (l : List Folder) (h : sumOf large1 l ≤ 1000000) : GoodOne 25 large1 l := fun f cs w S hR hm =>
  count2_any f cs w S hR (by have := sumOf_mem large1 l f hm; omega)

end Go.Proofs.Ytdddgmmbdofomaa
