/- Layer granted: the chapter's example. No condition. -/
import Derived.Test.YtocofkccdfaaaaaGrEx
namespace Go.Proofs.Ytocofkccdfaaaaa
open Go.RowKit Go.Deep

def nF : Nm := ⟨#[102]⟩
def nA : Nm := ⟨#[97]⟩
def exG : Folder := ⟨nF, 0, [exM nF], [1, 2, 1].map (exE nF), [], [⟨nA, 1, true⟩], []⟩
def exS : State := ⟨0, [⟨nA, false⟩], [], [exG]⟩
theorem ex_edges : edges exS = [(eN nF 2, eN nF 1), (eN nF 3, eN nF 2), (uN nA, eN nF 2)] := by rfl
theorem ex_find : findF exS nF = some exG := by rfl
theorem ex_reach2 : reachP exS nA nF 2 := .step .refl (by rw [ex_edges]; simp)
theorem ex_closed {x : GN} (h : Reach (edges exS) (uN nA) x) : x = uN nA ∨ x = eN nF 2 ∨ x = eN nF 1 := by
  refine h.closed (fun x => x = uN nA ∨ x = eN nF 2 ∨ x = eN nF 1) (.inl rfl) fun y hy hs => ?_
  rw [ex_edges] at hy
  simp only [List.mem_cons, List.not_mem_nil, or_false] at hy
  rcases hy with rfl | rfl | rfl
  · exact .inr (.inr rfl)
  · exact .inr (.inl rfl)
  · exact .inr (.inl rfl)
theorem ex_is : IsReach exS nA nF 2 := by
  refine .inr ⟨exG, ex_find, by decide, by decide, .inr ex_reach2, fun e _ _ h => ?_⟩
  rcases ex_closed h with h | h | h
  · simp [uN, eN] at h
  · simp only [eN, Prod.mk.injEq, true_and] at h; omega
  · simp only [eN, Prod.mk.injEq, true_and] at h; omega
theorem ex_who {R : List Nm} (h : IsNames (WhoP exS nF 2) R) : R = [nA] := by
  refine IsNames.ext h (Q := fun x => x = nA) ⟨by simp, fun x => by simp⟩ fun x => ?_
  constructor
  · rintro ⟨_, _, _, _, ⟨u, hu, rfl⟩, _⟩
    rw [show exS.users = [⟨nA, false⟩] from rfl, List.mem_singleton] at hu
    rw [hu]
  · rintro rfl
    exact ⟨exG, ex_find, by decide, by decide, ⟨_, List.mem_singleton.2 rfl, rfl⟩, ex_reach2⟩
theorem ex_last : lastOf exG.epochs 1 = 2 := by rfl
theorem ex_ok : OkSt exS := by
  refine ⟨fun p hp => ?_, fun f hf => ?_, by rw [ex_edges]; decide, by decide⟩
  · cases hp
  · obtain rfl := List.mem_singleton.1 hf
    refine ⟨by decide, fun w hw => ?_, fun x hx => ?_, by decide⟩
    · obtain rfl := List.mem_singleton.1 hw
      decide
    · cases hx
theorem ints3 (w : World) : Sl 1 rInt (fun _ => True) (w.alloc (.cells #[.int .i64 1, .int .i64 2, .int .i64 1] 3)) (.slice (some ⟨w.heap.size, 0, none⟩) 3 3) [1, 2, 1] := by
  refine Sl_of rfl (Nat.le_refl _) (by decide) (by decide) trivial fun i x hx => ?_
  refine ⟨[.int .i64 x], rfl, fun j y hj => ?_, rfl, ?_⟩
  · have hj0 : j = 0 := by have := (List.getElem?_eq_some_iff.1 hj).1; simpa using this
    subst hj0
    obtain rfl : Value.int .i64 x = y := by simpa using hj
    rw [cell_of_row _ w.heap.size _ _ _ (0, 0) (heap_alloc_new w _)]
    match i, hx with
    | 0, hx => obtain rfl : (1 : Int) = x := by simpa using hx
               rfl
    | 1, hx => obtain rfl : (2 : Int) = x := by simpa using hx
               rfl
    | 2, hx => obtain rfl : (1 : Int) = x := by simpa using hx
               rfl
    | n + 3, hx => simp at hx
  · match i, hx with
    | 0, hx => obtain rfl : (1 : Int) = x := by simpa using hx
               exact ⟨by decide, by decide⟩
    | 1, hx => obtain rfl : (2 : Int) = x := by simpa using hx
               exact ⟨by decide, by decide⟩
    | 2, hx => obtain rfl : (1 : Int) = x := by simpa using hx
               exact ⟨by decide, by decide⟩
    | n + 3, hx => simp at hx
set_option maxHeartbeats 2000000 in
set_option maxRecDepth 100000 in
theorem awake_any (w : World) : Calls Try.prog 7 #[] w fun e w' => e = .returned (.bool true) ∧ Below w.heap.size w w' := by
  have HF := Lib.hid (folder_any nF [1, 2, 1] _ _ _ (ints3 w) (by decide) (by decide))
  go_enter Try.func7, Try.ntmps7
  go_wp2_with fail
  refine Calls.mono HF.out ?_
  rintro e w1 ⟨⟨cs, rfl, hf⟩, B1⟩
  obtain ⟨F, hF⟩ : ∃ F, exF nF [1, 2, 1] = F := ⟨_, rfl⟩
  rw [hF] at hf
  have HB1 := Lib.hid (show Below w.heap.size w w1 from bel_call (by go_grown) B1)
  have HFF := Lib.hid hF
  obtain ⟨F_A2, F_c2, F_A3, F_c3, F_A4, F_c4, F_A5, F_c5, F_A6, F_c6, rfl, F_name_le, F_turn_ok, F_manifests_l, F_manifests_m, F_manifests_n, F_manifests_s, F_epochs_l, F_epochs_m, F_epochs_n, F_epochs_s, F_items_l, F_items_m, F_items_n, F_items_s, F_wraps_l, F_wraps_m, F_wraps_n, F_wraps_s, F_links_l, F_links_m, F_links_n, F_links_s⟩ := open_Folder hf
  clear hF B1
  go_wp2_with fail
  generalize hW : World.alloc _ _ = W
  have B2 : Below w1.heap.size w1 W := by rw [← hW]; go_grown
  have T1 : W.heap[w1.heap.size]? = some (.cells #[.string F.name, .int .i64 F.turn, .slice F_A2 F.manifests.length F_c2, .slice F_A3 F.epochs.length F_c3, .slice F_A4 F.items.length F_c4, .slice (some ⟨w1.heap.size + 1, 0, none⟩) 1 1, .slice F_A6 F.links.length F_c6] 43 (0, 0)) := by
    rw [← hW]
    exact by repeat' (first | (with_reducible assumption) | (with_reducible refine blk_set_other _ ?_ ?_; rotate_left; first | (with_reducible rfl) | ((try dsimp only); first | (with_reducible assumption) | omega | (simp only [World.size_alloc, World.size_setCell, World.size_drew]; done) | (simp only [World.size_alloc, World.size_setCell, World.size_drew]; omega))) | (with_reducible apply blk_set_same) | ((with_reducible apply blk_alloc_new); first | (with_reducible rfl) | ((try dsimp only); first | (with_reducible assumption) | omega | (simp only [World.size_alloc, World.size_setCell, World.size_drew]; done) | (simp only [World.size_alloc, World.size_setCell, World.size_drew]; omega))) | (with_reducible refine blk_alloc_old _ ?_) | (with_reducible refine blk_drew ?_) | (refine (rfl : (_ : Array Value) = _)))
  have T2 : W.heap[w1.heap.size + 1]? = some (.cells #[.string ⟨#[97]⟩, .int .i64 1, .bool true] 28 (0, 0)) := by
    rw [← hW]
    exact by repeat' (first | (with_reducible assumption) | (with_reducible refine blk_set_other _ ?_ ?_; rotate_left; first | (with_reducible rfl) | ((try dsimp only); first | (with_reducible assumption) | omega | (simp only [World.size_alloc, World.size_setCell, World.size_drew]; done) | (simp only [World.size_alloc, World.size_setCell, World.size_drew]; omega))) | (with_reducible apply blk_set_same) | ((with_reducible apply blk_alloc_new); first | (with_reducible rfl) | ((try dsimp only); first | (with_reducible assumption) | omega | (simp only [World.size_alloc, World.size_setCell, World.size_drew]; done) | (simp only [World.size_alloc, World.size_setCell, World.size_drew]; omega))) | (with_reducible refine blk_alloc_old _ ?_) | (with_reducible refine blk_drew ?_) | (refine (rfl : (_ : Array Value) = _)))
  have T3 : W.heap[w1.heap.size + 1 + 1]? = some (.cells #[.string ⟨#[97]⟩, .bool false] 50 (0, 0)) := by
    rw [← hW]
    exact by repeat' (first | (with_reducible assumption) | (with_reducible refine blk_set_other _ ?_ ?_; rotate_left; first | (with_reducible rfl) | ((try dsimp only); first | (with_reducible assumption) | omega | (simp only [World.size_alloc, World.size_setCell, World.size_drew]; done) | (simp only [World.size_alloc, World.size_setCell, World.size_drew]; omega))) | (with_reducible apply blk_set_same) | ((with_reducible apply blk_alloc_new); first | (with_reducible rfl) | ((try dsimp only); first | (with_reducible assumption) | omega | (simp only [World.size_alloc, World.size_setCell, World.size_drew]; done) | (simp only [World.size_alloc, World.size_setCell, World.size_drew]; omega))) | (with_reducible refine blk_alloc_old _ ?_) | (with_reducible refine blk_drew ?_) | (refine (rfl : (_ : Array Value) = _)))
  have T4 : W.heap[w1.heap.size + 1 + 1 + 1]? = some (.cells #[.string F.name, .int .i64 F.turn, .slice F_A2 F.manifests.length F_c2, .slice F_A3 F.epochs.length F_c3, .slice F_A4 F.items.length F_c4, .slice (some ⟨w1.heap.size + 1, 0, none⟩) 1 1, .slice F_A6 F.links.length F_c6] 43 (0, 0)) := by
    rw [← hW]
    exact by repeat' (first | (with_reducible assumption) | (with_reducible refine blk_set_other _ ?_ ?_; rotate_left; first | (with_reducible rfl) | ((try dsimp only); first | (with_reducible assumption) | omega | (simp only [World.size_alloc, World.size_setCell, World.size_drew]; done) | (simp only [World.size_alloc, World.size_setCell, World.size_drew]; omega))) | (with_reducible apply blk_set_same) | ((with_reducible apply blk_alloc_new); first | (with_reducible rfl) | ((try dsimp only); first | (with_reducible assumption) | omega | (simp only [World.size_alloc, World.size_setCell, World.size_drew]; done) | (simp only [World.size_alloc, World.size_setCell, World.size_drew]; omega))) | (with_reducible refine blk_alloc_old _ ?_) | (with_reducible refine blk_drew ?_) | (refine (rfl : (_ : Array Value) = _)))
  have T5 : W.heap[w1.heap.size + 1 + 1 + 1 + 1]? = some (.cells #[.int .i64 0, .slice (some ⟨w1.heap.size + 1 + 1, 0, none⟩) 1 1, .slice none 0 0, .slice (some ⟨w1.heap.size + 1 + 1 + 1, 0, none⟩) 1 1] 26 (0, 0)) := by
    rw [← hW]
    exact by repeat' (first | (with_reducible assumption) | (with_reducible refine blk_set_other _ ?_ ?_; rotate_left; first | (with_reducible rfl) | ((try dsimp only); first | (with_reducible assumption) | omega | (simp only [World.size_alloc, World.size_setCell, World.size_drew]; done) | (simp only [World.size_alloc, World.size_setCell, World.size_drew]; omega))) | (with_reducible apply blk_set_same) | ((with_reducible apply blk_alloc_new); first | (with_reducible rfl) | ((try dsimp only); first | (with_reducible assumption) | omega | (simp only [World.size_alloc, World.size_setCell, World.size_drew]; done) | (simp only [World.size_alloc, World.size_setCell, World.size_drew]; omega))) | (with_reducible refine blk_alloc_old _ ?_) | (with_reducible refine blk_drew ?_) | (refine (rfl : (_ : Array Value) = _)))
  clear hW
  have HRF := Lib.hid (show rFolder (fun _ => True) W [.string F.name, .int .i64 F.turn, .slice F_A2 F.manifests.length F_c2, .slice F_A3 F.epochs.length F_c3, .slice F_A4 F.items.length F_c4, .slice (some ⟨w1.heap.size + 1, 0, none⟩) 1 1, .slice F_A6 F.links.length F_c6] exG from by
    obtain rfl := HFF.out
    have kk := kept_of (S := fun _ => True) B2
    exact ⟨_, _, _, _, _, rfl, by decide, ⟨by decide, by decide⟩, Sl.keep rManifest_ok (by decide) ⟨_, _, rfl, F_manifests_l, F_manifests_m, F_manifests_n, F_manifests_s⟩ kk, Sl.keep rEpoch_ok (by decide) ⟨_, _, rfl, F_epochs_l, F_epochs_m, F_epochs_n, F_epochs_s⟩ kk, Sl.keep rItem_ok (by decide) ⟨_, _, rfl, F_items_l, F_items_m, F_items_n, F_items_s⟩ kk,
      Sl_one [.string ⟨#[97]⟩, .int .i64 1, .bool true] (Nat.le_refl _) (by decide) trivial rfl (fun j y hj => by rw [Nat.zero_add]; exact (blk_cells T2).1 j y (by simpa using hj)) ⟨rfl, by decide, ⟨by decide, by decide⟩⟩, Sl.keep rLink_ok (by decide) ⟨_, _, rfl, F_links_l, F_links_m, F_links_n, F_links_s⟩ kk⟩)
  have HRS := Lib.hid (show rState (fun _ => True) W [.int .i64 0, .slice (some ⟨w1.heap.size + 1 + 1, 0, none⟩) 1 1, .slice none 0 0, .slice (some ⟨w1.heap.size + 1 + 1 + 1, 0, none⟩) 1 1] exS from ⟨_, _, _, rfl, ⟨by decide, by decide⟩,
      Sl_one [.string ⟨#[97]⟩, .bool false] (Nat.le_refl _) (by decide) trivial rfl (fun j y hj => by rw [Nat.zero_add]; exact (blk_cells T3).1 j y (by simpa using hj)) ⟨rfl, by decide⟩, Sl_nil _ _ _ _,
      Sl_one _ (Nat.le_refl _) (by decide) trivial rfl (fun j y hj => by rw [Nat.zero_add]; exact (blk_cells T4).1 j y (by simpa using hj)) HRF.out⟩)
  have HB2 := Lib.hid B2
  have HT1 := Lib.hid T1
  have HT5 := Lib.hid T5
  clear B2 T1 T2 T3 T4 T5
  refine Calls.mono (reaches_any exS nA nF _ W _ HRS.out ex_ok (by decide)) ?_
  rintro e w2 ⟨⟨n, rfl, hn⟩, b2⟩
  obtain rfl : n = 2 := hn.one ex_is
  have k5 := (blk_cells ((b2.block _ (blk_lt HT5.out)).trans HT5.out)).1
  have s0 := k5 0 _ rfl
  have s1 := k5 1 _ rfl
  have s2 := k5 2 _ rfl
  have s3 := k5 3 _ rfl
  have HB3 := Lib.hid b2
  clear k5 hn b2
  go_wp2_with fail
  clear s0 s1 s2 s3
  refine Calls.mono (who_any exS nF 2 _ w2 _ (rState_keep HRS.out (kept_of HB3.out)) ex_ok (fun u hu => by obtain rfl := List.mem_singleton.1 hu; decide) (by decide)) ?_
  rintro e w3 ⟨⟨v, R, rfl, hS, hI, _⟩, b3⟩
  obtain rfl := ex_who hI
  have HV := Lib.hid hS
  have HB4 := Lib.hid (bel_call HB3.out b3)
  clear hS hI b3
  go_wp2_with fail
  obtain ⟨w4, hw4, cw4, fw4, Bw4, qw4⟩ := boxed w3 #[.string ⟨#[97]⟩] 9
  have HU := Lib.hid (show Sl 1 rStr (fun _ => True) w4 (.slice (some ⟨w3.heap.size, 0, none⟩) 1 1) [nA] from Sl_one [.string nA] (Nat.le_refl _) (by decide) trivial rfl (fun j y hj => by rw [Nat.zero_add]; exact cw4 j y (by simpa [nA] using hj)) ⟨rfl, by decide⟩)
  have HV4 := Lib.hid (HV.out.keep rStr_ok (by decide) (kept_of Bw4))
  have HB5 := Lib.hid (bel_call HB4.out Bw4)
  clear cw4 fw4 Bw4
  rw [hw4]
  clear hw4
  refine Calls.mono (same_any [nA] [nA] _ _ w4 _ _ HV4.out HU.out rfl) ?_
  rintro e w5 ⟨rfl, b5⟩
  have HB6 := Lib.hid (bel_call HB5.out b5)
  have k1 := (blk_cells ((HB6.out.block _ (blk_lt HT1.out)).trans HT1.out)).1
  have s0 := k1 0 _ rfl
  have s1 := k1 1 _ rfl
  have s2 := k1 2 _ rfl
  have s3 := k1 3 _ rfl
  have s4 := k1 4 _ rfl
  have s5 := k1 5 _ rfl
  have s6 := k1 6 _ rfl
  clear k1 b5
  go_wp2_with fail
  clear s0 s1 s2 s3 s4 s5 s6
  refine Calls.mono (last_any exG 1 ⟨by decide, by decide⟩ _ w5 _ (rFolder_keep HRF.out (kept_of HB6.out))) ?_
  rw [ex_last]
  rintro e w6 ⟨rfl, b6⟩
  have HB7 := Lib.hid (bel_call HB1.out (bel_call HB2.out (bel_call HB6.out b6)))
  clear b6
  go_wp2
  go_ret
  exact ⟨rfl, HB7.out⟩
end Go.Proofs.Ytocofkccdfaaaaa
