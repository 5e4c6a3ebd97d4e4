/- Layer granted: First; the document's At, Now, First, Last. Conditions: as each theorem says. -/
import Derived.Test.YtocofkccdfaaaaaGrOk
namespace Go.Proofs.Ytocofkccdfaaaaa
open Go.RowKit Go.Deep

/-- The first epoch of a segment: of the epochs up to k. -/
def firstN (l : List Epoch) : Nat → Nat
  | 0 => 0
  | 1 => 1
  | k + 2 => if ((l[k + 1]?).map Epoch.place) = some 1 then k + 2 else firstN l (k + 1)
def firstOf (l : List Epoch) (e : Int) : Int := if 1 ≤ e ∧ e ≤ l.length then firstN l e.toNat else e
theorem firstOf_out {l : List Epoch} {e : Int} (h : ¬ (1 ≤ e ∧ e ≤ l.length)) : firstOf l e = e := by rw [firstOf, if_neg h]
theorem firstOf_in {l : List Epoch} {k : Nat} (h1 : 1 ≤ k) (h2 : k ≤ l.length) : firstOf l k = firstN l k := by
  rw [firstOf, if_pos ⟨by omega, by omega⟩]
  rfl
theorem firstN_step {l : List Epoch} {k : Nat} {x : Epoch} (hx : l[k + 1]? = some x) : firstN l (k + 2) = if x.place = 1 then k + 2 else firstN l (k + 1) := by
  rw [firstN, hx]
  simp
set_option maxHeartbeats 2000000 in
set_option maxRecDepth 100000 in
theorem first_any (f : Folder) (n : Int) (hn : I64 n) (cs : List Value) (w : World) (S : Nat → Prop) (h : rFolder S w cs f) : Calls Try.prog 25 #[.agg cs.toArray, .int .i64 n] w fun e w' => e = .returned (.int .i64 (firstOf f.epochs n)) ∧ Below w.heap.size w w' := by
  have HR := Lib.hid h
  obtain ⟨f_A2, f_c2, f_A3, f_c3, f_A4, f_c4, f_A5, f_c5, f_A6, f_c6, rfl, f_name_le, f_turn_ok, f_manifests_l, f_manifests_m, f_manifests_n, f_manifests_s, f_epochs_l, f_epochs_m, f_epochs_n, f_epochs_s, f_items_l, f_items_m, f_items_n, f_items_s, f_wraps_l, f_wraps_m, f_wraps_n, f_wraps_s, f_links_l, f_links_m, f_links_n, f_links_s⟩ := open_Folder h
  obtain ⟨w0, hw0, cw0, fw0, Bw0, qw0⟩ := boxed w #[.string f.name, .int .i64 f.turn, .slice f_A2 f.manifests.length f_c2, .slice f_A3 f.epochs.length f_c3, .slice f_A4 f.items.length f_c4, .slice f_A5 f.wraps.length f_c5, .slice f_A6 f.links.length f_c6] 43
  have HC0 := Lib.hid cw0
  have HB0 := Lib.hid Bw0
  have HH := Lib.hid (hasf_any f n _ w0 S (rFolder_keep HR.out (kept_of Bw0)))
  have b0 := cw0 0 _ rfl
  have b1 := cw0 1 _ rfl
  have b2 := cw0 2 _ rfl
  have b3 := cw0 3 _ rfl
  have b4 := cw0 4 _ rfl
  have b5 := cw0 5 _ rfl
  have b6 := cw0 6 _ rfl
  clear cw0 fw0 Bw0 f_manifests_s f_items_s f_wraps_s f_links_s
  cases hh : hasE f n with
  | false =>
    have HE := Lib.hid (firstOf_out (l := f.epochs) (e := n) fun h => by rw [hasE_iff.2 h] at hh; cases hh)
    rw [hh] at HH
    clear hh
    go_enter Try.func25, Try.ntmps25
    go_wp2_with (go_at_call 38; refine Calls.mono HH.out ?_; rintro e w1 ⟨rfl, b⟩; have HB1 := Lib.hid b; clear b)
    go_ret
    exact ⟨by rw [HE.out]; rfl, bel_call HB0.out HB1.out⟩
  | true =>
    obtain ⟨h1, h2⟩ := hasE_iff.1 hh
    rw [hh] at HH
    obtain ⟨k, rfl⟩ : ∃ k : Nat, n = k := ⟨n.toNat, by omega⟩
    have HE := Lib.hid (firstOf_in (l := f.epochs) (k := k) (by omega) (by omega))
    have hfl : f.epochs.length ≤ 140737488355328 := f_epochs_n
    clear hh hn
    go_enter Try.func25, Try.ntmps25
    go_wp2_with (go_at_call 38; refine Calls.mono HH.out ?_; rintro e w1 ⟨rfl, b⟩; have HB1 := Lib.hid b; have d3 := (b.cell (p := ⟨w.heap.size, 3, none⟩) qw0).trans (HC0.out 3 _ rfl); clear b)
    clear hw0 b0 b1 b2 b3 b4 b5 b6
    go_loop [1] (fun i => ∃ m : Nat, 1 ≤ m ∧ m ≤ k ∧ i = .int .i64 m ∧ Hid (firstN f.epochs m = firstN f.epochs k)) (fun i => (RowKit.intOf i).toNat)
    case atStart => exact ⟨k, by omega, Nat.le_refl _, rfl, Lib.hid rfl⟩
    case round =>
      obtain ⟨m, hm, hmk, rfl, HF⟩ := hrel
      rcases Nat.lt_or_ge 1 m with hm1 | hm1
      · obtain ⟨q, rfl⟩ : ∃ q, m = q + 2 := ⟨m - 2, by omega⟩
        obtain ⟨x, hx⟩ : ∃ x, f.epochs[q + 1]? = some x := ⟨_, List.getElem?_eq_getElem (by omega)⟩
        obtain ⟨b, o, ys, hA, hbl, hRx, hcz⟩ := SlAt.elem f_epochs_s hx (by decide) (bel_call HB0.out HB1.out)
        obtain ⟨x_A3, x_c3, rfl, x_place_ok, x_frm_ok, x_seq_ok, x_chain_l, x_chain_m, x_chain_n, x_chain_s, x_who_le⟩ := open_Epoch hRx
        have u0 := hcz 0 _ rfl
        rw [Nat.add_zero] at u0
        subst hA
        have hqi : ((q + 1 : Nat) : Int) < (f.epochs.length : Int) := by omega
        have hqi2 : (q : Int) + 1 < (f.epochs.length : Int) := by omega
        have hg : decide ((1 : Int) < (q : Int) + 2) = true := decide_eq_true (by omega)
        have hw1 : IntKind.i64.wrap ((q : Int) + 2 - 1) = ((q + 1 : Nat) : Int) := by rw [IntWalk.i64_in _ (by omega)]; omega
        have HS := Lib.hid (firstN_step hx)
        clear hcz hx x_chain_s
        by_cases hp : x.place = 1
        · have hpe : (x.place == 1) = true := by simp [hp]
          have HG := Lib.hid (show ((q + 2 : Nat) : Int) = firstOf f.epochs k by rw [HE.out, ← HF.out, HS.out, if_pos hp])
          clear hp
          go_wp2
          go_ret
          exact ⟨by rw [← HG.out]; rfl, bel_call HB0.out HB1.out⟩
        · have hpe : (x.place == 1) = false := by simp [hp]
          have HG := Lib.hid (show firstN f.epochs (q + 1) = firstN f.epochs k by rw [← HF.out, HS.out, if_neg hp])
          clear hp
          go_wp2
          go_round
          case rel => exact ⟨q + 1, by omega, by omega, by go_num, HG⟩
          case measure => first | (simp [RowKit.intOf]; done) | (simp [RowKit.intOf]; omega)
      · obtain rfl : m = 1 := by omega
        have HG := Lib.hid (show (1 : Int) = firstOf f.epochs k by first | (rw [HE.out, ← HF.out]; done) | (rw [HE.out, ← HF.out]; rfl))
        go_wp2
        go_ret
        exact ⟨by rw [← HG.out]; rfl, bel_call HB0.out HB1.out⟩
/-! The document's. -/
set_option maxHeartbeats 2000000 in
set_option maxRecDepth 100000 in
theorem reffirst_any (f : Folder) (n : Int) (hn : I64 n) (cs : List Value) (w : World) (S : Nat → Prop) (h : rFolder S w cs f) : Calls Try.prog 26 #[.agg cs.toArray, .int .i64 n] w fun e w' => e = .returned (.int .i64 (firstOf f.epochs n)) ∧ Below w.heap.size w w' := by
  obtain ⟨f_A2, f_c2, f_A3, f_c3, f_A4, f_c4, f_A5, f_c5, f_A6, f_c6, rfl, f_name_le, f_turn_ok, f_manifests_l, f_manifests_m, f_manifests_n, f_manifests_s, f_epochs_l, f_epochs_m, f_epochs_n, f_epochs_s, f_items_l, f_items_m, f_items_n, f_items_s, f_wraps_l, f_wraps_m, f_wraps_n, f_wraps_s, f_links_l, f_links_m, f_links_n, f_links_s⟩ := open_Folder h
  obtain ⟨w0, hw0, cw0, fw0, Bw0, qw0⟩ := boxed w #[.string f.name, .int .i64 f.turn, .slice f_A2 f.manifests.length f_c2, .slice f_A3 f.epochs.length f_c3, .slice f_A4 f.items.length f_c4, .slice f_A5 f.wraps.length f_c5, .slice f_A6 f.links.length f_c6] 43
  have HB0 := Lib.hid Bw0
  have b3 := cw0 3 _ rfl
  clear cw0 fw0 Bw0 f_manifests_s f_items_s f_wraps_s f_links_s
  by_cases h1 : n < 1
  · have HE := Lib.hid (firstOf_out (l := f.epochs) (e := n) fun h => by omega)
    have hd : decide (n < 1) = true := decide_eq_true h1
    clear h1
    go_enter Try.func26, Try.ntmps26
    go_wp2
    go_ret
    exact ⟨by rw [HE.out]; rfl, HB0.out⟩
  have hd : decide (n < 1) = false := decide_eq_false h1
  by_cases h2 : (f.epochs.length : Int) < n
  · have HE := Lib.hid (firstOf_out (l := f.epochs) (e := n) fun h => by omega)
    have hd2 : decide ((f.epochs.length : Int) < n) = true := decide_eq_true h2
    clear h1 h2
    go_enter Try.func26, Try.ntmps26
    go_wp2
    go_ret
    exact ⟨by rw [HE.out]; rfl, HB0.out⟩
  have hd2 : decide ((f.epochs.length : Int) < n) = false := decide_eq_false h2
  obtain ⟨k, rfl⟩ : ∃ k : Nat, n = k := ⟨n.toNat, by omega⟩
  have hk1 : 1 ≤ k := by omega
  have hk2 : k ≤ f.epochs.length := by omega
  have HE := Lib.hid (firstOf_in (l := f.epochs) hk1 hk2)
  have hfl : f.epochs.length ≤ 140737488355328 := f_epochs_n
  clear h1 h2 hn
  go_enter Try.func26, Try.ntmps26
  go_wp2
  clear hw0
  go_loop [5, 6] (fun s i => ∃ m : Nat, m ≤ k ∧ i = .int .i64 ((m + 1 : Nat) : Int) ∧ s = .int .i64 ((if m = 0 then 1 else firstN f.epochs m : Nat) : Int)) (fun _ i => k + 1 - (RowKit.intOf i).toNat)
  case atStart => exact ⟨0, by omega, rfl, rfl⟩
  case round =>
    obtain ⟨m, hm, rfl, rfl⟩ := hrel
    rcases Nat.lt_or_ge m k with hmk | hmk
    · obtain ⟨x, hx⟩ : ∃ x, f.epochs[m]? = some x := ⟨_, List.getElem?_eq_getElem (by omega)⟩
      obtain ⟨b, o, ys, hA, hbl, hRx, hcz⟩ := SlAt.elem f_epochs_s hx (by decide) HB0.out
      obtain ⟨x_A3, x_c3, rfl, x_place_ok, x_frm_ok, x_seq_ok, x_chain_l, x_chain_m, x_chain_n, x_chain_s, x_who_le⟩ := open_Epoch hRx
      have u0 := hcz 0 _ rfl
      rw [Nat.add_zero] at u0
      subst hA
      have hmi : (m : Int) < (f.epochs.length : Int) := by omega
      have hle : decide ((m : Int) + 1 ≤ (k : Int)) = true := decide_eq_true (by omega)
      have hw1 : IntKind.i64.wrap ((m : Int) + 1 - 1) = (m : Int) := by rw [IntWalk.i64_in _ (by omega)]; omega
      have hw2 : IntKind.i64.wrap ((m : Int) + 1 + 1) = (m : Int) + 1 + 1 := IntWalk.i64_in _ (by omega)
      have HS := Lib.hid (show firstN f.epochs (m + 1) = if x.place = 1 then m + 1 else if m = 0 then 1 else firstN f.epochs m by
        rcases m with _ | m
        · by_cases hp : x.place = 1 <;> simp [firstN, hp]
        · rw [firstN_step hx]; simp)
      clear hcz hx x_chain_s
      generalize hq : (if m = 0 then 1 else firstN f.epochs m : Nat) = q at HS
      clear hq
      by_cases hp : x.place = 1
      · have hpe : (x.place == 1) = true := by simp [hp]
        rw [if_pos hp] at HS
        clear hp
        go_wp2
        go_round
        case rel => exact ⟨m + 1, by omega, by go_num, by first | (rw [if_neg (by omega), HS.out]; done) | (rw [if_neg (by omega), HS.out]; rfl)⟩
        case measure => simp [RowKit.intOf]; omega
      · have hpe : (x.place == 1) = false := by simp [hp]
        rw [if_neg hp] at HS
        clear hp
        go_wp2
        go_round
        case rel => exact ⟨m + 1, by omega, by go_num, by rw [if_neg (by omega), HS.out]⟩
        case measure => simp [RowKit.intOf]; omega
    · obtain rfl : m = k := by omega
      have hle : decide ((m : Int) + 1 ≤ (m : Int)) = false := decide_eq_false (by omega)
      have HG := Lib.hid (show ((if m = 0 then 1 else firstN f.epochs m : Nat) : Int) = firstOf f.epochs m by rw [HE.out, if_neg (by omega)])
      generalize ((if m = 0 then 1 else firstN f.epochs m : Nat) : Int) = q at HG
      go_wp2
      go_ret
      exact ⟨by rw [← HG.out]; rfl, HB0.out⟩
set_option maxHeartbeats 2000000 in
set_option maxRecDepth 100000 in
theorem reflast_any (f : Folder) (n : Int) (hn : I64 n) (cs : List Value) (w : World) (S : Nat → Prop) (h : rFolder S w cs f) : Calls Try.prog 28 #[.agg cs.toArray, .int .i64 n] w fun e w' => e = .returned (.int .i64 (lastOf f.epochs n)) ∧ Below w.heap.size w w' := by
  obtain ⟨f_A2, f_c2, f_A3, f_c3, f_A4, f_c4, f_A5, f_c5, f_A6, f_c6, rfl, f_name_le, f_turn_ok, f_manifests_l, f_manifests_m, f_manifests_n, f_manifests_s, f_epochs_l, f_epochs_m, f_epochs_n, f_epochs_s, f_items_l, f_items_m, f_items_n, f_items_s, f_wraps_l, f_wraps_m, f_wraps_n, f_wraps_s, f_links_l, f_links_m, f_links_n, f_links_s⟩ := open_Folder h
  obtain ⟨w0, hw0, cw0, fw0, Bw0, qw0⟩ := boxed w #[.string f.name, .int .i64 f.turn, .slice f_A2 f.manifests.length f_c2, .slice f_A3 f.epochs.length f_c3, .slice f_A4 f.items.length f_c4, .slice f_A5 f.wraps.length f_c5, .slice f_A6 f.links.length f_c6] 43
  have HB0 := Lib.hid Bw0
  have b3 := cw0 3 _ rfl
  clear cw0 fw0 Bw0 f_manifests_s f_items_s f_wraps_s f_links_s
  by_cases h1 : n < 1
  · have HE := Lib.hid (lastOf_out (l := f.epochs) (e := n) fun h => by omega)
    have hd : decide (n < 1) = true := decide_eq_true h1
    clear h1
    go_enter Try.func28, Try.ntmps28
    go_wp2
    go_ret
    exact ⟨by rw [HE.out]; rfl, HB0.out⟩
  have hd : decide (n < 1) = false := decide_eq_false h1
  have hfl : f.epochs.length ≤ 140737488355328 := f_epochs_n
  obtain ⟨k, rfl⟩ : ∃ k : Nat, n = k := ⟨n.toNat, by omega⟩
  have hk1 : 1 ≤ k := by omega
  clear h1 hn
  go_enter Try.func28, Try.ntmps28
  go_wp2
  go_loop [5] (fun i => ∃ m : Nat, (m = k ∨ (k ≤ m ∧ m ≤ f.epochs.length)) ∧ i = .int .i64 m ∧ Hid (k ≤ f.epochs.length → lastGo (f.epochs.drop m) m = lastOf f.epochs k)) (fun i => f.epochs.length - (RowKit.intOf i).toNat)
  case atStart => exact ⟨k, .inl rfl, rfl, fun h => (lastOf_in hk1 h).symm⟩
  case round =>
    obtain ⟨m, hm, rfl, HL⟩ := hrel
    rcases Nat.lt_or_ge m f.epochs.length with hml | hml
    · obtain ⟨x, hx⟩ : ∃ x, f.epochs[m]? = some x := ⟨_, List.getElem?_eq_getElem hml⟩
      obtain ⟨b, o, ys, hA, hbl, hRx, hcz⟩ := SlAt.elem f_epochs_s hx (by decide) HB0.out
      obtain ⟨x_A3, x_c3, rfl, x_place_ok, x_frm_ok, x_seq_ok, x_chain_l, x_chain_m, x_chain_n, x_chain_s, x_who_le⟩ := open_Epoch hRx
      have u0 := hcz 0 _ rfl
      rw [Nat.add_zero] at u0
      subst hA
      have hmi : (m : Int) < (f.epochs.length : Int) := by omega
      have HX := Lib.hid hx
      have hkl : k ≤ f.epochs.length := by omega
      have HK := Lib.hid hkl
      clear hcz hx x_chain_s
      by_cases hp : x.place = 1
      · have hpe : (x.place == 1) = true := by simp [hp]
        have HG := Lib.hid (show (m : Int) = lastOf f.epochs k by rw [← HL.out HK.out, lastGo_stop HX.out hp])
        clear hp
        go_wp2
        go_ret
        exact ⟨by rw [← HG.out]; rfl, HB0.out⟩
      · have hpe : (x.place == 1) = false := by simp [hp]
        have HG := Lib.hid (show lastGo (f.epochs.drop (m + 1)) ((m + 1 : Nat) : Int) = lastOf f.epochs k by rw [← HL.out HK.out, lastGo_on HX.out hp]; rfl)
        clear hp
        go_wp2
        go_round
        case rel => exact ⟨m + 1, .inr ⟨by omega, by omega⟩, by go_num, fun _ => HG.out⟩
        case measure => simp [RowKit.intOf]; omega
    · have hml2 : decide ((m : Int) < (f.epochs.length : Int)) = false := decide_eq_false (by omega)
      rcases Nat.lt_or_ge f.epochs.length k with hkl | hkl
      · have hkd : decide ((f.epochs.length : Int) < (k : Int)) = true := decide_eq_true (by omega)
        have HG := Lib.hid (show (k : Int) = lastOf f.epochs k from (lastOf_out (by omega)).symm)
        have hkp : (f.epochs.length : Int) < (k : Int) := by omega
        clear hkl
        go_wp2
        go_ret
        exact ⟨by rw [← HG.out]; rfl, HB0.out⟩
      · have hkd : decide ((f.epochs.length : Int) < (k : Int)) = false := decide_eq_false (by omega)
        have HG := Lib.hid (show (f.epochs.length : Int) = lastOf f.epochs k from by
          have := HL.out hkl
          rw [List.drop_eq_nil_of_le hml, lastGo] at this
          rw [← this]
          omega)
        have hkp : ¬ (f.epochs.length : Int) < (k : Int) := by omega
        clear hkl
        go_wp2
        go_ret
        exact ⟨by rw [← HG.out]; rfl, HB0.out⟩
end Go.Proofs.Ytocofkccdfaaaaa
