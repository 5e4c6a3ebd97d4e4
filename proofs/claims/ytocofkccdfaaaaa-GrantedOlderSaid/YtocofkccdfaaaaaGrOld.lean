/- GrantedOlder: for every input the law returns true and leaves its arguments as they were. No condition. -/
import Derived.Test.YtocofkccdfaaaaaGrOk
namespace Go.Proofs.Ytocofkccdfaaaaa
open Go.ChangeShapes Go.WideShapes Go.ChangeAt Go.RowKit Go.Deep

theorem held_cells {w0 : World} {b o : Nat} {v : Value} (h : w0.cell? ⟨b, o, none⟩ = some v) : ∀ W, Below w0.heap.size w0 W → W.cell? ⟨b, o, none⟩ = some v := fun _ hb => (hb.cell (p := ⟨b, o, none⟩) (cell_lt h)).trans h
theorem mem_take {l : List Nm} {k : Nat} {x : Nm} (hx : l[k]? = some x) (u : Nm) : memB (l.take (k + 1)) u = (memB (l.take k) u || decide (u = x)) := by
  rw [List.take_add_one, hx]
  simp [memB, eq_comm]
set_option maxRecDepth 100000 in
set_option maxHeartbeats 8000000 in
theorem walk_grantedOlder (w : World) (st : State) (cs : List Value) (h : rState (fun _ => True) w cs st) (name : Nm) (_wn : name.size ≤ 140737488355328) (item : Nm) (_wi : item.size ≤ 140737488355328) :
    Calls Try.prog 4 #[.agg cs.toArray, .string name, .string item] w fun e w' => e = .returned (.bool true) ∧ Below w.heap.size w w' := by
  have HR := Lib.hid h
  obtain ⟨st_A1, st_c1, st_A2, st_c2, st_A3, st_c3, rfl, st_turn_ok, st_users_l, st_users_m, st_users_n, st_users_s, st_deposits_l, st_deposits_m, st_deposits_n, st_deposits_s, st_folders_l, st_folders_m, st_folders_n, st_folders_s⟩ := open_State h
  obtain ⟨w0, hw0, cw0, fw0, Bw0, qw0⟩ := boxed w #[.int .i64 st.turn, .slice st_A1 st.users.length st_c1, .slice st_A2 st.deposits.length st_c2, .slice st_A3 st.folders.length st_c3] 26
  have HB0 := Lib.hid Bw0
  have k0 := held_cells (cw0 0 _ rfl)
  have k1 := held_cells (cw0 1 _ rfl)
  have k2 := held_cells (cw0 2 _ rfl)
  have k3 := held_cells (cw0 3 _ rfl)
  have HST := Lib.hid fun W (hW : Below w0.heap.size w0 W) => rState_keep HR.out (kept_of (bel_call HB0.out hW))
  clear cw0 fw0 Bw0 st_deposits_s st_folders_s
  cases hf : few st with
  | false =>
    have HF := Lib.hid hf
    clear hf
    go_enter Try.func4, Try.ntmps4
    go_wp2_with fail
    clear hw0
    refine Calls.mono (awake_any _) ?_
    rintro e w1 ⟨rfl, B1⟩
    go_wp2_with fail
    refine Calls.mono (few_any st _ _ _ (HST.out _ B1)) ?_
    rw [HF.out]
    rintro e w2 ⟨rfl, b2⟩
    have HB2 := Lib.hid (bel_call HB0.out (bel_call B1 b2))
    clear b2
    go_wp2
    go_ret
    exact ⟨rfl, HB2.out⟩
  | true =>
  have HSM := Lib.hid (few_true st hf)
  have HF := Lib.hid hf
  clear hf
  by_cases hn : (20 : Int) < name.size
  · have hn' : decide ((20 : Int) < name.size) = true := decide_eq_true hn
    clear hn
    go_enter Try.func4, Try.ntmps4
    go_wp2_with fail
    clear hw0
    refine Calls.mono (awake_any _) ?_
    rintro e w1 ⟨rfl, B1⟩
    go_wp2_with fail
    refine Calls.mono (few_any st _ _ _ (HST.out _ B1)) ?_
    rw [HF.out]
    rintro e w2 ⟨rfl, b2⟩
    have HB2 := Lib.hid (bel_call HB0.out (bel_call B1 b2))
    clear b2
    go_wp2
    go_ret
    exact ⟨rfl, HB2.out⟩
  have hn' : decide ((20 : Int) < name.size) = false := decide_eq_false hn
  by_cases hi : (20 : Int) < item.size
  · have hi' : decide ((20 : Int) < item.size) = true := decide_eq_true hi
    clear hn hi
    go_enter Try.func4, Try.ntmps4
    go_wp2_with fail
    clear hw0
    refine Calls.mono (awake_any _) ?_
    rintro e w1 ⟨rfl, B1⟩
    go_wp2_with fail
    refine Calls.mono (few_any st _ _ _ (HST.out _ B1)) ?_
    rw [HF.out]
    rintro e w2 ⟨rfl, b2⟩
    have HB2 := Lib.hid (bel_call HB0.out (bel_call B1 b2))
    clear b2
    go_wp2
    go_ret
    exact ⟨rfl, HB2.out⟩
  have hi' : decide ((20 : Int) < item.size) = false := decide_eq_false hi
  have HOK := Lib.hid (small_ok HSM.out)
  have HUS := Lib.hid (small_us HSM.out)
  clear hn hi
  go_enter Try.func4, Try.ntmps4
  go_wp2_with fail
  clear hw0
  refine Calls.mono (awake_any _) ?_
  rintro e w1 ⟨rfl, B1⟩
  go_wp2_with fail
  refine Calls.mono (few_any st _ _ _ (HST.out _ B1)) ?_
  rw [HF.out]
  rintro e w2 ⟨rfl, b2⟩
  have B2 := bel_call B1 b2
  clear b2 B1
  go_wp2_with fail
  refine Calls.mono (find_any st name _ w2 _ (HST.out _ B2)) ?_
  rintro e w3 ⟨⟨cf, rfl, hfd⟩, b3⟩
  have B3 := bel_call B2 b3
  clear b3 B2
  obtain ⟨f, hfe⟩ : ∃ f, (findF st name).getD zeroF = f := ⟨_, rfl⟩
  rw [hfe] at hfd
  have HFR := Lib.hid hfd
  obtain ⟨f_A2, f_c2, f_A3, f_c3, f_A4, f_c4, f_A5, f_c5, f_A6, f_c6, rfl, f_name_le, f_turn_ok, f_manifests_l, f_manifests_m, f_manifests_n, f_manifests_s, f_epochs_l, f_epochs_m, f_epochs_n, f_epochs_s, f_items_l, f_items_m, f_items_n, f_items_s, f_wraps_l, f_wraps_m, f_wraps_n, f_wraps_s, f_links_l, f_links_m, f_links_n, f_links_s⟩ := open_Folder hfd
  obtain ⟨w4, hw4, cw4, fw4, Bw4, qw4⟩ := boxed w3 #[.string f.name, .int .i64 f.turn, .slice f_A2 f.manifests.length f_c2, .slice f_A3 f.epochs.length f_c3, .slice f_A4 f.items.length f_c4, .slice f_A5 f.wraps.length f_c5, .slice f_A6 f.links.length f_c6] 43
  have B4 := bel_call B3 Bw4
  have HB34 := Lib.hid Bw4
  have HC4 := Lib.hid cw4
  clear cw4 fw4 Bw4 f_manifests_s f_epochs_s f_wraps_s f_links_s B3
  cases hF : findF st name with
  | none =>
    have HNO := Lib.hid (show ∀ u it n, ¬ GrantedP st u name it n from fun u it n ⟨f, _, _, h1, _⟩ => by rw [hF] at h1; cases h1)
    simp only [Option.isSome_none]
    clear hF hfe
    go_wp2_with fail
    clear hw4
    refine Calls.mono (granted_any st nA name item 1 _ _ _ (HST.out _ B4) HOK.out (by decide) ⟨by decide, by decide⟩) ?_
    rintro e w5 ⟨⟨b, rfl, hb⟩, b5⟩
    have hb0 : b = false := by rw [← Bool.not_eq_true]; exact fun h => HNO.out _ _ _ (hb.1 h)
    subst hb0
    have HB5 := Lib.hid (bel_call HB0.out (bel_call B4 b5))
    clear b5 hb
    go_wp2
    go_ret
    exact ⟨rfl, HB5.out⟩
  | some f' =>
    have HFF := Lib.hid (show findF st name = some f by rw [hF] at hfe; rw [← hfe, hF]; rfl)
    simp only [Option.isSome_some]
    have k43 := held_cells (HC4.out 3 _ rfl)
    have k44 := held_cells (HC4.out 4 _ rfl)
    have B44 := Below.refl w4.heap.size w4
    have HNZ := Lib.hid (show ¬ GrantedP st nA name item 0 from fun ⟨_, _, _, _, _, h, _⟩ => by omega)
    have hfl : f.epochs.length ≤ 1000 := by have h1 := HSM.out.all; have h2 := sum5_mem _ _ (findF_mem HFF.out); unfold size5 at h2; omega
    have hul : st.users.length ≤ 1000 := HUS.out.2
    clear hF hfe
    go_wp2
    clear hw4
    go_loopw [56] (fun i wr => ∃ k : Nat, k ≤ f.epochs.length ∧ i = .int .i64 k ∧ Below w4.heap.size w4 wr) (fun i _ => f.epochs.length - (RowKit.intOf i).toNat)
    case atStart => exact ⟨0, by omega, by go_num, Below.refl _ _⟩
    case round =>
      clear B44
      obtain ⟨k, hk, rfl, hbel⟩ := hrel
      have B0r := bel_call B4 hbel
      by_cases hlt : k < f.epochs.length
      · have hw1 : IntKind.i64.wrap ((k : Int) + 1) = (k : Int) + 1 := IntWalk.i64_in _ (by omega)
        have hw2 : IntKind.i64.wrap ((k : Int) + 2) = (k : Int) + 2 := IntWalk.i64_in _ (by omega)
        go_wp2_with fail
        refine Calls.mono (who_any st name ((k : Int) + 2) _ wr _ (HST.out _ B0r) HOK.out HUS.out.1 HUS.out.2) ?_
        rintro e w5 ⟨⟨v5, later, rfl, hS5, hI5, hl5⟩, b5⟩
        have B05 := bel_call B0r b5
        have HI5 := Lib.hid hI5
        have HS5 := Lib.hid hS5
        have HB5 := Lib.hid b5
        clear hI5 hS5 b5
        go_wp2_with fail
        refine Calls.mono (who_any st name ((k : Int) + 1) _ w5 _ (HST.out _ B05) HOK.out HUS.out.1 HUS.out.2) ?_
        rintro e w6 ⟨⟨v6, now, rfl, hS6, hI6, hl6⟩, b6⟩
        have B06 := bel_call B05 b6
        have HI6 := Lib.hid hI6
        obtain ⟨A5, c5, rfl, hq5, hm5, hn5, hs5⟩ := HS5.out.keep (w' := w6) rStr_ok (by decide) (kept_of b6)
        obtain ⟨A6, c6, rfl, hq6, hm6, hn6, hs6⟩ := hS6
        unfold maxLen at hm5 hm6
        have HSUB := Lib.hid (show ∀ x ∈ later, x ∈ now from fun x hx => (HI6.out.2 x).2 (who_less (by omega) (by have := (HI5.out.2 x).1 hx; rwa [show (k : Int) + 2 = (k : Int) + 1 + 1 by omega] at this)))
        have HB6 := Lib.hid (bel_call hbel (bel_call HB5.out b6))
        clear hI6 b6 HS5
        go_wp2
        go_loopw [71] (fun i wr2 => ∃ j : Nat, j ≤ later.length ∧ i = .int .i64 j ∧ Below w6.heap.size w6 wr2) (fun i _ => later.length - (RowKit.intOf i).toNat)
        case atStart => exact ⟨0, by omega, by go_num, Below.refl _ _⟩
        case round =>
          obtain ⟨wr2, rfl⟩ : ∃ q, q = wr := ⟨_, rfl⟩
          obtain ⟨j, hj, rfl, hbel2⟩ := hrel
          by_cases hlj : j < later.length
          · obtain ⟨u, b, o, hu, _, hum, hA, q0⟩ := get_str hs5 hlj (kept_of hbel2)
            subst hA
            have HUM := Lib.hid (HSUB.out u hum)
            have hji : (j : Int) < (later.length : Int) := by omega
            clear hu hum
            go_wp2
            go_loop [14, 77] (fun b i => ∃ q : Nat, q ≤ now.length ∧ i = .int .i64 q ∧ b = .bool (memB (now.take q) u)) (fun _ i => now.length - (RowKit.intOf i).toNat)
            case atStart => exact ⟨0, by omega, by go_num, rfl⟩
            case round =>
              obtain ⟨q, hq, rfl, rfl⟩ := hrel
              by_cases hlq : q < now.length
              · obtain ⟨x, b', o', hx, _, _, hA, r0⟩ := get_str hs6 hlq (kept_of hbel2)
                subst hA
                have hqi : (q : Int) < (now.length : Int) := by omega
                have HT := Lib.hid (mem_take hx u)
                clear hx
                cases hm : memB (now.take q) u with
                | true =>
                  rw [hm] at HT
                  clear hm
                  go_wp2
                  go_round
                  case rel => exact ⟨q + 1, by omega, by go_num, by rw [HT.out]; rfl⟩
                  case measure => simp [RowKit.intOf]; omega
                | false =>
                  rw [hm] at HT
                  clear hm
                  go_wp2
                  go_round
                  case rel => exact ⟨q + 1, by omega, by go_num, by rw [HT.out, eqS_iff]; rfl⟩
                  case measure => simp [RowKit.intOf]; omega
              · obtain rfl : q = now.length := by omega
                have hmm : memB (now.take now.length) u = true := by rw [List.take_length]; exact memB_iff.2 HUM.out
                rw [hmm]
                clear hmm
                go_wp2
                go_roundw
                case rel => exact ⟨j + 1, by omega, by go_num, hbel2⟩
                case measure => simp [RowKit.intOf]; omega
          · obtain rfl : j = later.length := by omega
            go_wp2
            go_loopw [93] (fun i wr3 => ∃ q : Nat, q ≤ now.length ∧ i = .int .i64 q ∧ Below w6.heap.size w6 wr3) (fun i _ => now.length - (RowKit.intOf i).toNat)
            case atStart => exact ⟨0, by omega, by go_num, hbel2⟩
            case round =>
              obtain ⟨wr3, rfl⟩ : ∃ q, q = wr := ⟨_, rfl⟩
              obtain ⟨q, hq, rfl, hbel3⟩ := hrel
              have B03 := bel_call B06 hbel3
              by_cases hlq : q < now.length
              · obtain ⟨x, b, o, hx, _, hxm, hA, r0⟩ := get_str hs6 hlq (kept_of hbel3)
                subst hA
                have hqi : (q : Int) < (now.length : Int) := by omega
                have HXM := Lib.hid ((HI6.out.2 x).1 hxm)
                have HXS := Lib.hid (show x.size ≤ 1000 from by
                  obtain ⟨_, _, _, _, ⟨y, hy, rfl⟩, _⟩ := HXM.out
                  exact HUS.out.1 y hy)
                have HRE := Lib.hid (show Calls Try.prog 10 #[.agg #[.int .i64 st.turn, .slice st_A1 st.users.length st_c1, .slice st_A2 st.deposits.length st_c2, .slice st_A3 st.folders.length st_c3], .string x, .string name] wr3 (fun e w' => (∃ n : Int, e = .returned (.int .i64 n) ∧ decide (n ≤ (k : Int)) = false) ∧ Below wr3.heap.size wr3 w') from Calls.mono (reaches_any st x name _ wr3 _ (HST.out _ B03) HOK.out HXS.out) fun e w' ⟨⟨n, h1, h2⟩, h3⟩ => ⟨⟨n, h1, decide_eq_false (by have := who_reach HXM.out h2; omega)⟩, h3⟩)
                rcases Nat.eq_zero_or_pos q with rfl | hq0
                · rw [Nat.add_zero] at r0
                  clear hx hxm
                  go_wp2_with (go_at_call 10; refine Calls.mono HRE.out ?_; rintro e w7 ⟨⟨m, rfl, hm⟩, b7⟩; have HB7 := Lib.hid b7; clear b7)
                  go_roundw
                  case rel => exact ⟨1, by omega, by go_num, bel_call hbel3 HB7.out⟩
                  case measure => simp [RowKit.intOf]; omega
                · obtain ⟨p, rfl⟩ : ∃ p, q = p + 1 := ⟨q - 1, by omega⟩
                  obtain ⟨y, b', o', hy, _, _, hA', r1⟩ := get_str hs6 (show p < now.length by omega) (kept_of hbel3)
                  cases hA'
                  have hlt2 : Op.bytesLess y.toList x.toList = true := by
                    have hyg := List.getElem?_eq_some_iff.1 hy
                    have hxg := List.getElem?_eq_some_iff.1 hx
                    have := List.pairwise_iff_getElem.1 HI6.out.1 p (p + 1) hyg.1 hxg.1 (by omega)
                    rw [hyg.2, hxg.2] at this
                    exact this
                  have hw3 : IntKind.i64.wrap ((p : Int) + 1 - 1) = (p : Int) := by rw [IntWalk.i64_in _ (by omega)]; omega
                  have hpi : (p : Int) < (now.length : Int) := by omega
                  have hp0 : decide ((0 : Int) < (p : Int) + 1) = true := decide_eq_true (by omega)
                  have hr1 := r1
                  clear hx hxm hy
                  go_wp2_with (go_at_call 10; refine Calls.mono HRE.out ?_; rintro e w7 ⟨⟨m, rfl, hm⟩, b7⟩; have HB7 := Lib.hid b7; clear b7)
                  go_roundw
                  case rel => exact ⟨p + 1 + 1, by omega, by go_num, bel_call hbel3 HB7.out⟩
                  case measure => simp [RowKit.intOf]; omega
              · obtain rfl : q = now.length := by omega
                go_wp2
                go_roundw
                case rel => exact ⟨k + 1, by omega, by go_num, bel_call HB6.out hbel3⟩
                case measure => simp [RowKit.intOf]; omega
      · obtain rfl : k = f.epochs.length := by omega
        have B44 := hbel
        go_wp2
        clear B44
        go_loopw [122] (fun i wr => ∃ k : Nat, k ≤ f.items.length ∧ i = .int .i64 k ∧ Hid (∀ y ∈ f.items.take k, isI item y = false) ∧ Below w4.heap.size w4 wr) (fun i _ => f.items.length - (RowKit.intOf i).toNat)
        case atStart => exact ⟨0, by omega, by go_num, (fun y hy => by simp at hy), hbel⟩
        case round =>
          clear hbel hk hlt
          obtain ⟨wr5, rfl⟩ : ∃ q, q = wr := ⟨_, rfl⟩
          obtain ⟨k, hk, rfl, HNI, hbel⟩ := hrel
          have B05 := bel_call B4 hbel
          by_cases hlt : k < f.items.length
          · obtain ⟨x, hx⟩ : ∃ x, f.items[k]? = some x := ⟨_, List.getElem?_eq_getElem hlt⟩
            obtain ⟨b, o, ys, hA, hbl, hRx, hcz⟩ := SlAt.elem f_items_s hx (by decide) (bel_call HB34.out hbel)
            have HRX := Lib.hid hRx
            have HX := Lib.hid hx
            obtain ⟨x_A1, x_c1, rfl, x_name_le, x_versions_l, x_versions_m, x_versions_n, x_versions_s⟩ := open_Item hRx
            have u0 := hcz 0 _ rfl
            have u1 := hcz 1 _ rfl
            rw [Nat.add_zero] at u0
            subst hA
            have hki : (k : Int) < (f.items.length : Int) := by omega
            obtain ⟨w5, hw5, cw5, fw5, Bw5, qw5⟩ := boxed wr5 #[.string x.name, .slice x_A1 x.versions.length x_c1] 55
            have HB5 := Lib.hid Bw5
            have z0 := held_cells (cw5 0 _ rfl)
            have z1 := held_cells (cw5 1 _ rfl)
            have B55 := Below.refl w5.heap.size w5
            clear hcz hx cw5 fw5 Bw5
            by_cases hnm : x.name = item
            · have hse : (x.name.toList == item.toList) = true := by rw [hnm]; simp
              have HXI := Lib.hid (show f.items.find? (isI item) = some x from find_here HNI.out HX.out (by unfold isI; exact decide_eq_true hnm))
              have hvl : x.versions.length ≤ 1000 := by have := (HSM.out.short f (findF_mem HFF.out)).item x (List.mem_of_getElem? HX.out); omega
              clear hnm
              go_wp2
              clear hw5 u0 u1
              go_loopw [133] (fun i wr => ∃ j : Nat, j ≤ x.versions.length ∧ i = .int .i64 j ∧ Below w5.heap.size w5 wr) (fun i _ => x.versions.length - (RowKit.intOf i).toNat)
              case atStart => exact ⟨0, by omega, by go_num, Below.refl _ _⟩
              case round =>
                clear B55
                obtain ⟨wr6, rfl⟩ : ∃ q, q = wr := ⟨_, rfl⟩
                obtain ⟨j, hj, rfl, hbel6⟩ := hrel
                by_cases hlj : j < x.versions.length
                · obtain ⟨v, hv⟩ : ∃ v, x.versions[j]? = some v := ⟨_, List.getElem?_eq_getElem hlj⟩
                  obtain ⟨b', o', ys', hA', hbl', hRv, hcz'⟩ := SlAt.elem x_versions_s hv (by decide) (bel_call (bel_call HB34.out hbel) (bel_call HB5.out hbel6))
                  obtain ⟨v_A3, v_c3, rfl, v_epoch_ok, v_who_le, v_data_l, v_data_m, v_data_n, v_data_s⟩ := open_Version hRv
                  have v0 := hcz' 0 _ rfl
                  have v1 := hcz' 1 _ rfl
                  have v2 := hcz' 2 _ rfl
                  have v3 := hcz' 3 _ rfl
                  rw [Nat.add_zero] at v0
                  subst hA'
                  have hji : (j : Int) < (x.versions.length : Int) := by omega
                  have hw1 : IntKind.i64.wrap ((j : Int) + 1) = (j : Int) + 1 := IntWalk.i64_in _ (by omega)
                  have HI64 := Lib.hid (show I64 ((j : Int) + 1) from ⟨by omega, by omega⟩)
                  have HGQ := Lib.hid (show ∀ un r, IsReach st un name r → (GrantedP st un name item ((j : Int) + 1) ↔ (v.gone = false ∧ 1 ≤ v.epoch ∧ v.epoch ≤ r)) from fun un r hr => by
                    constructor
                    · rintro ⟨g, y, v', h1, h2, _, _, h5, h6, h7, r', h8, h9⟩
                      obtain rfl : f = g := Option.some.inj (HFF.out.symm.trans h1)
                      obtain rfl : x = y := Option.some.inj (HXI.out.symm.trans h2)
                      rw [show ((j : Int) + 1 - 1).toNat = j by omega] at h5
                      obtain rfl : v = v' := Option.some.inj (hv.symm.trans h5)
                      obtain rfl := h8.one hr
                      exact ⟨h6, h7, h9⟩
                    · rintro ⟨h1, h2, h3⟩
                      exact ⟨f, x, v, HFF.out, HXI.out, by omega, by omega, by rw [show ((j : Int) + 1 - 1).toNat = j by omega]; exact hv, h1, h2, r, hr, h3⟩)
                  obtain ⟨g, hg⟩ : ∃ g, v.gone = g := ⟨_, rfl⟩
                  rw [hg] at v1 HGQ
                  obtain ⟨w6, hw6, cw6, fw6, Bw6, qw6⟩ := boxed wr6 #[.int .i64 v.epoch, .bool g, .string v.who, .slice v_A3 v.data.length v_c3] 58
                  have HC6 := Lib.hid cw6
                  have HB6 := Lib.hid Bw6
                  have HB06 := Lib.hid (bel_call B05 (bel_call HB5.out (bel_call hbel6 Bw6)))
                  have B06 := HB06.out
                  clear hv hg hcz' cw6 fw6 Bw6 v_data_s
                  go_wp2
                  clear hw6 v0 v1 v2 v3 B06
                  go_loopw [141] (fun i wr => ∃ q : Nat, q ≤ st.users.length ∧ i = .int .i64 q ∧ Below w6.heap.size w6 wr) (fun i _ => st.users.length - (RowKit.intOf i).toNat)
                  case atStart => exact ⟨0, by omega, by go_num, Below.refl _ _⟩
                  case round =>
                    obtain ⟨wr7, rfl⟩ : ∃ q, q = wr := ⟨_, rfl⟩
                    obtain ⟨q, hq, rfl, hbel7⟩ := hrel
                    by_cases hlq : q < st.users.length
                    · obtain ⟨u, hu⟩ : ∃ u, st.users[q]? = some u := ⟨_, List.getElem?_eq_getElem hlq⟩
                      obtain ⟨bu, ou, yu, hAu, hbu, hRu, hcu⟩ := SlAt.elem st_users_s hu (by decide) (bel_call HB0.out (bel_call HB06.out hbel7))
                      obtain ⟨rfl, u_name_le⟩ := open_User hRu
                      have t0 := hcu 0 _ rfl
                      have t1 := hcu 1 _ rfl
                      rw [Nat.add_zero] at t0
                      subst hAu
                      have hqi : (q : Int) < (st.users.length : Int) := by omega
                      have HUN := Lib.hid (HUS.out.1 u (List.mem_of_getElem? hu))
                      obtain ⟨w7, hw7, cw7, fw7, Bw7, qw7⟩ := boxed wr7 #[.string u.name, .bool u.lost] 50
                      have HC7 := Lib.hid cw7
                      have HB77 := Lib.hid Bw7
                      have HB67 := Lib.hid (bel_call hbel7 Bw7)
                      have B07 := bel_call HB06.out (bel_call hbel7 Bw7)
                      clear hu hcu cw7 fw7 Bw7
                      cases g with
                      | true =>
                        have HSQ := Lib.hid (show ∀ W : World, Below w7.heap.size w7 W → (fun W : World => (W.cell? ⟨w.heap.size, 0, none⟩ = some (.int .i64 st.turn) ∧ W.cell? ⟨w.heap.size, 1, none⟩ = some (.slice (some ⟨bu, ou, none⟩) st.users.length st_c1) ∧ W.cell? ⟨w.heap.size, 2, none⟩ = some (.slice st_A2 st.deposits.length st_c2) ∧ W.cell? ⟨w.heap.size, 3, none⟩ = some (.slice st_A3 st.folders.length st_c3)) ∧ W.cell? ⟨wr6.heap.size, 0, none⟩ = some (.int .i64 v.epoch) ∧ W.cell? ⟨wr6.heap.size, 1, none⟩ = some (.bool true) ∧ W.cell? ⟨wr7.heap.size, 0, none⟩ = some (.string u.name)) W from fun W hW => ⟨⟨k0 W (bel_call B07 hW), k1 W (bel_call B07 hW), k2 W (bel_call B07 hW), k3 W (bel_call B07 hW)⟩, (bel_call HB67.out hW |>.cell (p := ⟨wr6.heap.size, 0, none⟩) qw6).trans (HC6.out 0 _ rfl), (bel_call HB67.out hW |>.cell (p := ⟨wr6.heap.size, 1, none⟩) qw6).trans (HC6.out 1 _ rfl), (hW.cell (p := ⟨wr7.heap.size, 0, none⟩) qw7).trans (HC7.out 0 _ rfl)⟩)
                        go_wp2
                        have HS := HSQ.out
                        refine wp_region_held_drew (S := fun W : World => (W.cell? ⟨w.heap.size, 0, none⟩ = some (.int .i64 st.turn) ∧ W.cell? ⟨w.heap.size, 1, none⟩ = some (.slice (some ⟨bu, ou, none⟩) st.users.length st_c1) ∧ W.cell? ⟨w.heap.size, 2, none⟩ = some (.slice st_A2 st.deposits.length st_c2) ∧ W.cell? ⟨w.heap.size, 3, none⟩ = some (.slice st_A3 st.folders.length st_c3)) ∧ W.cell? ⟨wr6.heap.size, 0, none⟩ = some (.int .i64 v.epoch) ∧ W.cell? ⟨wr6.heap.size, 1, none⟩ = some (.bool true) ∧ W.cell? ⟨wr7.heap.size, 0, none⟩ = some (.string u.name)) (by kernel_rfl) (HS _ (Below.refl _ _).drew) (fun hHeld => ?_)
                        refine wpAnyH_take (i := 0) (oi := ?_) (v := ?_) ?_ (by kernel_rfl) (by kernel_rfl) (by kernel_rfl) ?_ (Or.inl ⟨?_, ?_⟩) hHeld ?_
                        rotate_left 2
                        · simp only [List.getElem?_toArray, List.getElem?_cons_zero]; exact rfl
                        · exact fun _ _ _ h => h
                        · rfl
                        · (intro W' hSw; (try dsimp only at hSw); go_simp; try with_reducible rfl)
                        try simp only [Act.put, List.setIfInBounds_toArray, List.set_cons_zero, List.set_cons_succ]
                        refine wpAnyH_take (i := 1) (oi := ?_) (v := ?_) ?_ (by kernel_rfl) (by kernel_rfl) (by kernel_rfl) ?_ (Or.inl ⟨?_, ?_⟩) hHeld ?_
                        rotate_left 2
                        · simp only [List.getElem?_toArray, List.getElem?_cons_succ, List.getElem?_cons_zero]; exact rfl
                        · exact fun _ _ _ h => h
                        · rfl
                        · (intro W' hSw; (try dsimp only at hSw); go_simp; try with_reducible rfl)
                        try simp only [Act.put, List.setIfInBounds_toArray, List.set_cons_zero, List.set_cons_succ]
                        refine wpAnyH_take (i := 2) (oi := ?_) (v := ?_) ?_ (by kernel_rfl) (by kernel_rfl) (by kernel_rfl) ?_ (Or.inl ⟨?_, ?_⟩) hHeld ?_
                        rotate_left 2
                        · simp only [List.getElem?_toArray, List.getElem?_cons_succ, List.getElem?_cons_zero]; exact rfl
                        · exact fun _ _ _ h => h
                        · rfl
                        · (intro W' hSw; (try dsimp only at hSw); go_simp; try with_reducible rfl)
                        try simp only [Act.put, List.setIfInBounds_toArray, List.set_cons_zero, List.set_cons_succ]
                        refine wpAnyH_take (i := 3) (oi := ?_) (v := ?_) ?_ (by kernel_rfl) (by kernel_rfl) (by kernel_rfl) ?_ (Or.inl ⟨?_, ?_⟩) hHeld ?_
                        rotate_left 2
                        · simp only [List.getElem?_toArray, List.getElem?_cons_succ, List.getElem?_cons_zero]; exact rfl
                        · exact fun _ _ _ h => h
                        · rfl
                        · (intro W' hSw; (try dsimp only at hSw); go_simp; try with_reducible rfl)
                        try simp only [Act.put, List.setIfInBounds_toArray, List.set_cons_zero, List.set_cons_succ]
                        refine wpAnyH_take (i := 4) (oi := ?_) (v := ?_) ?_ (by kernel_rfl) (by kernel_rfl) (by kernel_rfl) ?_ (Or.inl ⟨?_, ?_⟩) hHeld ?_
                        rotate_left 2
                        · simp only [List.getElem?_toArray, List.getElem?_cons_succ, List.getElem?_cons_zero]; exact rfl
                        · exact fun _ _ _ h => h
                        · rfl
                        · (intro W' hSw; (try dsimp only at hSw); go_simp; try with_reducible rfl)
                        try simp only [Act.put, List.setIfInBounds_toArray, List.set_cons_zero, List.set_cons_succ]
                        refine wpAnyH_take (i := 5) (oi := ?_) (v := ?_) ?_ (by kernel_rfl) (by kernel_rfl) (by kernel_rfl) ?_ (Or.inl ⟨?_, ?_⟩) hHeld ?_
                        rotate_left 2
                        · simp only [List.getElem?_toArray, List.getElem?_cons_succ, List.getElem?_cons_zero]; exact rfl
                        · exact fun _ _ _ h => h
                        · rfl
                        · (intro W' hSw; (try dsimp only at hSw); go_simp; try with_reducible rfl)
                        try simp only [Act.put, List.setIfInBounds_toArray, List.set_cons_zero, List.set_cons_succ]
                        refine wpAnyH_take (i := 6) (oi := ?_) (v := ?_) ?_ (by kernel_rfl) (by kernel_rfl) (by kernel_rfl) ?_ (Or.inl ⟨?_, ?_⟩) hHeld ?_
                        rotate_left 2
                        · simp only [List.getElem?_toArray, List.getElem?_cons_succ, List.getElem?_cons_zero]; exact rfl
                        · exact fun _ _ _ h => h
                        · rfl
                        · (intro W' hSw; (try dsimp only at hSw); go_simp; try with_reducible rfl)
                        try simp only [Act.put, List.setIfInBounds_toArray, List.set_cons_zero, List.set_cons_succ]
                        refine wpAnyH_take (i := 8) (oi := ?_) (v := ?_) ?_ (by kernel_rfl) (by kernel_rfl) (by kernel_rfl) ?_ (Or.inl ⟨?_, ?_⟩) hHeld ?_
                        rotate_left 2
                        · simp only [List.getElem?_toArray, List.getElem?_cons_succ, List.getElem?_cons_zero]; exact rfl
                        · exact fun _ _ _ h => h
                        · rfl
                        · (intro W' hSw; (try dsimp only at hSw); go_simp; try with_reducible rfl)
                        try simp only [Act.put, List.setIfInBounds_toArray, List.set_cons_zero, List.set_cons_succ]
                        refine wpAnyH_take (i := 9) (oi := ?_) (v := ?_) ?_ (by kernel_rfl) (by kernel_rfl) (by kernel_rfl) ?_ (Or.inl ⟨?_, ?_⟩) hHeld ?_
                        rotate_left 2
                        · simp only [List.getElem?_toArray, List.getElem?_cons_succ, List.getElem?_cons_zero]; exact rfl
                        · exact fun _ _ _ h => h
                        · rfl
                        · (intro W' hSw; (try dsimp only at hSw); go_simp; try with_reducible rfl)
                        try simp only [Act.put, List.setIfInBounds_toArray, List.set_cons_zero, List.set_cons_succ]
                        refine wpAnyH_take (i := 10) (oi := ?_) (v := ?_) ?_ (by kernel_rfl) (by kernel_rfl) (by kernel_rfl) ?_ (Or.inl ⟨?_, ?_⟩) hHeld ?_
                        rotate_left 2
                        · simp only [List.getElem?_toArray, List.getElem?_cons_succ, List.getElem?_cons_zero]; exact rfl
                        · exact fun _ _ _ h => h
                        · rfl
                        · (intro W' hSw; (try dsimp only at hSw); go_simp; try with_reducible rfl)
                        try simp only [Act.put, List.setIfInBounds_toArray, List.set_cons_zero, List.set_cons_succ]
                        refine wpAnyH_ready (rs := [7]) (by kernel_rfl) (by simp) ?_
                        refine AllReadyH.cons rfl (fun K hK => ?_) AllReadyH.nil
                        go_simp
                        go_at_call 12
                        refine Calls.mono (granted_any st u.name name item ((j : Int) + 1) _ _ _ (HST.out _ (bel_call B07 (Below.refl _ _).drew)) HOK.out HUN.out HI64.out) ?_
                        rintro e w8 ⟨⟨bb, rfl, hbb⟩, b8⟩
                        have HBB := Lib.hid hbb
                        clear hbb
                        have B8 : Below w7.heap.size w7 w8 := bel_call (Below.refl _ _).drew b8
                        clear b8 hHeld
                        refine hK.out _ _ (HS _ B8) (fun hHeld => ?_)
                        clear hK K
                        have hb0 : bb = false := by
                          rw [← Bool.not_eq_true, HBB.out]
                          obtain ⟨rr, hrr⟩ := isReach_some st u.name name
                          exact fun h => by have := (HGQ.out _ rr hrr |>.1 h).1; cases this
                        subst hb0
                        refine wpAnyH_take (i := 11) (oi := ?_) (v := ?_) ?_ (by kernel_rfl) (by kernel_rfl) (by kernel_rfl) ?_ (Or.inl ⟨?_, ?_⟩) hHeld ?_
                        rotate_left 2
                        · simp only [List.getElem?_toArray, List.getElem?_cons_succ, List.getElem?_cons_zero]; exact rfl
                        · exact fun _ _ _ h => h
                        · rfl
                        · (intro W' hSw; (try dsimp only at hSw); go_simp; try with_reducible rfl)
                        try simp only [Act.put, List.setIfInBounds_toArray, List.set_cons_zero, List.set_cons_succ]
                        refine wpAnyH_take (i := 12) (oi := ?_) (v := undef) ?_ (by kernel_rfl) (by kernel_rfl) (by kernel_rfl) ?_ (Or.inr ⟨?_, rfl⟩) hHeld ?_
                        rotate_left 1
                        · simp only [List.getElem?_toArray, List.getElem?_cons_succ, List.getElem?_cons_zero]; exact rfl
                        · exact fun _ _ _ h => h
                        · rfl
                        try simp only [Act.put, List.setIfInBounds_toArray, List.set_cons_zero, List.set_cons_succ]
                        refine wpAnyH_take (i := 13) (oi := ?_) (v := undef) ?_ (by kernel_rfl) (by kernel_rfl) (by kernel_rfl) ?_ (Or.inr ⟨?_, rfl⟩) hHeld ?_
                        rotate_left 1
                        · simp only [List.getElem?_toArray, List.getElem?_cons_succ, List.getElem?_cons_zero]; exact rfl
                        · exact fun _ _ _ h => h
                        · rfl
                        try simp only [Act.put, List.setIfInBounds_toArray, List.set_cons_zero, List.set_cons_succ]
                        refine wpAnyH_take (i := 14) (oi := ?_) (v := undef) ?_ (by kernel_rfl) (by kernel_rfl) (by kernel_rfl) ?_ (Or.inr ⟨?_, rfl⟩) hHeld ?_
                        rotate_left 1
                        · simp only [List.getElem?_toArray, List.getElem?_cons_succ, List.getElem?_cons_zero]; exact rfl
                        · exact fun _ _ _ h => h
                        · rfl
                        try simp only [Act.put, List.setIfInBounds_toArray, List.set_cons_zero, List.set_cons_succ]
                        refine wpAnyH_take (i := 15) (oi := ?_) (v := ?_) ?_ (by kernel_rfl) (by kernel_rfl) (by kernel_rfl) ?_ (Or.inl ⟨?_, ?_⟩) hHeld ?_
                        rotate_left 2
                        · simp only [List.getElem?_toArray, List.getElem?_cons_succ, List.getElem?_cons_zero]; exact rfl
                        · exact fun _ _ _ h => h
                        · rfl
                        · (intro W' hSw; (try dsimp only at hSw); go_simp; try with_reducible rfl)
                        try simp only [Act.put, List.setIfInBounds_toArray, List.set_cons_zero, List.set_cons_succ]
                        refine wpAnyH_take (i := 16) (oi := ?_) (v := ?_) ?_ (by kernel_rfl) (by kernel_rfl) (by kernel_rfl) ?_ (Or.inl ⟨?_, ?_⟩) hHeld ?_
                        rotate_left 2
                        · simp only [List.getElem?_toArray, List.getElem?_cons_succ, List.getElem?_cons_zero]; exact rfl
                        · exact fun _ _ _ h => h
                        · rfl
                        · (intro W' hSw; (try dsimp only at hSw); go_simp; try with_reducible rfl)
                        try simp only [Act.put, List.setIfInBounds_toArray, List.set_cons_zero, List.set_cons_succ]
                        refine wpAnyH_take (i := 17) (oi := ?_) (v := undef) ?_ (by kernel_rfl) (by kernel_rfl) (by kernel_rfl) ?_ (Or.inr ⟨?_, rfl⟩) hHeld ?_
                        rotate_left 1
                        · simp only [List.getElem?_toArray, List.getElem?_cons_succ, List.getElem?_cons_zero]; exact rfl
                        · exact fun _ _ _ h => h
                        · rfl
                        try simp only [Act.put, List.setIfInBounds_toArray, List.set_cons_zero, List.set_cons_succ]
                        refine wpAnyH_take (i := 18) (oi := ?_) (v := undef) ?_ (by kernel_rfl) (by kernel_rfl) (by kernel_rfl) ?_ (Or.inr ⟨?_, rfl⟩) hHeld ?_
                        rotate_left 1
                        · simp only [List.getElem?_toArray, List.getElem?_cons_succ, List.getElem?_cons_zero]; exact rfl
                        · exact fun _ _ _ h => h
                        · rfl
                        try simp only [Act.put, List.setIfInBounds_toArray, List.set_cons_zero, List.set_cons_succ]
                        refine wpAnyH_take (i := 19) (oi := ?_) (v := undef) ?_ (by kernel_rfl) (by kernel_rfl) (by kernel_rfl) ?_ (Or.inr ⟨?_, rfl⟩) hHeld ?_
                        rotate_left 1
                        · simp only [List.getElem?_toArray, List.getElem?_cons_succ, List.getElem?_cons_zero]; exact rfl
                        · exact fun _ _ _ h => h
                        · rfl
                        try simp only [Act.put, List.setIfInBounds_toArray, List.set_cons_zero, List.set_cons_succ]
                        refine wpAnyH_take (i := 20) (oi := ?_) (v := undef) ?_ (by kernel_rfl) (by kernel_rfl) (by kernel_rfl) ?_ (Or.inr ⟨?_, rfl⟩) hHeld ?_
                        rotate_left 1
                        · simp only [List.getElem?_toArray, List.getElem?_cons_succ, List.getElem?_cons_zero]; exact rfl
                        · exact fun _ _ _ h => h
                        · rfl
                        try simp only [Act.put, List.setIfInBounds_toArray, List.set_cons_zero, List.set_cons_succ]
                        refine wpAnyH_take (i := 21) (oi := ?_) (v := undef) ?_ (by kernel_rfl) (by kernel_rfl) (by kernel_rfl) ?_ (Or.inr ⟨?_, rfl⟩) hHeld ?_
                        rotate_left 1
                        · simp only [List.getElem?_toArray, List.getElem?_cons_succ, List.getElem?_cons_zero]; exact rfl
                        · exact fun _ _ _ h => h
                        · rfl
                        try simp only [Act.put, List.setIfInBounds_toArray, List.set_cons_zero, List.set_cons_succ]
                        refine wpAnyH_take (i := 22) (oi := ?_) (v := undef) ?_ (by kernel_rfl) (by kernel_rfl) (by kernel_rfl) ?_ (Or.inr ⟨?_, rfl⟩) hHeld ?_
                        rotate_left 1
                        · simp only [List.getElem?_toArray, List.getElem?_cons_succ, List.getElem?_cons_zero]; exact rfl
                        · exact fun _ _ _ h => h
                        · rfl
                        try simp only [Act.put, List.setIfInBounds_toArray, List.set_cons_zero, List.set_cons_succ]
                        refine wpAnyH_take (i := 23) (oi := ?_) (v := undef) ?_ (by kernel_rfl) (by kernel_rfl) (by kernel_rfl) ?_ (Or.inr ⟨?_, rfl⟩) hHeld ?_
                        rotate_left 1
                        · simp only [List.getElem?_toArray, List.getElem?_cons_succ, List.getElem?_cons_zero]; exact rfl
                        · exact fun _ _ _ h => h
                        · rfl
                        try simp only [Act.put, List.setIfInBounds_toArray, List.set_cons_zero, List.set_cons_succ]
                        refine wpAnyH_take (i := 24) (oi := ?_) (v := undef) ?_ (by kernel_rfl) (by kernel_rfl) (by kernel_rfl) ?_ (Or.inr ⟨?_, rfl⟩) hHeld ?_
                        rotate_left 1
                        · simp only [List.getElem?_toArray, List.getElem?_cons_succ, List.getElem?_cons_zero]; exact rfl
                        · exact fun _ _ _ h => h
                        · rfl
                        try simp only [Act.put, List.setIfInBounds_toArray, List.set_cons_zero, List.set_cons_succ]
                        refine wpAnyH_take (i := 25) (oi := ?_) (v := ?_) ?_ (by kernel_rfl) (by kernel_rfl) (by kernel_rfl) ?_ (Or.inl ⟨?_, ?_⟩) hHeld ?_
                        rotate_left 2
                        · simp only [List.getElem?_toArray, List.getElem?_cons_succ, List.getElem?_cons_zero]; exact rfl
                        · exact fun _ _ _ h => h
                        · rfl
                        · (intro W' hSw; (try dsimp only at hSw); go_simp; try with_reducible rfl)
                        try simp only [Act.put, List.setIfInBounds_toArray, List.set_cons_zero, List.set_cons_succ]
                        refine wpAnyH_take (i := 26) (oi := ?_) (v := ?_) ?_ (by kernel_rfl) (by kernel_rfl) (by kernel_rfl) ?_ (Or.inl ⟨?_, ?_⟩) hHeld ?_
                        rotate_left 2
                        · simp only [List.getElem?_toArray, List.getElem?_cons_succ, List.getElem?_cons_zero]; exact rfl
                        · exact fun _ _ _ h => h
                        · rfl
                        · (intro W' hSw; (try dsimp only at hSw); go_simp; try with_reducible rfl)
                        try simp only [Act.put, List.setIfInBounds_toArray, List.set_cons_zero, List.set_cons_succ]
                        refine wpAnyH_done (by kernel_rfl) ?_ _
                        have HEND := Lib.hid (bel_call hbel7 (bel_call HB77.out B8))
                        clear hHeld HS
                        go_wp2
                        go_roundw
                        case rel => exact ⟨q + 1, by omega, by go_num, HEND.out⟩
                        case measure => simp [RowKit.intOf]; omega
                      | false =>
                        by_cases he : 1 ≤ v.epoch
                        · have hed : decide (1 ≤ v.epoch) = true := decide_eq_true he
                          have HE := Lib.hid he
                          clear he
                          have HSQ := Lib.hid (show ∀ W : World, Below w7.heap.size w7 W → (fun W : World => (W.cell? ⟨w.heap.size, 0, none⟩ = some (.int .i64 st.turn) ∧ W.cell? ⟨w.heap.size, 1, none⟩ = some (.slice (some ⟨bu, ou, none⟩) st.users.length st_c1) ∧ W.cell? ⟨w.heap.size, 2, none⟩ = some (.slice st_A2 st.deposits.length st_c2) ∧ W.cell? ⟨w.heap.size, 3, none⟩ = some (.slice st_A3 st.folders.length st_c3)) ∧ W.cell? ⟨wr6.heap.size, 0, none⟩ = some (.int .i64 v.epoch) ∧ W.cell? ⟨wr6.heap.size, 1, none⟩ = some (.bool false) ∧ W.cell? ⟨wr7.heap.size, 0, none⟩ = some (.string u.name)) W from fun W hW => ⟨⟨k0 W (bel_call B07 hW), k1 W (bel_call B07 hW), k2 W (bel_call B07 hW), k3 W (bel_call B07 hW)⟩, (bel_call HB67.out hW |>.cell (p := ⟨wr6.heap.size, 0, none⟩) qw6).trans (HC6.out 0 _ rfl), (bel_call HB67.out hW |>.cell (p := ⟨wr6.heap.size, 1, none⟩) qw6).trans (HC6.out 1 _ rfl), (hW.cell (p := ⟨wr7.heap.size, 0, none⟩) qw7).trans (HC7.out 0 _ rfl)⟩)
                          go_wp2
                          have HS := HSQ.out
                          refine wp_region_held_drew (S := fun W : World => (W.cell? ⟨w.heap.size, 0, none⟩ = some (.int .i64 st.turn) ∧ W.cell? ⟨w.heap.size, 1, none⟩ = some (.slice (some ⟨bu, ou, none⟩) st.users.length st_c1) ∧ W.cell? ⟨w.heap.size, 2, none⟩ = some (.slice st_A2 st.deposits.length st_c2) ∧ W.cell? ⟨w.heap.size, 3, none⟩ = some (.slice st_A3 st.folders.length st_c3)) ∧ W.cell? ⟨wr6.heap.size, 0, none⟩ = some (.int .i64 v.epoch) ∧ W.cell? ⟨wr6.heap.size, 1, none⟩ = some (.bool false) ∧ W.cell? ⟨wr7.heap.size, 0, none⟩ = some (.string u.name)) (by kernel_rfl) (HS _ (Below.refl _ _).drew) (fun hHeld => ?_)
                          refine wpAnyH_take (i := 0) (oi := ?_) (v := ?_) ?_ (by kernel_rfl) (by kernel_rfl) (by kernel_rfl) ?_ (Or.inl ⟨?_, ?_⟩) hHeld ?_
                          rotate_left 2
                          · simp only [List.getElem?_toArray, List.getElem?_cons_zero]; exact rfl
                          · exact fun _ _ _ h => h
                          · rfl
                          · (intro W' hSw; (try dsimp only at hSw); go_simp; try with_reducible rfl)
                          try simp only [Act.put, List.setIfInBounds_toArray, List.set_cons_zero, List.set_cons_succ]
                          refine wpAnyH_take (i := 1) (oi := ?_) (v := ?_) ?_ (by kernel_rfl) (by kernel_rfl) (by kernel_rfl) ?_ (Or.inl ⟨?_, ?_⟩) hHeld ?_
                          rotate_left 2
                          · simp only [List.getElem?_toArray, List.getElem?_cons_succ, List.getElem?_cons_zero]; exact rfl
                          · exact fun _ _ _ h => h
                          · rfl
                          · (intro W' hSw; (try dsimp only at hSw); go_simp; try with_reducible rfl)
                          try simp only [Act.put, List.setIfInBounds_toArray, List.set_cons_zero, List.set_cons_succ]
                          refine wpAnyH_take (i := 2) (oi := ?_) (v := ?_) ?_ (by kernel_rfl) (by kernel_rfl) (by kernel_rfl) ?_ (Or.inl ⟨?_, ?_⟩) hHeld ?_
                          rotate_left 2
                          · simp only [List.getElem?_toArray, List.getElem?_cons_succ, List.getElem?_cons_zero]; exact rfl
                          · exact fun _ _ _ h => h
                          · rfl
                          · (intro W' hSw; (try dsimp only at hSw); go_simp; try with_reducible rfl)
                          try simp only [Act.put, List.setIfInBounds_toArray, List.set_cons_zero, List.set_cons_succ]
                          refine wpAnyH_take (i := 3) (oi := ?_) (v := ?_) ?_ (by kernel_rfl) (by kernel_rfl) (by kernel_rfl) ?_ (Or.inl ⟨?_, ?_⟩) hHeld ?_
                          rotate_left 2
                          · simp only [List.getElem?_toArray, List.getElem?_cons_succ, List.getElem?_cons_zero]; exact rfl
                          · exact fun _ _ _ h => h
                          · rfl
                          · (intro W' hSw; (try dsimp only at hSw); go_simp; try with_reducible rfl)
                          try simp only [Act.put, List.setIfInBounds_toArray, List.set_cons_zero, List.set_cons_succ]
                          refine wpAnyH_take (i := 4) (oi := ?_) (v := ?_) ?_ (by kernel_rfl) (by kernel_rfl) (by kernel_rfl) ?_ (Or.inl ⟨?_, ?_⟩) hHeld ?_
                          rotate_left 2
                          · simp only [List.getElem?_toArray, List.getElem?_cons_succ, List.getElem?_cons_zero]; exact rfl
                          · exact fun _ _ _ h => h
                          · rfl
                          · (intro W' hSw; (try dsimp only at hSw); go_simp; try with_reducible rfl)
                          try simp only [Act.put, List.setIfInBounds_toArray, List.set_cons_zero, List.set_cons_succ]
                          refine wpAnyH_take (i := 5) (oi := ?_) (v := ?_) ?_ (by kernel_rfl) (by kernel_rfl) (by kernel_rfl) ?_ (Or.inl ⟨?_, ?_⟩) hHeld ?_
                          rotate_left 2
                          · simp only [List.getElem?_toArray, List.getElem?_cons_succ, List.getElem?_cons_zero]; exact rfl
                          · exact fun _ _ _ h => h
                          · rfl
                          · (intro W' hSw; (try dsimp only at hSw); go_simp; try with_reducible rfl)
                          try simp only [Act.put, List.setIfInBounds_toArray, List.set_cons_zero, List.set_cons_succ]
                          refine wpAnyH_take (i := 6) (oi := ?_) (v := ?_) ?_ (by kernel_rfl) (by kernel_rfl) (by kernel_rfl) ?_ (Or.inl ⟨?_, ?_⟩) hHeld ?_
                          rotate_left 2
                          · simp only [List.getElem?_toArray, List.getElem?_cons_succ, List.getElem?_cons_zero]; exact rfl
                          · exact fun _ _ _ h => h
                          · rfl
                          · (intro W' hSw; (try dsimp only at hSw); go_simp; try with_reducible rfl)
                          try simp only [Act.put, List.setIfInBounds_toArray, List.set_cons_zero, List.set_cons_succ]
                          refine wpAnyH_take (i := 8) (oi := ?_) (v := ?_) ?_ (by kernel_rfl) (by kernel_rfl) (by kernel_rfl) ?_ (Or.inl ⟨?_, ?_⟩) hHeld ?_
                          rotate_left 2
                          · simp only [List.getElem?_toArray, List.getElem?_cons_succ, List.getElem?_cons_zero]; exact rfl
                          · exact fun _ _ _ h => h
                          · rfl
                          · (intro W' hSw; (try dsimp only at hSw); go_simp; try with_reducible rfl)
                          try simp only [Act.put, List.setIfInBounds_toArray, List.set_cons_zero, List.set_cons_succ]
                          refine wpAnyH_take (i := 9) (oi := ?_) (v := ?_) ?_ (by kernel_rfl) (by kernel_rfl) (by kernel_rfl) ?_ (Or.inl ⟨?_, ?_⟩) hHeld ?_
                          rotate_left 2
                          · simp only [List.getElem?_toArray, List.getElem?_cons_succ, List.getElem?_cons_zero]; exact rfl
                          · exact fun _ _ _ h => h
                          · rfl
                          · (intro W' hSw; (try dsimp only at hSw); go_simp; try with_reducible rfl)
                          try simp only [Act.put, List.setIfInBounds_toArray, List.set_cons_zero, List.set_cons_succ]
                          refine wpAnyH_take (i := 10) (oi := ?_) (v := ?_) ?_ (by kernel_rfl) (by kernel_rfl) (by kernel_rfl) ?_ (Or.inl ⟨?_, ?_⟩) hHeld ?_
                          rotate_left 2
                          · simp only [List.getElem?_toArray, List.getElem?_cons_succ, List.getElem?_cons_zero]; exact rfl
                          · exact fun _ _ _ h => h
                          · rfl
                          · (intro W' hSw; (try dsimp only at hSw); go_simp; try with_reducible rfl)
                          try simp only [Act.put, List.setIfInBounds_toArray, List.set_cons_zero, List.set_cons_succ]
                          refine wpAnyH_ready (rs := [7]) (by kernel_rfl) (by simp) ?_
                          refine AllReadyH.cons rfl (fun K hK => ?_) AllReadyH.nil
                          go_simp
                          go_at_call 12
                          refine Calls.mono (granted_any st u.name name item ((j : Int) + 1) _ _ _ (HST.out _ (bel_call B07 (Below.refl _ _).drew)) HOK.out HUN.out HI64.out) ?_
                          rintro e w8 ⟨⟨bb, rfl, hbb⟩, b8⟩
                          have HBB := Lib.hid hbb
                          clear hbb
                          have B8 : Below w7.heap.size w7 w8 := bel_call (Below.refl _ _).drew b8
                          clear b8 hHeld
                          refine hK.out _ _ (HS _ B8) (fun hHeld => ?_)
                          clear hK K
                          refine wpAnyH_take (i := 11) (oi := ?_) (v := ?_) ?_ (by kernel_rfl) (by kernel_rfl) (by kernel_rfl) ?_ (Or.inl ⟨?_, ?_⟩) hHeld ?_
                          rotate_left 2
                          · simp only [List.getElem?_toArray, List.getElem?_cons_succ, List.getElem?_cons_zero]; exact rfl
                          · exact fun _ _ _ h => h
                          · rfl
                          · (intro W' hSw; (try dsimp only at hSw); go_simp; try with_reducible rfl)
                          try simp only [Act.put, List.setIfInBounds_toArray, List.set_cons_zero, List.set_cons_succ]
                          refine wpAnyH_take (i := 12) (oi := ?_) (v := ?_) ?_ (by kernel_rfl) (by kernel_rfl) (by kernel_rfl) ?_ (Or.inl ⟨?_, ?_⟩) hHeld ?_
                          rotate_left 2
                          · simp only [List.getElem?_toArray, List.getElem?_cons_succ, List.getElem?_cons_zero]; exact rfl
                          · exact fun _ _ _ h => h
                          · rfl
                          · (intro W' hSw; (try dsimp only at hSw); go_simp; try with_reducible rfl)
                          try simp only [Act.put, List.setIfInBounds_toArray, List.set_cons_zero, List.set_cons_succ]
                          refine wpAnyH_take (i := 13) (oi := ?_) (v := ?_) ?_ (by kernel_rfl) (by kernel_rfl) (by kernel_rfl) ?_ (Or.inl ⟨?_, ?_⟩) hHeld ?_
                          rotate_left 2
                          · simp only [List.getElem?_toArray, List.getElem?_cons_succ, List.getElem?_cons_zero]; exact rfl
                          · exact fun _ _ _ h => h
                          · rfl
                          · (intro W' hSw; (try dsimp only at hSw); go_simp; try with_reducible rfl)
                          try simp only [Act.put, List.setIfInBounds_toArray, List.set_cons_zero, List.set_cons_succ]
                          refine wpAnyH_take (i := 14) (oi := ?_) (v := ?_) ?_ (by kernel_rfl) (by kernel_rfl) (by kernel_rfl) ?_ (Or.inl ⟨?_, ?_⟩) hHeld ?_
                          rotate_left 2
                          · simp only [List.getElem?_toArray, List.getElem?_cons_succ, List.getElem?_cons_zero]; exact rfl
                          · exact fun _ _ _ h => h
                          · rfl
                          · (intro W' hSw; (try dsimp only at hSw); go_simp; try with_reducible rfl)
                          try simp only [Act.put, List.setIfInBounds_toArray, List.set_cons_zero, List.set_cons_succ]
                          refine wpAnyH_take (i := 15) (oi := ?_) (v := ?_) ?_ (by kernel_rfl) (by kernel_rfl) (by kernel_rfl) ?_ (Or.inl ⟨?_, ?_⟩) hHeld ?_
                          rotate_left 2
                          · simp only [List.getElem?_toArray, List.getElem?_cons_succ, List.getElem?_cons_zero]; exact rfl
                          · exact fun _ _ _ h => h
                          · rfl
                          · (intro W' hSw; (try dsimp only at hSw); go_simp; try with_reducible rfl)
                          try simp only [Act.put, List.setIfInBounds_toArray, List.set_cons_zero, List.set_cons_succ]
                          refine wpAnyH_take (i := 16) (oi := ?_) (v := ?_) ?_ (by kernel_rfl) (by kernel_rfl) (by kernel_rfl) ?_ (Or.inl ⟨?_, ?_⟩) hHeld ?_
                          rotate_left 2
                          · simp only [List.getElem?_toArray, List.getElem?_cons_succ, List.getElem?_cons_zero]; exact rfl
                          · exact fun _ _ _ h => h
                          · rfl
                          · (intro W' hSw; (try dsimp only at hSw); go_simp; try with_reducible rfl)
                          try simp only [Act.put, List.setIfInBounds_toArray, List.set_cons_zero, List.set_cons_succ]
                          refine wpAnyH_take (i := 17) (oi := ?_) (v := ?_) ?_ (by kernel_rfl) (by kernel_rfl) (by kernel_rfl) ?_ (Or.inl ⟨?_, ?_⟩) hHeld ?_
                          rotate_left 2
                          · simp only [List.getElem?_toArray, List.getElem?_cons_succ, List.getElem?_cons_zero]; exact rfl
                          · exact fun _ _ _ h => h
                          · rfl
                          · (intro W' hSw; (try dsimp only at hSw); go_simp; try with_reducible rfl)
                          try simp only [Act.put, List.setIfInBounds_toArray, List.set_cons_zero, List.set_cons_succ]
                          refine wpAnyH_take (i := 18) (oi := ?_) (v := ?_) ?_ (by kernel_rfl) (by kernel_rfl) (by kernel_rfl) ?_ (Or.inl ⟨?_, ?_⟩) hHeld ?_
                          rotate_left 2
                          · simp only [List.getElem?_toArray, List.getElem?_cons_succ, List.getElem?_cons_zero]; exact rfl
                          · exact fun _ _ _ h => h
                          · rfl
                          · (intro W' hSw; (try dsimp only at hSw); go_simp; try with_reducible rfl)
                          try simp only [Act.put, List.setIfInBounds_toArray, List.set_cons_zero, List.set_cons_succ]
                          refine wpAnyH_take (i := 19) (oi := ?_) (v := ?_) ?_ (by kernel_rfl) (by kernel_rfl) (by kernel_rfl) ?_ (Or.inl ⟨?_, ?_⟩) hHeld ?_
                          rotate_left 2
                          · simp only [List.getElem?_toArray, List.getElem?_cons_succ, List.getElem?_cons_zero]; exact rfl
                          · exact fun _ _ _ h => h
                          · rfl
                          · (intro W' hSw; (try dsimp only at hSw); go_simp; try with_reducible rfl)
                          try simp only [Act.put, List.setIfInBounds_toArray, List.set_cons_zero, List.set_cons_succ]
                          refine wpAnyH_take (i := 20) (oi := ?_) (v := ?_) ?_ (by kernel_rfl) (by kernel_rfl) (by kernel_rfl) ?_ (Or.inl ⟨?_, ?_⟩) hHeld ?_
                          rotate_left 2
                          · simp only [List.getElem?_toArray, List.getElem?_cons_succ, List.getElem?_cons_zero]; exact rfl
                          · exact fun _ _ _ h => h
                          · rfl
                          · (intro W' hSw; (try dsimp only at hSw); go_simp; try with_reducible rfl)
                          try simp only [Act.put, List.setIfInBounds_toArray, List.set_cons_zero, List.set_cons_succ]
                          refine wpAnyH_take (i := 22) (oi := ?_) (v := ?_) ?_ (by kernel_rfl) (by kernel_rfl) (by kernel_rfl) ?_ (Or.inl ⟨?_, ?_⟩) hHeld ?_
                          rotate_left 2
                          · simp only [List.getElem?_toArray, List.getElem?_cons_succ, List.getElem?_cons_zero]; exact rfl
                          · exact fun _ _ _ h => h
                          · rfl
                          · (intro W' hSw; (try dsimp only at hSw); go_simp; try with_reducible rfl)
                          try simp only [Act.put, List.setIfInBounds_toArray, List.set_cons_zero, List.set_cons_succ]
                          refine wpAnyH_take (i := 23) (oi := ?_) (v := ?_) ?_ (by kernel_rfl) (by kernel_rfl) (by kernel_rfl) ?_ (Or.inl ⟨?_, ?_⟩) hHeld ?_
                          rotate_left 2
                          · simp only [List.getElem?_toArray, List.getElem?_cons_succ, List.getElem?_cons_zero]; exact rfl
                          · exact fun _ _ _ h => h
                          · rfl
                          · (intro W' hSw; (try dsimp only at hSw); go_simp; try with_reducible rfl)
                          try simp only [Act.put, List.setIfInBounds_toArray, List.set_cons_zero, List.set_cons_succ]
                          refine wpAnyH_ready (rs := [21]) (by kernel_rfl) (by simp) ?_
                          refine AllReadyH.cons rfl (fun K hK => ?_) AllReadyH.nil
                          go_simp
                          go_at_call 10
                          refine Calls.mono (reaches_any st u.name name _ _ _ (HST.out _ (bel_call B07 B8)) HOK.out HUN.out) ?_
                          rintro e w9 ⟨⟨r, rfl, hr⟩, b9⟩
                          have B9 : Below w7.heap.size w7 w9 := bel_call B8 b9
                          clear b9 hHeld
                          refine hK.out _ _ (HS _ B9) (fun hHeld => ?_)
                          clear hK K
                          have hbe : bb = decide (v.epoch ≤ r) := by rw [Bool.eq_iff_iff, decide_eq_true_eq, HBB.out, HGQ.out _ r hr]; exact ⟨fun h => h.2.2, fun h => ⟨(by first | rfl | trivial), HE.out, h⟩⟩
                          subst hbe
                          refine wpAnyH_take (i := 24) (oi := ?_) (v := ?_) ?_ (by kernel_rfl) (by kernel_rfl) (by kernel_rfl) ?_ (Or.inl ⟨?_, ?_⟩) hHeld ?_
                          rotate_left 2
                          · simp only [List.getElem?_toArray, List.getElem?_cons_succ, List.getElem?_cons_zero]; exact rfl
                          · exact fun _ _ _ h => h
                          · rfl
                          · (intro W' hSw; (try dsimp only at hSw); go_simp; try with_reducible rfl)
                          try simp only [Act.put, List.setIfInBounds_toArray, List.set_cons_zero, List.set_cons_succ]
                          refine wpAnyH_take (i := 25) (oi := ?_) (v := ?_) ?_ (by kernel_rfl) (by kernel_rfl) (by kernel_rfl) ?_ (Or.inl ⟨?_, ?_⟩) hHeld ?_
                          rotate_left 2
                          · simp only [List.getElem?_toArray, List.getElem?_cons_succ, List.getElem?_cons_zero]; exact rfl
                          · exact fun _ _ _ h => h
                          · rfl
                          · (intro W' hSw; (try dsimp only at hSw); go_simp; try with_reducible rfl)
                          try simp only [Act.put, List.setIfInBounds_toArray, List.set_cons_zero, List.set_cons_succ]
                          refine wpAnyH_take (i := 26) (oi := ?_) (v := ?_) ?_ (by kernel_rfl) (by kernel_rfl) (by kernel_rfl) ?_ (Or.inl ⟨?_, ?_⟩) hHeld ?_
                          rotate_left 2
                          · simp only [List.getElem?_toArray, List.getElem?_cons_succ, List.getElem?_cons_zero]; exact rfl
                          · exact fun _ _ _ h => h
                          · rfl
                          · (intro W' hSw; (try dsimp only at hSw); go_simp; try with_reducible rfl)
                          try simp only [Act.put, List.setIfInBounds_toArray, List.set_cons_zero, List.set_cons_succ]
                          refine wpAnyH_done (by kernel_rfl) ?_ _
                          have HEND := Lib.hid (bel_call hbel7 (bel_call HB77.out B9))
                          clear hHeld HS hr
                          go_wp2
                          go_roundw
                          case rel => exact ⟨q + 1, by omega, by go_num, HEND.out⟩
                          case measure => simp [RowKit.intOf]; omega
                        · have hed : decide (1 ≤ v.epoch) = false := decide_eq_false he
                          have HE := Lib.hid he
                          clear he
                          have HSQ := Lib.hid (show ∀ W : World, Below w7.heap.size w7 W → (fun W : World => (W.cell? ⟨w.heap.size, 0, none⟩ = some (.int .i64 st.turn) ∧ W.cell? ⟨w.heap.size, 1, none⟩ = some (.slice (some ⟨bu, ou, none⟩) st.users.length st_c1) ∧ W.cell? ⟨w.heap.size, 2, none⟩ = some (.slice st_A2 st.deposits.length st_c2) ∧ W.cell? ⟨w.heap.size, 3, none⟩ = some (.slice st_A3 st.folders.length st_c3)) ∧ W.cell? ⟨wr6.heap.size, 0, none⟩ = some (.int .i64 v.epoch) ∧ W.cell? ⟨wr6.heap.size, 1, none⟩ = some (.bool false) ∧ W.cell? ⟨wr7.heap.size, 0, none⟩ = some (.string u.name)) W from fun W hW => ⟨⟨k0 W (bel_call B07 hW), k1 W (bel_call B07 hW), k2 W (bel_call B07 hW), k3 W (bel_call B07 hW)⟩, (bel_call HB67.out hW |>.cell (p := ⟨wr6.heap.size, 0, none⟩) qw6).trans (HC6.out 0 _ rfl), (bel_call HB67.out hW |>.cell (p := ⟨wr6.heap.size, 1, none⟩) qw6).trans (HC6.out 1 _ rfl), (hW.cell (p := ⟨wr7.heap.size, 0, none⟩) qw7).trans (HC7.out 0 _ rfl)⟩)
                          go_wp2
                          have HS := HSQ.out
                          refine wp_region_held_drew (S := fun W : World => (W.cell? ⟨w.heap.size, 0, none⟩ = some (.int .i64 st.turn) ∧ W.cell? ⟨w.heap.size, 1, none⟩ = some (.slice (some ⟨bu, ou, none⟩) st.users.length st_c1) ∧ W.cell? ⟨w.heap.size, 2, none⟩ = some (.slice st_A2 st.deposits.length st_c2) ∧ W.cell? ⟨w.heap.size, 3, none⟩ = some (.slice st_A3 st.folders.length st_c3)) ∧ W.cell? ⟨wr6.heap.size, 0, none⟩ = some (.int .i64 v.epoch) ∧ W.cell? ⟨wr6.heap.size, 1, none⟩ = some (.bool false) ∧ W.cell? ⟨wr7.heap.size, 0, none⟩ = some (.string u.name)) (by kernel_rfl) (HS _ (Below.refl _ _).drew) (fun hHeld => ?_)
                          refine wpAnyH_take (i := 0) (oi := ?_) (v := ?_) ?_ (by kernel_rfl) (by kernel_rfl) (by kernel_rfl) ?_ (Or.inl ⟨?_, ?_⟩) hHeld ?_
                          rotate_left 2
                          · simp only [List.getElem?_toArray, List.getElem?_cons_zero]; exact rfl
                          · exact fun _ _ _ h => h
                          · rfl
                          · (intro W' hSw; (try dsimp only at hSw); go_simp; try with_reducible rfl)
                          try simp only [Act.put, List.setIfInBounds_toArray, List.set_cons_zero, List.set_cons_succ]
                          refine wpAnyH_take (i := 1) (oi := ?_) (v := ?_) ?_ (by kernel_rfl) (by kernel_rfl) (by kernel_rfl) ?_ (Or.inl ⟨?_, ?_⟩) hHeld ?_
                          rotate_left 2
                          · simp only [List.getElem?_toArray, List.getElem?_cons_succ, List.getElem?_cons_zero]; exact rfl
                          · exact fun _ _ _ h => h
                          · rfl
                          · (intro W' hSw; (try dsimp only at hSw); go_simp; try with_reducible rfl)
                          try simp only [Act.put, List.setIfInBounds_toArray, List.set_cons_zero, List.set_cons_succ]
                          refine wpAnyH_take (i := 2) (oi := ?_) (v := ?_) ?_ (by kernel_rfl) (by kernel_rfl) (by kernel_rfl) ?_ (Or.inl ⟨?_, ?_⟩) hHeld ?_
                          rotate_left 2
                          · simp only [List.getElem?_toArray, List.getElem?_cons_succ, List.getElem?_cons_zero]; exact rfl
                          · exact fun _ _ _ h => h
                          · rfl
                          · (intro W' hSw; (try dsimp only at hSw); go_simp; try with_reducible rfl)
                          try simp only [Act.put, List.setIfInBounds_toArray, List.set_cons_zero, List.set_cons_succ]
                          refine wpAnyH_take (i := 3) (oi := ?_) (v := ?_) ?_ (by kernel_rfl) (by kernel_rfl) (by kernel_rfl) ?_ (Or.inl ⟨?_, ?_⟩) hHeld ?_
                          rotate_left 2
                          · simp only [List.getElem?_toArray, List.getElem?_cons_succ, List.getElem?_cons_zero]; exact rfl
                          · exact fun _ _ _ h => h
                          · rfl
                          · (intro W' hSw; (try dsimp only at hSw); go_simp; try with_reducible rfl)
                          try simp only [Act.put, List.setIfInBounds_toArray, List.set_cons_zero, List.set_cons_succ]
                          refine wpAnyH_take (i := 4) (oi := ?_) (v := ?_) ?_ (by kernel_rfl) (by kernel_rfl) (by kernel_rfl) ?_ (Or.inl ⟨?_, ?_⟩) hHeld ?_
                          rotate_left 2
                          · simp only [List.getElem?_toArray, List.getElem?_cons_succ, List.getElem?_cons_zero]; exact rfl
                          · exact fun _ _ _ h => h
                          · rfl
                          · (intro W' hSw; (try dsimp only at hSw); go_simp; try with_reducible rfl)
                          try simp only [Act.put, List.setIfInBounds_toArray, List.set_cons_zero, List.set_cons_succ]
                          refine wpAnyH_take (i := 5) (oi := ?_) (v := ?_) ?_ (by kernel_rfl) (by kernel_rfl) (by kernel_rfl) ?_ (Or.inl ⟨?_, ?_⟩) hHeld ?_
                          rotate_left 2
                          · simp only [List.getElem?_toArray, List.getElem?_cons_succ, List.getElem?_cons_zero]; exact rfl
                          · exact fun _ _ _ h => h
                          · rfl
                          · (intro W' hSw; (try dsimp only at hSw); go_simp; try with_reducible rfl)
                          try simp only [Act.put, List.setIfInBounds_toArray, List.set_cons_zero, List.set_cons_succ]
                          refine wpAnyH_take (i := 6) (oi := ?_) (v := ?_) ?_ (by kernel_rfl) (by kernel_rfl) (by kernel_rfl) ?_ (Or.inl ⟨?_, ?_⟩) hHeld ?_
                          rotate_left 2
                          · simp only [List.getElem?_toArray, List.getElem?_cons_succ, List.getElem?_cons_zero]; exact rfl
                          · exact fun _ _ _ h => h
                          · rfl
                          · (intro W' hSw; (try dsimp only at hSw); go_simp; try with_reducible rfl)
                          try simp only [Act.put, List.setIfInBounds_toArray, List.set_cons_zero, List.set_cons_succ]
                          refine wpAnyH_take (i := 8) (oi := ?_) (v := ?_) ?_ (by kernel_rfl) (by kernel_rfl) (by kernel_rfl) ?_ (Or.inl ⟨?_, ?_⟩) hHeld ?_
                          rotate_left 2
                          · simp only [List.getElem?_toArray, List.getElem?_cons_succ, List.getElem?_cons_zero]; exact rfl
                          · exact fun _ _ _ h => h
                          · rfl
                          · (intro W' hSw; (try dsimp only at hSw); go_simp; try with_reducible rfl)
                          try simp only [Act.put, List.setIfInBounds_toArray, List.set_cons_zero, List.set_cons_succ]
                          refine wpAnyH_take (i := 9) (oi := ?_) (v := ?_) ?_ (by kernel_rfl) (by kernel_rfl) (by kernel_rfl) ?_ (Or.inl ⟨?_, ?_⟩) hHeld ?_
                          rotate_left 2
                          · simp only [List.getElem?_toArray, List.getElem?_cons_succ, List.getElem?_cons_zero]; exact rfl
                          · exact fun _ _ _ h => h
                          · rfl
                          · (intro W' hSw; (try dsimp only at hSw); go_simp; try with_reducible rfl)
                          try simp only [Act.put, List.setIfInBounds_toArray, List.set_cons_zero, List.set_cons_succ]
                          refine wpAnyH_take (i := 10) (oi := ?_) (v := ?_) ?_ (by kernel_rfl) (by kernel_rfl) (by kernel_rfl) ?_ (Or.inl ⟨?_, ?_⟩) hHeld ?_
                          rotate_left 2
                          · simp only [List.getElem?_toArray, List.getElem?_cons_succ, List.getElem?_cons_zero]; exact rfl
                          · exact fun _ _ _ h => h
                          · rfl
                          · (intro W' hSw; (try dsimp only at hSw); go_simp; try with_reducible rfl)
                          try simp only [Act.put, List.setIfInBounds_toArray, List.set_cons_zero, List.set_cons_succ]
                          refine wpAnyH_ready (rs := [7]) (by kernel_rfl) (by simp) ?_
                          refine AllReadyH.cons rfl (fun K hK => ?_) AllReadyH.nil
                          go_simp
                          go_at_call 12
                          refine Calls.mono (granted_any st u.name name item ((j : Int) + 1) _ _ _ (HST.out _ (bel_call B07 (Below.refl _ _).drew)) HOK.out HUN.out HI64.out) ?_
                          rintro e w8 ⟨⟨bb, rfl, hbb⟩, b8⟩
                          have HBB := Lib.hid hbb
                          clear hbb
                          have B8 : Below w7.heap.size w7 w8 := bel_call (Below.refl _ _).drew b8
                          clear b8 hHeld
                          refine hK.out _ _ (HS _ B8) (fun hHeld => ?_)
                          clear hK K
                          have hb0 : bb = false := by
                            rw [← Bool.not_eq_true, HBB.out]
                            obtain ⟨rr, hrr⟩ := isReach_some st u.name name
                            exact fun h => by have h2 := (HGQ.out _ rr hrr |>.1 h).2.1; have h3 := HE.out; omega
                          subst hb0
                          refine wpAnyH_take (i := 11) (oi := ?_) (v := ?_) ?_ (by kernel_rfl) (by kernel_rfl) (by kernel_rfl) ?_ (Or.inl ⟨?_, ?_⟩) hHeld ?_
                          rotate_left 2
                          · simp only [List.getElem?_toArray, List.getElem?_cons_succ, List.getElem?_cons_zero]; exact rfl
                          · exact fun _ _ _ h => h
                          · rfl
                          · (intro W' hSw; (try dsimp only at hSw); go_simp; try with_reducible rfl)
                          try simp only [Act.put, List.setIfInBounds_toArray, List.set_cons_zero, List.set_cons_succ]
                          refine wpAnyH_take (i := 12) (oi := ?_) (v := ?_) ?_ (by kernel_rfl) (by kernel_rfl) (by kernel_rfl) ?_ (Or.inl ⟨?_, ?_⟩) hHeld ?_
                          rotate_left 2
                          · simp only [List.getElem?_toArray, List.getElem?_cons_succ, List.getElem?_cons_zero]; exact rfl
                          · exact fun _ _ _ h => h
                          · rfl
                          · (intro W' hSw; (try dsimp only at hSw); go_simp; try with_reducible rfl)
                          try simp only [Act.put, List.setIfInBounds_toArray, List.set_cons_zero, List.set_cons_succ]
                          refine wpAnyH_take (i := 13) (oi := ?_) (v := ?_) ?_ (by kernel_rfl) (by kernel_rfl) (by kernel_rfl) ?_ (Or.inl ⟨?_, ?_⟩) hHeld ?_
                          rotate_left 2
                          · simp only [List.getElem?_toArray, List.getElem?_cons_succ, List.getElem?_cons_zero]; exact rfl
                          · exact fun _ _ _ h => h
                          · rfl
                          · (intro W' hSw; (try dsimp only at hSw); go_simp; try with_reducible rfl)
                          try simp only [Act.put, List.setIfInBounds_toArray, List.set_cons_zero, List.set_cons_succ]
                          refine wpAnyH_take (i := 14) (oi := ?_) (v := ?_) ?_ (by kernel_rfl) (by kernel_rfl) (by kernel_rfl) ?_ (Or.inl ⟨?_, ?_⟩) hHeld ?_
                          rotate_left 2
                          · simp only [List.getElem?_toArray, List.getElem?_cons_succ, List.getElem?_cons_zero]; exact rfl
                          · exact fun _ _ _ h => h
                          · rfl
                          · (intro W' hSw; (try dsimp only at hSw); go_simp; try with_reducible rfl)
                          try simp only [Act.put, List.setIfInBounds_toArray, List.set_cons_zero, List.set_cons_succ]
                          refine wpAnyH_take (i := 15) (oi := ?_) (v := ?_) ?_ (by kernel_rfl) (by kernel_rfl) (by kernel_rfl) ?_ (Or.inl ⟨?_, ?_⟩) hHeld ?_
                          rotate_left 2
                          · simp only [List.getElem?_toArray, List.getElem?_cons_succ, List.getElem?_cons_zero]; exact rfl
                          · exact fun _ _ _ h => h
                          · rfl
                          · (intro W' hSw; (try dsimp only at hSw); go_simp; try with_reducible rfl)
                          try simp only [Act.put, List.setIfInBounds_toArray, List.set_cons_zero, List.set_cons_succ]
                          refine wpAnyH_take (i := 16) (oi := ?_) (v := ?_) ?_ (by kernel_rfl) (by kernel_rfl) (by kernel_rfl) ?_ (Or.inl ⟨?_, ?_⟩) hHeld ?_
                          rotate_left 2
                          · simp only [List.getElem?_toArray, List.getElem?_cons_succ, List.getElem?_cons_zero]; exact rfl
                          · exact fun _ _ _ h => h
                          · rfl
                          · (intro W' hSw; (try dsimp only at hSw); go_simp; try with_reducible rfl)
                          try simp only [Act.put, List.setIfInBounds_toArray, List.set_cons_zero, List.set_cons_succ]
                          refine wpAnyH_take (i := 17) (oi := ?_) (v := undef) ?_ (by kernel_rfl) (by kernel_rfl) (by kernel_rfl) ?_ (Or.inr ⟨?_, rfl⟩) hHeld ?_
                          rotate_left 1
                          · simp only [List.getElem?_toArray, List.getElem?_cons_succ, List.getElem?_cons_zero]; exact rfl
                          · exact fun _ _ _ h => h
                          · rfl
                          try simp only [Act.put, List.setIfInBounds_toArray, List.set_cons_zero, List.set_cons_succ]
                          refine wpAnyH_take (i := 18) (oi := ?_) (v := undef) ?_ (by kernel_rfl) (by kernel_rfl) (by kernel_rfl) ?_ (Or.inr ⟨?_, rfl⟩) hHeld ?_
                          rotate_left 1
                          · simp only [List.getElem?_toArray, List.getElem?_cons_succ, List.getElem?_cons_zero]; exact rfl
                          · exact fun _ _ _ h => h
                          · rfl
                          try simp only [Act.put, List.setIfInBounds_toArray, List.set_cons_zero, List.set_cons_succ]
                          refine wpAnyH_take (i := 19) (oi := ?_) (v := undef) ?_ (by kernel_rfl) (by kernel_rfl) (by kernel_rfl) ?_ (Or.inr ⟨?_, rfl⟩) hHeld ?_
                          rotate_left 1
                          · simp only [List.getElem?_toArray, List.getElem?_cons_succ, List.getElem?_cons_zero]; exact rfl
                          · exact fun _ _ _ h => h
                          · rfl
                          try simp only [Act.put, List.setIfInBounds_toArray, List.set_cons_zero, List.set_cons_succ]
                          refine wpAnyH_take (i := 20) (oi := ?_) (v := undef) ?_ (by kernel_rfl) (by kernel_rfl) (by kernel_rfl) ?_ (Or.inr ⟨?_, rfl⟩) hHeld ?_
                          rotate_left 1
                          · simp only [List.getElem?_toArray, List.getElem?_cons_succ, List.getElem?_cons_zero]; exact rfl
                          · exact fun _ _ _ h => h
                          · rfl
                          try simp only [Act.put, List.setIfInBounds_toArray, List.set_cons_zero, List.set_cons_succ]
                          refine wpAnyH_take (i := 21) (oi := ?_) (v := undef) ?_ (by kernel_rfl) (by kernel_rfl) (by kernel_rfl) ?_ (Or.inr ⟨?_, rfl⟩) hHeld ?_
                          rotate_left 1
                          · simp only [List.getElem?_toArray, List.getElem?_cons_succ, List.getElem?_cons_zero]; exact rfl
                          · exact fun _ _ _ h => h
                          · rfl
                          try simp only [Act.put, List.setIfInBounds_toArray, List.set_cons_zero, List.set_cons_succ]
                          refine wpAnyH_take (i := 22) (oi := ?_) (v := undef) ?_ (by kernel_rfl) (by kernel_rfl) (by kernel_rfl) ?_ (Or.inr ⟨?_, rfl⟩) hHeld ?_
                          rotate_left 1
                          · simp only [List.getElem?_toArray, List.getElem?_cons_succ, List.getElem?_cons_zero]; exact rfl
                          · exact fun _ _ _ h => h
                          · rfl
                          try simp only [Act.put, List.setIfInBounds_toArray, List.set_cons_zero, List.set_cons_succ]
                          refine wpAnyH_take (i := 23) (oi := ?_) (v := undef) ?_ (by kernel_rfl) (by kernel_rfl) (by kernel_rfl) ?_ (Or.inr ⟨?_, rfl⟩) hHeld ?_
                          rotate_left 1
                          · simp only [List.getElem?_toArray, List.getElem?_cons_succ, List.getElem?_cons_zero]; exact rfl
                          · exact fun _ _ _ h => h
                          · rfl
                          try simp only [Act.put, List.setIfInBounds_toArray, List.set_cons_zero, List.set_cons_succ]
                          refine wpAnyH_take (i := 24) (oi := ?_) (v := undef) ?_ (by kernel_rfl) (by kernel_rfl) (by kernel_rfl) ?_ (Or.inr ⟨?_, rfl⟩) hHeld ?_
                          rotate_left 1
                          · simp only [List.getElem?_toArray, List.getElem?_cons_succ, List.getElem?_cons_zero]; exact rfl
                          · exact fun _ _ _ h => h
                          · rfl
                          try simp only [Act.put, List.setIfInBounds_toArray, List.set_cons_zero, List.set_cons_succ]
                          refine wpAnyH_take (i := 25) (oi := ?_) (v := ?_) ?_ (by kernel_rfl) (by kernel_rfl) (by kernel_rfl) ?_ (Or.inl ⟨?_, ?_⟩) hHeld ?_
                          rotate_left 2
                          · simp only [List.getElem?_toArray, List.getElem?_cons_succ, List.getElem?_cons_zero]; exact rfl
                          · exact fun _ _ _ h => h
                          · rfl
                          · (intro W' hSw; (try dsimp only at hSw); go_simp; try with_reducible rfl)
                          try simp only [Act.put, List.setIfInBounds_toArray, List.set_cons_zero, List.set_cons_succ]
                          refine wpAnyH_take (i := 26) (oi := ?_) (v := ?_) ?_ (by kernel_rfl) (by kernel_rfl) (by kernel_rfl) ?_ (Or.inl ⟨?_, ?_⟩) hHeld ?_
                          rotate_left 2
                          · simp only [List.getElem?_toArray, List.getElem?_cons_succ, List.getElem?_cons_zero]; exact rfl
                          · exact fun _ _ _ h => h
                          · rfl
                          · (intro W' hSw; (try dsimp only at hSw); go_simp; try with_reducible rfl)
                          try simp only [Act.put, List.setIfInBounds_toArray, List.set_cons_zero, List.set_cons_succ]
                          refine wpAnyH_done (by kernel_rfl) ?_ _
                          have HEND := Lib.hid (bel_call hbel7 (bel_call HB77.out B8))
                          clear hHeld HS
                          go_wp2
                          go_roundw
                          case rel => exact ⟨q + 1, by omega, by go_num, HEND.out⟩
                          case measure => simp [RowKit.intOf]; omega
                    · obtain rfl : q = st.users.length := by omega
                      go_wp2
                      go_roundw
                      case rel => exact ⟨j + 1, by omega, by go_num, bel_call hbel6 (bel_call HB6.out hbel7)⟩
                      case measure => simp [RowKit.intOf]; omega
                · obtain rfl : j = x.versions.length := by omega
                  have B06 := bel_call B05 (bel_call HB5.out hbel6)
                  have HBF := Lib.hid (bel_call hbel (bel_call HB5.out hbel6))
                  go_wp2_with fail
                  refine Calls.mono (granted_any st nA name item 0 _ _ _ (HST.out _ (bel_call B4 HBF.out)) HOK.out (by decide) ⟨by decide, by decide⟩) ?_
                  rintro e w5 ⟨⟨b, rfl, hb⟩, b5⟩
                  have hb0 : b = false := by rw [← Bool.not_eq_true]; exact fun h => HNZ.out (hb.1 h)
                  subst hb0
                  have HB5 := Lib.hid (bel_call HB0.out (bel_call (bel_call B4 HBF.out) b5))
                  clear b5 hb
                  go_wp2
                  go_ret
                  exact ⟨rfl, HB5.out⟩
            · have hse : (x.name.toList == item.toList) = false := eqS_ne hnm
              have HNX := Lib.hid (none_step HNI.out HX.out (by unfold isI; exact decide_eq_false hnm))
              clear hnm
              go_wp2
              go_roundw
              case rel => exact ⟨k + 1, by omega, by go_num, HNX, bel_call hbel HB5.out⟩
              case measure => simp [RowKit.intOf]; omega
          · obtain rfl : k = f.items.length := by omega
            have HBF := Lib.hid hbel
            go_wp2_with fail
            refine Calls.mono (granted_any st nA name item 0 _ _ _ (HST.out _ (bel_call B4 HBF.out)) HOK.out (by decide) ⟨by decide, by decide⟩) ?_
            rintro e w5 ⟨⟨b, rfl, hb⟩, b5⟩
            have hb0 : b = false := by rw [← Bool.not_eq_true]; exact fun h => HNZ.out (hb.1 h)
            subst hb0
            have HB5 := Lib.hid (bel_call HB0.out (bel_call (bel_call B4 HBF.out) b5))
            clear b5 hb
            go_wp2
            go_ret
            exact ⟨rfl, HB5.out⟩
set_option maxRecDepth 100000 in
theorem lifted_grantedOlder (os : Os) (started : os.Started) (H : Type) (enc : TypeId × Value → H) :
    ReturnsInHanded {} Try.checked os 4 .any (Rows.grantedOlderSpec.pre6 enc Try.prog Try.f4 Rows.grantedOlderRow.domain false) (Rows.grantedOlderSpec.post enc Try.prog Try.f4 false true false false) := by
  refine returnsInHanded_of_change_sized (C := Try.checked) law_own started (by kernel_rfl) Try.func4
    (ChangeSpec.witness6 (enc := enc) (C := Try.checked) false ⟨#[], #[.agg #[.int .i64 0, .slice none 0 0, .slice none 0 0, .slice none 0 0], .string ⟨#[]⟩, .string ⟨#[]⟩], []⟩ 8 (by kernel_rfl) (by kernel_rfl) (by kernel_rfl) (by kernel_rfl)) ?_
  intro W base args ds gs before hval0 hW hcnd hsz0 _
  have hval : ∀ (j : Nat) t v, Try.f4.params[j]? = some t → args[j]? = some v → Value.okWide Try.prog W .any base t v := hval0
  have hW' := hW
  obtain ⟨p, q, hA0, hV, rfl, hfz, hnd⟩ := hW
  have hA : DataW.TrodAll enc Try.prog W 0 (fun _ => true) true Try.f4.params.toList args.toList ds p := hA0
  rw [Try.params4] at hA hval
  obtain ⟨v0, vs0, d0, ds0, p0, q0, hargs, rfl, rfl, h0, r0⟩ := trodAll_cons hA
  obtain ⟨v1, vs1, d1, ds1, p1, q1, rfl, rfl, rfl, h1, r1⟩ := trodAll_cons r0
  obtain ⟨v2, vs2, d2, ds2, p2, q2, rfl, rfl, rfl, h2, r2⟩ := trodAll_cons r1
  obtain ⟨rfl, rfl, rfl⟩ := trodAll_nil r2
  obtain rfl : args = #[v0, v1, v2] := by cases args; simp_all
  obtain ⟨rfl, rfl⟩ := trodVars_none hV
  clear hargs
  obtain ⟨cs0, rfl, _⟩ := okWide_struct Try.underlying26 (hval 0 26 v0 rfl rfl)
  obtain ⟨fu0, hf0⟩ := h0
  obtain ⟨a0, hx0⟩ := rdState hf0 (fun q hq => by simpa using List.all_eq_true.1 hsz0 q (DataW.weights_mem_each (j := 0) rfl rfl q hq))
  obtain ⟨l0, rfl⟩ : ∃ l : List Value, cs0 = l.toArray := ⟨cs0.toList, by simp⟩
  rw [show (Value.agg l0.toArray).cells.toList = l0 from by simp [Value.cells]] at hx0
  obtain ⟨fu1, hf1⟩ := h1
  obtain ⟨a1, rfl, w1⟩ := rdv_str Try.underlying9 (hval 1 9 v1 rfl rfl) hf1 (fun q hq => by simpa using List.all_eq_true.1 hsz0 q (DataW.weights_mem_each (j := 1) rfl rfl q hq))
  obtain ⟨fu2, hf2⟩ := h2
  obtain ⟨a2, rfl, w2⟩ := rdv_str Try.underlying9 (hval 2 9 v2 rfl rfl) hf2 (fun q hq => by simpa using List.all_eq_true.1 hsz0 q (DataW.weights_mem_each (j := 2) rfl rfl q hq))
  refine (walk_grantedOlder W a0 _ hx0 a1 w1 a2 w2).mono fun e W' ⟨he, hg⟩ => ?_
  subst he
  exact ⟨_, rfl, law_post hW' rfl rfl rfl Try.underlying4 law_laid (by kernel_rfl) hg⟩

theorem grantedOlder_holds : Rows.GrantedOlderSaid :=
  OpenClaim.holds_of_wide 4 Try.f4 rfl rfl rfl rfl rfl rfl rfl ⟨rfl, rfl, rfl, rfl, rfl⟩ rfl rfl rfl rfl rfl (by kernel_rfl) Try.func4 (by kernel_rfl)
    (of_decide_eq_true (by kernel_rfl)) (by unfold Func.isWrapper; first | (rw [if_pos (by decide +kernel)]; kernel_rfl) | (rw [if_neg (by decide +kernel)]; exact ⟨rfl, rfl⟩))
    (fun os started H enc _ => lifted_grantedOlder os started H enc)
end Go.Proofs.Ytocofkccdfaaaaa
