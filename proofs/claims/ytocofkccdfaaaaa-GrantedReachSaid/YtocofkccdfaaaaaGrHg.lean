/- Layer granted: the document's Granted. Conditions: as each theorem says. -/
import Derived.Test.YtocofkccdfaaaaaGrHr
namespace Go.Proofs.Ytocofkccdfaaaaa
open Go.RowKit Go.Deep

/-- What Granted answers, and what it leaves as it was. -/
def GrAns (st : State) (u fo it : Nm) (n : Int) (w : World) (e : Ending) (w' : World) : Prop := (∃ b : Bool, e = .returned (.bool b) ∧ (b = true ↔ GrantedP st u fo it n)) ∧ Below w.heap.size w w'
set_option maxHeartbeats 8000000 in
set_option maxRecDepth 100000 in
theorem refgranted_any (st : State) (hsm : Small st) (u fo it : Nm) (n : Int) (hu : u.size ≤ 1000) (hn : I64 n) (cs : List Value) (w : World) (S : Nat → Prop) (h : rState S w cs st) : Calls Try.prog 17 #[.agg cs.toArray, .string u, .string fo, .string it, .int .i64 n] w (GrAns st u fo it n w) := by
  have HR := Lib.hid (rState_keep h (show Kept S (fun z => z < w.heap.size) w w from fun b _ hl => ⟨hl, rfl⟩))
  have HSM := Lib.hid hsm
  have HUL := Lib.hid hu
  have HN64 := Lib.hid hn
  clear hsm hu hn
  replace h := HR.out
  obtain ⟨st_A1, st_c1, st_A2, st_c2, st_A3, st_c3, rfl, st_turn_ok, st_users_l, st_users_m, st_users_n, st_users_s, st_deposits_l, st_deposits_m, st_deposits_n, st_deposits_s, st_folders_l, st_folders_m, st_folders_n, st_folders_s⟩ := open_State h
  obtain ⟨w0, hw0, cw0, fw0, Bw0, qw0⟩ := boxed w #[.int .i64 st.turn, .slice st_A1 st.users.length st_c1, .slice st_A2 st.deposits.length st_c2, .slice st_A3 st.folders.length st_c3] 26
  have HB0 := Lib.hid Bw0
  have HC0 := Lib.hid cw0
  have HST := Lib.hid fun W (hW : Below w0.heap.size w0 W) => rState_keep HR.out (kept_of (bel_call HB0.out hW))
  have s0 := cw0 0 _ rfl
  have s1 := cw0 1 _ rfl
  have s2 := cw0 2 _ rfl
  have s3 := cw0 3 _ rfl
  clear cw0 fw0 Bw0 st_users_s st_deposits_s
  go_enter Try.func17, Try.ntmps17
  go_wp2_with fail
  clear hw0 s0 s1 s2 s3
  refine Calls.mono (refat2_any st fo _ w0 _ (HST.out _ (Below.refl _ _))) ?_
  rintro e w1 ⟨rfl, b1⟩
  have HB1 := Lib.hid b1
  clear b1
  cases hF : findF st fo with
  | none =>
    rw [atIdx_none hF]
    have HNO := Lib.hid (show ¬ GrantedP st u fo it n from fun ⟨g, _, _, h, _⟩ => by rw [hF] at h; cases h)
    clear hF
    go_wp2
    go_ret
    unfold GrAns
    exact ⟨⟨false, rfl, ⟨fun h => (by cases h), fun h => absurd h HNO.out⟩⟩, bel_call HB0.out HB1.out⟩
  | some f =>
    obtain ⟨j, hj, hfj⟩ := atIdx_some hF
    rw [hj]
    have hjl := (List.getElem?_eq_some_iff.1 hfj).1
    have hji : (j : Int) < (st.folders.length : Int) := by omega
    have hj0 : decide ((j : Int) < 0) = false := decide_eq_false (by omega)
    have HF := Lib.hid hF
    obtain ⟨bf, of, yf, hAf, hbf, hRf, hcf⟩ := SlAt.elem st_folders_s hfj (by decide) (bel_call HB0.out HB1.out)
    obtain ⟨f_A2, f_c2, f_A3, f_c3, f_A4, f_c4, f_A5, f_c5, f_A6, f_c6, rfl, f_name_le, f_turn_ok, f_manifests_l, f_manifests_m, f_manifests_n, f_manifests_s, f_epochs_l, f_epochs_m, f_epochs_n, f_epochs_s, f_items_l, f_items_m, f_items_n, f_items_s, f_wraps_l, f_wraps_m, f_wraps_n, f_wraps_s, f_links_l, f_links_m, f_links_n, f_links_s⟩ := open_Folder hRf
    have f4 := hcf 4 _ rfl
    subst hAf
    have s3 := (HB1.out.cell (p := ⟨w.heap.size, 3, none⟩) qw0).trans (HC0.out 3 _ rfl)
    clear hF hj hfj hcf f_manifests_s f_epochs_s f_wraps_s f_links_s
    go_wp2
    clear s3 f4
    go_loop [13] (fun i => ∃ k : Nat, k ≤ f.items.length ∧ i = .int .i64 k ∧ Hid (∀ y ∈ f.items.take k, isI it y = false)) (fun i => f.items.length - (RowKit.intOf i).toNat)
    case atStart => exact ⟨0, by omega, by go_num, fun y hy => by simp at hy⟩
    case round =>
      obtain ⟨k, hk, rfl, HN⟩ := hrel
      by_cases hlt : k < f.items.length
      · obtain ⟨x, hx⟩ : ∃ x, f.items[k]? = some x := ⟨_, List.getElem?_eq_getElem hlt⟩
        obtain ⟨b, o, ys, hA, hbl, hR, hcz⟩ := SlAt.elem f_items_s hx (by decide) (bel_call HB0.out HB1.out)
        obtain ⟨x_A1, x_c1, rfl, x_name_le, x_versions_l, x_versions_m, x_versions_n, x_versions_s⟩ := open_Item hR
        have u0 := hcz 0 _ rfl
        have u1 := hcz 1 _ rfl
        rw [Nat.add_zero] at u0
        subst hA
        have hki : (k : Int) < (f.items.length : Int) := by omega
        have HX := Lib.hid hx
        clear hx hcz hlt
        by_cases hnm : x.name = it
        rotate_left
        · have hse : (x.name.toList == it.toList) = false := eqS_ne hnm
          have HN2 := Lib.hid (none_step HN.out HX.out (show isI it x = false by unfold isI; exact decide_eq_false hnm))
          clear hnm HN
          go_wp2
          go_round
          case rel => exact ⟨k + 1, by omega, by go_num, HN2⟩
          case measure => simp [RowKit.intOf]; omega
        have hse : (x.name.toList == it.toList) = true := by rw [hnm]; simp
        have HX2 := Lib.hid (find_here HN.out HX.out (show isI it x = true by unfold isI; exact decide_eq_true hnm))
        clear hnm HN
        have HGP : Hid (∀ m : Int, 1 ≤ m → ∀ v, n = m → m ≤ x.versions.length → x.versions[(m - 1).toNat]? = some v → ∀ r, IsReach st u fo r → (GrantedP st u fo it n ↔ (v.gone = false ∧ 1 ≤ v.epoch ∧ v.epoch ≤ r))) := by
          intro m hm v hnm hml hv r hr
          subst hnm
          constructor
          · rintro ⟨g, y, v', h1, h2, _, _, h5, h6, h7, r', h8, h9⟩
            obtain rfl : f = g := Option.some.inj (HF.out.symm.trans h1)
            obtain rfl : x = y := Option.some.inj (HX2.out.symm.trans h2)
            obtain rfl : v = v' := Option.some.inj (hv.symm.trans h5)
            obtain rfl := h8.one hr
            exact ⟨h6, h7, h9⟩
          · rintro ⟨h1, h2, h3⟩
            exact ⟨f, x, v, HF.out, HX2.out, hm, hml, hv, h1, h2, r, hr, h3⟩
        by_cases hn1 : n < 1
        · have HNO := Lib.hid (show ¬ GrantedP st u fo it n from fun ⟨_, _, _, _, _, h, _⟩ => by omega)
          have hn1' : decide (n < 1) = true := decide_eq_true hn1
          clear hn1
          go_wp2
          go_ret
          unfold GrAns
          exact ⟨⟨false, rfl, ⟨fun h => (by cases h), fun h => absurd h HNO.out⟩⟩, bel_call HB0.out HB1.out⟩
        have hn1' : decide (n < 1) = false := decide_eq_false hn1
        by_cases hn2 : (x.versions.length : Int) < n
        · have HNO := Lib.hid (show ¬ GrantedP st u fo it n from fun ⟨g, y, _, h1, h2, _, h4, _⟩ => by
            obtain rfl : f = g := Option.some.inj (HF.out.symm.trans h1)
            obtain rfl : x = y := Option.some.inj (HX2.out.symm.trans h2)
            omega)
          have hn2' : decide ((x.versions.length : Int) < n) = true := decide_eq_true hn2
          clear hn1 hn2
          go_wp2
          go_ret
          unfold GrAns
          exact ⟨⟨false, rfl, ⟨fun h => (by cases h), fun h => absurd h HNO.out⟩⟩, bel_call HB0.out HB1.out⟩
        have hn2' : decide ((x.versions.length : Int) < n) = false := decide_eq_false hn2
        obtain ⟨j2, rfl⟩ : ∃ j : Nat, n = (j : Int) + 1 := ⟨(n - 1).toNat, by omega⟩
        have hjl2 : j2 < x.versions.length := by omega
        obtain ⟨v, hv⟩ : ∃ v, x.versions[j2]? = some v := ⟨_, List.getElem?_eq_getElem hjl2⟩
        have HGQ := Lib.hid (fun r hr => HGP ((j2 : Int) + 1) (by omega) v rfl (by omega) (by rw [show ((j2 : Int) + 1 - 1).toNat = j2 by omega]; exact hv) r hr)
        obtain ⟨b', o', ys', hA', hbl', hRv, hcz'⟩ := SlAt.elem x_versions_s hv (by decide) (bel_call HB0.out HB1.out)
        obtain ⟨v_A3, v_c3, rfl, v_epoch_ok, v_who_le, v_data_l, v_data_m, v_data_n, v_data_s⟩ := open_Version hRv
        have v0 := hcz' 0 _ rfl
        have v1 := hcz' 1 _ rfl
        have v2 := hcz' 2 _ rfl
        have v3 := hcz' 3 _ rfl
        rw [Nat.add_zero] at v0
        subst hA'
        have hw1 : IntKind.i64.wrap ((j2 : Int) + 1 - 1) = (j2 : Int) := by rw [IntWalk.i64_in _ (by omega)]; omega
        have hji2 : (j2 : Int) < (x.versions.length : Int) := by omega
        clear hn1 hn2 hv hcz' HGP x_versions_s v_data_s
        obtain ⟨g, hg⟩ : ∃ g, v.gone = g := ⟨_, rfl⟩
        rw [hg] at v1 HGQ
        clear hg
        obtain ⟨w5, hw5, cw5, fw5, Bw5, qw5⟩ := boxed w1 #[.int .i64 v.epoch, .bool g, .string v.who, .slice v_A3 v.data.length v_c3] 58
        have HB5 := Lib.hid (bel_call (bel_call HB0.out HB1.out) Bw5)
        have HC5 := Lib.hid cw5
        have HBW5 := Lib.hid Bw5
        have d0 := cw5 0 _ rfl
        have d1 := cw5 1 _ rfl
        clear cw5 fw5 Bw5
        obtain ⟨rr, hrr⟩ := isReach_some st u fo
        cases g with
        | true =>
          have HNO := Lib.hid (show ¬ GrantedP st u fo it ((j2 : Int) + 1) from fun h => by have := ((HGQ.out rr hrr).1 h).1; cases this)
          clear hrr
          go_wp2
          go_quiet (fail)
          go_wp2
          go_ret
          unfold GrAns
          exact ⟨⟨false, rfl, ⟨fun h => (by cases h), fun h => absurd h HNO.out⟩⟩, belN HB5.out _⟩
        | false =>
          by_cases he : 1 ≤ v.epoch
          rotate_left
          · have HNO := Lib.hid (show ¬ GrantedP st u fo it ((j2 : Int) + 1) from fun h => he ((HGQ.out rr hrr).1 h).2.1)
            have hed : decide (1 ≤ v.epoch) = false := decide_eq_false he
            clear hrr he
            go_wp2
            go_quiet (fail)
            go_wp2
            go_ret
            unfold GrAns
            exact ⟨⟨false, rfl, ⟨fun h => (by cases h), fun h => absurd h HNO.out⟩⟩, belN HB5.out _⟩
          have hed : decide (1 ≤ v.epoch) = true := decide_eq_true he
          have HE := Lib.hid he
          have HSQ := Lib.hid (show ∀ W : World, Below w5.heap.size w5 W → (fun W : World => (W.cell? ⟨w.heap.size, 0, none⟩ = some (.int .i64 st.turn) ∧ W.cell? ⟨w.heap.size, 1, none⟩ = some (.slice st_A1 st.users.length st_c1) ∧ W.cell? ⟨w.heap.size, 2, none⟩ = some (.slice st_A2 st.deposits.length st_c2) ∧ W.cell? ⟨w.heap.size, 3, none⟩ = some (.slice (some ⟨bf, of, none⟩) st.folders.length st_c3)) ∧ W.cell? ⟨w1.heap.size, 0, none⟩ = some (.int .i64 v.epoch) ∧ W.cell? ⟨w1.heap.size, 1, none⟩ = some (.bool false)) W from fun W hW => by
            have c := fun j v (hj : (#[.int .i64 st.turn, .slice st_A1 st.users.length st_c1, .slice st_A2 st.deposits.length st_c2, .slice (some ⟨bf, of, none⟩) st.folders.length st_c3] : Array Value)[j]? = some v) => ((bel_call HB1.out (bel_call HBW5.out hW)).cell (p := ⟨w.heap.size, j, none⟩) qw0).trans (HC0.out j v hj)
            exact ⟨⟨c 0 _ rfl, c 1 _ rfl, c 2 _ rfl, c 3 _ rfl⟩, (hW.cell (p := ⟨w1.heap.size, 0, none⟩) qw5).trans (HC5.out 0 _ rfl), (hW.cell (p := ⟨w1.heap.size, 1, none⟩) qw5).trans (HC5.out 1 _ rfl)⟩)
          clear hrr he
          go_wp2
          have HS := HSQ.out
          refine wp_region_held_drew (S := fun W : World => (W.cell? ⟨w.heap.size, 0, none⟩ = some (.int .i64 st.turn) ∧ W.cell? ⟨w.heap.size, 1, none⟩ = some (.slice st_A1 st.users.length st_c1) ∧ W.cell? ⟨w.heap.size, 2, none⟩ = some (.slice st_A2 st.deposits.length st_c2) ∧ W.cell? ⟨w.heap.size, 3, none⟩ = some (.slice (some ⟨bf, of, none⟩) st.folders.length st_c3)) ∧ W.cell? ⟨w1.heap.size, 0, none⟩ = some (.int .i64 v.epoch) ∧ W.cell? ⟨w1.heap.size, 1, none⟩ = some (.bool false)) (by kernel_rfl) (HS _ (Below.refl _ _).drew) (fun hHeld => ?_)
          refine wpAnyH_take (i := 0) (oi := ?_) (v := ?_) ?_ (by kernel_rfl) (by kernel_rfl) (by kernel_rfl) ?_ (Or.inl ⟨?_, ?_⟩) hHeld ?_
          rotate_left 2
          · simp only [List.getElem?_toArray, List.getElem?_cons_zero]; exact rfl
          · exact fun _ _ _ h => h
          · rfl
          · (intro W' hSw; (try dsimp only at hSw); go_simp; try with_reducible rfl)
          try simp only [Act.put, List.setIfInBounds_toArray, List.set_cons_zero, List.set_cons_succ]
          refine wpAnyH_take (i := 1) (oi := ?_) (v := ?_) ?_ (by kernel_rfl) (by kernel_rfl) (by kernel_rfl) ?_ (Or.inl ⟨?_, ?_⟩) hHeld ?_
          rotate_left 2
          · simp only [List.getElem?_toArray, List.getElem?_cons_succ, List.getElem?_cons_zero]; exact rfl
          · exact fun _ _ _ h => h
          · rfl
          · (intro W' hSw; (try dsimp only at hSw); go_simp; try with_reducible rfl)
          try simp only [Act.put, List.setIfInBounds_toArray, List.set_cons_zero, List.set_cons_succ]
          refine wpAnyH_take (i := 2) (oi := ?_) (v := ?_) ?_ (by kernel_rfl) (by kernel_rfl) (by kernel_rfl) ?_ (Or.inl ⟨?_, ?_⟩) hHeld ?_
          rotate_left 2
          · simp only [List.getElem?_toArray, List.getElem?_cons_succ, List.getElem?_cons_zero]; exact rfl
          · exact fun _ _ _ h => h
          · rfl
          · (intro W' hSw; (try dsimp only at hSw); go_simp; try with_reducible rfl)
          try simp only [Act.put, List.setIfInBounds_toArray, List.set_cons_zero, List.set_cons_succ]
          refine wpAnyH_take (i := 3) (oi := ?_) (v := ?_) ?_ (by kernel_rfl) (by kernel_rfl) (by kernel_rfl) ?_ (Or.inl ⟨?_, ?_⟩) hHeld ?_
          rotate_left 2
          · simp only [List.getElem?_toArray, List.getElem?_cons_succ, List.getElem?_cons_zero]; exact rfl
          · exact fun _ _ _ h => h
          · rfl
          · (intro W' hSw; (try dsimp only at hSw); go_simp; try with_reducible rfl)
          try simp only [Act.put, List.setIfInBounds_toArray, List.set_cons_zero, List.set_cons_succ]
          refine wpAnyH_take (i := 4) (oi := ?_) (v := ?_) ?_ (by kernel_rfl) (by kernel_rfl) (by kernel_rfl) ?_ (Or.inl ⟨?_, ?_⟩) hHeld ?_
          rotate_left 2
          · simp only [List.getElem?_toArray, List.getElem?_cons_succ, List.getElem?_cons_zero]; exact rfl
          · exact fun _ _ _ h => h
          · rfl
          · (intro W' hSw; (try dsimp only at hSw); go_simp; try with_reducible rfl)
          try simp only [Act.put, List.setIfInBounds_toArray, List.set_cons_zero, List.set_cons_succ]
          refine wpAnyH_take (i := 5) (oi := ?_) (v := ?_) ?_ (by kernel_rfl) (by kernel_rfl) (by kernel_rfl) ?_ (Or.inl ⟨?_, ?_⟩) hHeld ?_
          rotate_left 2
          · simp only [List.getElem?_toArray, List.getElem?_cons_succ, List.getElem?_cons_zero]; exact rfl
          · exact fun _ _ _ h => h
          · rfl
          · (intro W' hSw; (try dsimp only at hSw); go_simp; try with_reducible rfl)
          try simp only [Act.put, List.setIfInBounds_toArray, List.set_cons_zero, List.set_cons_succ]
          refine wpAnyH_take (i := 6) (oi := ?_) (v := ?_) ?_ (by kernel_rfl) (by kernel_rfl) (by kernel_rfl) ?_ (Or.inl ⟨?_, ?_⟩) hHeld ?_
          rotate_left 2
          · simp only [List.getElem?_toArray, List.getElem?_cons_succ, List.getElem?_cons_zero]; exact rfl
          · exact fun _ _ _ h => h
          · rfl
          · (intro W' hSw; (try dsimp only at hSw); go_simp; try with_reducible rfl)
          try simp only [Act.put, List.setIfInBounds_toArray, List.set_cons_zero, List.set_cons_succ]
          refine wpAnyH_take (i := 7) (oi := ?_) (v := ?_) ?_ (by kernel_rfl) (by kernel_rfl) (by kernel_rfl) ?_ (Or.inl ⟨?_, ?_⟩) hHeld ?_
          rotate_left 2
          · simp only [List.getElem?_toArray, List.getElem?_cons_succ, List.getElem?_cons_zero]; exact rfl
          · exact fun _ _ _ h => h
          · rfl
          · (intro W' hSw; (try dsimp only at hSw); go_simp; try with_reducible rfl)
          try simp only [Act.put, List.setIfInBounds_toArray, List.set_cons_zero, List.set_cons_succ]
          refine wpAnyH_take (i := 8) (oi := ?_) (v := ?_) ?_ (by kernel_rfl) (by kernel_rfl) (by kernel_rfl) ?_ (Or.inl ⟨?_, ?_⟩) hHeld ?_
          rotate_left 2
          · simp only [List.getElem?_toArray, List.getElem?_cons_succ, List.getElem?_cons_zero]; exact rfl
          · exact fun _ _ _ h => h
          · rfl
          · (intro W' hSw; (try dsimp only at hSw); go_simp; try with_reducible rfl)
          try simp only [Act.put, List.setIfInBounds_toArray, List.set_cons_zero, List.set_cons_succ]
          refine wpAnyH_take (i := 9) (oi := ?_) (v := ?_) ?_ (by kernel_rfl) (by kernel_rfl) (by kernel_rfl) ?_ (Or.inl ⟨?_, ?_⟩) hHeld ?_
          rotate_left 2
          · simp only [List.getElem?_toArray, List.getElem?_cons_succ, List.getElem?_cons_zero]; exact rfl
          · exact fun _ _ _ h => h
          · rfl
          · (intro W' hSw; (try dsimp only at hSw); go_simp; try with_reducible rfl)
          try simp only [Act.put, List.setIfInBounds_toArray, List.set_cons_zero, List.set_cons_succ]
          refine wpAnyH_take (i := 10) (oi := ?_) (v := ?_) ?_ (by kernel_rfl) (by kernel_rfl) (by kernel_rfl) ?_ (Or.inl ⟨?_, ?_⟩) hHeld ?_
          rotate_left 2
          · simp only [List.getElem?_toArray, List.getElem?_cons_succ, List.getElem?_cons_zero]; exact rfl
          · exact fun _ _ _ h => h
          · rfl
          · (intro W' hSw; (try dsimp only at hSw); go_simp; try with_reducible rfl)
          try simp only [Act.put, List.setIfInBounds_toArray, List.set_cons_zero, List.set_cons_succ]
          refine wpAnyH_take (i := 11) (oi := ?_) (v := ?_) ?_ (by kernel_rfl) (by kernel_rfl) (by kernel_rfl) ?_ (Or.inl ⟨?_, ?_⟩) hHeld ?_
          rotate_left 2
          · simp only [List.getElem?_toArray, List.getElem?_cons_succ, List.getElem?_cons_zero]; exact rfl
          · exact fun _ _ _ h => h
          · rfl
          · (intro W' hSw; (try dsimp only at hSw); go_simp; try with_reducible rfl)
          try simp only [Act.put, List.setIfInBounds_toArray, List.set_cons_zero, List.set_cons_succ]
          refine wpAnyH_take (i := 12) (oi := ?_) (v := ?_) ?_ (by kernel_rfl) (by kernel_rfl) (by kernel_rfl) ?_ (Or.inl ⟨?_, ?_⟩) hHeld ?_
          rotate_left 2
          · simp only [List.getElem?_toArray, List.getElem?_cons_succ, List.getElem?_cons_zero]; exact rfl
          · exact fun _ _ _ h => h
          · rfl
          · (intro W' hSw; (try dsimp only at hSw); go_simp; try with_reducible rfl)
          try simp only [Act.put, List.setIfInBounds_toArray, List.set_cons_zero, List.set_cons_succ]
          refine wpAnyH_take (i := 13) (oi := ?_) (v := ?_) ?_ (by kernel_rfl) (by kernel_rfl) (by kernel_rfl) ?_ (Or.inl ⟨?_, ?_⟩) hHeld ?_
          rotate_left 2
          · simp only [List.getElem?_toArray, List.getElem?_cons_succ, List.getElem?_cons_zero]; exact rfl
          · exact fun _ _ _ h => h
          · rfl
          · (intro W' hSw; (try dsimp only at hSw); go_simp; try with_reducible rfl)
          try simp only [Act.put, List.setIfInBounds_toArray, List.set_cons_zero, List.set_cons_succ]
          refine wpAnyH_ready (rs := [14]) (by kernel_rfl) (by simp) ?_
          refine AllReadyH.cons rfl (fun K hK => ?_) AllReadyH.nil
          go_simp
          go_at_call 13
          refine Calls.mono (refreaches_any st HSM.out u fo HUL.out _ _ _ (rState_keep HR.out (kept_of (bel_call HB5.out (Below.refl _ _).drew)))) ?_
          rintro e w6 ⟨⟨r, rfl, hr⟩, b6⟩
          have B6 := Lib.hid (show Below w5.heap.size w5 w6 from bel_call (Below.refl _ _).drew b6)
          clear b6 hHeld
          refine hK.out _ _ (HS _ B6.out) (fun hHeld => ?_)
          clear hK K
          have HRR := Lib.hid hr
          clear hr
          refine wpAnyH_take (i := 15) (oi := ?_) (v := ?_) ?_ (by kernel_rfl) (by kernel_rfl) (by kernel_rfl) ?_ (Or.inl ⟨?_, ?_⟩) hHeld ?_
          rotate_left 2
          · simp only [List.getElem?_toArray, List.getElem?_cons_succ, List.getElem?_cons_zero]; exact rfl
          · exact fun _ _ _ h => h
          · rfl
          · (intro W' hSw; (try dsimp only at hSw); go_simp; try with_reducible rfl)
          try simp only [Act.put, List.setIfInBounds_toArray, List.set_cons_zero, List.set_cons_succ]
          refine wpAnyH_take (i := 16) (oi := ?_) (v := ?_) ?_ (by kernel_rfl) (by kernel_rfl) (by kernel_rfl) ?_ (Or.inl ⟨?_, ?_⟩) hHeld ?_
          rotate_left 2
          · simp only [List.getElem?_toArray, List.getElem?_cons_succ, List.getElem?_cons_zero]; exact rfl
          · exact fun _ _ _ h => h
          · rfl
          · (intro W' hSw; (try dsimp only at hSw); go_simp; try with_reducible rfl)
          try simp only [Act.put, List.setIfInBounds_toArray, List.set_cons_zero, List.set_cons_succ]
          refine wpAnyH_take (i := 17) (oi := ?_) (v := ?_) ?_ (by kernel_rfl) (by kernel_rfl) (by kernel_rfl) ?_ (Or.inl ⟨?_, ?_⟩) hHeld ?_
          rotate_left 2
          · simp only [List.getElem?_toArray, List.getElem?_cons_succ, List.getElem?_cons_zero]; exact rfl
          · exact fun _ _ _ h => h
          · rfl
          · (intro W' hSw; (try dsimp only at hSw); go_simp; try with_reducible rfl)
          try simp only [Act.put, List.setIfInBounds_toArray, List.set_cons_zero, List.set_cons_succ]
          refine wpAnyH_done (by kernel_rfl) ?_ _
          clear hHeld HS
          go_wp2
          go_ret
          unfold GrAns
          exact ⟨⟨_, rfl, by
            rw [HGQ.out r HRR.out, decide_eq_true_eq]
            exact ⟨fun h => ⟨(by first | rfl | trivial), HE.out, h⟩, fun h => h.2.2⟩⟩, bel_call HB5.out B6.out⟩
      · obtain rfl : k = f.items.length := by omega
        have HNO := Lib.hid (show ¬ GrantedP st u fo it n from by
          rintro ⟨g, y, _, h1, h2, _⟩
          obtain rfl : f = g := Option.some.inj (HF.out.symm.trans h1)
          rw [find_no (p := isI it) (l := f.items) (by have := HN.out; rwa [List.take_length] at this)] at h2
          cases h2)
        clear HN
        go_wp2
        go_ret
        unfold GrAns
        exact ⟨⟨false, rfl, ⟨fun h => (by cases h), fun h => absurd h HNO.out⟩⟩, bel_call HB0.out HB1.out⟩
end Go.Proofs.Ytocofkccdfaaaaa
