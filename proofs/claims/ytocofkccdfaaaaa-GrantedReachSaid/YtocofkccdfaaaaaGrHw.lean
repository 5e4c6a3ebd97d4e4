/- Layer granted: the document's Who. Conditions: as each theorem says. -/
import Derived.Test.YtocofkccdfaaaaaGrHg
import Derived.Test.YtocofkccdfaaaaaGrWho
namespace Go.Proofs.Ytocofkccdfaaaaa
open Go.RowKit Go.Deep

def CanP (st : State) (fo : Nm) (n : Int) (x : Nm) : Prop := ∃ f, findF st fo = some f ∧ n ≤ f.epochs.length ∧ reachP st x fo n
theorem can_iff {st : State} {fo : Nm} {n m : Int} {x : Nm} (hn : 1 ≤ n) (h : IsReach st x fo m) : n ≤ m ↔ CanP st fo n x := by
  constructor
  · intro k
    rcases h with ⟨h1, rfl⟩ | ⟨f, hf, h2⟩
    · omega
    · have h5 := h2.2.1
      exact ⟨f, hf, by omega, (IsReach.iff (.inr ⟨f, hf, h2⟩) hf hn (by omega)).1 k⟩
  · rintro ⟨f, hf, h1, h2⟩
    exact (h.iff hf hn h1).2 h2
def HadP (st : State) (fo : Nm) (n : Int) (k : Nat) (x : Nm) : Prop := (∃ u ∈ st.users.take k, u.name = x) ∧ CanP st fo n x
theorem hadP_zero {st : State} {fo : Nm} {n : Int} : IsNames (HadP st fo n 0) [] := IsNames.nil fun x hx => by obtain ⟨⟨u, hu, _⟩, _⟩ := hx; simp at hu
theorem hadP_skip {st : State} {fo : Nm} {n : Int} {k : Nat} {y : User} {R : List Nm} (h : IsNames (HadP st fo n k) R) (hy : st.users[k]? = some y) (hno : ¬ CanP st fo n y.name) : IsNames (HadP st fo n (k + 1)) R := by
  refine ⟨h.1, fun x => (h.2 x).trans ?_⟩
  unfold HadP
  rw [take_ex hy]
  constructor
  · rintro ⟨h1, h2⟩
    exact ⟨.inl h1, h2⟩
  · rintro ⟨h1 | rfl, h2⟩
    · exact ⟨h1, h2⟩
    · exact absurd h2 hno
theorem hadP_put {st : State} {fo : Nm} {n : Int} {k : Nat} {y : User} {R : List Nm} (h : IsNames (HadP st fo n k) R) (hy : st.users[k]? = some y) (hc : CanP st fo n y.name) : IsNames (HadP st fo n (k + 1)) (putS R y.name) := by
  have h1 := putS_is h y.name
  refine ⟨h1.1, fun x => (h1.2 x).trans ?_⟩
  unfold HadP
  rw [take_ex hy]
  constructor
  · rintro (rfl | ⟨h2, h3⟩)
    · exact ⟨.inr rfl, hc⟩
    · exact ⟨.inl h2, h3⟩
  · rintro ⟨h2 | rfl, h3⟩
    · exact .inr ⟨h2, h3⟩
    · exact .inl rfl
theorem hadP_all {st : State} {fo : Nm} {n : Int} (hn : 1 ≤ n) {R : List Nm} (h : IsNames (HadP st fo n st.users.length) R) : IsNames (WhoP st fo n) R := by
  refine ⟨h.1, fun x => (h.2 x).trans ?_⟩
  unfold HadP WhoP
  rw [List.take_length]
  constructor
  · rintro ⟨h1, f, hf, h2, h3⟩
    exact ⟨f, hf, hn, h2, h1, h3⟩
  · rintro ⟨f, hf, _, h2, h1, h3⟩
    exact ⟨h1, f, hf, h2, h3⟩
set_option maxHeartbeats 8000000 in
set_option maxRecDepth 100000 in
theorem refwho_any (st : State) (hsm : Small st) (fo : Nm) (n : Int) (hus : ∀ u ∈ st.users, u.name.size ≤ 1000) (hul : st.users.length ≤ 200) (cs : List Value) (w : World) (S : Nat → Prop) (h : rState S w cs st) : Calls Try.prog 18 #[.agg cs.toArray, .string fo, .int .i64 n] w fun e w' => (∃ (v : Value) (R : List Nm), e = .returned v ∧ Sl 1 rStr (fun _ => True) w' v R ∧ IsNames (WhoP st fo n) R ∧ R.length ≤ st.users.length) ∧ Below w.heap.size w w' := by
  have HR := Lib.hid (rState_keep h (show Kept S (fun z => z < w.heap.size) w w from fun b _ hl => ⟨hl, rfl⟩))
  have HSM := Lib.hid hsm
  have HUS := Lib.hid hus
  clear hsm hus
  replace h := HR.out
  obtain ⟨st_A1, st_c1, st_A2, st_c2, st_A3, st_c3, rfl, st_turn_ok, st_users_l, st_users_m, st_users_n, st_users_s, st_deposits_l, st_deposits_m, st_deposits_n, st_deposits_s, st_folders_l, st_folders_m, st_folders_n, st_folders_s⟩ := open_State h
  obtain ⟨w0, hw0, cw0, fw0, Bw0, qw0⟩ := boxed w #[.int .i64 st.turn, .slice st_A1 st.users.length st_c1, .slice st_A2 st.deposits.length st_c2, .slice st_A3 st.folders.length st_c3] 26
  have HB0 := Lib.hid Bw0
  have HC0 := Lib.hid cw0
  have HST := Lib.hid fun W (hW : Below w0.heap.size w0 W) => rState_keep HR.out (kept_of (bel_call HB0.out hW))
  clear cw0 fw0 Bw0 st_folders_s st_deposits_s
  by_cases hn : n < 1
  · have HNO := Lib.hid (show IsNames (WhoP st fo n) [] from IsNames.nil fun x hx => by obtain ⟨_, _, h1, _⟩ := hx; omega)
    have hn' : decide (n < 1) = true := decide_eq_true hn
    clear hn
    go_enter Try.func18, Try.ntmps18
    go_wp2
    go_ret
    exact ⟨⟨_, [], rfl, Sl_nil _ _ _ _, HNO.out, by simp⟩, HB0.out⟩
  · have hn1 : 1 ≤ n := by omega
    have hn' : decide (n < 1) = false := decide_eq_false hn
    clear hn
    go_enter Try.func18, Try.ntmps18
    go_wp2
    clear hw0
    go_loopw [7, 8] (fun vo i wr => ∃ (k : Nat) (R : List Nm), k ≤ st.users.length ∧ i = .int .i64 k ∧ Hid (RowC 9 1 wr vo (strs R)) ∧ Hid (∀ b, vo.ownBlock = some b → w0.heap.size ≤ b) ∧ Hid (IsNames (HadP st fo n k) R) ∧ R.length ≤ k ∧ Below w0.heap.size w0 wr) (fun _ i _ => st.users.length - (RowKit.intOf i).toNat)
    case atStart => exact ⟨0, [], by omega, by go_num, RowC.nil _, (fun b hb => by cases hb), hadP_zero, Nat.le_refl _, Below.refl _ _⟩
    case round =>
      obtain ⟨wr3, rfl⟩ : ∃ q, q = wr := ⟨_, rfl⟩
      obtain ⟨k, R, hk, rfl, HRW, HOB, HI, hRk, hbel⟩ := hrel
      have HRZ := Lib.hid (show ∀ x ∈ R, x.size ≤ 1000 from fun x hx => by
        obtain ⟨⟨u, hu, rfl⟩, _⟩ := (HI.out.2 x).1 hx
        exact HUS.out u (List.mem_of_mem_take hu))
      have hz3 := hbel.size
      have s0 := (hbel.cell (p := ⟨w.heap.size, 0, none⟩) qw0).trans (HC0.out 0 _ rfl)
      have s1 := (hbel.cell (p := ⟨w.heap.size, 1, none⟩) qw0).trans (HC0.out 1 _ rfl)
      have s2 := (hbel.cell (p := ⟨w.heap.size, 2, none⟩) qw0).trans (HC0.out 2 _ rfl)
      have s3 := (hbel.cell (p := ⟨w.heap.size, 3, none⟩) qw0).trans (HC0.out 3 _ rfl)
      obtain ⟨A9, n9, c9, hv9⟩ := HRW.out.shape3
      subst hv9
      by_cases hlt : k < st.users.length
      · obtain ⟨x, hx⟩ : ∃ x, st.users[k]? = some x := ⟨_, List.getElem?_eq_getElem hlt⟩
        obtain ⟨b, o, ys, hA, hbl, hRx, hcz⟩ := SlAt.elem st_users_s hx (by decide) (bel_call HB0.out hbel)
        obtain ⟨rfl, x_name_le⟩ := open_User hRx
        have u0 := hcz 0 _ rfl
        rw [Nat.add_zero] at u0
        subst hA
        have hki : (k : Int) < (st.users.length : Int) := by omega
        have HX := Lib.hid hx
        have HXU := Lib.hid (HUS.out x (List.mem_of_getElem? hx))
        have HU0 := Lib.hid u0
        have HSQ := Lib.hid (show ∀ W : World, Below wr3.heap.size wr3 W → (fun W : World => (W.cell? ⟨w.heap.size, 0, none⟩ = some (.int .i64 st.turn) ∧ W.cell? ⟨w.heap.size, 1, none⟩ = some (.slice (some ⟨b, o, none⟩) st.users.length st_c1) ∧ W.cell? ⟨w.heap.size, 2, none⟩ = some (.slice st_A2 st.deposits.length st_c2) ∧ W.cell? ⟨w.heap.size, 3, none⟩ = some (.slice st_A3 st.folders.length st_c3)) ∧ W.cell? ⟨b, o + k * 2, none⟩ = some (.string x.name)) W from fun W hW => by
          have q := fun (b o : Nat) v (h : wr3.cell? ⟨b, o, none⟩ = some v) => (hW.cell (p := ⟨b, o, none⟩) (cell_lt h)).trans h
          exact ⟨⟨q _ _ _ s0, q _ _ _ s1, q _ _ _ s2, q _ _ _ s3⟩, q _ _ _ u0⟩)
        clear hx hcz hlt s0 s2 s3
        go_wp2
        clear s1 u0
        have HS := HSQ.out
        refine wp_region_held_drew (S := (fun W : World => (W.cell? ⟨w.heap.size, 0, none⟩ = some (.int .i64 st.turn) ∧ W.cell? ⟨w.heap.size, 1, none⟩ = some (.slice (some ⟨b, o, none⟩) st.users.length st_c1) ∧ W.cell? ⟨w.heap.size, 2, none⟩ = some (.slice st_A2 st.deposits.length st_c2) ∧ W.cell? ⟨w.heap.size, 3, none⟩ = some (.slice st_A3 st.folders.length st_c3)) ∧ W.cell? ⟨b, o + k * 2, none⟩ = some (.string x.name))) (by kernel_rfl) (HS _ (Below.refl _ _).drew) (fun hHeld => ?_)
        refine wpAnyH_take (i := 0) (oi := ?_) (v := ?_) ?_ (by kernel_rfl) (by kernel_rfl) (by kernel_rfl) ?_ (Or.inl ⟨?_, ?_⟩) hHeld ?_
        rotate_left 2
        · simp only [List.getElem?_toArray, List.getElem?_cons_zero]; exact rfl
        · exact fun _ _ _ h => h
        · rfl
        · (intro W' hSw; (try dsimp only at hSw); go_simp; try with_reducible rfl)
        try simp only [Act.put, List.setIfInBounds_toArray, List.set_cons_zero, List.set_cons_succ]
        refine wpAnyH_take (i := 1) (oi := ?_) (v := ?_) ?_ (by kernel_rfl) (by kernel_rfl) (by kernel_rfl) ?_ (Or.inl ⟨?_, ?_⟩) hHeld ?_
        rotate_left 2
        · simp only [List.getElem?_toArray, List.getElem?_cons_succ, List.getElem?_cons_zero]; exact rfl
        · exact fun _ _ _ h => h
        · rfl
        · (intro W' hSw; (try dsimp only at hSw); go_simp; try with_reducible rfl)
        try simp only [Act.put, List.setIfInBounds_toArray, List.set_cons_zero, List.set_cons_succ]
        refine wpAnyH_take (i := 2) (oi := ?_) (v := ?_) ?_ (by kernel_rfl) (by kernel_rfl) (by kernel_rfl) ?_ (Or.inl ⟨?_, ?_⟩) hHeld ?_
        rotate_left 2
        · simp only [List.getElem?_toArray, List.getElem?_cons_succ, List.getElem?_cons_zero]; exact rfl
        · exact fun _ _ _ h => h
        · rfl
        · (intro W' hSw; (try dsimp only at hSw); go_simp; try with_reducible rfl)
        try simp only [Act.put, List.setIfInBounds_toArray, List.set_cons_zero, List.set_cons_succ]
        refine wpAnyH_take (i := 3) (oi := ?_) (v := ?_) ?_ (by kernel_rfl) (by kernel_rfl) (by kernel_rfl) ?_ (Or.inl ⟨?_, ?_⟩) hHeld ?_
        rotate_left 2
        · simp only [List.getElem?_toArray, List.getElem?_cons_succ, List.getElem?_cons_zero]; exact rfl
        · exact fun _ _ _ h => h
        · rfl
        · (intro W' hSw; (try dsimp only at hSw); go_simp; try with_reducible rfl)
        try simp only [Act.put, List.setIfInBounds_toArray, List.set_cons_zero, List.set_cons_succ]
        refine wpAnyH_take (i := 4) (oi := ?_) (v := ?_) ?_ (by kernel_rfl) (by kernel_rfl) (by kernel_rfl) ?_ (Or.inl ⟨?_, ?_⟩) hHeld ?_
        rotate_left 2
        · simp only [List.getElem?_toArray, List.getElem?_cons_succ, List.getElem?_cons_zero]; exact rfl
        · exact fun _ _ _ h => h
        · rfl
        · (intro W' hSw; (try dsimp only at hSw); go_simp; try with_reducible rfl)
        try simp only [Act.put, List.setIfInBounds_toArray, List.set_cons_zero, List.set_cons_succ]
        refine wpAnyH_take (i := 5) (oi := ?_) (v := ?_) ?_ (by kernel_rfl) (by kernel_rfl) (by kernel_rfl) ?_ (Or.inl ⟨?_, ?_⟩) hHeld ?_
        rotate_left 2
        · simp only [List.getElem?_toArray, List.getElem?_cons_succ, List.getElem?_cons_zero]; exact rfl
        · exact fun _ _ _ h => h
        · rfl
        · (intro W' hSw; (try dsimp only at hSw); go_simp; try with_reducible rfl)
        try simp only [Act.put, List.setIfInBounds_toArray, List.set_cons_zero, List.set_cons_succ]
        refine wpAnyH_take (i := 6) (oi := ?_) (v := ?_) ?_ (by kernel_rfl) (by kernel_rfl) (by kernel_rfl) ?_ (Or.inl ⟨?_, ?_⟩) hHeld ?_
        rotate_left 2
        · simp only [List.getElem?_toArray, List.getElem?_cons_succ, List.getElem?_cons_zero]; exact rfl
        · exact fun _ _ _ h => h
        · rfl
        · (intro W' hSw; (try dsimp only at hSw); go_simp; try with_reducible rfl)
        try simp only [Act.put, List.setIfInBounds_toArray, List.set_cons_zero, List.set_cons_succ]
        refine wpAnyH_take (i := 7) (oi := ?_) (v := ?_) ?_ (by kernel_rfl) (by kernel_rfl) (by kernel_rfl) ?_ (Or.inl ⟨?_, ?_⟩) hHeld ?_
        rotate_left 2
        · simp only [List.getElem?_toArray, List.getElem?_cons_succ, List.getElem?_cons_zero]; exact rfl
        · exact fun _ _ _ h => h
        · rfl
        · (intro W' hSw; (try dsimp only at hSw); go_simp; try with_reducible rfl)
        try simp only [Act.put, List.setIfInBounds_toArray, List.set_cons_zero, List.set_cons_succ]
        refine wpAnyH_take (i := 9) (oi := ?_) (v := ?_) ?_ (by kernel_rfl) (by kernel_rfl) (by kernel_rfl) ?_ (Or.inl ⟨?_, ?_⟩) hHeld ?_
        rotate_left 2
        · simp only [List.getElem?_toArray, List.getElem?_cons_succ, List.getElem?_cons_zero]; exact rfl
        · exact fun _ _ _ h => h
        · rfl
        · (intro W' hSw; (try dsimp only at hSw); go_simp; try with_reducible rfl)
        try simp only [Act.put, List.setIfInBounds_toArray, List.set_cons_zero, List.set_cons_succ]
        refine wpAnyH_ready (rs := [8]) (by kernel_rfl) (by simp) ?_
        refine AllReadyH.cons rfl (fun K hK => ?_) AllReadyH.nil
        go_simp
        go_at_call 13
        refine Calls.mono (refreaches_any st HSM.out x.name fo HXU.out _ _ _ (HST.out _ (bel_call hbel (Below.refl _ _).drew))) ?_
        rintro e6 w6 ⟨⟨m, rfl, hm⟩, b6⟩
        have B6 : Below wr3.heap.size wr3 w6 := bel_call (Below.refl _ _).drew b6
        clear b6 hHeld
        refine hK.out _ _ (HS _ B6) (fun hHeld => ?_)
        clear hK K
        refine wpAnyH_take (i := 10) (oi := ?_) (v := ?_) ?_ (by kernel_rfl) (by kernel_rfl) (by kernel_rfl) ?_ (Or.inl ⟨?_, ?_⟩) hHeld ?_
        rotate_left 2
        · simp only [List.getElem?_toArray, List.getElem?_cons_succ, List.getElem?_cons_zero]; exact rfl
        · exact fun _ _ _ h => h
        · rfl
        · (intro W' hSw; (try dsimp only at hSw); go_simp; try with_reducible rfl)
        try simp only [Act.put, List.setIfInBounds_toArray, List.set_cons_zero, List.set_cons_succ]
        refine wpAnyH_done (by kernel_rfl) ?_ _
        clear hHeld
        have HB6 := Lib.hid B6
        have HM := Lib.hid (can_iff hn1 hm)
        have HR6 := Lib.hid (HRW.out.below B6)
        have s1 := (HS _ B6).1.2.1
        have u0 := (HS _ B6).2
        clear HS HSQ B6 hm HRW
        by_cases hge : n ≤ m
        · have hd : decide (n ≤ m) = true := decide_eq_true hge
          rw [hd]
          clear hd
          have HI2 := Lib.hid (hadP_put HI.out HX.out (HM.out.1 hge))
          have HPU := Lib.hid (put_any HR6.out (by omega) HRZ.out HI.out.1 x.name)
          have HPL := Lib.hid (putS_len R x.name)
          clear hge
          go_wp2_with fail
          refine Calls.mono HPU.out ?_
          rintro e7 w7 ⟨v7, rfl, r7, g7, o7⟩
          have HR7 := Lib.hid r7
          have hz6 := HB6.out.size
          have HO7 := Lib.hid (show ∀ b, v7.ownBlock = some b → w0.heap.size ≤ b from fun b hb => by
            rcases o7 with o | ⟨z, o, hz⟩
            · exact HOB.out b (o ▸ hb)
            · obtain rfl := Option.some.inj (o.symm.trans hb)
              omega)
          have HB7 := Lib.hid (Below.grown (bel_call hbel HB6.out) g7 (by omega) fun b hb => HOB.out b hb)
          clear r7 g7 o7 s1 u0
          go_wp2
          go_roundw
          case rel => exact ⟨k + 1, _, by omega, by go_num, HR7, HO7, HI2, by have := HPL.out; omega, HB7.out⟩
          case measure => simp [RowKit.intOf]; omega
        · have hd : decide (n ≤ m) = false := decide_eq_false hge
          rw [hd]
          clear hd
          have HI2 := Lib.hid (hadP_skip HI.out HX.out fun h => hge (HM.out.2 h))
          have HB7 := Lib.hid (bel_call hbel HB6.out)
          clear hge s1 u0
          go_wp2
          go_roundw
          case rel => exact ⟨k + 1, R, by omega, by go_num, HR6, HOB, HI2, by omega, HB7.out⟩
          case measure => simp [RowKit.intOf]; omega
      · obtain rfl : k = st.users.length := by omega
        have HSL := Lib.hid (strs_sl HRW.out (by omega) HRZ.out)
        have HIA := Lib.hid (hadP_all hn1 HI.out)
        have HBF := Lib.hid (bel_call HB0.out hbel)
        clear HRW HI s0 s2 s3
        go_wp2
        go_ret
        exact ⟨⟨_, R, rfl, HSL.out, HIA.out, hRk⟩, HBF.out⟩
end Go.Proofs.Ytocofkccdfaaaaa
