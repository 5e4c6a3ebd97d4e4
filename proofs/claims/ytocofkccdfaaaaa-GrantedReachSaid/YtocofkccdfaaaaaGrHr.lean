/- Layer granted: the document's Reaches. Conditions: as each theorem says. -/
import Derived.Test.YtocofkccdfaaaaaGrHas
namespace Go.Proofs.Ytocofkccdfaaaaa
open Go.RowKit Go.Deep

/-- The greatest number among those of a list that are at most len. -/
theorem IsMost.nil {p : Int → Prop} {len : Nat} (h : ∀ e, ¬ p e) : IsMost p len 0 := ⟨Int.le_refl _, by omega, .inl rfl, fun e _ _ h1 => absurd h1 (h e)⟩
def AtK (L : List At) (fo : Nm) (k : Nat) (e : Int) : Prop := (⟨fo, e⟩ : At) ∈ L.take k
theorem atK_step {L : List At} {fo : Nm} {k : Nat} {x : At} (hx : L[k]? = some x) (e : Int) : AtK L fo (k + 1) e ↔ AtK L fo k e ∨ x = ⟨fo, e⟩ := by
  unfold AtK
  rw [List.take_add_one, hx, List.mem_append]
  simp only [Option.toList_some, List.mem_singleton]
  exact or_congr Iff.rfl eq_comm
theorem mostA_skip {L : List At} {fo : Nm} {k len : Nat} {x : At} {n : Int} (h : IsMost (AtK L fo k) len n) (hx : L[k]? = some x) (hn : x.name = fo → n < x.seq → (len : Int) < x.seq) : IsMost (AtK L fo (k + 1)) len n := by
  obtain ⟨h1, h2, h3, h4⟩ := h
  refine ⟨h1, h2, h3.imp id fun h => (atK_step hx _).2 (.inl h), fun e e1 e2 h => ?_⟩
  rcases (atK_step hx e).1 h with h | h
  · exact h4 e e1 e2 h
  · subst h
    have := hn rfl
    dsimp only at this
    omega
theorem mostA_take {L : List At} {fo : Nm} {k len : Nat} {x : At} {n : Int} (h : IsMost (AtK L fo k) len n) (hx : L[k]? = some x) (h1 : x.name = fo) (h2 : n < x.seq) (h3 : x.seq ≤ len) : IsMost (AtK L fo (k + 1)) len x.seq := by
  obtain ⟨k1, k2, k3, k4⟩ := h
  subst h1
  refine ⟨by omega, h3, .inr ((atK_step hx _).2 (.inr rfl)), fun e e1 e2 h => ?_⟩
  rcases (atK_step hx e).1 h with h | h
  · have := k4 e e1 e2 h
    omega
  · have : x.seq = e := by rw [h]
    omega
set_option maxHeartbeats 4000000 in
set_option maxRecDepth 100000 in
theorem refreaches_any (st : State) (hsm : Small st) (u fo : Nm) (hu : u.size ≤ 1000) (cs : List Value) (w : World) (S : Nat → Prop) (h : rState S w cs st) : Calls Try.prog 13 #[.agg cs.toArray, .string u, .string fo] w fun e w' => (∃ n : Int, e = .returned (.int .i64 n) ∧ IsReach st u fo n) ∧ Below w.heap.size w w' := by
  have HR := Lib.hid (rState_keep h (show Kept S (fun z => z < w.heap.size) w w from fun b _ hl => ⟨hl, rfl⟩))
  have HSM := Lib.hid hsm
  have HUL := Lib.hid hu
  clear hsm hu
  replace h := HR.out
  obtain ⟨st_A1, st_c1, st_A2, st_c2, st_A3, st_c3, rfl, st_turn_ok, st_users_l, st_users_m, st_users_n, st_users_s, st_deposits_l, st_deposits_m, st_deposits_n, st_deposits_s, st_folders_l, st_folders_m, st_folders_n, st_folders_s⟩ := open_State h
  obtain ⟨w0, hw0, cw0, fw0, Bw0, qw0⟩ := boxed w #[.int .i64 st.turn, .slice st_A1 st.users.length st_c1, .slice st_A2 st.deposits.length st_c2, .slice st_A3 st.folders.length st_c3] 26
  have HB0 := Lib.hid Bw0
  have HC0 := Lib.hid cw0
  have HST := Lib.hid fun W (hW : Below w0.heap.size w0 W) => rState_keep HR.out (kept_of (bel_call HB0.out hW))
  have s0 := cw0 0 _ rfl
  have s1 := cw0 1 _ rfl
  have s2 := cw0 2 _ rfl
  have s3 := cw0 3 _ rfl
  clear cw0 fw0 Bw0 st_users_s st_deposits_s
  go_enter Try.func13, Try.ntmps13
  go_wp2_with fail
  clear hw0 s0 s1 s2 s3
  refine Calls.mono (refat2_any st fo _ w0 _ (HST.out _ (Below.refl _ _))) ?_
  rintro e w1 ⟨rfl, b1⟩
  have HB1 := Lib.hid b1
  clear b1
  cases hF : findF st fo with
  | none =>
    rw [atIdx_none hF]
    have HN := Lib.hid (show IsReach st u fo 0 from .inl ⟨hF, rfl⟩)
    clear hF
    go_wp2
    go_ret
    exact ⟨⟨0, rfl, HN.out⟩, bel_call HB0.out HB1.out⟩
  | some f =>
    obtain ⟨j, hj, hfj⟩ := atIdx_some hF
    rw [hj]
    have hjl := (List.getElem?_eq_some_iff.1 hfj).1
    have hji : (j : Int) < (st.folders.length : Int) := by omega
    have hj0 : decide ((j : Int) < 0) = false := decide_eq_false (by omega)
    have hgl : f.epochs.length ≤ 100 := (folder_sums HSM.out (List.mem_of_getElem? hfj)).2.1
    have HF := Lib.hid hF
    have HFJ := Lib.hid hfj
    have s0 := (HB1.out.cell (p := ⟨w.heap.size, 0, none⟩) qw0).trans (HC0.out 0 _ rfl)
    have s1 := (HB1.out.cell (p := ⟨w.heap.size, 1, none⟩) qw0).trans (HC0.out 1 _ rfl)
    have s2 := (HB1.out.cell (p := ⟨w.heap.size, 2, none⟩) qw0).trans (HC0.out 2 _ rfl)
    have s3 := (HB1.out.cell (p := ⟨w.heap.size, 3, none⟩) qw0).trans (HC0.out 3 _ rfl)
    clear hF hj hfj
    go_wp2_with fail
    clear s0 s1 s2 s3
    refine Calls.mono (refhas_any st HSM.out u HUL.out _ w1 _ (HST.out _ HB1.out)) ?_
    rintro e w2 ⟨⟨v2, L, rfl, hs2, hL, hLl⟩, b2⟩
    have HB2 := Lib.hid (bel_call HB1.out b2)
    have HL := Lib.hid hL
    obtain ⟨A2, c2, rfl, hl2, hc2, hn2, hs3⟩ := hs2
    unfold maxLen at hc2
    clear b2 hL
    go_wp2
    go_loopw [9, 10] (fun m i wr => ∃ (k : Nat) (n : Int), k ≤ L.length ∧ i = .int .i64 k ∧ m = .int .i64 n ∧ 0 ≤ n ∧ n ≤ 100 ∧ Hid (IsMost (AtK L fo k) f.epochs.length n) ∧ Below w2.heap.size w2 wr) (fun _ i _ => L.length - (RowKit.intOf i).toNat)
    case atStart => exact ⟨0, 0, by omega, by go_num, rfl, by omega, by omega, IsMost.nil (fun e h => by simp [AtK] at h), Below.refl _ _⟩
    case round =>
      obtain ⟨k, n, hk, rfl, rfl, hn0, hn100, HM, hbel⟩ := hrel
      by_cases hlt : k < L.length
      · obtain ⟨x, hx⟩ : ∃ x, L[k]? = some x := ⟨_, List.getElem?_eq_getElem hlt⟩
        obtain ⟨bx, ox, yx, hAx, hbx, hRx, hcx⟩ := SlAt.elem hs3 hx (by decide) hbel
        obtain ⟨rfl, x_name_le, x_seq_ok⟩ := open_At hRx
        have x0 := hcx 0 _ rfl
        have x1 := hcx 1 _ rfl
        rw [Nat.add_zero] at x0
        subst hAx
        obtain ⟨bf, of, yf, hAf, hbf, hRf, hcf⟩ := SlAt.elem st_folders_s HFJ.out (by decide) (bel_call HB0.out (bel_call HB2.out hbel))
        obtain ⟨f_A2, f_c2, f_A3, f_c3, f_A4, f_c4, f_A5, f_c5, f_A6, f_c6, rfl, f_name_le, f_turn_ok, f_manifests_l, f_manifests_m, f_manifests_n, f_manifests_s, f_epochs_l, f_epochs_m, f_epochs_n, f_epochs_s, f_items_l, f_items_m, f_items_n, f_items_s, f_wraps_l, f_wraps_m, f_wraps_n, f_wraps_s, f_links_l, f_links_m, f_links_n, f_links_s⟩ := open_Folder hRf
        have f3 := hcf 3 _ rfl
        subst hAf
        have s3 := ((bel_call HB2.out hbel).cell (p := ⟨w.heap.size, 3, none⟩) qw0).trans (HC0.out 3 _ rfl)
        have HX := Lib.hid hx
        have hki : (k : Int) < (L.length : Int) := by omega
        clear hx hcx hcf hlt f_manifests_s f_epochs_s f_items_s f_wraps_s f_links_s
        by_cases e1 : x.name = fo
        · have hse : (x.name.toList == fo.toList) = true := by rw [e1]; simp
          by_cases e2 : n < x.seq
          · have d2 : decide (n < x.seq) = true := decide_eq_true e2
            by_cases e3 : x.seq ≤ f.epochs.length
            · have d3 : decide (x.seq ≤ (f.epochs.length : Int)) = true := decide_eq_true e3
              have HN := Lib.hid (mostA_take HM.out HX.out e1 e2 e3)
              have hn1 : 0 ≤ x.seq := by omega
              have hn2 : x.seq ≤ 100 := by omega
              clear e1 e2 e3 HM
              go_wp2_with fail
              go_quiet (fail)
              go_wp2
              go_roundw
              case rel => exact ⟨k + 1, x.seq, by omega, by go_num, rfl, hn1, hn2, HN, belN hbel _⟩
              case measure => simp [RowKit.intOf]; omega
            · have d3 : decide (x.seq ≤ (f.epochs.length : Int)) = false := decide_eq_false e3
              have HN := Lib.hid (mostA_skip HM.out HX.out fun _ _ => by omega)
              clear e1 e2 e3 HM
              go_wp2_with fail
              go_quiet (fail)
              go_wp2
              go_roundw
              case rel => exact ⟨k + 1, n, by omega, by go_num, rfl, hn0, hn100, HN, belN hbel _⟩
              case measure => simp [RowKit.intOf]; omega
          · have d2 : decide (n < x.seq) = false := decide_eq_false e2
            have HN := Lib.hid (mostA_skip HM.out HX.out fun _ h => absurd h e2)
            clear e1 e2 HM
            go_wp2_with fail
            go_quiet (fail)
            go_wp2
            go_roundw
            case rel => exact ⟨k + 1, n, by omega, by go_num, rfl, hn0, hn100, HN, belN hbel _⟩
            case measure => simp [RowKit.intOf]; omega
        · have hse : (x.name.toList == fo.toList) = false := eqS_ne e1
          have HN := Lib.hid (mostA_skip HM.out HX.out fun h _ => absurd h e1)
          clear e1 HM
          go_wp2_with fail
          go_quiet (fail)
          go_wp2
          go_roundw
          case rel => exact ⟨k + 1, n, by omega, by go_num, rfl, hn0, hn100, HN, belN hbel _⟩
          case measure => simp [RowKit.intOf]; omega
      · obtain rfl : k = L.length := by omega
        have HI := Lib.hid (show IsReach st u fo n from by
          refine .inr ⟨f, HF.out, ?_⟩
          obtain ⟨h1, h2, h3, h4⟩ := HM.out
          have hp : ∀ e, AtK L fo L.length e ↔ reachP st u fo e := fun e => by unfold AtK; rw [List.take_length]; exact HL.out fo e
          exact ⟨h1, h2, h3.imp id (hp n).1, fun e e1 e2 h => h4 e e1 e2 ((hp e).2 h)⟩)
        clear HM
        go_wp2
        go_ret
        exact ⟨⟨n, rfl, HI.out⟩, bel_call HB0.out (bel_call HB2.out hbel)⟩
end Go.Proofs.Ytocofkccdfaaaaa
