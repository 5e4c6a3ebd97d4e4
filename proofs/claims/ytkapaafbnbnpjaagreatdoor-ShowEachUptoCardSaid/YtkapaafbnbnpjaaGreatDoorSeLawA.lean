/- ShowEach: plain, chained. Conditions: as each theorem says. -/
import Derived.Test.YtkapaafbnbnpjaaGreatDoorSeText
import Derived.Test.YtkapaafbnbnpjaaGreatDoorSeChain
import Derived.Lib.Strings
namespace Go.Proofs.YtkapaafbnbnpjaaGreatDoor
open Go.RowKit Go.Deep

theorem take_snocB (s : Nm) (k : Nat) (h : k < s.size) : s.data.toList.take (k + 1) = s.data.toList.take k ++ [s[k]] := by
  rw [List.take_succ_eq_append_getElem (by simpa using h)]
  rfl
set_option maxHeartbeats 1000000 in
theorem plain_any (s : Nm) (hs : s.size ≤ 1000) (w : World) : Calls Tryz.prog 6 #[.string s] w fun e w' => e = .returned (.bool (plainS s)) ∧ w' = w := by
  have HP := Lib.hid (show plainS s = (s.data.toList.all okC && !s.data.toList.isEmpty) from rfl)
  go_enter Tryz.func6, Tryz.ntmps6
  go_wp2
  go_loop [6] (fun i => ∃ k : Nat, k ≤ s.size ∧ i = .int .i64 k ∧ Hid ((s.data.toList.take k).all okC = true)) (fun i => s.size - (RowKit.intOf i).toNat)
  case atStart => exact ⟨0, by omega, by go_num, Lib.hid (by simp)⟩
  case round =>
    obtain ⟨k, hk, rfl, HA⟩ := hrel
    by_cases hlt : k < s.size
    · obtain ⟨c, hc⟩ : ∃ c, s[k] = c := ⟨_, rfl⟩
      obtain ⟨bb, hbb⟩ : ∃ bb, c.toNat = bb := ⟨_, rfl⟩
      have hb : (s[k]'hlt).toNat = bb := by rw [hc, hbb]
      have HT := Lib.hid (show s.data.toList.take (k + 1) = s.data.toList.take k ++ [c] by rw [take_snocB s k hlt, hc])
      have HB := Lib.hid hbb
      have NO : (okC c = false) → Hid (plainS s = false) := fun h => by
        show _ = _
        rw [HP.out, show s.data.toList.all okC = false from by
          rw [List.all_eq_false]
          refine ⟨c, ?_, by rw [h]; decide⟩
          exact List.mem_of_mem_take (i := k + 1) (by rw [HT.out]; simp)]
        rfl
      have YES : (okC c = true) → Hid ((s.data.toList.take (k + 1)).all okC = true) := fun h => by
        show _ = _
        rw [HT.out, List.all_append, HA.out]
        simp [h]
      have HNO : Aside (okC c = false → Hid (plainS s = false)) := NO
      have HYES : Aside (okC c = true → Hid ((s.data.toList.take (k + 1)).all okC = true)) := YES
      have hc0 : okC c = ((decide (97 ≤ bb) && decide (bb ≤ 122)) || (decide (48 ≤ bb) && decide (bb ≤ 57))) := by unfold okC; rw [HB.out]
      have HC0 := Lib.hid hc0
      clear hc hbb NO YES hc0
      rcases (show (97 ≤ bb ∧ bb ≤ 122) ∨ (48 ≤ bb ∧ bb ≤ 57) ∨ bb < 48 ∨ (57 < bb ∧ bb < 97) ∨ 122 < bb by omega) with ⟨h1, h2⟩ | ⟨h1, h2⟩ | h1 | ⟨h1, h2⟩ | h1
      · have K := HYES.out (by rw [HC0.out]; simp; omega)
        have a1 : ¬ (bb : Int) < 97 := by omega
        have a2 : ¬ (122 : Int) < (bb : Int) := by omega
        clear HNO HYES HC0
        go_wp2
        go_round
        case rel => exact ⟨k + 1, by omega, by go_num, K⟩
        case measure => simp [RowKit.intOf]; omega
      · have K := HYES.out (by rw [HC0.out]; simp; omega)
        have a1 : (bb : Int) < 97 := by omega
        have a2 : ¬ (bb : Int) < 48 := by omega
        have a3 : ¬ (57 : Int) < (bb : Int) := by omega
        clear HNO HYES HC0
        go_wp2
        go_round
        case rel => exact ⟨k + 1, by omega, by go_num, K⟩
        case measure => simp [RowKit.intOf]; omega
      · have K := HNO.out (by rw [HC0.out]; simp; omega)
        have a1 : (bb : Int) < 97 := by omega
        have a2 : (bb : Int) < 48 := by omega
        clear HNO HYES HC0
        go_wp2
        go_ret
        exact ⟨ret_bool K.out.symm, rfl⟩
      · have K := HNO.out (by rw [HC0.out]; simp; omega)
        have a1 : (bb : Int) < 97 := by omega
        have a2 : ¬ (bb : Int) < 48 := by omega
        have a3 : (57 : Int) < (bb : Int) := by omega
        clear HNO HYES HC0
        go_wp2
        go_ret
        exact ⟨ret_bool K.out.symm, rfl⟩
      · have K := HNO.out (by rw [HC0.out]; simp; omega)
        have a1 : ¬ (bb : Int) < 97 := by omega
        have a2 : (122 : Int) < (bb : Int) := by omega
        have a3 : ¬ (bb : Int) < 48 := by omega
        have a4 : (57 : Int) < (bb : Int) := by omega
        clear HNO HYES HC0
        go_wp2
        go_ret
        exact ⟨ret_bool K.out.symm, rfl⟩
    · obtain rfl : k = s.size := by omega
      have E := Lib.hid (show plainS s = !s.toList.isEmpty by
        have := HA.out
        rw [List.take_of_length_le (by simp)] at this
        rw [HP.out, this, Lib.toList_data]
        rfl)
      go_wp2
      go_ret
      exact ⟨ret_bool E.out.symm, rfl⟩

theorem chainedGo_none {st : State} {s : Nm} (h : findF st s = none) (n : Nat) : chainedGo st (n + 1) s = false := by rw [chainedGo, h]
theorem chainedGo_some {st : State} {s : Nm} {f : Folder} (h : findF st s = some f) (n : Nat) : chainedGo st (n + 1) s = if (nowM f).gone || !plainS s then false else if decide ((nowM f).parent = ⟨#[]⟩) then true else chainedGo st n (nowM f).parent := by rw [chainedGo, h]
theorem field_gone (a b c : Nm) (x y : Int) (g : Bool) (v u : Value) (w : World) : (Instr.field 43 (.agg #[.string a, .int .i64 x, v, .string b, u, .int .i64 y, .bool g, .string c]) 6).run Tryz.prog w = .ok (.bool g) w := by kernel_rfl
theorem field_parent (a b c : Nm) (x y : Int) (g : Bool) (v u : Value) (w : World) : (Instr.field 43 (.agg #[.string a, .int .i64 x, v, .string b, u, .int .i64 y, .bool g, .string c]) 3).run Tryz.prog w = .ok (.string b) w := by kernel_rfl
theorem isE_true : (⟨#[]⟩ : Nm).toList.isEmpty = true := by rw [Lib.toList_data]; rfl
theorem isE_false {s : Nm} (h : s ≠ ⟨#[]⟩) : s.toList.isEmpty = false := by
  cases hs : s.toList with
  | nil =>
    rw [Lib.toList_data] at hs
    exact absurd (ByteArray.ext (Array.toList_inj.1 hs)) h
  | cons a l => rfl
set_option maxHeartbeats 2000000 in
theorem chained_any (st : State) (hsm : Small st) (name : Nm) (hnm : name.size ≤ 1000) (cs : List Value) (w : World) (S : Nat → Prop) (h : rState S w cs st) :
    Calls Tryz.prog 10 #[.agg cs.toArray, .string name] w fun e w' => e = .returned (.bool (chainedGo st 4 name)) ∧ Below w.heap.size w w' := by
  have HR := Lib.hid h
  have HSM := Lib.hid hsm
  clear hsm
  obtain ⟨st_A1, st_c1, st_A2, st_c2, st_A3, st_c3, rfl, st_turn_ok, st_users_l, st_users_m, st_users_n, st_users_s, st_deposits_l, st_deposits_m, st_deposits_n, st_deposits_s, st_folders_l, st_folders_m, st_folders_n, st_folders_s⟩ := open_State h
  obtain ⟨w0, hw0, cw0, fw0, Bw0, qw0⟩ := boxed w #[.int .i64 st.turn, .slice st_A1 st.users.length st_c1, .slice st_A2 st.deposits.length st_c2, .slice st_A3 st.folders.length st_c3] 26
  have HB0 := Lib.hid Bw0
  have HC0 := Lib.hid fun (W : World) (hW : Below w0.heap.size w0 W) j v (hj : (#[.int .i64 st.turn, .slice st_A1 st.users.length st_c1, .slice st_A2 st.deposits.length st_c2, .slice st_A3 st.folders.length st_c3] : Array Value)[j]? = some v) => (hW.cell (p := ⟨w.heap.size, j, none⟩) qw0).trans (cw0 j v hj)
  clear cw0 fw0 Bw0 st_users_s st_deposits_s
  go_enter Tryz.func10, Tryz.ntmps10
  go_wp2
  clear hw0
  go_loopw [1, 6] (fun s i wr => ∃ (k : Nat) (cur : Nm), k ≤ 4 ∧ i = .int .i64 k ∧ s = .string cur ∧ cur.size ≤ 1000 ∧ Hid (chainedGo st (4 - k) cur = chainedGo st 4 name) ∧ Below w0.heap.size w0 wr) (fun _ i _ => 4 - (RowKit.intOf i).toNat)
  case atStart => exact ⟨0, name, by omega, by go_num, rfl, hnm, Lib.hid rfl, Below.refl _ _⟩
  case round =>
    obtain ⟨k, cur, hk, rfl, rfl, hcur, HG, hbel⟩ := hrel
    by_cases hk4 : k < 4
    · have hkl : (k : Int) < 4 := by omega
      have s0 := HC0.out wr hbel 0 _ rfl
      have s1 := HC0.out wr hbel 1 _ rfl
      have s2 := HC0.out wr hbel 2 _ rfl
      have s3 := HC0.out wr hbel 3 _ rfl
      have HEN := Lib.hid (show findF st cur = none → chainedGo st 4 name = false from fun h => by
        rw [← HG.out, show 4 - k = (4 - (k + 1)) + 1 by omega, chainedGo_none h])
      have HES := Lib.hid (show ∀ f, findF st cur = some f → chainedGo st 4 name = (if (nowM f).gone || !plainS cur then false else if decide ((nowM f).parent = ⟨#[]⟩) then true else chainedGo st (4 - (k + 1)) (nowM f).parent) from fun f h => by
        rw [← HG.out, show 4 - k = (4 - (k + 1)) + 1 by omega, chainedGo_some h])
      go_wp2_with fail
      clear s0 s1 s2 s3
      refine Calls.mono (refat2_any st cur _ wr S (rState_keep HR.out (kept_of (bel_call HB0.out hbel)))) ?_
      rintro e w1 ⟨rfl, B1⟩
      have HB1 := Lib.hid (bel_call hbel B1)
      have HB01 := Lib.hid (bel_call HB0.out HB1.out)
      cases hF : findF st cur with
      | none =>
        rw [atIdx_none hF]
        have HE2 := Lib.hid (HEN.out hF)
        clear hF
        go_wp2
        go_ret
        exact ⟨ret_bool HE2.out.symm, HB01.out⟩
      | some f =>
        obtain ⟨q, hq, hqf⟩ := atIdx_some hF
        rw [hq]
        have HE2 := Lib.hid (HES.out f hF)
        have hqn : ¬ (q : Int) < 0 := by omega
        have hqd : decide ((q : Int) < 0) = false := decide_eq_false hqn
        have hql : (q : Int) < (st.folders.length : Int) := by have := (List.getElem?_eq_some_iff.1 hqf).1; omega
        obtain ⟨b, o, ys, hA, hbl, hRf, hcz⟩ := SlAt.elem st_folders_s hqf (by decide) HB01.out
        have HRF := Lib.hid hRf
        obtain ⟨f_A2, f_c2, f_A3, f_c3, f_A4, f_c4, f_A5, f_c5, f_A6, f_c6, rfl, f_name_le, f_turn_ok, f_manifests_l, f_manifests_m, f_manifests_n, f_manifests_s, f_epochs_l, f_epochs_m, f_epochs_n, f_epochs_s, f_items_l, f_items_m, f_items_n, f_items_s, f_wraps_l, f_wraps_m, f_wraps_n, f_wraps_s, f_links_l, f_links_m, f_links_n, f_links_s⟩ := open_Folder hRf
        have u0 := hcz 0 _ rfl
        have u1 := hcz 1 _ rfl
        have u2 := hcz 2 _ rfl
        have u3 := hcz 3 _ rfl
        have u4 := hcz 4 _ rfl
        have u5 := hcz 5 _ rfl
        have u6 := hcz 6 _ rfl
        rw [Nat.add_zero] at u0
        have HU := Lib.hid hcz
        subst hA
        have s3 := HC0.out w1 HB1.out 3 _ rfl
        have HQF := Lib.hid (List.mem_of_getElem? hqf)
        have HNOW := Lib.hid fun (W : World) (hW : Below w1.heap.size w1 W) => now_any f _ W S (rFolder_keep HRF.out (kept_of (bel_call HB01.out hW)))
        have HNOWR := Lib.hid fun (W : World) (hW : Below w1.heap.size w1 W) => refnow_any f _ W S (rFolder_keep HRF.out (kept_of (bel_call HB01.out hW)))
        clear hF hq hqf hcz HEN HES f_manifests_s f_epochs_s f_items_s f_wraps_s f_links_s
        go_wp2_with fail
        clear u0 u1 u2 u3 u4 u5 u6 s3
        refine Calls.mono (HNOWR.out _ (Below.refl _ _)) ?_
        rintro e w2 ⟨⟨cm, rfl, hm⟩, b2⟩
        have HB2 := Lib.hid b2
        obtain ⟨m, hme⟩ : ∃ m, nowM f = m := ⟨_, rfl⟩
        rw [hme] at hm HE2
        have HME := Lib.hid hme
        obtain ⟨m_A2, m_c2, m_A4, m_c4, rfl, m_folder_le, m_seq_ok, m_prev_l, m_prev_m, m_prev_n, m_prev_s, m_parent_le, m_members_l, m_members_m, m_members_n, m_members_s, m_cut_ok, m_who_le⟩ := open_Manifest hm
        have hfg := field_gone m.folder m.parent m.who m.seq m.cut m.gone (.slice m_A2 m.prev.length m_c2) (.slice m_A4 m.members.length m_c4)
        clear hme b2 m_prev_s m_members_s
        cases hgo : m.gone with
        | true =>
          rw [hgo] at hfg
          have HE3 := Lib.hid (show chainedGo st 4 name = false by rw [HE2.out, hgo]; rfl)
          clear hgo
          go_wp2
          go_ret
          exact ⟨ret_bool HE3.out.symm, bel_call HB01.out HB2.out⟩
        | false =>
          rw [hgo] at hfg
          have HE3 := Lib.hid (show chainedGo st 4 name = (if !plainS cur then false else if decide (m.parent = ⟨#[]⟩) then true else chainedGo st (4 - (k + 1)) m.parent) by rw [HE2.out, hgo]; rfl)
          have hpc := fun W => plain_any cur hcur W
          obtain ⟨pc, hpe⟩ : ∃ pc, plainS cur = pc := ⟨_, rfl⟩
          rw [hpe] at hpc HE3
          clear hgo hpe
          go_wp2_with fail
          refine Calls.mono (hpc _) ?_
          rintro e w3 ⟨rfl, rfl⟩
          cases pc with
          | false =>
            clear hpc hfg
            go_wp2
            go_ret
            exact ⟨ret_bool HE3.out.symm, bel_call HB01.out HB2.out⟩
          | true =>
            have HE4 := Lib.hid (show chainedGo st 4 name = (if decide (m.parent = ⟨#[]⟩) then true else chainedGo st (4 - (k + 1)) m.parent) from HE3.out)
            have HB21 := Lib.hid (bel_call HB1.out HB2.out)
            have s3 := HC0.out w3 HB21.out 3 _ rfl
            have hcz := fun j y hj => (HB2.out.cell (p := ⟨b, o + q * 7 + j, none⟩) (cell_lt (HU.out j y hj))).trans (HU.out j y hj)
            have u0 := hcz 0 _ rfl
            have u1 := hcz 1 _ rfl
            have u2 := hcz 2 _ rfl
            have u3 := hcz 3 _ rfl
            have u4 := hcz 4 _ rfl
            have u5 := hcz 5 _ rfl
            have u6 := hcz 6 _ rfl
            rw [Nat.add_zero] at u0
            clear hpc hfg hcz
            go_wp2_with fail
            clear u0 u1 u2 u3 u4 u5 u6 s3
            refine Calls.mono (HNOWR.out _ HB2.out) ?_
            rintro e w4 ⟨⟨cm, rfl, hm⟩, b4⟩
            have HB4 := Lib.hid (bel_call HB21.out b4)
            rw [HME.out] at hm
            have hpar : m.parent.size ≤ 20 := by rw [← HME.out]; exact (now_short (HSM.out.short f HQF.out)).1
            clear b4
            obtain ⟨A2', c2', A4', c4', rfl, _⟩ := open_Manifest hm
            have hfp := field_parent m.folder m.parent m.who m.seq m.cut m.gone (.slice A2' m.prev.length c2') (.slice A4' m.members.length c4')
            obtain ⟨mp, hmp⟩ : ∃ mp, m.parent = mp := ⟨_, rfl⟩
            rw [hmp] at hfp hpar HE4
            have hmp' := hmp
            clear hm
            by_cases hz : mp = ⟨#[]⟩
            · have HE5 := Lib.hid (show chainedGo st 4 name = true by rw [HE4.out, hz]; rfl)
              have hse := isE_true
              rw [hz] at hfp hmp
              clear hz hmp'
              go_wp2
              go_ret
              exact ⟨ret_bool HE5.out.symm, bel_call HB0.out HB4.out⟩
            · have HE5 := Lib.hid (show chainedGo st (4 - (k + 1)) mp = chainedGo st 4 name by rw [HE4.out, decide_eq_false hz]; rfl)
              have hse := isE_false hz
              clear hz hmp'
              go_wp2
              go_roundw
              case rel => exact ⟨k + 1, mp, by omega, by go_num, rfl, by omega, HE5, HB4.out⟩
              case measure => simp [RowKit.intOf]; omega
    · obtain rfl : k = 4 := by omega
      have HE := Lib.hid (show chainedGo st 4 name = false by rw [← HG.out]; rfl)
      go_wp2
      go_ret
      exact ⟨ret_bool HE.out.symm, bel_call HB0.out hbel⟩
end Go.Proofs.YtkapaafbnbnpjaaGreatDoor
