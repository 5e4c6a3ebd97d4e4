/- Layer show: the folders in a folder. Conditions: as each theorem says. -/
import Derived.Test.YtkapaafbnbnpjaaGreatDoorSeSort
import Derived.Test.YtkapaafbnbnpjaaGreatDoorSeLine
namespace Go.Proofs.YtkapaafbnbnpjaaGreatDoor
open Go.RowKit Go.Deep

theorem inP_some {st : State} {p s : Nm} {g : Folder} (h : findF st s = some g) : inP st p s ↔ ((nowM g).gone = false ∧ (nowM g).parent = p) := by
  constructor
  · rintro ⟨f, hf, h1, h2⟩
    rw [h] at hf
    obtain rfl := Option.some.inj hf
    exact ⟨h1, h2⟩
  · rintro ⟨h1, h2⟩
    exact ⟨g, h, h1, h2⟩
/-- The names of a list's folders that are in p. -/
def inL (st : State) (p : Nm) (fs : List Folder) (s : Nm) : Prop := (∃ f ∈ fs, f.name = s) ∧ inP st p s
theorem inL_all (st : State) (p s : Nm) : inL st p st.folders s ↔ inP st p s := by
  constructor
  · exact fun h => h.2
  · rintro ⟨f, hf, h1, h2⟩
    exact ⟨⟨f, List.mem_of_find?_eq_some hf, by simpa using List.find?_some hf⟩, f, hf, h1, h2⟩
theorem find_here2 {st : State} {f : Folder} (h : f ∈ st.folders) : ∃ g, findF st f.name = some g := by
  cases hg : findF st f.name with
  | some g => exact ⟨g, rfl⟩
  | none =>
    have := List.find?_eq_none.1 hg f h
    simp at this
def InTo (st : State) (parent : Nm) (w : World) (e : Ending) (w' : World) : Prop := (∃ v : Value, e = .returned v ∧ ∃ R : List Nm, Sl 1 rStr (fun z => w.heap.size ≤ z) w' v R ∧ IsNames (inP st parent) R ∧ R.length ≤ st.folders.length) ∧ Below w.heap.size w w'

set_option maxHeartbeats 4000000 in
set_option maxRecDepth 100000 in
theorem showin_any (st : State) (hsm : Small st) (parent : Nm) (cs : List Value) (w : World) (S : Nat → Prop) (h : rState S w cs st) :
    Calls Tryz.prog 19 #[.agg cs.toArray, .string parent] w (InTo st parent w) := by
  have HR := Lib.hid h
  have HSM := Lib.hid hsm
  clear hsm
  obtain ⟨st_A1, st_c1, st_A2, st_c2, st_A3, st_c3, rfl, st_turn_ok, st_users_l, st_users_m, st_users_n, st_users_s, st_deposits_l, st_deposits_m, st_deposits_n, st_deposits_s, st_folders_l, st_folders_m, st_folders_n, st_folders_s⟩ := open_State h
  obtain ⟨w0, hw0, cw0, fw0, Bw0, qw0⟩ := boxed w #[.int .i64 st.turn, .slice st_A1 st.users.length st_c1, .slice st_A2 st.deposits.length st_c2, .slice st_A3 st.folders.length st_c3] 26
  have HB0 := Lib.hid Bw0
  have HC0 := Lib.hid fun (W : World) (hW : Below w0.heap.size w0 W) j v (hj : (#[.int .i64 st.turn, .slice st_A1 st.users.length st_c1, .slice st_A2 st.deposits.length st_c2, .slice st_A3 st.folders.length st_c3] : Array Value)[j]? = some v) => (hW.cell (p := ⟨w.heap.size, j, none⟩) qw0).trans (cw0 j v hj)
  have s3 := cw0 3 _ rfl
  have hf8 := HSM.out.few8
  obtain ⟨istr, histr, hzstr, h1str, h2str⟩ := info_parts (show (Tryz.prog.info? 9).map (fun i => (i.zero, i.size, i.bytes)) = some (some (.string ⟨#[]⟩), 1, 16) from by kernel_rfl)
  clear cw0 fw0 Bw0 st_users_s st_deposits_s
  go_enter Tryz.func19, Tryz.ntmps19
  go_wp2_with fail
  clear hw0 s3
  obtain ⟨wa, hwa⟩ : ∃ wa : World, wa = w0 := ⟨_, rfl⟩
  go_loopw [5, 14] (fun vo vi wr => ∃ (k : Nat) (L : List Nm), k ≤ st.folders.length ∧ vi = .int .i64 k ∧ Hid (Grow 9 1 rStr (fun _ => False) wr w0.heap.size vo L) ∧ Hid (∀ s, s ∈ L ↔ inL st parent (st.folders.take k) s) ∧ L.length ≤ k ∧ Below w0.heap.size w0 wr) (fun _ vi _ => st.folders.length - (RowKit.intOf vi).toNat)
  case atStart => exact ⟨0, [], by omega, by go_num, Lib.hid Grow.nil, Lib.hid (fun s => by simp [inL]), by simp, Below.refl _ _⟩
  case round =>
    obtain ⟨k, L, hk, rfl, HG, HL, hLk, hbel⟩ := hrel
    obtain ⟨A2, n2, c2, rfl, hn2⟩ := HG.out.shape'
    have HN2 := Lib.hid hn2
    have hzr := hbel.size
    clear hn2 hwa
    by_cases hlt : k < st.folders.length
    · obtain ⟨x, hx⟩ : ∃ x, st.folders[k]? = some x := ⟨_, List.getElem?_eq_getElem hlt⟩
      have hxm := List.mem_of_getElem? hx
      obtain ⟨g, hg⟩ := find_here2 hxm
      obtain ⟨bx, ox, yx, hAx, hbx, hRx, hcx⟩ := SlAt.elem st_folders_s hx (by decide) (bel_call HB0.out hbel)
      obtain ⟨x_A2, x_c2, x_A3, x_c3, x_A4, x_c4, x_A5, x_c5, x_A6, x_c6, rfl, x_name_le, x_turn_ok, x_manifests_l, x_manifests_m, x_manifests_n, x_manifests_s, x_epochs_l, x_epochs_m, x_epochs_n, x_epochs_s, x_items_l, x_items_m, x_items_n, x_items_s, x_wraps_l, x_wraps_m, x_wraps_n, x_wraps_s, x_links_l, x_links_m, x_links_n, x_links_s⟩ := open_Folder hRx
      have u0 := hcx 0 _ rfl
      have u1 := hcx 1 _ rfl
      have u2 := hcx 2 _ rfl
      have u3 := hcx 3 _ rfl
      have u4 := hcx 4 _ rfl
      have u5 := hcx 5 _ rfl
      have u6 := hcx 6 _ rfl
      rw [Nat.add_zero] at u0
      subst hAx
      have hki : (k : Int) < (st.folders.length : Int) := by omega
      have hxn : x.name.size ≤ 20 := (HSM.out.short x hxm).name
      obtain ⟨w1, hw1, cw1, fw1, Bw1, qw1⟩ := boxed wr #[.string x.name, .int .i64 x.turn, .slice x_A2 x.manifests.length x_c2, .slice x_A3 x.epochs.length x_c3, .slice x_A4 x.items.length x_c4, .slice x_A5 x.wraps.length x_c5, .slice x_A6 x.links.length x_c6] 35
      have HB1 := Lib.hid (bel_call hbel Bw1)
      have n0 := cw1 0 _ rfl
      have HN0 := Lib.hid n0
      have s0 := HC0.out w1 HB1.out 0 _ rfl
      have s1 := HC0.out w1 HB1.out 1 _ rfl
      have s2 := HC0.out w1 HB1.out 2 _ rfl
      have s3 := HC0.out w1 HB1.out 3 _ rfl
      have HFI := Lib.hid (find_any st x.name _ w1 S (rState_keep HR.out (kept_of (bel_call HB0.out HB1.out))))
      rw [hg] at HFI
      have HGG := Lib.hid hg
      have HXK := Lib.hid hx
      have HG1 := Lib.hid (HG.out.below rStr_ok Bw1)
      have hz1 := Bw1.size
      clear hx hxm hcx cw1 fw1 Bw1 hg x_manifests_s x_epochs_s x_items_s x_wraps_s x_links_s
      go_wp2_with fail
      clear hw1 u0 u1 u2 u3 u4 u5 u6 s0 s1 s2 s3 n0
      refine Calls.mono HFI.out ?_
      rintro e w2 ⟨⟨cf, rfl, hf⟩, B2⟩
      replace hf : rFolder S w2 cf g := hf
      simp only [Option.isSome_some]
      have HF := Lib.hid hf
      have HG2 := Lib.hid (HG1.out.below rStr_ok B2)
      obtain ⟨g_A2, g_c2, g_A3, g_c3, g_A4, g_c4, g_A5, g_c5, g_A6, g_c6, rfl, g_name_le, g_turn_ok, g_manifests_l, g_manifests_m, g_manifests_n, g_manifests_s, g_epochs_l, g_epochs_m, g_epochs_n, g_epochs_s, g_items_l, g_items_m, g_items_n, g_items_s, g_wraps_l, g_wraps_m, g_wraps_n, g_wraps_s, g_links_l, g_links_m, g_links_n, g_links_s⟩ := open_Folder hf
      obtain ⟨w3, hw3, cw3, fw3, Bw3, qw3⟩ := boxed w2 #[.string g.name, .int .i64 g.turn, .slice g_A2 g.manifests.length g_c2, .slice g_A3 g.epochs.length g_c3, .slice g_A4 g.items.length g_c4, .slice g_A5 g.wraps.length g_c5, .slice g_A6 g.links.length g_c6] 35
      have HB23 := Lib.hid (bel_call B2 Bw3)
      have e0 := cw3 0 _ rfl
      have e1 := cw3 1 _ rfl
      have e2 := cw3 2 _ rfl
      have e3 := cw3 3 _ rfl
      have e4 := cw3 4 _ rfl
      have e5 := cw3 5 _ rfl
      have e6 := cw3 6 _ rfl
      have HNO := Lib.hid (now_any g _ w3 S (rFolder_keep HF.out (kept_of Bw3)))
      have HG3 := Lib.hid (HG2.out.below rStr_ok Bw3)
      have hz3 := HB23.out.size
      clear cw3 fw3 Bw3 B2 HFI g_manifests_s g_epochs_s g_items_s g_wraps_s g_links_s
      go_wp2_with fail
      clear hw3 e0 e1 e2 e3 e4 e5 e6
      refine Calls.mono HNO.out ?_
      rintro e w4 ⟨⟨cm, rfl, hmr⟩, b4⟩
      obtain ⟨m, hm⟩ : ∃ m, nowM g = m := ⟨_, rfl⟩
      rw [hm] at hmr
      have HMM := Lib.hid hm
      obtain ⟨m_A2, m_c2, m_A4, m_c4, rfl, m_folder_le, m_seq_ok, m_prev_l, m_prev_m, m_prev_n, m_prev_s, m_parent_le, m_members_l, m_members_m, m_members_n, m_members_s, m_cut_ok, m_who_le⟩ := open_Manifest hmr
      obtain ⟨w5, hw5, cw5, fw5, Bw5, qw5⟩ := boxed w4 #[.string m.folder, .int .i64 m.seq, .slice m_A2 m.prev.length m_c2, .string m.parent, .slice m_A4 m.members.length m_c4, .int .i64 m.cut, .bool m.gone, .string m.who] 43
      have k3 := cw5 3 _ rfl
      have k6 := cw5 6 _ rfl
      have HB5 := Lib.hid (bel_call HB23.out (bel_call b4 Bw5))
      have HG5 := Lib.hid (HG3.out.below rStr_ok (bel_call b4 Bw5))
      have n5 := (HB5.out.cell (p := ⟨wr.heap.size, 0, none⟩) qw1).trans HN0.out
      have hz5 := HB5.out.size
      have HB05 := Lib.hid (bel_call HB1.out HB5.out)
      have hTAKE := Lib.hid (show ∀ s, inL st parent (st.folders.take (k + 1)) s ↔ (inL st parent (st.folders.take k) s ∨ (s = x.name ∧ (m.gone = false ∧ m.parent = parent))) from fun s => by
        rw [List.take_add_one, HXK.out]
        have h9 := inP_some (p := parent) HGG.out
        rw [HMM.out] at h9
        unfold inL
        constructor
        · rintro ⟨⟨f, hf, rfl⟩, h2⟩
          rcases List.mem_append.1 hf with hf | hf
          · exact .inl ⟨⟨f, hf, rfl⟩, h2⟩
          · obtain rfl : f = x := by simpa using hf
            exact .inr ⟨rfl, h9.1 h2⟩
        · rintro (⟨⟨f, hf, rfl⟩, h2⟩ | ⟨rfl, h2⟩)
          · exact ⟨⟨f, List.mem_append_left _ hf, rfl⟩, h2⟩
          · exact ⟨⟨x, List.mem_append_right _ (by simp), rfl⟩, h9.2 h2⟩)
      clear cw5 fw5 Bw5 b4 hm m_prev_s m_members_s
      obtain ⟨mp, hmp⟩ : ∃ mp, m.parent = mp := ⟨_, rfl⟩
      obtain ⟨mg, hmg⟩ : ∃ mg, m.gone = mg := ⟨_, rfl⟩
      have hw5' := hw5
      rw [hmp] at k3 hw5 hTAKE
      rw [hmg] at k6 hw5 hTAKE
      clear hw5'
      by_cases hin : mg = false ∧ mp = parent
      · obtain ⟨rfl, rfl⟩ := hin
        have hse : (mp.toList == mp.toList) = true := by simp
        go_wp2_with (at_builtin; go_loud (refine wpList_grow1 (R := rStr) w5 [.string x.name] rfl (.tmp 36) (.tmp 39) 37 rfl 9 istr _ 1 16 Tryz.underlying37 histr hzstr h1str h2str rfl (by decide) rStr_ok w0.heap.size (by omega) _ _ rfl HG5.out _ _ rfl rfl x.name (by intro b hb; exact hb.elim) ⟨rfl, by omega⟩ (by omega) (by decide) ?_); intro v6 w6 g6 gg6 go6; have G6 := Lib.hid g6; have GG6 := Lib.hid gg6; clear g6 gg6 go6)
        go_roundw
        case rel => exact ⟨k + 1, L ++ [x.name], by omega, by go_num, G6, Lib.hid (fun s => by rw [hTAKE.out, List.mem_append, HL.out s]; simp), by simp; omega, Below.grown HB05.out GG6.out (by omega) (fun b hb => (HG5.out.base_le b hb).1)⟩
        case measure => simp [RowKit.intOf]; omega
      · have HNI := Lib.hid hin
        have NX := Lib.hid (show ∀ s, s ∈ L ↔ inL st parent (st.folders.take (k + 1)) s from fun s => by
          rw [hTAKE.out, HL.out s]
          exact ⟨.inl, fun h => h.elim id fun h => absurd h.2 HNI.out⟩)
        by_cases hgo : mg = true
        · subst hgo
          clear hin
          go_wp2
          go_roundw
          case rel => exact ⟨k + 1, L, by omega, by go_num, HG5, NX, by omega, HB05.out⟩
          case measure => simp [RowKit.intOf]; omega
        · obtain rfl : mg = false := by simpa using hgo
          have hse : (mp.toList == parent.toList) = false := eqS_ne fun e => hin ⟨rfl, e⟩
          clear hin hgo
          go_wp2
          go_roundw
          case rel => exact ⟨k + 1, L, by omega, by go_num, HG5, NX, by omega, HB05.out⟩
          case measure => simp [RowKit.intOf]; omega
    · obtain rfl : k = st.folders.length := by omega
      have hL2 : L.length ≤ 2000 := by omega
      obtain ⟨h1, h2, xs, hrow, hel⟩ := id HG.out
      have hxl : xs.length = L.length := by rw [hrow.1, Nat.mul_one]
      have hxs := strs_eq hxl hel
      subst hxs
      have hrow2 : wr.ownsRow w0.heap.size 9 1 (.slice A2 n2 c2) (L.map fun s => s.data.toList).length ((L.map fun s => s.data.toList).map encStr) := by rw [List.length_map]; exact hrow
      have HS := Lib.hid (sortRow hrow2 (by rw [List.length_map]; exact hL2))
      have HL2 := Lib.hid hL2
      have HLK := Lib.hid hLk
      have hsz : ∀ s ∈ L, s.size ≤ 1000 := fun s hs => by
        obtain ⟨⟨f, hf, rfl⟩, _⟩ := (HL.out s).1 hs
        have := (HSM.out.short f (List.mem_of_mem_take hf)).name
        omega
      have HN := Lib.hid hsz
      have hbl := HG.out.base_le
      have HBL := Lib.hid hbl
      clear h1 h2 hrow hel hrow2 hsz hL2 hLk hbl hxl
      go_wp2_with fail
      refine Calls.mono HS.out ?_
      rintro e1 w1 ⟨rfl, ⟨ts, ht, hso, hm, htl⟩, hg1⟩
      rw [List.length_map] at htl
      have HC := Lib.hid (compactRow ht (by rw [htl]; exact HL2.out) hso fun s hs => by
        obtain ⟨x, hx, rfl⟩ := List.mem_map.1 ((hm s).1 hs)
        have := HN.out x hx
        rw [Array.length_toList]
        exact this)
      have HM := Lib.hid hm
      have HT := Lib.hid htl
      have HG1 := Lib.hid hg1
      clear ht hso hm htl hg1
      go_wp2_with fail
      refine Calls.mono HC.out ?_
      rintro e2 w2 ⟨⟨v', rfl, R, hR, hp, hq, hz⟩, hg2⟩
      have HR2 := Lib.hid hR
      have HP := Lib.hid (show IsNames (inP st parent) R from ⟨hp, fun x => (hq x).trans ((HM.out _).trans (by
        rw [List.mem_map]
        constructor
        · rintro ⟨y, hy, e⟩
          obtain rfl : y = x := ByteArray.ext (Array.toList_inj.1 e)
          exact ((HL.out y).1 hy).2
        · exact fun hx => ⟨x, (HL.out x).2 (by rw [List.take_length]; exact (inL_all st parent x).2 hx), rfl⟩))⟩)
      have HZ := Lib.hid (show R.length ≤ st.folders.length by have h9 := HT.out; have h8 := HLK.out; omega)
      have HG2 := Lib.hid (grown_trans HG1.out hg2)
      clear hR hp hq hz hg2
      go_wp2
      go_ret
      exact ⟨⟨v', rfl, R, HR2.out.keep rStr_ok (by decide) (Kept.refl _ fun z hz => Nat.le_trans HB0.out.size (HBL.out z hz).1), HP.out, HZ.out⟩, bel_call HB0.out (Below.grown hbel HG2.out (by omega) fun b hb => (HBL.out b hb).1)⟩
end Go.Proofs.YtkapaafbnbnpjaaGreatDoor
