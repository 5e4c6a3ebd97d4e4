/- Layer show: a folder's line. Conditions: as each theorem says. -/
import Derived.Test.YtkapaafbnbnpjaaGreatDoorSeStale
import Derived.Test.YtkapaafbnbnpjaaGreatDoorSeP
import Derived.Test.YtkapaafbnbnpjaaGreatDoorFewP
import Derived.Test.YtkapaafbnbnpjaaGreatDoorSeNum
import Derived.Test.YtkapaafbnbnpjaaGreatDoorSwC
import Derived.Deep.CutRange
import Derived.BigQuiet
namespace Go.Proofs.YtkapaafbnbnpjaaGreatDoor
open Go.RowKit Go.Deep

theorem FLine.app {d : Nat} {s z : Nm} (h : FLine d s z) (x : Nm) : FLine d s (z ++ x) := by
  obtain ⟨r, hr⟩ := h
  refine ⟨r ++ x.data.toList, ?_⟩
  rw [show (z ++ x).data.toList = z.data.toList ++ x.data.toList by simp [ByteArray.data_append], hr]
  simp
theorem FLine.mk (d : Nat) (s x : Nm) : FLine d s (((⟨(List.replicate (2 * d) 32).toArray⟩ : Nm) ++ s ++ ⟨#[32]⟩) ++ x) := by
  refine ⟨x.data.toList, ?_⟩
  simp [ByteArray.data_append, blanksL]
theorem repeat2_any (c : Nat) (w : World) (hc : c ≤ 1000) :
    Calls Tryz.prog 26 #[.string ⟨#[32, 32]⟩, .int .i64 c] w fun e w' => e = .returned (.string ⟨(List.replicate (2 * c) 32).toArray⟩) ∧ Below w.heap.size w w' := by
  have h := Any.strings_Repeat layRep layX ⟨#[32, 32]⟩ c w (by omega) (by show 2 * c ≤ _; omega)
  have e : ∀ n, Lib.repeatL [32, 32] n = List.replicate (2 * n) (32 : UInt8) := by
    intro n
    induction n with
    | zero => rfl
    | succ n ih =>
      rw [show 2 * (n + 1) = 2 * n + 1 + 1 by omega, List.replicate_succ, List.replicate_succ, ← ih]
      simp [Lib.repeatL, List.replicate_succ]
  rw [show (ByteArray.mk #[32, 32]).data.toList = [32, 32] from rfl, e] at h
  exact h
theorem role_size (n : Int) : (roleOf n).size ≤ 6 := by
  unfold roleOf
  split
  · decide
  · split
    · decide
    · split
      · decide
      · split <;> decide

theorem now_short {f : Folder} (h : ShortF f) : (nowM f).parent.size ≤ 20 ∧ (nowM f).members.length ≤ 20 ∧ ∀ y ∈ (nowM f).members, y.name.size ≤ 20 := by
  unfold nowM
  cases hl : f.manifests.getLast? with
  | none => exact ⟨by decide, by decide, fun y hy => by cases hy⟩
  | some m => exact h.man m (List.mem_of_getLast? hl)
set_option maxHeartbeats 4000000 in
set_option maxRecDepth 100000 in
theorem folder_any (st : State) (f : Folder) (hs : ShortF f) (deep : Nat) (hd : deep ≤ 4) (cs cf : List Value) (w : World) (S : Nat → Prop) (h : rState S w cs st) (hf : rFolder S w cf f) (hp : Pow w) :
    Calls Tryz.prog 21 #[.agg cs.toArray, .agg cf.toArray, .int .i64 deep] w fun e w' => (∃ z : Nm, e = .returned (.string z) ∧ FLine deep f.name z ∧ z.size ≤ 2000) ∧ Below w.heap.size w w' := by
  have HR := Lib.hid h
  have HF := Lib.hid hf
  have HP := Lib.hid hp
  have HSH := Lib.hid hs
  clear hp hs
  obtain ⟨st_A1, st_c1, st_A2, st_c2, st_A3, st_c3, rfl, st_turn_ok, st_users_l, st_users_m, st_users_n, st_users_s, st_deposits_l, st_deposits_m, st_deposits_n, st_deposits_s, st_folders_l, st_folders_m, st_folders_n, st_folders_s⟩ := open_State h
  obtain ⟨f_A2, f_c2, f_A3, f_c3, f_A4, f_c4, f_A5, f_c5, f_A6, f_c6, rfl, f_name_le, f_turn_ok, f_manifests_l, f_manifests_m, f_manifests_n, f_manifests_s, f_epochs_l, f_epochs_m, f_epochs_n, f_epochs_s, f_items_l, f_items_m, f_items_n, f_items_s, f_wraps_l, f_wraps_m, f_wraps_n, f_wraps_s, f_links_l, f_links_m, f_links_n, f_links_s⟩ := open_Folder hf
  obtain ⟨w0, hw0, cw0, fw0, Bw0, qw0⟩ := boxed w #[.int .i64 st.turn, .slice st_A1 st.users.length st_c1, .slice st_A2 st.deposits.length st_c2, .slice st_A3 st.folders.length st_c3] 26
  obtain ⟨w1, hw1, cw1, fw1, Bw1, qw1⟩ := boxed w0 #[.string f.name, .int .i64 f.turn, .slice f_A2 f.manifests.length f_c2, .slice f_A3 f.epochs.length f_c3, .slice f_A4 f.items.length f_c4, .slice f_A5 f.wraps.length f_c5, .slice f_A6 f.links.length f_c6] 35
  have HB0 := Lib.hid Bw0
  have HB1 := Lib.hid (bel_call Bw0 Bw1)
  have HC0 := Lib.hid fun (W : World) (hW : Below w1.heap.size w1 W) j v (hj : (#[.int .i64 st.turn, .slice st_A1 st.users.length st_c1, .slice st_A2 st.deposits.length st_c2, .slice st_A3 st.folders.length st_c3] : Array Value)[j]? = some v) => ((bel_call Bw1 hW).cell (p := ⟨w.heap.size, j, none⟩) qw0).trans (cw0 j v hj)
  have HC1 := Lib.hid fun (W : World) (hW : Below w1.heap.size w1 W) j v (hj : (#[.string f.name, .int .i64 f.turn, .slice f_A2 f.manifests.length f_c2, .slice f_A3 f.epochs.length f_c3, .slice f_A4 f.items.length f_c4, .slice f_A5 f.wraps.length f_c5, .slice f_A6 f.links.length f_c6] : Array Value)[j]? = some v) => (hW.cell (p := ⟨w0.heap.size, j, none⟩) qw1).trans (cw1 j v hj)
  have t0 := cw1 0 _ rfl
  have t1 := cw1 1 _ rfl
  have t2 := cw1 2 _ rfl
  have t3 := cw1 3 _ rfl
  have t4 := cw1 4 _ rfl
  have t5 := cw1 5 _ rfl
  have t6 := cw1 6 _ rfl
  have HN := Lib.hid (now_any f _ w1 S (rFolder_keep HF.out (kept_of HB1.out)))
  have hml : f.manifests.length ≤ 140737488355328 := f_manifests_n
  have hel : f.epochs.length ≤ 140737488355328 := f_epochs_n
  clear cw0 cw1 fw0 fw1 Bw0 Bw1 st_users_s st_deposits_s st_folders_s f_manifests_s f_epochs_s f_items_s f_wraps_s f_links_s
  go_enter Tryz.func21, Tryz.ntmps21
  go_wp2_with fail
  clear hw0 hw1 t0 t1 t2 t3 t4 t5 t6
  refine Calls.mono HN.out ?_
  rintro e w2 ⟨⟨cm, rfl, hmr⟩, b2⟩
  have HM := Lib.hid hmr
  obtain ⟨m, hm⟩ : ∃ m, nowM f = m := ⟨_, rfl⟩
  have HMM := Lib.hid hm
  rw [hm] at hmr
  obtain ⟨m_A2, m_c2, m_A4, m_c4, rfl, m_folder_le, m_seq_ok, m_prev_l, m_prev_m, m_prev_n, m_prev_s, m_parent_le, m_members_l, m_members_m, m_members_n, m_members_s, m_cut_ok, m_who_le⟩ := open_Manifest hmr
  obtain ⟨w3, hw3, cw3, fw3, Bw3, qw3⟩ := boxed w2 #[.string m.folder, .int .i64 m.seq, .slice m_A2 m.prev.length m_c2, .string m.parent, .slice m_A4 m.members.length m_c4, .int .i64 m.cut, .bool m.gone, .string m.who] 43
  have HC3 := Lib.hid fun (W : World) (hW : Below w3.heap.size w3 W) j v (hj : (#[.string m.folder, .int .i64 m.seq, .slice m_A2 m.prev.length m_c2, .string m.parent, .slice m_A4 m.members.length m_c4, .int .i64 m.cut, .bool m.gone, .string m.who] : Array Value)[j]? = some v) => (hW.cell (p := ⟨w2.heap.size, j, none⟩) qw3).trans (cw3 j v hj)
  have HB3 := Lib.hid (bel_call b2 Bw3)
  have HB23 := Lib.hid Bw3
  have HSQ := Lib.hid (show ∀ W : World, Below w3.heap.size w3 W → (fun W : World => W.cell? ⟨w0.heap.size, 0, none⟩ = some (.string f.name) ∧ W.cell? ⟨w0.heap.size, 2, none⟩ = some (.slice f_A2 f.manifests.length f_c2) ∧ W.cell? ⟨w0.heap.size, 3, none⟩ = some (.slice f_A3 f.epochs.length f_c3)) W from fun W hW => by
    have hh := bel_call HB3.out hW
    exact ⟨HC1.out W hh 0 _ rfl, HC1.out W hh 2 _ rfl, HC1.out W hh 3 _ rfl⟩)
  have HPW := Lib.hid fun (W : World) (hW : Below w3.heap.size w3 W) => HP.out.below (bel_call HB1.out (bel_call HB3.out hW))
  obtain ⟨rp, hrp⟩ : ∃ rp : Nm, (⟨(List.replicate (2 * deep) 32).toArray⟩ : Nm) = rp := ⟨_, rfl⟩
  obtain ⟨d1, hd1⟩ : ∃ d1 : Nm, itoaS (f.manifests.length : Int) = d1 := ⟨_, rfl⟩
  obtain ⟨d2, hd2⟩ : ∃ d2 : Nm, itoaS (f.epochs.length : Int) = d2 := ⟨_, rfl⟩
  have zr : rp.size ≤ 8 := by rw [← hrp]; simp [ByteArray.size]; omega
  have z1 : d1.size ≤ 20 := by rw [← hd1]; exact itoaS_size _ ⟨by omega, by omega⟩
  have z2 : d2.size ≤ 20 := by rw [← hd2]; exact itoaS_size _ ⟨by omega, by omega⟩
  have zn := HSH.out.name
  have REP := Lib.hid fun W => repeat2_any deep W (by omega)
  rw [hrp] at REP
  have N1 := Lib.hid fun W (hW : Pow W) => num_any (f.manifests.length : Int) ⟨by omega, by omega⟩ W hW
  rw [hd1] at N1
  have N2 := Lib.hid fun W (hW : Pow W) => num_any (f.epochs.length : Int) ⟨by omega, by omega⟩ W hW
  rw [hd2] at N2
  have hl0 : FLine deep f.name (((((rp ++ f.name) ++ ⟨#[32]⟩) ++ d1) ++ ⟨#[46]⟩) ++ d2) := by
    rw [← hrp]
    have h9 := FLine.mk deep f.name (d1 ++ (⟨#[46]⟩ ++ d2))
    rwa [← ByteArray.append_assoc, ← ByteArray.append_assoc] at h9
  obtain ⟨y1, hy1⟩ : ∃ y1 : Nm, rp ++ f.name = y1 := ⟨_, rfl⟩
  have s1 : y1.size ≤ 28 := by rw [← hy1, ByteArray.size_append]; omega
  have g1 : ¬ 9223372036854775807 < rp.size + f.name.size := by omega
  obtain ⟨y2, hy2⟩ : ∃ y2 : Nm, y1 ++ ⟨#[32]⟩ = y2 := ⟨_, rfl⟩
  have s2 : y2.size ≤ 29 := by rw [← hy2, ByteArray.size_append]; show _ + 1 ≤ _; omega
  have g2 : ¬ 9223372036854775807 < y1.size + 1 := by omega
  obtain ⟨y3, hy3⟩ : ∃ y3 : Nm, y2 ++ d1 = y3 := ⟨_, rfl⟩
  have s3 : y3.size ≤ 49 := by rw [← hy3, ByteArray.size_append]; omega
  have g3 : ¬ 9223372036854775807 < y2.size + d1.size := by omega
  obtain ⟨y4, hy4⟩ : ∃ y4 : Nm, y3 ++ ⟨#[46]⟩ = y4 := ⟨_, rfl⟩
  have s4 : y4.size ≤ 50 := by rw [← hy4, ByteArray.size_append]; show _ + 1 ≤ _; omega
  have g4 : ¬ 9223372036854775807 < y3.size + 1 := by omega
  obtain ⟨y5, hy5⟩ : ∃ y5 : Nm, y4 ++ d2 = y5 := ⟨_, rfl⟩
  have s5 : y5.size ≤ 70 := by rw [← hy5, ByteArray.size_append]; omega
  have g5 : ¬ 9223372036854775807 < y4.size + d2.size := by omega
  rw [hy1, hy2, hy3, hy4, hy5] at hl0
  have HL0 := Lib.hid hl0
  clear hl0
  clear hrp hd1 hd2 cw3 fw3 Bw3 b2 m_prev_s hm
  go_wp2_with fail
  clear hw3
  have HS := HSQ.out
  refine wp_region_held_drew (S := fun W : World => W.cell? ⟨w0.heap.size, 0, none⟩ = some (.string f.name) ∧ W.cell? ⟨w0.heap.size, 2, none⟩ = some (.slice f_A2 f.manifests.length f_c2) ∧ W.cell? ⟨w0.heap.size, 3, none⟩ = some (.slice f_A3 f.epochs.length f_c3)) (by kernel_rfl) (HS _ (Below.refl _ _).drew) (fun hHeld => ?_)
  refine wpAnyH_take (i := 0) (oi := ?_) (v := ?_) ?_ (by kernel_rfl) (by kernel_rfl) (by kernel_rfl) ?_ (Or.inl ⟨?_, ?_⟩) hHeld ?_
  rotate_left 2
  · simp only [List.getElem?_toArray, List.getElem?_cons_zero]; exact rfl
  · exact fun _ _ _ h => h
  · rfl
  · (intro W' hSw; (try dsimp only at hSw); go_simp; try with_reducible rfl)
  try simp only [Act.put, List.setIfInBounds_toArray, List.set_cons_zero, List.set_cons_succ]
  refine wpAnyH_take (i := 2) (oi := ?_) (v := ?_) ?_ (by kernel_rfl) (by kernel_rfl) (by kernel_rfl) ?_ (Or.inl ⟨?_, ?_⟩) hHeld ?_
  rotate_left 2
  · simp only [List.getElem?_toArray, List.getElem?_cons_succ, List.getElem?_cons_zero]; exact rfl
  · exact fun _ _ _ h => h
  · rfl
  · (intro W' hSw; (try dsimp only at hSw); go_simp; try with_reducible rfl)
  try simp only [Act.put, List.setIfInBounds_toArray, List.set_cons_zero, List.set_cons_succ]
  refine wpAnyH_take (i := 3) (oi := ?_) (v := ?_) ?_ (by kernel_rfl) (by kernel_rfl) (by kernel_rfl) ?_ (Or.inl ⟨?_, ?_⟩) hHeld ?_
  rotate_left 2
  · simp only [List.getElem?_toArray, List.getElem?_cons_succ, List.getElem?_cons_zero]; exact rfl
  · exact fun _ _ _ h => h
  · rfl
  · (intro W' hSw; (try dsimp only at hSw); go_simp; try with_reducible rfl)
  try simp only [Act.put, List.setIfInBounds_toArray, List.set_cons_zero, List.set_cons_succ]
  refine wpAnyH_take (i := 6) (oi := ?_) (v := ?_) ?_ (by kernel_rfl) (by kernel_rfl) (by kernel_rfl) ?_ (Or.inl ⟨?_, ?_⟩) hHeld ?_
  rotate_left 2
  · simp only [List.getElem?_toArray, List.getElem?_cons_succ, List.getElem?_cons_zero]; exact rfl
  · exact fun _ _ _ h => h
  · rfl
  · (intro W' hSw; (try dsimp only at hSw); go_simp; try with_reducible rfl)
  try simp only [Act.put, List.setIfInBounds_toArray, List.set_cons_zero, List.set_cons_succ]
  refine wpAnyH_take (i := 7) (oi := ?_) (v := ?_) ?_ (by kernel_rfl) (by kernel_rfl) (by kernel_rfl) ?_ (Or.inl ⟨?_, ?_⟩) hHeld ?_
  rotate_left 2
  · simp only [List.getElem?_toArray, List.getElem?_cons_succ, List.getElem?_cons_zero]; exact rfl
  · exact fun _ _ _ h => h
  · rfl
  · (intro W' hSw; (try dsimp only at hSw); go_simp; try with_reducible rfl)
  try simp only [Act.put, List.setIfInBounds_toArray, List.set_cons_zero, List.set_cons_succ]
  refine wpAnyH_take (i := 8) (oi := ?_) (v := ?_) ?_ (by kernel_rfl) (by kernel_rfl) (by kernel_rfl) ?_ (Or.inl ⟨?_, ?_⟩) hHeld ?_
  rotate_left 2
  · simp only [List.getElem?_toArray, List.getElem?_cons_succ, List.getElem?_cons_zero]; exact rfl
  · exact fun _ _ _ h => h
  · rfl
  · (intro W' hSw; (try dsimp only at hSw); go_simp; try with_reducible rfl)
  try simp only [Act.put, List.setIfInBounds_toArray, List.set_cons_zero, List.set_cons_succ]
  refine wpAnyH_take (i := 12) (oi := ?_) (v := ?_) ?_ (by kernel_rfl) (by kernel_rfl) (by kernel_rfl) ?_ (Or.inl ⟨?_, ?_⟩) hHeld ?_
  rotate_left 2
  · simp only [List.getElem?_toArray, List.getElem?_cons_succ, List.getElem?_cons_zero]; exact rfl
  · exact fun _ _ _ h => h
  · rfl
  · (intro W' hSw; (try dsimp only at hSw); go_simp; try with_reducible rfl)
  try simp only [Act.put, List.setIfInBounds_toArray, List.set_cons_zero, List.set_cons_succ]
  refine wpAnyH_take (i := 13) (oi := ?_) (v := ?_) ?_ (by kernel_rfl) (by kernel_rfl) (by kernel_rfl) ?_ (Or.inl ⟨?_, ?_⟩) hHeld ?_
  rotate_left 2
  · simp only [List.getElem?_toArray, List.getElem?_cons_succ, List.getElem?_cons_zero]; exact rfl
  · exact fun _ _ _ h => h
  · rfl
  · (intro W' hSw; (try dsimp only at hSw); go_simp; try with_reducible rfl)
  try simp only [Act.put, List.setIfInBounds_toArray, List.set_cons_zero, List.set_cons_succ]
  refine wpAnyH_take (i := 14) (oi := ?_) (v := ?_) ?_ (by kernel_rfl) (by kernel_rfl) (by kernel_rfl) ?_ (Or.inl ⟨?_, ?_⟩) hHeld ?_
  rotate_left 2
  · simp only [List.getElem?_toArray, List.getElem?_cons_succ, List.getElem?_cons_zero]; exact rfl
  · exact fun _ _ _ h => h
  · rfl
  · (intro W' hSw; (try dsimp only at hSw); go_simp; try with_reducible rfl)
  try simp only [Act.put, List.setIfInBounds_toArray, List.set_cons_zero, List.set_cons_succ]
  refine wpAnyH_ready (rs := [1]) (by kernel_rfl) (by simp) ?_
  refine AllReadyH.cons rfl (fun K hK => ?_) AllReadyH.nil
  go_simp
  go_at_call 26
  refine Calls.mono (REP.out _) ?_
  rintro e w4 ⟨rfl, b4⟩
  have B4 := Lib.hid (show Below w3.heap.size w3 w4 from bel_call (Below.refl _ _).drew b4)
  clear b4 hHeld
  refine hK.out _ _ (HS _ B4.out) (fun hHeld => ?_)
  clear hK K
  refine wpAnyH_take (i := 4) (oi := ?_) (v := ?_) ?_ (by kernel_rfl) (by kernel_rfl) (by kernel_rfl) ?_ (Or.inl ⟨?_, ?_⟩) hHeld ?_
  rotate_left 2
  · simp only [List.getElem?_toArray, List.getElem?_cons_succ, List.getElem?_cons_zero]; exact rfl
  · exact fun _ _ _ h => h
  · rfl
  · (intro W' hSw; (try dsimp only at hSw); go_simp; try with_reducible rfl)
  try simp only [Act.put, List.setIfInBounds_toArray, List.set_cons_zero, List.set_cons_succ]
  refine wpAnyH_take (i := 5) (oi := ?_) (v := ?_) ?_ (by kernel_rfl) (by kernel_rfl) (by kernel_rfl) ?_ (Or.inl ⟨?_, ?_⟩) hHeld ?_
  rotate_left 2
  · simp only [List.getElem?_toArray, List.getElem?_cons_succ, List.getElem?_cons_zero]; exact rfl
  · exact fun _ _ _ h => h
  · rfl
  · (intro W' hSw; (try dsimp only at hSw); go_simp; try with_reducible rfl)
  try simp only [Act.put, List.setIfInBounds_toArray, List.set_cons_zero, List.set_cons_succ]
  refine wpAnyH_ready (rs := [9]) (by kernel_rfl) (by simp) ?_
  refine AllReadyH.cons rfl (fun K hK => ?_) AllReadyH.nil
  go_simp
  go_at_call 33
  refine Calls.mono (N1.out _ (HPW.out _ B4.out)) ?_
  rintro e w5 ⟨rfl, b5⟩
  have B5 := Lib.hid (bel_call B4.out b5)
  clear b5 hHeld
  refine hK.out _ _ (HS _ B5.out) (fun hHeld => ?_)
  clear hK K
  refine wpAnyH_take (i := 10) (oi := ?_) (v := ?_) ?_ (by kernel_rfl) (by kernel_rfl) (by kernel_rfl) ?_ (Or.inl ⟨?_, ?_⟩) hHeld ?_
  rotate_left 2
  · simp only [List.getElem?_toArray, List.getElem?_cons_succ, List.getElem?_cons_zero]; exact rfl
  · exact fun _ _ _ h => h
  · rfl
  · (intro W' hSw; (try dsimp only at hSw); go_simp; try with_reducible rfl)
  try simp only [Act.put, List.setIfInBounds_toArray, List.set_cons_zero, List.set_cons_succ]
  refine wpAnyH_take (i := 11) (oi := ?_) (v := ?_) ?_ (by kernel_rfl) (by kernel_rfl) (by kernel_rfl) ?_ (Or.inl ⟨?_, ?_⟩) hHeld ?_
  rotate_left 2
  · simp only [List.getElem?_toArray, List.getElem?_cons_succ, List.getElem?_cons_zero]; exact rfl
  · exact fun _ _ _ h => h
  · rfl
  · (intro W' hSw; (try dsimp only at hSw); go_simp; try with_reducible rfl)
  try simp only [Act.put, List.setIfInBounds_toArray, List.set_cons_zero, List.set_cons_succ]
  refine wpAnyH_ready (rs := [15]) (by kernel_rfl) (by simp) ?_
  refine AllReadyH.cons rfl (fun K hK => ?_) AllReadyH.nil
  go_simp
  go_at_call 33
  refine Calls.mono (N2.out _ (HPW.out _ B5.out)) ?_
  rintro e w6 ⟨rfl, b6⟩
  have B6 := Lib.hid (bel_call B5.out b6)
  clear b6 hHeld
  refine hK.out _ _ (HS _ B6.out) (fun hHeld => ?_)
  clear hK K
  refine wpAnyH_take (i := 16) (oi := ?_) (v := ?_) ?_ (by kernel_rfl) (by kernel_rfl) (by kernel_rfl) ?_ (Or.inl ⟨?_, ?_⟩) hHeld ?_
  rotate_left 2
  · simp only [List.getElem?_toArray, List.getElem?_cons_succ, List.getElem?_cons_zero]; exact rfl
  · exact fun _ _ _ h => h
  · rfl
  · (intro W' hSw; (try dsimp only at hSw); go_simp; try with_reducible rfl)
  try simp only [Act.put, List.setIfInBounds_toArray, List.set_cons_zero, List.set_cons_succ]
  refine wpAnyH_take (i := 17) (oi := ?_) (v := ?_) ?_ (by kernel_rfl) (by kernel_rfl) (by kernel_rfl) ?_ (Or.inl ⟨?_, ?_⟩) hHeld ?_
  rotate_left 2
  · simp only [List.getElem?_toArray, List.getElem?_cons_succ, List.getElem?_cons_zero]; exact rfl
  · exact fun _ _ _ h => h
  · rfl
  · (intro W' hSw; (try dsimp only at hSw); go_simp; try with_reducible rfl)
  try simp only [Act.put, List.setIfInBounds_toArray, List.set_cons_zero, List.set_cons_succ]
  refine wpAnyH_done (by kernel_rfl) ?_ _
  clear hHeld HS HSQ hy1 hy2 hy3 hy4 hy5 g1 g2 g3 g4 g5 s1 s2 s3 s4 REP N1 N2 B4 B5
  have HB6 := Lib.hid (bel_call HB3.out B6.out)
  have c0 := HC0.out w6 HB6.out 0 _ rfl
  have c1 := HC0.out w6 HB6.out 1 _ rfl
  have c2 := HC0.out w6 HB6.out 2 _ rfl
  have c3 := HC0.out w6 HB6.out 3 _ rfl
  have e0 := HC1.out w6 HB6.out 0 _ rfl
  go_wp2_with fail
  clear c0 c1 c2 c3 e0
  have HB06 := Lib.hid (bel_call HB1.out HB6.out)
  refine Calls.mono (stale_any st f.name (by omega) _ w6 S (rState_keep HR.out (kept_of HB06.out))) ?_
  rintro e w7 ⟨rfl, b7⟩
  obtain ⟨sb, hsb⟩ : ∃ sb, staleB st f.name = sb := ⟨_, rfl⟩
  rw [hsb]
  have B7 := Lib.hid (bel_call B6.out b7)
  clear hsb b7 B6 HB6
  go_upto_if 33 with fail
  go_cut [8] from 34 to 35 (fun s8 wx => ∃ z : Nm, s8 = .string z ∧ Hid (FLine deep f.name z) ∧ z.size ≤ 71 ∧ Below w3.heap.size w3 wx)
  case first =>
    cases sb with
    | false =>
      go_wp2
      go_meet
      case rel => exact ⟨y5, rfl, HL0, by omega, B7.out⟩
    | true =>
      obtain ⟨y6, hy6⟩ : ∃ y6 : Nm, y5 ++ ⟨#[42]⟩ = y6 := ⟨_, rfl⟩
      have s6 : y6.size ≤ 71 := by rw [← hy6, ByteArray.size_append]; show _ + 1 ≤ _; omega
      have g6 : ¬ 9223372036854775807 < y5.size + 1 := by omega
      have HL6 := Lib.hid (show FLine deep f.name y6 by rw [← hy6]; exact HL0.out.app _)
      go_wp2
      go_meet
      case rel => exact ⟨y6, rfl, HL6, by omega, B7.out⟩
  case rest =>
    obtain ⟨z0, rfl, HZ0, hz0, hcb⟩ := hcut
    obtain ⟨w8, rfl⟩ : ∃ w8 : World, w8 = wc := ⟨_, rfl⟩
    have B8 := Lib.hid hcb
    have k4 := HC3.out w8 hcb 4 _ rfl
    obtain ⟨hm1, hm2, hm3⟩ := now_short HSH.out
    rw [HMM.out] at hm2 hm3
    have HM3 := Lib.hid hm3
    clear hcb hm1 hm3 B7 HL0
    go_wp2
    clear k4
    go_loopw [8, 39] (fun s8 i wr => ∃ (k : Nat) (z : Nm), k ≤ m.members.length ∧ i = .int .i64 k ∧ s8 = .string z ∧ Hid (FLine deep f.name z) ∧ z.size ≤ 71 + 30 * k ∧ Below w8.heap.size w8 wr) (fun _ i _ => m.members.length - (RowKit.intOf i).toNat)
    case atStart => exact ⟨0, z0, by omega, by go_num, rfl, HZ0, by omega, Below.refl _ _⟩
    case round =>
      clear HZ0 hz0
      obtain ⟨k, z, hk, rfl, rfl, HZ, hz, hbel⟩ := hrel
      by_cases hlt : k < m.members.length
      · obtain ⟨x, hx⟩ : ∃ x, m.members[k]? = some x := ⟨_, List.getElem?_eq_getElem hlt⟩
        have hxm := List.mem_of_getElem? hx
        obtain ⟨bx, ox, yx, hAx, hbx, hRx, hcx⟩ := SlAt.elem m_members_s hx (by decide) (bel_call HB23.out (bel_call B8.out hbel))
        obtain ⟨rfl, x_name_le, x_role_ok⟩ := open_Member hRx
        have u0 := hcx 0 _ rfl
        have u1 := hcx 1 _ rfl
        rw [Nat.add_zero] at u0
        subst hAx
        have hki : (k : Int) < (m.members.length : Int) := by omega
        have hxn : x.name.size ≤ 20 := HM3.out x hxm
        obtain ⟨w9, hw9, cw9, fw9, Bw9, qw9⟩ := boxed wr #[.string x.name, .int .i64 x.role] 79
        have v0 := cw9 0 _ rfl
        have v1 := cw9 1 _ rfl
        have B9 := Lib.hid (bel_call hbel Bw9)
        obtain ⟨ro, hro⟩ : ∃ ro, roleOf x.role = ro := ⟨_, rfl⟩
        have hrs : ro.size ≤ 6 := by rw [← hro]; exact role_size _
        have RO := fun W => role_any x.role W
        rw [hro] at RO
        obtain ⟨a1, ha1⟩ : ∃ a1 : Nm, (⟨#[32]⟩ : Nm) ++ x.name = a1 := ⟨_, rfl⟩
        have q1 : a1.size ≤ 21 := by rw [← ha1, ByteArray.size_append]; show 1 + _ ≤ _; omega
        have g1 : ¬ 9223372036854775807 < 1 + x.name.size := by omega
        obtain ⟨a2, ha2⟩ : ∃ a2 : Nm, a1 ++ ⟨#[58]⟩ = a2 := ⟨_, rfl⟩
        have q2 : a2.size ≤ 22 := by rw [← ha2, ByteArray.size_append]; show _ + 1 ≤ _; omega
        have g2 : ¬ 9223372036854775807 < a1.size + 1 := by omega
        obtain ⟨a3, ha3⟩ : ∃ a3 : Nm, a2 ++ ro = a3 := ⟨_, rfl⟩
        have q3 : a3.size ≤ 28 := by rw [← ha3, ByteArray.size_append]; omega
        have g3 : ¬ 9223372036854775807 < a2.size + ro.size := by omega
        obtain ⟨a4, ha4⟩ : ∃ a4 : Nm, z ++ a3 = a4 := ⟨_, rfl⟩
        have q4 : a4.size ≤ 71 + 30 * (k + 1) := by rw [← ha4, ByteArray.size_append]; omega
        have g4 : ¬ 9223372036854775807 < z.size + a3.size := by omega
        have HZ4 := Lib.hid (show FLine deep f.name a4 by rw [← ha4]; exact HZ.out.app _)
        clear hx hxm hcx cw9 fw9 Bw9 hro HZ
        go_wp2_with fail
        clear hw9 u0 u1
        go_quiet ((go_at_call 16; refine Calls.quiet_of_same ((RO _).mono fun e w' h => ⟨h.1, h.2.symm⟩)))
        go_wp2
        go_roundw
        case rel => exact ⟨k + 1, a4, by omega, by go_num, rfl, HZ4, q4, belN B9.out _⟩
        case measure => simp [RowKit.intOf]; omega
      · obtain rfl : k = m.members.length := by omega
        go_wp2
        go_ret
        exact ⟨⟨z, rfl, HZ.out, by omega⟩, bel_call HB1.out (bel_call HB3.out (bel_call B8.out hbel))⟩
end Go.Proofs.YtkapaafbnbnpjaaGreatDoor
