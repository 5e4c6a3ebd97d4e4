/- GrantedStale: for every input the law returns true and leaves its arguments as they were. No condition. -/
import Derived.Test.YtocofkccdfaaaaaGrStE
namespace Go.Proofs.Ytocofkccdfaaaaa
open Go.ChangeShapes Go.WideShapes Go.ChangeAt Go.RowKit Go.Deep

theorem held_cells {w0 : World} {b o : Nat} {v : Value} (h : w0.cell? ⟨b, o, none⟩ = some v) : ∀ W, Below w0.heap.size w0 W → W.cell? ⟨b, o, none⟩ = some v := fun _ hb => (hb.cell (p := ⟨b, o, none⟩) (cell_lt h)).trans h
theorem run_neq_at (w : World) (s : Nm) (n : Int) : (binOp .neq 68 (.agg #[.string s, .int .i64 n]) (.agg #[.string s, .int .i64 n])).run Try.prog w = .ok (.bool false) w := by
  have sh : Try.prog.stoodInHeld 68 = false := by kernel_rfl
  have uf := Try.underlying68
  have u2 := Try.underlying9
  have u3 := Try.underlying3
  go_simp
theorem zero_cells {S : Nat → Prop} {w : World} {cs : List Value} (h : rFolder S w cs zeroF) : ∃ A2 c2 A3 c3 A4 c4 A5 c5 A6 c6, cs = [.string ⟨#[]⟩, .int .i64 0, .slice A2 0 c2, .slice A3 0 c3, .slice A4 0 c4, .slice A5 0 c5, .slice A6 0 c6] := by
  obtain ⟨f, hf⟩ : ∃ f, zeroF = f := ⟨_, rfl⟩
  rw [hf] at h
  obtain ⟨f_A2, f_c2, f_A3, f_c3, f_A4, f_c4, f_A5, f_c5, f_A6, f_c6, rfl, f_name_le, f_turn_ok, f_manifests_l, f_manifests_m, f_manifests_n, f_manifests_s, f_epochs_l, f_epochs_m, f_epochs_n, f_epochs_s, f_items_l, f_items_m, f_items_n, f_items_s, f_wraps_l, f_wraps_m, f_wraps_n, f_wraps_s, f_links_l, f_links_m, f_links_n, f_links_s⟩ := open_Folder h
  subst hf
  exact ⟨_, _, _, _, _, _, _, _, _, _, rfl⟩
theorem fold_cells {S : Nat → Prop} {w : World} {cs : List Value} {f : Folder} (h : rFolder S w cs f) : ∃ A2 c2 A3 c3 A4 c4 A5 c5 A6 c6, cs = [.string f.name, .int .i64 f.turn, .slice A2 f.manifests.length c2, .slice A3 f.epochs.length c3, .slice A4 f.items.length c4, .slice A5 f.wraps.length c5, .slice A6 f.links.length c6] := by
  obtain ⟨f_A2, f_c2, f_A3, f_c3, f_A4, f_c4, f_A5, f_c5, f_A6, f_c6, rfl, f_name_le, f_turn_ok, f_manifests_l, f_manifests_m, f_manifests_n, f_manifests_s, f_epochs_l, f_epochs_m, f_epochs_n, f_epochs_s, f_items_l, f_items_m, f_items_n, f_items_s, f_wraps_l, f_wraps_m, f_wraps_n, f_wraps_s, f_links_l, f_links_m, f_links_n, f_links_s⟩ := open_Folder h
  exact ⟨_, _, _, _, _, _, _, _, _, _, rfl⟩
theorem field_seq (a b c : Nm) (x y : Int) (g : Bool) (v u : Value) (w : World) : (Instr.field 72 (.agg #[.string a, .int .i64 x, v, .string b, u, .int .i64 y, .bool g, .string c]) 1).run Try.prog w = .ok (.int .i64 x) w := by kernel_rfl
theorem field_parent (a b c : Nm) (x y : Int) (g : Bool) (v u : Value) (w : World) : (Instr.field 72 (.agg #[.string a, .int .i64 x, v, .string b, u, .int .i64 y, .bool g, .string c]) 3).run Try.prog w = .ok (.string b) w := by kernel_rfl
set_option maxRecDepth 100000 in
set_option maxHeartbeats 8000000 in
theorem walk_grantedStale (w : World) (st : State) (cs : List Value) (h : rState (fun _ => True) w cs st) (name : Nm) (wn : name.size ≤ 140737488355328) (epoch : Int) (we : (Lit.int .i64 epoch).wf = true) :
    Calls Try.prog 6 #[.agg cs.toArray, .string name, .int .i64 epoch] w fun e w' => e = .returned (.bool true) ∧ Below w.heap.size w w' := by
  have HEP := Lib.hid (show I64 epoch from (show IntKind.i64.min ≤ epoch ∧ epoch ≤ 9223372036854775807 from by simpa [Lit.wf] using we))
  clear we
  have HR := Lib.hid h
  obtain ⟨st_A1, st_c1, st_A2, st_c2, st_A3, st_c3, rfl, st_turn_ok, st_users_l, st_users_m, st_users_n, st_users_s, st_deposits_l, st_deposits_m, st_deposits_n, st_deposits_s, st_folders_l, st_folders_m, st_folders_n, st_folders_s⟩ := open_State h
  obtain ⟨w0, hw0, cw0, fw0, Bw0, qw0⟩ := boxed w #[.int .i64 st.turn, .slice st_A1 st.users.length st_c1, .slice st_A2 st.deposits.length st_c2, .slice st_A3 st.folders.length st_c3] 26
  have HB0 := Lib.hid Bw0
  have k0 := held_cells (cw0 0 _ rfl)
  have k1 := held_cells (cw0 1 _ rfl)
  have k2 := held_cells (cw0 2 _ rfl)
  have k3 := held_cells (cw0 3 _ rfl)
  have HST := Lib.hid fun W (hW : Below w0.heap.size w0 W) => rState_keep HR.out (kept_of (bel_call HB0.out hW))
  clear cw0 fw0 Bw0 st_deposits_s st_users_s
  cases hf : few st with
  | false =>
    have HF := Lib.hid hf
    clear hf
    go_enter Try.func6, Try.ntmps6
    go_wp2_with fail
    clear hw0
    refine Calls.mono (awake_any _) ?_
    rintro e w1 ⟨rfl, B1⟩
    go_wp2_with fail
    refine Calls.mono (few_any st _ _ _ (HST.out _ B1)) ?_
    rw [HF.out]
    rintro e w2 ⟨rfl, b2⟩
    have HB2 := Lib.hid (bel_call HB0.out (bel_call B1 b2))
    clear b2
    go_wp2
    go_ret
    exact ⟨rfl, HB2.out⟩
  | true =>
  have HSM := Lib.hid (few_true st hf)
  have HF := Lib.hid hf
  clear hf
  by_cases hn : (20 : Int) < name.size
  · have hn' : decide ((20 : Int) < name.size) = true := decide_eq_true hn
    clear hn
    go_enter Try.func6, Try.ntmps6
    go_wp2_with fail
    clear hw0
    refine Calls.mono (awake_any _) ?_
    rintro e w1 ⟨rfl, B1⟩
    go_wp2_with fail
    refine Calls.mono (few_any st _ _ _ (HST.out _ B1)) ?_
    rw [HF.out]
    rintro e w2 ⟨rfl, b2⟩
    have HB2 := Lib.hid (bel_call HB0.out (bel_call B1 b2))
    clear b2
    go_wp2
    go_ret
    exact ⟨rfl, HB2.out⟩
  have hn' : decide ((20 : Int) < name.size) = false := decide_eq_false hn
  have HOK := Lib.hid (small_ok HSM.out)
  have HUS := Lib.hid (small_us HSM.out)
  clear hn
  go_enter Try.func6, Try.ntmps6
  go_wp2_with fail
  clear hw0
  refine Calls.mono (awake_any _) ?_
  rintro e w1 ⟨rfl, B1⟩
  go_wp2_with fail
  refine Calls.mono (few_any st _ _ _ (HST.out _ B1)) ?_
  rw [HF.out]
  rintro e w2 ⟨rfl, b2⟩
  have B2 := bel_call B1 b2
  clear b2 B1
  have HSQ := Lib.hid (show ∀ W : World, Below w0.heap.size w0 W → (fun W : World => W.cell? ⟨w.heap.size, 0, none⟩ = some (.int .i64 st.turn) ∧ W.cell? ⟨w.heap.size, 1, none⟩ = some (.slice st_A1 st.users.length st_c1) ∧ W.cell? ⟨w.heap.size, 2, none⟩ = some (.slice st_A2 st.deposits.length st_c2) ∧ W.cell? ⟨w.heap.size, 3, none⟩ = some (.slice st_A3 st.folders.length st_c3)) W from fun W hW => ⟨k0 W hW, k1 W hW, k2 W hW, k3 W hW⟩)
  have HS := HSQ.out
  go_wp2_with fail
  refine wp_region_held_drew (S := fun W : World => W.cell? ⟨w.heap.size, 0, none⟩ = some (.int .i64 st.turn) ∧ W.cell? ⟨w.heap.size, 1, none⟩ = some (.slice st_A1 st.users.length st_c1) ∧ W.cell? ⟨w.heap.size, 2, none⟩ = some (.slice st_A2 st.deposits.length st_c2) ∧ W.cell? ⟨w.heap.size, 3, none⟩ = some (.slice st_A3 st.folders.length st_c3)) (by kernel_rfl) (HS _ B2.drew) (fun hHeld => ?_)
  refine wpAnyH_take (i := 0) (oi := ?_) (v := ?_) ?_ (by kernel_rfl) (by kernel_rfl) (by kernel_rfl) ?_ (Or.inl ⟨?_, ?_⟩) hHeld ?_
  rotate_left 2
  · simp only [List.getElem?_toArray, List.getElem?_cons_zero]; exact rfl
  · exact fun _ _ _ h => h
  · rfl
  · (intro W' hSw; (try dsimp only at hSw); go_simp; try with_reducible rfl)
  try simp only [Act.put, List.setIfInBounds_toArray, List.set_cons_zero, List.set_cons_succ]
  refine wpAnyH_take (i := 1) (oi := ?_) (v := ?_) ?_ (by kernel_rfl) (by kernel_rfl) (by kernel_rfl) ?_ (Or.inl ⟨?_, ?_⟩) hHeld ?_
  rotate_left 2
  · simp only [List.getElem?_toArray, List.getElem?_cons_succ, List.getElem?_cons_zero]; exact rfl
  · exact fun _ _ _ h => h
  · rfl
  · (intro W' hSw; (try dsimp only at hSw); go_simp; try with_reducible rfl)
  try simp only [Act.put, List.setIfInBounds_toArray, List.set_cons_zero, List.set_cons_succ]
  refine wpAnyH_take (i := 3) (oi := ?_) (v := ?_) ?_ (by kernel_rfl) (by kernel_rfl) (by kernel_rfl) ?_ (Or.inl ⟨?_, ?_⟩) hHeld ?_
  rotate_left 2
  · simp only [List.getElem?_toArray, List.getElem?_cons_succ, List.getElem?_cons_zero]; exact rfl
  · exact fun _ _ _ h => h
  · rfl
  · (intro W' hSw; (try dsimp only at hSw); go_simp; try with_reducible rfl)
  try simp only [Act.put, List.setIfInBounds_toArray, List.set_cons_zero, List.set_cons_succ]
  refine wpAnyH_take (i := 4) (oi := ?_) (v := ?_) ?_ (by kernel_rfl) (by kernel_rfl) (by kernel_rfl) ?_ (Or.inl ⟨?_, ?_⟩) hHeld ?_
  rotate_left 2
  · simp only [List.getElem?_toArray, List.getElem?_cons_succ, List.getElem?_cons_zero]; exact rfl
  · exact fun _ _ _ h => h
  · rfl
  · (intro W' hSw; (try dsimp only at hSw); go_simp; try with_reducible rfl)
  try simp only [Act.put, List.setIfInBounds_toArray, List.set_cons_zero, List.set_cons_succ]
  refine wpAnyH_ready (rs := [2]) (by kernel_rfl) (by simp) ?_
  refine AllReadyH.cons rfl (fun K hK => ?_) AllReadyH.nil
  go_simp
  go_at_call 19
  refine Calls.mono (chain_any st name wn _ _ _ (HST.out _ B2.drew)) ?_
  rintro e3 w3 ⟨⟨va, rfl, hva⟩, b3⟩
  have B3 := bel_call B2.drew b3
  clear hHeld
  refine hK.out _ _ (HS _ B3) (fun hHeld => ?_)
  clear hK K
  have HVA := Lib.hid hva
  clear hva b3
  refine wpAnyH_ready (rs := [5]) (by kernel_rfl) (by simp) ?_
  refine AllReadyH.cons rfl (fun K hK => ?_) AllReadyH.nil
  go_simp
  go_at_call 20
  refine Calls.mono (refchain_any st name _ _ _ (HST.out _ B3)) ?_
  rintro e4 w4 ⟨⟨vb, rfl, hvb⟩, b4⟩
  have B4 := bel_call B3 b4
  clear hHeld
  refine hK.out _ _ (HS _ B4) (fun hHeld => ?_)
  clear hK K
  obtain ⟨now, hnow⟩ : ∃ now, chainOf st 4 name = now := ⟨_, rfl⟩
  rw [hnow] at HVA hvb
  have hn4 : now.length ≤ 4 := by rw [← hnow]; exact chainOf_len _ _ _
  obtain ⟨Aa, ca, rfl, hla, hca, hna, hsa⟩ := HVA.out.keep rAt_ok (by decide) (kept_of b4)
  obtain ⟨Ab, cb, rfl, hlb, hcb, hnb, hsb⟩ := hvb
  unfold maxLen at hca hcb
  clear b4 hnow
  refine wpAnyH_take (i := 6) (oi := ?_) (v := ?_) ?_ (by kernel_rfl) (by kernel_rfl) (by kernel_rfl) ?_ (Or.inl ⟨?_, ?_⟩) hHeld ?_
  rotate_left 2
  · simp only [List.getElem?_toArray, List.getElem?_cons_succ, List.getElem?_cons_zero]; exact rfl
  · exact fun _ _ _ h => h
  · rfl
  · (intro W' hSw; (try dsimp only at hSw); go_simp; try with_reducible rfl)
  try simp only [Act.put, List.setIfInBounds_toArray, List.set_cons_zero, List.set_cons_succ]
  refine wpAnyH_take (i := 7) (oi := ?_) (v := ?_) ?_ (by kernel_rfl) (by kernel_rfl) (by kernel_rfl) ?_ (Or.inl ⟨?_, ?_⟩) hHeld ?_
  rotate_left 2
  · simp only [List.getElem?_toArray, List.getElem?_cons_succ, List.getElem?_cons_zero]; exact rfl
  · exact fun _ _ _ h => h
  · rfl
  · (intro W' hSw; (try dsimp only at hSw); go_simp; try with_reducible rfl)
  try simp only [Act.put, List.setIfInBounds_toArray, List.set_cons_zero, List.set_cons_succ]
  refine wpAnyH_done (by kernel_rfl) ?_ _
  clear hHeld HS B2 B3
  have HB4 := Lib.hid B4
  have hB4 := B4
  have HS := HSQ.out
  go_wp2_with fail
  refine wp_region_held_drew (S := fun W : World => W.cell? ⟨w.heap.size, 0, none⟩ = some (.int .i64 st.turn) ∧ W.cell? ⟨w.heap.size, 1, none⟩ = some (.slice st_A1 st.users.length st_c1) ∧ W.cell? ⟨w.heap.size, 2, none⟩ = some (.slice st_A2 st.deposits.length st_c2) ∧ W.cell? ⟨w.heap.size, 3, none⟩ = some (.slice st_A3 st.folders.length st_c3)) (by kernel_rfl) (HS _ B4.drew) (fun hHeld => ?_)
  refine wpAnyH_take (i := 0) (oi := ?_) (v := ?_) ?_ (by kernel_rfl) (by kernel_rfl) (by kernel_rfl) ?_ (Or.inl ⟨?_, ?_⟩) hHeld ?_
  rotate_left 2
  · simp only [List.getElem?_toArray, List.getElem?_cons_zero]; exact rfl
  · exact fun _ _ _ h => h
  · rfl
  · (intro W' hSw; (try dsimp only at hSw); go_simp; try with_reducible rfl)
  try simp only [Act.put, List.setIfInBounds_toArray, List.set_cons_zero, List.set_cons_succ]
  refine wpAnyH_take (i := 1) (oi := ?_) (v := ?_) ?_ (by kernel_rfl) (by kernel_rfl) (by kernel_rfl) ?_ (Or.inl ⟨?_, ?_⟩) hHeld ?_
  rotate_left 2
  · simp only [List.getElem?_toArray, List.getElem?_cons_succ, List.getElem?_cons_zero]; exact rfl
  · exact fun _ _ _ h => h
  · rfl
  · (intro W' hSw; (try dsimp only at hSw); go_simp; try with_reducible rfl)
  try simp only [Act.put, List.setIfInBounds_toArray, List.set_cons_zero, List.set_cons_succ]
  refine wpAnyH_take (i := 2) (oi := ?_) (v := ?_) ?_ (by kernel_rfl) (by kernel_rfl) (by kernel_rfl) ?_ (Or.inl ⟨?_, ?_⟩) hHeld ?_
  rotate_left 2
  · simp only [List.getElem?_toArray, List.getElem?_cons_succ, List.getElem?_cons_zero]; exact rfl
  · exact fun _ _ _ h => h
  · rfl
  · (intro W' hSw; (try dsimp only at hSw); go_simp; try with_reducible rfl)
  try simp only [Act.put, List.setIfInBounds_toArray, List.set_cons_zero, List.set_cons_succ]
  refine wpAnyH_take (i := 3) (oi := ?_) (v := ?_) ?_ (by kernel_rfl) (by kernel_rfl) (by kernel_rfl) ?_ (Or.inl ⟨?_, ?_⟩) hHeld ?_
  rotate_left 2
  · simp only [List.getElem?_toArray, List.getElem?_cons_succ, List.getElem?_cons_zero]; exact rfl
  · exact fun _ _ _ h => h
  · rfl
  · (intro W' hSw; (try dsimp only at hSw); go_simp; try with_reducible rfl)
  try simp only [Act.put, List.setIfInBounds_toArray, List.set_cons_zero, List.set_cons_succ]
  refine wpAnyH_take (i := 4) (oi := ?_) (v := ?_) ?_ (by kernel_rfl) (by kernel_rfl) (by kernel_rfl) ?_ (Or.inl ⟨?_, ?_⟩) hHeld ?_
  rotate_left 2
  · simp only [List.getElem?_toArray, List.getElem?_cons_succ, List.getElem?_cons_zero]; exact rfl
  · exact fun _ _ _ h => h
  · rfl
  · (intro W' hSw; (try dsimp only at hSw); go_simp; try with_reducible rfl)
  try simp only [Act.put, List.setIfInBounds_toArray, List.set_cons_zero, List.set_cons_succ]
  refine wpAnyH_take (i := 5) (oi := ?_) (v := ?_) ?_ (by kernel_rfl) (by kernel_rfl) (by kernel_rfl) ?_ (Or.inl ⟨?_, ?_⟩) hHeld ?_
  rotate_left 2
  · simp only [List.getElem?_toArray, List.getElem?_cons_succ, List.getElem?_cons_zero]; exact rfl
  · exact fun _ _ _ h => h
  · rfl
  · (intro W' hSw; (try dsimp only at hSw); go_simp; try with_reducible rfl)
  try simp only [Act.put, List.setIfInBounds_toArray, List.set_cons_zero, List.set_cons_succ]
  refine wpAnyH_take (i := 6) (oi := ?_) (v := ?_) ?_ (by kernel_rfl) (by kernel_rfl) (by kernel_rfl) ?_ (Or.inl ⟨?_, ?_⟩) hHeld ?_
  rotate_left 2
  · simp only [List.getElem?_toArray, List.getElem?_cons_succ, List.getElem?_cons_zero]; exact rfl
  · exact fun _ _ _ h => h
  · rfl
  · (intro W' hSw; (try dsimp only at hSw); go_simp; try with_reducible rfl)
  try simp only [Act.put, List.setIfInBounds_toArray, List.set_cons_zero, List.set_cons_succ]
  refine wpAnyH_take (i := 7) (oi := ?_) (v := ?_) ?_ (by kernel_rfl) (by kernel_rfl) (by kernel_rfl) ?_ (Or.inl ⟨?_, ?_⟩) hHeld ?_
  rotate_left 2
  · simp only [List.getElem?_toArray, List.getElem?_cons_succ, List.getElem?_cons_zero]; exact rfl
  · exact fun _ _ _ h => h
  · rfl
  · (intro W' hSw; (try dsimp only at hSw); go_simp; try with_reducible rfl)
  try simp only [Act.put, List.setIfInBounds_toArray, List.set_cons_zero, List.set_cons_succ]
  refine wpAnyH_take (i := 9) (oi := ?_) (v := ?_) ?_ (by kernel_rfl) (by kernel_rfl) (by kernel_rfl) ?_ (Or.inl ⟨?_, ?_⟩) hHeld ?_
  rotate_left 2
  · simp only [List.getElem?_toArray, List.getElem?_cons_succ, List.getElem?_cons_zero]; exact rfl
  · exact fun _ _ _ h => h
  · rfl
  · (intro W' hSw; (try dsimp only at hSw); go_simp; try with_reducible rfl)
  try simp only [Act.put, List.setIfInBounds_toArray, List.set_cons_zero, List.set_cons_succ]
  refine wpAnyH_take (i := 10) (oi := ?_) (v := ?_) ?_ (by kernel_rfl) (by kernel_rfl) (by kernel_rfl) ?_ (Or.inl ⟨?_, ?_⟩) hHeld ?_
  rotate_left 2
  · simp only [List.getElem?_toArray, List.getElem?_cons_succ, List.getElem?_cons_zero]; exact rfl
  · exact fun _ _ _ h => h
  · rfl
  · (intro W' hSw; (try dsimp only at hSw); go_simp; try with_reducible rfl)
  try simp only [Act.put, List.setIfInBounds_toArray, List.set_cons_zero, List.set_cons_succ]
  refine wpAnyH_ready (rs := [8]) (by kernel_rfl) (by simp) ?_
  refine AllReadyH.cons rfl (fun K hK => ?_) AllReadyH.nil
  go_simp
  go_at_call 21
  refine Calls.mono (stale_any st name wn _ _ _ (HST.out _ B4.drew)) ?_
  rintro e5 w5 ⟨rfl, b5⟩
  have B5 := bel_call B4.drew b5
  have B45 := bel_call (Below.refl w4.heap.size w4).drew b5
  clear hHeld b5
  refine hK.out _ _ (HS _ B5) (fun hHeld => ?_)
  clear hK K
  refine wpAnyH_ready (rs := [11]) (by kernel_rfl) (by simp) ?_
  refine AllReadyH.cons rfl (fun K hK => ?_) AllReadyH.nil
  go_simp
  go_at_call 22
  refine Calls.mono (refstale_any st name _ _ _ (HST.out _ B5)) ?_
  rintro e6 w6 ⟨rfl, b6⟩
  have B6 := bel_call B5 b6
  have B46 := bel_call B45 b6
  clear hHeld b6
  refine hK.out _ _ (HS _ B6) (fun hHeld => ?_)
  clear hK K
  refine wpAnyH_take (i := 12) (oi := ?_) (v := ?_) ?_ (by kernel_rfl) (by kernel_rfl) (by kernel_rfl) ?_ (Or.inl ⟨?_, ?_⟩) hHeld ?_
  rotate_left 2
  · simp only [List.getElem?_toArray, List.getElem?_cons_succ, List.getElem?_cons_zero]; exact rfl
  · exact fun _ _ _ h => h
  · rfl
  · (intro W' hSw; (try dsimp only at hSw); go_simp; try with_reducible rfl)
  try simp only [Act.put, List.setIfInBounds_toArray, List.set_cons_zero, List.set_cons_succ]
  refine wpAnyH_take (i := 13) (oi := ?_) (v := ?_) ?_ (by kernel_rfl) (by kernel_rfl) (by kernel_rfl) ?_ (Or.inl ⟨?_, ?_⟩) hHeld ?_
  rotate_left 2
  · simp only [List.getElem?_toArray, List.getElem?_cons_succ, List.getElem?_cons_zero]; exact rfl
  · exact fun _ _ _ h => h
  · rfl
  · (intro W' hSw; (try dsimp only at hSw); go_simp; try with_reducible rfl)
  try simp only [Act.put, List.setIfInBounds_toArray, List.set_cons_zero, List.set_cons_succ]
  refine wpAnyH_done (by kernel_rfl) ?_ _
  clear hHeld HS B4 B5 B45 hB4
  have hq := run_neq_at
  have eg : Try.prog.eqGuardType Try.prog.depth 68 = false := by kernel_rfl
  have HB6 := Lib.hid B6
  have HB46 := Lib.hid B46
  clear B46
  go_wp2
  go_loopw [47] (fun i wr => ∃ k : Nat, k ≤ now.length ∧ i = .int .i64 k ∧ Below w6.heap.size w6 wr) (fun i _ => now.length - (RowKit.intOf i).toNat)
  case atStart => exact ⟨0, by omega, by go_num, Below.refl _ _⟩
  case round =>
    clear B6
    obtain ⟨k, hk, rfl, hbel⟩ := hrel
    by_cases hlt : k < now.length
    · obtain ⟨x, hx⟩ : ∃ x, now[k]? = some x := ⟨_, List.getElem?_eq_getElem hlt⟩
      obtain ⟨b1, o1, y1, hA1, hl1, hR1, hc1⟩ := SlAt.elem hsa hx (by decide) (bel_call HB46.out hbel)
      obtain ⟨b2, o2, y2, hA2, hl2, hR2, hc2⟩ := SlAt.elem hsb hx (by decide) (bel_call HB46.out hbel)
      obtain ⟨rfl, x_name_le, x_seq_ok⟩ := open_At hR1
      obtain ⟨rfl, -, -⟩ := hR2
      have u0 := hc1 0 _ rfl
      have u1 := hc1 1 _ rfl
      have v0 := hc2 0 _ rfl
      have v1 := hc2 1 _ rfl
      rw [Nat.add_zero] at u0 v0
      subst hA1
      subst hA2
      have hki : (k : Int) < (now.length : Int) := by omega
      clear hc1 hc2 hx
      go_wp2_with fail
      go_quiet (fail)
      go_wp2
      go_roundw
      case rel => exact ⟨k + 1, by omega, by go_num, belN hbel _⟩
      case measure => simp [RowKit.intOf]; omega
    · obtain rfl : k = now.length := by omega
      have B7 := bel_call HB6.out hbel
      go_wp2_with fail
      refine Calls.mono (find_any st name _ wr _ (HST.out _ B7)) ?_
      rintro e8 w8 ⟨⟨cf, rfl, hfd⟩, b8⟩
      have B8 := bel_call B7 b8
      have HB8 := Lib.hid B8
      clear b8 B7
      cases hF : findF st name with
      | none =>
        rw [hF] at hfd
        replace hfd : rFolder (fun _ => True) w8 cf zeroF := hfd
        simp only [Option.isSome_none]
        obtain ⟨z2, y2, z3, y3, z4, y4, z5, y5, z6, y6, rfl⟩ := zero_cells hfd
        have HN := Lib.hid (atIdx_none hF)
        obtain ⟨w9, hw9, cw9, fw9, Bw9, qw9⟩ := boxed w8 #[.string ⟨#[]⟩, .int .i64 0, .slice z2 0 y2, .slice z3 0 y3, .slice z4 0 y4, .slice z5 0 y5, .slice z6 0 y6] 43
        have B9 := bel_call B8 Bw9
        have HC9 := Lib.hid cw9
        clear hfd hF cw9 fw9 Bw9 B8
        go_wp2_with fail
        clear hw9
        refine Calls.mono (refat2_any st name _ w9 _ (HST.out _ B9)) ?_
        rw [HN.out]
        rintro e10 w10 ⟨rfl, b10⟩
        have c := fun j v hj => (b10.cell (p := ⟨w8.heap.size, j, none⟩) qw9).trans (HC9.out j v hj)
        have c0 := c 0 _ rfl
        have c1 := c 1 _ rfl
        have c2 := c 2 _ rfl
        have c3 := c 3 _ rfl
        have c4 := c 4 _ rfl
        have c5 := c 5 _ rfl
        have c6 := c 6 _ rfl
        have HB10 := Lib.hid (bel_call HB0.out (bel_call B9 b10))
        clear c b10
        go_wp2
        go_ret
        exact ⟨rfl, HB10.out⟩
      | some f =>
      rw [hF] at hfd
      replace hfd : rFolder (fun _ => True) w8 cf f := hfd
      simp only [Option.isSome_some]
      have HFR := Lib.hid hfd
      have hnm : f.name = name := findF_name hF
      subst hnm
      obtain ⟨kf, hkf, hf⟩ := atIdx_some hF
      have HKF := Lib.hid hkf
      have hk0 : decide ((0 : Int) ≤ (kf : Int)) = true := decide_eq_true (by omega)
      have hfl := (List.getElem?_eq_some_iff.1 hf).1
      have hfi : (kf : Int) < (st.folders.length : Int) := by omega
      obtain ⟨bf, of, yf, hAf, hbf, hRf, hcf⟩ := SlAt.elem st_folders_s hf (by decide) (bel_call HB0.out B8)
      have HGR := Lib.hid (rFolder_keep hRf (kept_of (bel_call HB0.out B8)))
      obtain ⟨f_A2, f_c2, f_A3, f_c3, f_A4, f_c4, f_A5, f_c5, f_A6, f_c6, rfl, f_name_le, f_turn_ok, f_manifests_l, f_manifests_m, f_manifests_n, f_manifests_s, f_epochs_l, f_epochs_m, f_epochs_n, f_epochs_s, f_items_l, f_items_m, f_items_n, f_items_s, f_wraps_l, f_wraps_m, f_wraps_n, f_wraps_s, f_links_l, f_links_m, f_links_n, f_links_s⟩ := open_Folder hfd
      obtain ⟨g_A2, g_c2, g_A3, g_c3, g_A4, g_c4, g_A5, g_c5, g_A6, g_c6, rfl⟩ := fold_cells hRf
      have u0 := hcf 0 _ rfl
      have u1 := hcf 1 _ rfl
      have u2 := hcf 2 _ rfl
      have u3 := hcf 3 _ rfl
      have u4 := hcf 4 _ rfl
      have u5 := hcf 5 _ rfl
      have u6 := hcf 6 _ rfl
      rw [Nat.add_zero] at u0
      subst hAf
      obtain ⟨w9, hw9, cw9, fw9, Bw9, qw9⟩ := boxed w8 #[.string f.name, .int .i64 f.turn, .slice f_A2 f.manifests.length f_c2, .slice f_A3 f.epochs.length f_c3, .slice f_A4 f.items.length f_c4, .slice f_A5 f.wraps.length f_c5, .slice f_A6 f.links.length f_c6] 43
      have HC9 := Lib.hid cw9
      have B9 := bel_call B8 Bw9
      have HB89 := Lib.hid Bw9
      clear hF hkf hf hRf hcf cw9 fw9 Bw9 B8 f_manifests_s f_epochs_s f_items_s f_wraps_s f_links_s
      go_wp2_with fail
      clear hw9
      refine Calls.mono (refat2_any st f.name _ w9 _ (HST.out _ B9)) ?_
      rw [HKF.out]
      rintro e10 w10 ⟨rfl, b10⟩
      have B10 := bel_call B9 b10
      have B810 := bel_call HB89.out b10
      have s3' := k3 w10 B10
      have u0' := (B810.cell (p := ⟨bf, of + kf * 7, none⟩) (cell_lt u0)).trans u0
      have u1' := (B810.cell (p := ⟨bf, of + kf * 7 + 1, none⟩) (cell_lt u1)).trans u1
      have u2' := (B810.cell (p := ⟨bf, of + kf * 7 + 2, none⟩) (cell_lt u2)).trans u2
      have u3' := (B810.cell (p := ⟨bf, of + kf * 7 + 3, none⟩) (cell_lt u3)).trans u3
      have u4' := (B810.cell (p := ⟨bf, of + kf * 7 + 4, none⟩) (cell_lt u4)).trans u4
      have u5' := (B810.cell (p := ⟨bf, of + kf * 7 + 5, none⟩) (cell_lt u5)).trans u5
      have u6' := (B810.cell (p := ⟨bf, of + kf * 7 + 6, none⟩) (cell_lt u6)).trans u6
      obtain ⟨w11, hw11, cw11, fw11, Bw11, qw11⟩ := boxed w10 #[.string f.name, .int .i64 f.turn, .slice g_A2 f.manifests.length g_c2, .slice g_A3 f.epochs.length g_c3, .slice g_A4 f.items.length g_c4, .slice g_A5 f.wraps.length g_c5, .slice g_A6 f.links.length g_c6] 43
      have HC11 := Lib.hid cw11
      have B11 := bel_call B10 Bw11
      have HB1011 := Lib.hid Bw11
      have HB811 := Lib.hid (bel_call B810 Bw11)
      have HB911 := Lib.hid (bel_call b10 Bw11)
      have c := fun j v (hj : (#[.string f.name, .int .i64 f.turn, .slice f_A2 f.manifests.length f_c2, .slice f_A3 f.epochs.length f_c3, .slice f_A4 f.items.length f_c4, .slice f_A5 f.wraps.length f_c5, .slice f_A6 f.links.length f_c6] : Array Value)[j]? = some v) => (HB911.out.cell (p := ⟨w8.heap.size, j, none⟩) qw9).trans (HC9.out j v hj)
      have c0 := c 0 _ rfl
      have c1 := c 1 _ rfl
      have c2 := c 2 _ rfl
      have c3 := c 3 _ rfl
      have c4 := c 4 _ rfl
      have c5 := c 5 _ rfl
      have c6 := c 6 _ rfl
      clear c u0 u1 u2 u3 u4 u5 u6 cw11 fw11 Bw11 b10 B10 B9 B810
      go_wp2_with fail
      clear hw11 s3' c0 c1 c2 c3 c4 c5 c6 u0' u1' u2' u3' u4' u5' u6'
      refine Calls.mono (now_any f _ w11 _ (rFolder_keep HFR.out (kept_of HB811.out))) ?_
      rintro e12 w12 ⟨⟨cm, rfl, hm⟩, b12⟩
      obtain ⟨m, hme⟩ : ∃ m, nowM f = m := ⟨_, rfl⟩
      rw [hme] at hm
      have HME := Lib.hid hme
      obtain ⟨m_A2, m_c2, m_A4, m_c4, rfl⟩ := man_cells hm
      obtain ⟨w13, hw13, cw13, fw13, Bw13, qw13⟩ := boxed w12 #[.string m.folder, .int .i64 m.seq, .slice m_A2 m.prev.length m_c2, .string m.parent, .slice m_A4 m.members.length m_c4, .int .i64 m.cut, .bool m.gone, .string m.who] 72
      have HC13 := Lib.hid cw13
      have B1113 := bel_call b12 Bw13
      have B13 := Lib.hid (bel_call B11 B1113)
      have B8f := Lib.hid (bel_call HB811.out B1113)
      have B8g := Lib.hid (show Below w8.heap.size w8 w13 from B8f.out)
      have HNOW := Lib.hid (show ∀ W : World, Below w8.heap.size w8 W → Calls Try.prog 29 #[.agg #[.string f.name, .int .i64 f.turn, .slice g_A2 f.manifests.length g_c2, .slice g_A3 f.epochs.length g_c3, .slice g_A4 f.items.length g_c4, .slice g_A5 f.wraps.length g_c5, .slice g_A6 f.links.length g_c6]] W fun e w' => (∃ cm : List Value, e = .returned (.agg cm.toArray) ∧ rManifest (fun _ => True) w' cm m) ∧ Below W.heap.size W w' from fun W hW => by
        rw [← HME.out]
        exact refnow_any f _ W _ (rFolder_keep HGR.out (kept_of hW)))
      have HSQ2 := Lib.hid (show ∀ W : World, Below w13.heap.size w13 W → (fun W : World => (W.cell? ⟨w8.heap.size, 0, none⟩ = some (.string f.name) ∧ W.cell? ⟨w8.heap.size, 1, none⟩ = some (.int .i64 f.turn) ∧ W.cell? ⟨w8.heap.size, 2, none⟩ = some (.slice f_A2 f.manifests.length f_c2) ∧ W.cell? ⟨w8.heap.size, 3, none⟩ = some (.slice f_A3 f.epochs.length f_c3) ∧ W.cell? ⟨w8.heap.size, 4, none⟩ = some (.slice f_A4 f.items.length f_c4) ∧ W.cell? ⟨w8.heap.size, 5, none⟩ = some (.slice f_A5 f.wraps.length f_c5) ∧ W.cell? ⟨w8.heap.size, 6, none⟩ = some (.slice f_A6 f.links.length f_c6)) ∧ (W.cell? ⟨w10.heap.size, 0, none⟩ = some (.string f.name) ∧ W.cell? ⟨w10.heap.size, 1, none⟩ = some (.int .i64 f.turn) ∧ W.cell? ⟨w10.heap.size, 2, none⟩ = some (.slice g_A2 f.manifests.length g_c2) ∧ W.cell? ⟨w10.heap.size, 3, none⟩ = some (.slice g_A3 f.epochs.length g_c3) ∧ W.cell? ⟨w10.heap.size, 4, none⟩ = some (.slice g_A4 f.items.length g_c4) ∧ W.cell? ⟨w10.heap.size, 5, none⟩ = some (.slice g_A5 f.wraps.length g_c5) ∧ W.cell? ⟨w10.heap.size, 6, none⟩ = some (.slice g_A6 f.links.length g_c6)) ∧ W.cell? ⟨w12.heap.size, 1, none⟩ = some (.int .i64 m.seq) ∧ W.cell? ⟨w12.heap.size, 3, none⟩ = some (.string m.parent)) W from fun W hW => by
        have c := fun j v (hj : (#[.string f.name, .int .i64 f.turn, .slice f_A2 f.manifests.length f_c2, .slice f_A3 f.epochs.length f_c3, .slice f_A4 f.items.length f_c4, .slice f_A5 f.wraps.length f_c5, .slice f_A6 f.links.length f_c6] : Array Value)[j]? = some v) => ((bel_call HB911.out (bel_call B1113 hW)).cell (p := ⟨w8.heap.size, j, none⟩) qw9).trans (HC9.out j v hj)
        have d := fun j v (hj : (#[.string f.name, .int .i64 f.turn, .slice g_A2 f.manifests.length g_c2, .slice g_A3 f.epochs.length g_c3, .slice g_A4 f.items.length g_c4, .slice g_A5 f.wraps.length g_c5, .slice g_A6 f.links.length g_c6] : Array Value)[j]? = some v) => ((bel_call B1113 hW).cell (p := ⟨w10.heap.size, j, none⟩) qw11).trans (HC11.out j v hj)
        exact ⟨⟨c 0 _ rfl, c 1 _ rfl, c 2 _ rfl, c 3 _ rfl, c 4 _ rfl, c 5 _ rfl, c 6 _ rfl⟩, ⟨d 0 _ rfl, d 1 _ rfl, d 2 _ rfl, d 3 _ rfl, d 4 _ rfl, d 5 _ rfl, d 6 _ rfl⟩, (hW.cell (p := ⟨w12.heap.size, 1, none⟩) qw13).trans (HC13.out 1 _ rfl), (hW.cell (p := ⟨w12.heap.size, 3, none⟩) qw13).trans (HC13.out 3 _ rfl)⟩)
      clear hm hme cw13 fw13 Bw13 b12 B1113
      go_wp2
      have HS := HSQ2.out
      refine wp_region_held_drew (S := fun W : World => (W.cell? ⟨w8.heap.size, 0, none⟩ = some (.string f.name) ∧ W.cell? ⟨w8.heap.size, 1, none⟩ = some (.int .i64 f.turn) ∧ W.cell? ⟨w8.heap.size, 2, none⟩ = some (.slice f_A2 f.manifests.length f_c2) ∧ W.cell? ⟨w8.heap.size, 3, none⟩ = some (.slice f_A3 f.epochs.length f_c3) ∧ W.cell? ⟨w8.heap.size, 4, none⟩ = some (.slice f_A4 f.items.length f_c4) ∧ W.cell? ⟨w8.heap.size, 5, none⟩ = some (.slice f_A5 f.wraps.length f_c5) ∧ W.cell? ⟨w8.heap.size, 6, none⟩ = some (.slice f_A6 f.links.length f_c6)) ∧ (W.cell? ⟨w10.heap.size, 0, none⟩ = some (.string f.name) ∧ W.cell? ⟨w10.heap.size, 1, none⟩ = some (.int .i64 f.turn) ∧ W.cell? ⟨w10.heap.size, 2, none⟩ = some (.slice g_A2 f.manifests.length g_c2) ∧ W.cell? ⟨w10.heap.size, 3, none⟩ = some (.slice g_A3 f.epochs.length g_c3) ∧ W.cell? ⟨w10.heap.size, 4, none⟩ = some (.slice g_A4 f.items.length g_c4) ∧ W.cell? ⟨w10.heap.size, 5, none⟩ = some (.slice g_A5 f.wraps.length g_c5) ∧ W.cell? ⟨w10.heap.size, 6, none⟩ = some (.slice g_A6 f.links.length g_c6)) ∧ W.cell? ⟨w12.heap.size, 1, none⟩ = some (.int .i64 m.seq) ∧ W.cell? ⟨w12.heap.size, 3, none⟩ = some (.string m.parent)) (by kernel_rfl) (HS _ (Below.refl _ _).drew) (fun hHeld => ?_)
      have BD : Below w13.heap.size w13 w13.drew := (Below.refl _ _).drew
      refine wpAnyH_take (i := 0) (oi := ?_) (v := ?_) ?_ (by kernel_rfl) (by kernel_rfl) (by kernel_rfl) ?_ (Or.inl ⟨?_, ?_⟩) hHeld ?_
      rotate_left 2
      · simp only [List.getElem?_toArray, List.getElem?_cons_zero]; exact rfl
      · exact fun _ _ _ h => h
      · rfl
      · (intro W' hSw; (try dsimp only at hSw); go_simp; try with_reducible rfl)
      try simp only [Act.put, List.setIfInBounds_toArray, List.set_cons_zero, List.set_cons_succ]
      refine wpAnyH_take (i := 1) (oi := ?_) (v := ?_) ?_ (by kernel_rfl) (by kernel_rfl) (by kernel_rfl) ?_ (Or.inl ⟨?_, ?_⟩) hHeld ?_
      rotate_left 2
      · simp only [List.getElem?_toArray, List.getElem?_cons_succ, List.getElem?_cons_zero]; exact rfl
      · exact fun _ _ _ h => h
      · rfl
      · (intro W' hSw; (try dsimp only at hSw); go_simp; try with_reducible rfl)
      try simp only [Act.put, List.setIfInBounds_toArray, List.set_cons_zero, List.set_cons_succ]
      refine wpAnyH_take (i := 2) (oi := ?_) (v := ?_) ?_ (by kernel_rfl) (by kernel_rfl) (by kernel_rfl) ?_ (Or.inl ⟨?_, ?_⟩) hHeld ?_
      rotate_left 2
      · simp only [List.getElem?_toArray, List.getElem?_cons_succ, List.getElem?_cons_zero]; exact rfl
      · exact fun _ _ _ h => h
      · rfl
      · (intro W' hSw; (try dsimp only at hSw); go_simp; try with_reducible rfl)
      try simp only [Act.put, List.setIfInBounds_toArray, List.set_cons_zero, List.set_cons_succ]
      refine wpAnyH_take (i := 3) (oi := ?_) (v := ?_) ?_ (by kernel_rfl) (by kernel_rfl) (by kernel_rfl) ?_ (Or.inl ⟨?_, ?_⟩) hHeld ?_
      rotate_left 2
      · simp only [List.getElem?_toArray, List.getElem?_cons_succ, List.getElem?_cons_zero]; exact rfl
      · exact fun _ _ _ h => h
      · rfl
      · (intro W' hSw; (try dsimp only at hSw); go_simp; try with_reducible rfl)
      try simp only [Act.put, List.setIfInBounds_toArray, List.set_cons_zero, List.set_cons_succ]
      refine wpAnyH_take (i := 4) (oi := ?_) (v := ?_) ?_ (by kernel_rfl) (by kernel_rfl) (by kernel_rfl) ?_ (Or.inl ⟨?_, ?_⟩) hHeld ?_
      rotate_left 2
      · simp only [List.getElem?_toArray, List.getElem?_cons_succ, List.getElem?_cons_zero]; exact rfl
      · exact fun _ _ _ h => h
      · rfl
      · (intro W' hSw; (try dsimp only at hSw); go_simp; try with_reducible rfl)
      try simp only [Act.put, List.setIfInBounds_toArray, List.set_cons_zero, List.set_cons_succ]
      refine wpAnyH_take (i := 5) (oi := ?_) (v := ?_) ?_ (by kernel_rfl) (by kernel_rfl) (by kernel_rfl) ?_ (Or.inl ⟨?_, ?_⟩) hHeld ?_
      rotate_left 2
      · simp only [List.getElem?_toArray, List.getElem?_cons_succ, List.getElem?_cons_zero]; exact rfl
      · exact fun _ _ _ h => h
      · rfl
      · (intro W' hSw; (try dsimp only at hSw); go_simp; try with_reducible rfl)
      try simp only [Act.put, List.setIfInBounds_toArray, List.set_cons_zero, List.set_cons_succ]
      refine wpAnyH_take (i := 6) (oi := ?_) (v := ?_) ?_ (by kernel_rfl) (by kernel_rfl) (by kernel_rfl) ?_ (Or.inl ⟨?_, ?_⟩) hHeld ?_
      rotate_left 2
      · simp only [List.getElem?_toArray, List.getElem?_cons_succ, List.getElem?_cons_zero]; exact rfl
      · exact fun _ _ _ h => h
      · rfl
      · (intro W' hSw; (try dsimp only at hSw); go_simp; try with_reducible rfl)
      try simp only [Act.put, List.setIfInBounds_toArray, List.set_cons_zero, List.set_cons_succ]
      refine wpAnyH_take (i := 7) (oi := ?_) (v := ?_) ?_ (by kernel_rfl) (by kernel_rfl) (by kernel_rfl) ?_ (Or.inl ⟨?_, ?_⟩) hHeld ?_
      rotate_left 2
      · simp only [List.getElem?_toArray, List.getElem?_cons_succ, List.getElem?_cons_zero]; exact rfl
      · exact fun _ _ _ h => h
      · rfl
      · (intro W' hSw; (try dsimp only at hSw); go_simp; try with_reducible rfl)
      try simp only [Act.put, List.setIfInBounds_toArray, List.set_cons_zero, List.set_cons_succ]
      refine wpAnyH_take (i := 8) (oi := ?_) (v := ?_) ?_ (by kernel_rfl) (by kernel_rfl) (by kernel_rfl) ?_ (Or.inl ⟨?_, ?_⟩) hHeld ?_
      rotate_left 2
      · simp only [List.getElem?_toArray, List.getElem?_cons_succ, List.getElem?_cons_zero]; exact rfl
      · exact fun _ _ _ h => h
      · rfl
      · (intro W' hSw; (try dsimp only at hSw); go_simp; try with_reducible rfl)
      try simp only [Act.put, List.setIfInBounds_toArray, List.set_cons_zero, List.set_cons_succ]
      refine wpAnyH_take (i := 9) (oi := ?_) (v := ?_) ?_ (by kernel_rfl) (by kernel_rfl) (by kernel_rfl) ?_ (Or.inl ⟨?_, ?_⟩) hHeld ?_
      rotate_left 2
      · simp only [List.getElem?_toArray, List.getElem?_cons_succ, List.getElem?_cons_zero]; exact rfl
      · exact fun _ _ _ h => h
      · rfl
      · (intro W' hSw; (try dsimp only at hSw); go_simp; try with_reducible rfl)
      try simp only [Act.put, List.setIfInBounds_toArray, List.set_cons_zero, List.set_cons_succ]
      refine wpAnyH_take (i := 10) (oi := ?_) (v := ?_) ?_ (by kernel_rfl) (by kernel_rfl) (by kernel_rfl) ?_ (Or.inl ⟨?_, ?_⟩) hHeld ?_
      rotate_left 2
      · simp only [List.getElem?_toArray, List.getElem?_cons_succ, List.getElem?_cons_zero]; exact rfl
      · exact fun _ _ _ h => h
      · rfl
      · (intro W' hSw; (try dsimp only at hSw); go_simp; try with_reducible rfl)
      try simp only [Act.put, List.setIfInBounds_toArray, List.set_cons_zero, List.set_cons_succ]
      refine wpAnyH_take (i := 11) (oi := ?_) (v := ?_) ?_ (by kernel_rfl) (by kernel_rfl) (by kernel_rfl) ?_ (Or.inl ⟨?_, ?_⟩) hHeld ?_
      rotate_left 2
      · simp only [List.getElem?_toArray, List.getElem?_cons_succ, List.getElem?_cons_zero]; exact rfl
      · exact fun _ _ _ h => h
      · rfl
      · (intro W' hSw; (try dsimp only at hSw); go_simp; try with_reducible rfl)
      try simp only [Act.put, List.setIfInBounds_toArray, List.set_cons_zero, List.set_cons_succ]
      refine wpAnyH_take (i := 12) (oi := ?_) (v := ?_) ?_ (by kernel_rfl) (by kernel_rfl) (by kernel_rfl) ?_ (Or.inl ⟨?_, ?_⟩) hHeld ?_
      rotate_left 2
      · simp only [List.getElem?_toArray, List.getElem?_cons_succ, List.getElem?_cons_zero]; exact rfl
      · exact fun _ _ _ h => h
      · rfl
      · (intro W' hSw; (try dsimp only at hSw); go_simp; try with_reducible rfl)
      try simp only [Act.put, List.setIfInBounds_toArray, List.set_cons_zero, List.set_cons_succ]
      refine wpAnyH_take (i := 13) (oi := ?_) (v := ?_) ?_ (by kernel_rfl) (by kernel_rfl) (by kernel_rfl) ?_ (Or.inl ⟨?_, ?_⟩) hHeld ?_
      rotate_left 2
      · simp only [List.getElem?_toArray, List.getElem?_cons_succ, List.getElem?_cons_zero]; exact rfl
      · exact fun _ _ _ h => h
      · rfl
      · (intro W' hSw; (try dsimp only at hSw); go_simp; try with_reducible rfl)
      try simp only [Act.put, List.setIfInBounds_toArray, List.set_cons_zero, List.set_cons_succ]
      refine wpAnyH_take (i := 14) (oi := ?_) (v := ?_) ?_ (by kernel_rfl) (by kernel_rfl) (by kernel_rfl) ?_ (Or.inl ⟨?_, ?_⟩) hHeld ?_
      rotate_left 2
      · simp only [List.getElem?_toArray, List.getElem?_cons_succ, List.getElem?_cons_zero]; exact rfl
      · exact fun _ _ _ h => h
      · rfl
      · (intro W' hSw; (try dsimp only at hSw); go_simp; try with_reducible rfl)
      try simp only [Act.put, List.setIfInBounds_toArray, List.set_cons_zero, List.set_cons_succ]
      refine wpAnyH_take (i := 15) (oi := ?_) (v := ?_) ?_ (by kernel_rfl) (by kernel_rfl) (by kernel_rfl) ?_ (Or.inl ⟨?_, ?_⟩) hHeld ?_
      rotate_left 2
      · simp only [List.getElem?_toArray, List.getElem?_cons_succ, List.getElem?_cons_zero]; exact rfl
      · exact fun _ _ _ h => h
      · rfl
      · (intro W' hSw; (try dsimp only at hSw); go_simp; try with_reducible rfl)
      try simp only [Act.put, List.setIfInBounds_toArray, List.set_cons_zero, List.set_cons_succ]
      refine wpAnyH_take (i := 17) (oi := ?_) (v := ?_) ?_ (by kernel_rfl) (by kernel_rfl) (by kernel_rfl) ?_ (Or.inl ⟨?_, ?_⟩) hHeld ?_
      rotate_left 2
      · simp only [List.getElem?_toArray, List.getElem?_cons_succ, List.getElem?_cons_zero]; exact rfl
      · exact fun _ _ _ h => h
      · rfl
      · (intro W' hSw; (try dsimp only at hSw); go_simp; try with_reducible rfl)
      try simp only [Act.put, List.setIfInBounds_toArray, List.set_cons_zero, List.set_cons_succ]
      refine wpAnyH_take (i := 18) (oi := ?_) (v := ?_) ?_ (by kernel_rfl) (by kernel_rfl) (by kernel_rfl) ?_ (Or.inl ⟨?_, ?_⟩) hHeld ?_
      rotate_left 2
      · simp only [List.getElem?_toArray, List.getElem?_cons_succ, List.getElem?_cons_zero]; exact rfl
      · exact fun _ _ _ h => h
      · rfl
      · (intro W' hSw; (try dsimp only at hSw); go_simp; try with_reducible rfl)
      try simp only [Act.put, List.setIfInBounds_toArray, List.set_cons_zero, List.set_cons_succ]
      refine wpAnyH_ready (rs := [16]) (by kernel_rfl) (by simp) ?_
      refine AllReadyH.cons rfl (fun K hK => ?_) AllReadyH.nil
      go_simp
      go_at_call 25
      refine Calls.mono (first_any f epoch HEP.out _ _ _ (rFolder_keep HFR.out (kept_of (bel_call B8f.out BD)))) ?_
      rintro ew14 w14 ⟨rfl, bz⟩
      have Bw14 : Below w13.heap.size w13 w14 := bel_call BD bz
      clear bz hHeld
      refine hK.out _ _ (HS _ Bw14) (fun hHeld => ?_)
      clear hK K
      refine wpAnyH_ready (rs := [19]) (by kernel_rfl) (by simp) ?_
      refine AllReadyH.cons rfl (fun K hK => ?_) AllReadyH.nil
      go_simp
      go_at_call 26
      refine Calls.mono (reffirst_any f epoch HEP.out _ _ _ (rFolder_keep HGR.out (kept_of (bel_call B8g.out Bw14)))) ?_
      rintro ew15 w15 ⟨rfl, bz⟩
      have Bw15 : Below w13.heap.size w13 w15 := bel_call Bw14 bz
      clear bz hHeld
      refine hK.out _ _ (HS _ Bw15) (fun hHeld => ?_)
      clear hK K
      refine wpAnyH_take (i := 20) (oi := ?_) (v := ?_) ?_ (by kernel_rfl) (by kernel_rfl) (by kernel_rfl) ?_ (Or.inl ⟨?_, ?_⟩) hHeld ?_
      rotate_left 2
      · simp only [List.getElem?_toArray, List.getElem?_cons_succ, List.getElem?_cons_zero]; exact rfl
      · exact fun _ _ _ h => h
      · rfl
      · (intro W' hSw; (try dsimp only at hSw); go_simp; try with_reducible rfl)
      try simp only [Act.put, List.setIfInBounds_toArray, List.set_cons_zero, List.set_cons_succ]
      refine wpAnyH_take (i := 21) (oi := ?_) (v := ?_) ?_ (by kernel_rfl) (by kernel_rfl) (by kernel_rfl) ?_ (Or.inl ⟨?_, ?_⟩) hHeld ?_
      rotate_left 2
      · simp only [List.getElem?_toArray, List.getElem?_cons_succ, List.getElem?_cons_zero]; exact rfl
      · exact fun _ _ _ h => h
      · rfl
      · (intro W' hSw; (try dsimp only at hSw); go_simp; try with_reducible rfl)
      try simp only [Act.put, List.setIfInBounds_toArray, List.set_cons_zero, List.set_cons_succ]
      refine wpAnyH_take (i := 22) (oi := ?_) (v := ?_) ?_ (by kernel_rfl) (by kernel_rfl) (by kernel_rfl) ?_ (Or.inl ⟨?_, ?_⟩) hHeld ?_
      rotate_left 2
      · simp only [List.getElem?_toArray, List.getElem?_cons_succ, List.getElem?_cons_zero]; exact rfl
      · exact fun _ _ _ h => h
      · rfl
      · (intro W' hSw; (try dsimp only at hSw); go_simp; try with_reducible rfl)
      try simp only [Act.put, List.setIfInBounds_toArray, List.set_cons_zero, List.set_cons_succ]
      refine wpAnyH_take (i := 23) (oi := ?_) (v := ?_) ?_ (by kernel_rfl) (by kernel_rfl) (by kernel_rfl) ?_ (Or.inl ⟨?_, ?_⟩) hHeld ?_
      rotate_left 2
      · simp only [List.getElem?_toArray, List.getElem?_cons_succ, List.getElem?_cons_zero]; exact rfl
      · exact fun _ _ _ h => h
      · rfl
      · (intro W' hSw; (try dsimp only at hSw); go_simp; try with_reducible rfl)
      try simp only [Act.put, List.setIfInBounds_toArray, List.set_cons_zero, List.set_cons_succ]
      refine wpAnyH_take (i := 24) (oi := ?_) (v := ?_) ?_ (by kernel_rfl) (by kernel_rfl) (by kernel_rfl) ?_ (Or.inl ⟨?_, ?_⟩) hHeld ?_
      rotate_left 2
      · simp only [List.getElem?_toArray, List.getElem?_cons_succ, List.getElem?_cons_zero]; exact rfl
      · exact fun _ _ _ h => h
      · rfl
      · (intro W' hSw; (try dsimp only at hSw); go_simp; try with_reducible rfl)
      try simp only [Act.put, List.setIfInBounds_toArray, List.set_cons_zero, List.set_cons_succ]
      refine wpAnyH_take (i := 26) (oi := ?_) (v := ?_) ?_ (by kernel_rfl) (by kernel_rfl) (by kernel_rfl) ?_ (Or.inl ⟨?_, ?_⟩) hHeld ?_
      rotate_left 2
      · simp only [List.getElem?_toArray, List.getElem?_cons_succ, List.getElem?_cons_zero]; exact rfl
      · exact fun _ _ _ h => h
      · rfl
      · (intro W' hSw; (try dsimp only at hSw); go_simp; try with_reducible rfl)
      try simp only [Act.put, List.setIfInBounds_toArray, List.set_cons_zero, List.set_cons_succ]
      refine wpAnyH_take (i := 27) (oi := ?_) (v := ?_) ?_ (by kernel_rfl) (by kernel_rfl) (by kernel_rfl) ?_ (Or.inl ⟨?_, ?_⟩) hHeld ?_
      rotate_left 2
      · simp only [List.getElem?_toArray, List.getElem?_cons_succ, List.getElem?_cons_zero]; exact rfl
      · exact fun _ _ _ h => h
      · rfl
      · (intro W' hSw; (try dsimp only at hSw); go_simp; try with_reducible rfl)
      try simp only [Act.put, List.setIfInBounds_toArray, List.set_cons_zero, List.set_cons_succ]
      refine wpAnyH_ready (rs := [25]) (by kernel_rfl) (by simp) ?_
      refine AllReadyH.cons rfl (fun K hK => ?_) AllReadyH.nil
      go_simp
      go_at_call 27
      refine Calls.mono (last_any f epoch HEP.out _ _ _ (rFolder_keep HFR.out (kept_of (bel_call B8f.out Bw15)))) ?_
      rintro ew16 w16 ⟨rfl, bz⟩
      have Bw16 : Below w13.heap.size w13 w16 := bel_call Bw15 bz
      clear bz hHeld
      refine hK.out _ _ (HS _ Bw16) (fun hHeld => ?_)
      clear hK K
      refine wpAnyH_ready (rs := [28]) (by kernel_rfl) (by simp) ?_
      refine AllReadyH.cons rfl (fun K hK => ?_) AllReadyH.nil
      go_simp
      go_at_call 28
      refine Calls.mono (reflast_any f epoch HEP.out _ _ _ (rFolder_keep HGR.out (kept_of (bel_call B8g.out Bw16)))) ?_
      rintro ew17 w17 ⟨rfl, bz⟩
      have Bw17 : Below w13.heap.size w13 w17 := bel_call Bw16 bz
      clear bz hHeld
      refine hK.out _ _ (HS _ Bw17) (fun hHeld => ?_)
      clear hK K
      refine wpAnyH_take (i := 29) (oi := ?_) (v := ?_) ?_ (by kernel_rfl) (by kernel_rfl) (by kernel_rfl) ?_ (Or.inl ⟨?_, ?_⟩) hHeld ?_
      rotate_left 2
      · simp only [List.getElem?_toArray, List.getElem?_cons_succ, List.getElem?_cons_zero]; exact rfl
      · exact fun _ _ _ h => h
      · rfl
      · (intro W' hSw; (try dsimp only at hSw); go_simp; try with_reducible rfl)
      try simp only [Act.put, List.setIfInBounds_toArray, List.set_cons_zero, List.set_cons_succ]
      refine wpAnyH_take (i := 30) (oi := ?_) (v := ?_) ?_ (by kernel_rfl) (by kernel_rfl) (by kernel_rfl) ?_ (Or.inl ⟨?_, ?_⟩) hHeld ?_
      rotate_left 2
      · simp only [List.getElem?_toArray, List.getElem?_cons_succ, List.getElem?_cons_zero]; exact rfl
      · exact fun _ _ _ h => h
      · rfl
      · (intro W' hSw; (try dsimp only at hSw); go_simp; try with_reducible rfl)
      try simp only [Act.put, List.setIfInBounds_toArray, List.set_cons_zero, List.set_cons_succ]
      refine wpAnyH_take (i := 31) (oi := ?_) (v := ?_) ?_ (by kernel_rfl) (by kernel_rfl) (by kernel_rfl) ?_ (Or.inl ⟨?_, ?_⟩) hHeld ?_
      rotate_left 2
      · simp only [List.getElem?_toArray, List.getElem?_cons_succ, List.getElem?_cons_zero]; exact rfl
      · exact fun _ _ _ h => h
      · rfl
      · (intro W' hSw; (try dsimp only at hSw); go_simp; try with_reducible rfl)
      try simp only [Act.put, List.setIfInBounds_toArray, List.set_cons_zero, List.set_cons_succ]
      refine wpAnyH_take (i := 32) (oi := ?_) (v := ?_) ?_ (by kernel_rfl) (by kernel_rfl) (by kernel_rfl) ?_ (Or.inl ⟨?_, ?_⟩) hHeld ?_
      rotate_left 2
      · simp only [List.getElem?_toArray, List.getElem?_cons_succ, List.getElem?_cons_zero]; exact rfl
      · exact fun _ _ _ h => h
      · rfl
      · (intro W' hSw; (try dsimp only at hSw); go_simp; try with_reducible rfl)
      try simp only [Act.put, List.setIfInBounds_toArray, List.set_cons_zero, List.set_cons_succ]
      refine wpAnyH_take (i := 33) (oi := ?_) (v := ?_) ?_ (by kernel_rfl) (by kernel_rfl) (by kernel_rfl) ?_ (Or.inl ⟨?_, ?_⟩) hHeld ?_
      rotate_left 2
      · simp only [List.getElem?_toArray, List.getElem?_cons_succ, List.getElem?_cons_zero]; exact rfl
      · exact fun _ _ _ h => h
      · rfl
      · (intro W' hSw; (try dsimp only at hSw); go_simp; try with_reducible rfl)
      try simp only [Act.put, List.setIfInBounds_toArray, List.set_cons_zero, List.set_cons_succ]
      refine wpAnyH_take (i := 34) (oi := ?_) (v := ?_) ?_ (by kernel_rfl) (by kernel_rfl) (by kernel_rfl) ?_ (Or.inl ⟨?_, ?_⟩) hHeld ?_
      rotate_left 2
      · simp only [List.getElem?_toArray, List.getElem?_cons_succ, List.getElem?_cons_zero]; exact rfl
      · exact fun _ _ _ h => h
      · rfl
      · (intro W' hSw; (try dsimp only at hSw); go_simp; try with_reducible rfl)
      try simp only [Act.put, List.setIfInBounds_toArray, List.set_cons_zero, List.set_cons_succ]
      refine wpAnyH_ready (rs := [35]) (by kernel_rfl) (by simp) ?_
      refine AllReadyH.cons rfl (fun K hK => ?_) AllReadyH.nil
      go_simp
      go_at_call 29
      refine Calls.mono (HNOW.out _ (bel_call B8g.out Bw17)) ?_
      rintro ew18 w18 ⟨⟨cm, rfl, hm⟩, bz⟩
      have Bw18 : Below w13.heap.size w13 w18 := bel_call Bw17 bz
      clear bz hHeld
      obtain ⟨p_A2, p_c2, p_A4, p_c4, rfl⟩ := man_cells hm
      have hfsp := field_seq m.folder m.parent m.who m.seq m.cut m.gone (.slice p_A2 m.prev.length p_c2) (.slice p_A4 m.members.length p_c4)
      have hfpp := field_parent m.folder m.parent m.who m.seq m.cut m.gone (.slice p_A2 m.prev.length p_c2) (.slice p_A4 m.members.length p_c4)
      clear hm
      refine hK.out _ _ (HS _ Bw18) (fun hHeld => ?_)
      clear hK K
      refine wpAnyH_take (i := 36) (oi := ?_) (v := ?_) ?_ (by kernel_rfl) (by kernel_rfl) (by kernel_rfl) ?_ (Or.inl ⟨?_, ?_⟩) hHeld ?_
      rotate_left 2
      · simp only [List.getElem?_toArray, List.getElem?_cons_succ, List.getElem?_cons_zero]; exact rfl
      · exact fun _ _ _ h => h
      · rfl
      · (intro W' hSw; (try dsimp only at hSw); go_simp; try with_reducible rfl)
      try simp only [Act.put, List.setIfInBounds_toArray, List.set_cons_zero, List.set_cons_succ]
      refine wpAnyH_take (i := 37) (oi := ?_) (v := ?_) ?_ (by kernel_rfl) (by kernel_rfl) (by kernel_rfl) ?_ (Or.inl ⟨?_, ?_⟩) hHeld ?_
      rotate_left 2
      · simp only [List.getElem?_toArray, List.getElem?_cons_succ, List.getElem?_cons_zero]; exact rfl
      · exact fun _ _ _ h => h
      · rfl
      · (intro W' hSw; (try dsimp only at hSw); go_simp; try with_reducible rfl)
      try simp only [Act.put, List.setIfInBounds_toArray, List.set_cons_zero, List.set_cons_succ]
      refine wpAnyH_take (i := 38) (oi := ?_) (v := ?_) ?_ (by kernel_rfl) (by kernel_rfl) (by kernel_rfl) ?_ (Or.inl ⟨?_, ?_⟩) hHeld ?_
      rotate_left 2
      · simp only [List.getElem?_toArray, List.getElem?_cons_succ, List.getElem?_cons_zero]; exact rfl
      · exact fun _ _ _ h => h
      · rfl
      · (intro W' hSw; (try dsimp only at hSw); go_simp; try with_reducible rfl)
      try simp only [Act.put, List.setIfInBounds_toArray, List.set_cons_zero, List.set_cons_succ]
      refine wpAnyH_take (i := 39) (oi := ?_) (v := ?_) ?_ (by kernel_rfl) (by kernel_rfl) (by kernel_rfl) ?_ (Or.inl ⟨?_, ?_⟩) hHeld ?_
      rotate_left 2
      · simp only [List.getElem?_toArray, List.getElem?_cons_succ, List.getElem?_cons_zero]; exact rfl
      · exact fun _ _ _ h => h
      · rfl
      · (intro W' hSw; (try dsimp only at hSw); go_simp; try with_reducible rfl)
      try simp only [Act.put, List.setIfInBounds_toArray, List.set_cons_zero, List.set_cons_succ]
      refine wpAnyH_take (i := 40) (oi := ?_) (v := ?_) ?_ (by kernel_rfl) (by kernel_rfl) (by kernel_rfl) ?_ (Or.inl ⟨?_, ?_⟩) hHeld ?_
      rotate_left 2
      · simp only [List.getElem?_toArray, List.getElem?_cons_succ, List.getElem?_cons_zero]; exact rfl
      · exact fun _ _ _ h => h
      · rfl
      · (intro W' hSw; (try dsimp only at hSw); go_simp; try with_reducible rfl)
      try simp only [Act.put, List.setIfInBounds_toArray, List.set_cons_zero, List.set_cons_succ]
      refine wpAnyH_take (i := 41) (oi := ?_) (v := ?_) ?_ (by kernel_rfl) (by kernel_rfl) (by kernel_rfl) ?_ (Or.inl ⟨?_, ?_⟩) hHeld ?_
      rotate_left 2
      · simp only [List.getElem?_toArray, List.getElem?_cons_succ, List.getElem?_cons_zero]; exact rfl
      · exact fun _ _ _ h => h
      · rfl
      · (intro W' hSw; (try dsimp only at hSw); go_simp; try with_reducible rfl)
      try simp only [Act.put, List.setIfInBounds_toArray, List.set_cons_zero, List.set_cons_succ]
      refine wpAnyH_take (i := 42) (oi := ?_) (v := ?_) ?_ (by kernel_rfl) (by kernel_rfl) (by kernel_rfl) ?_ (Or.inl ⟨?_, ?_⟩) hHeld ?_
      rotate_left 2
      · simp only [List.getElem?_toArray, List.getElem?_cons_succ, List.getElem?_cons_zero]; exact rfl
      · exact fun _ _ _ h => h
      · rfl
      · (intro W' hSw; (try dsimp only at hSw); go_simp; try with_reducible rfl)
      try simp only [Act.put, List.setIfInBounds_toArray, List.set_cons_zero, List.set_cons_succ]
      refine wpAnyH_ready (rs := [43]) (by kernel_rfl) (by simp) ?_
      refine AllReadyH.cons rfl (fun K hK => ?_) AllReadyH.nil
      go_simp
      go_at_call 29
      refine Calls.mono (HNOW.out _ (bel_call B8g.out Bw18)) ?_
      rintro ew19 w19 ⟨⟨cm, rfl, hm⟩, bz⟩
      have Bw19 : Below w13.heap.size w13 w19 := bel_call Bw18 bz
      clear bz hHeld
      obtain ⟨q_A2, q_c2, q_A4, q_c4, rfl⟩ := man_cells hm
      have hfsq := field_seq m.folder m.parent m.who m.seq m.cut m.gone (.slice q_A2 m.prev.length q_c2) (.slice q_A4 m.members.length q_c4)
      have hfpq := field_parent m.folder m.parent m.who m.seq m.cut m.gone (.slice q_A2 m.prev.length q_c2) (.slice q_A4 m.members.length q_c4)
      clear hm
      refine hK.out _ _ (HS _ Bw19) (fun hHeld => ?_)
      clear hK K
      refine wpAnyH_take (i := 44) (oi := ?_) (v := ?_) ?_ (by kernel_rfl) (by kernel_rfl) (by kernel_rfl) ?_ (Or.inl ⟨?_, ?_⟩) hHeld ?_
      rotate_left 2
      · simp only [List.getElem?_toArray, List.getElem?_cons_succ, List.getElem?_cons_zero]; exact rfl
      · exact fun _ _ _ h => h
      · rfl
      · (intro W' hSw; (try dsimp only at hSw); go_simp; try with_reducible rfl)
      try simp only [Act.put, List.setIfInBounds_toArray, List.set_cons_zero, List.set_cons_succ]
      refine wpAnyH_take (i := 45) (oi := ?_) (v := ?_) ?_ (by kernel_rfl) (by kernel_rfl) (by kernel_rfl) ?_ (Or.inl ⟨?_, ?_⟩) hHeld ?_
      rotate_left 2
      · simp only [List.getElem?_toArray, List.getElem?_cons_succ, List.getElem?_cons_zero]; exact rfl
      · exact fun _ _ _ h => h
      · rfl
      · (intro W' hSw; (try dsimp only at hSw); go_simp; try with_reducible rfl)
      try simp only [Act.put, List.setIfInBounds_toArray, List.set_cons_zero, List.set_cons_succ]
      refine wpAnyH_take (i := 46) (oi := ?_) (v := ?_) ?_ (by kernel_rfl) (by kernel_rfl) (by kernel_rfl) ?_ (Or.inl ⟨?_, ?_⟩) hHeld ?_
      rotate_left 2
      · simp only [List.getElem?_toArray, List.getElem?_cons_succ, List.getElem?_cons_zero]; exact rfl
      · exact fun _ _ _ h => h
      · rfl
      · (intro W' hSw; (try dsimp only at hSw); go_simp; try with_reducible rfl)
      try simp only [Act.put, List.setIfInBounds_toArray, List.set_cons_zero, List.set_cons_succ]
      refine wpAnyH_take (i := 47) (oi := ?_) (v := ?_) ?_ (by kernel_rfl) (by kernel_rfl) (by kernel_rfl) ?_ (Or.inl ⟨?_, ?_⟩) hHeld ?_
      rotate_left 2
      · simp only [List.getElem?_toArray, List.getElem?_cons_succ, List.getElem?_cons_zero]; exact rfl
      · exact fun _ _ _ h => h
      · rfl
      · (intro W' hSw; (try dsimp only at hSw); go_simp; try with_reducible rfl)
      try simp only [Act.put, List.setIfInBounds_toArray, List.set_cons_zero, List.set_cons_succ]
      refine wpAnyH_done (by kernel_rfl) ?_ _
      have HFIN := Lib.hid (bel_call HB0.out (bel_call B13.out Bw19))
      clear hHeld HS
      go_wp2
      go_ret
      exact ⟨rfl, HFIN.out⟩
set_option maxRecDepth 100000 in
theorem lifted_grantedStale (os : Os) (started : os.Started) (H : Type) (enc : TypeId × Value → H) :
    ReturnsInHanded {} Try.checked os 6 .any (Rows.grantedStaleSpec.pre6 enc Try.prog Try.f6 Rows.grantedStaleRow.domain false) (Rows.grantedStaleSpec.post enc Try.prog Try.f6 false true false false) := by
  refine returnsInHanded_of_change_sized (C := Try.checked) law_own started (by kernel_rfl) Try.func6
    (ChangeSpec.witness6 (enc := enc) (C := Try.checked) false ⟨#[], #[.agg #[.int .i64 0, .slice none 0 0, .slice none 0 0, .slice none 0 0], .string ⟨#[]⟩, .int .i64 0], []⟩ 8 (by kernel_rfl) (by kernel_rfl) (by kernel_rfl) (by kernel_rfl)) ?_
  intro W base args ds gs before hval0 hW hcnd hsz0 _
  have hval : ∀ (j : Nat) t v, Try.f6.params[j]? = some t → args[j]? = some v → Value.okWide Try.prog W .any base t v := hval0
  have hW' := hW
  obtain ⟨p, q, hA0, hV, rfl, hfz, hnd⟩ := hW
  have hA : DataW.TrodAll enc Try.prog W 0 (fun _ => true) true Try.f6.params.toList args.toList ds p := hA0
  rw [Try.params6] at hA hval
  obtain ⟨v0, vs0, d0, ds0, p0, q0, hargs, rfl, rfl, h0, r0⟩ := trodAll_cons hA
  obtain ⟨v1, vs1, d1, ds1, p1, q1, rfl, rfl, rfl, h1, r1⟩ := trodAll_cons r0
  obtain ⟨v2, vs2, d2, ds2, p2, q2, rfl, rfl, rfl, h2, r2⟩ := trodAll_cons r1
  obtain ⟨rfl, rfl, rfl⟩ := trodAll_nil r2
  obtain rfl : args = #[v0, v1, v2] := by cases args; simp_all
  obtain ⟨rfl, rfl⟩ := trodVars_none hV
  clear hargs
  obtain ⟨cs0, rfl, _⟩ := okWide_struct Try.underlying26 (hval 0 26 v0 rfl rfl)
  obtain ⟨fu0, hf0⟩ := h0
  obtain ⟨a0, hx0⟩ := rdState hf0 (fun q hq => by simpa using List.all_eq_true.1 hsz0 q (DataW.weights_mem_each (j := 0) rfl rfl q hq))
  obtain ⟨l0, rfl⟩ : ∃ l : List Value, cs0 = l.toArray := ⟨cs0.toList, by simp⟩
  rw [show (Value.agg l0.toArray).cells.toList = l0 from by simp [Value.cells]] at hx0
  obtain ⟨fu1, hf1⟩ := h1
  obtain ⟨a1, rfl, w1⟩ := rdv_str Try.underlying9 (hval 1 9 v1 rfl rfl) hf1 (fun q hq => by simpa using List.all_eq_true.1 hsz0 q (DataW.weights_mem_each (j := 1) rfl rfl q hq))
  obtain ⟨a2, rfl, rfl, rfl, w2⟩ := open_int Try.underlying3 (hval 2 3 v2 rfl rfl) h2
  refine (walk_grantedStale W a0 _ hx0 a1 w1 a2 w2).mono fun e W' ⟨he, hg⟩ => ?_
  subst he
  exact ⟨_, rfl, law_post hW' rfl rfl rfl Try.underlying4 law_laid (by kernel_rfl) hg⟩

theorem grantedStale_holds : Rows.GrantedStaleSaid :=
  OpenClaim.holds_of_wide 6 Try.f6 rfl rfl rfl rfl rfl rfl rfl ⟨rfl, rfl, rfl, rfl, rfl⟩ rfl rfl rfl rfl rfl (by kernel_rfl) Try.func6 (by kernel_rfl)
    (of_decide_eq_true (by kernel_rfl)) (by unfold Func.isWrapper; first | (rw [if_pos (by decide +kernel)]; kernel_rfl) | (rw [if_neg (by decide +kernel)]; exact ⟨rfl, rfl⟩))
    (fun os started H enc _ => lifted_grantedStale os started H enc)
end Go.Proofs.Ytocofkccdfaaaaa
