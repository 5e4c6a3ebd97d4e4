/- Layer granted: Stale. Conditions: as each theorem says. -/
import Derived.Test.YtkapaafbnbnpjaaGreatDoorSeChain
namespace Go.Proofs.YtkapaafbnbnpjaaGreatDoor
open Go.RowKit Go.Deep

theorem belN {n : Nat} {w w' : World} (h : Below n w w') : ∀ q, Below n w (w'.drewN q)
  | 0 => h
  | q + 1 => (belN h q).drew
def cutOf (st : State) (s : Nm) : Int := (nowM ((findF st s).getD zeroF)).cut
def staleGo (st : State) : List At → List At → Bool
  | w :: ws, x :: xs => if w.name = x.name then (if w.seq < cutOf st x.name then true else staleGo st ws xs) else true
  | _, _ => false
def staleB (st : State) (name : Nm) : Bool := match findF st name with
  | none => false
  | some f => match f.epochs.getLast? with
    | none => false
    | some e => if e.chain.length = (chainOf st 4 name).length then staleGo st e.chain (chainOf st 4 name) else true
theorem staleB_none {st : State} {s : Nm} (h : findF st s = none) : staleB st s = false := by rw [staleB, h]
theorem staleB_nil {st : State} {s : Nm} {f : Folder} (h : findF st s = some f) (h2 : f.epochs.length = 0) : staleB st s = false := by
  rw [staleB, h]
  dsimp only
  rw [List.eq_nil_of_length_eq_zero h2]
  rfl
theorem staleB_some {st : State} {s : Nm} {f : Folder} {e : Epoch} {n : Nat} (h : findF st s = some f) (h2 : f.epochs.length = n + 1) (h3 : f.epochs[n]? = some e) : staleB st s = if e.chain.length = (chainOf st 4 s).length then staleGo st e.chain (chainOf st 4 s) else true := by
  rw [staleB, h]
  dsimp only
  rw [List.getLast?_eq_getElem?, h2, Nat.add_sub_cancel, h3]
theorem chain_found {st : State} {x : At} : ∀ {n : Nat} {s : Nm}, x ∈ chainOf st n s → ∃ f, findF st x.name = some f
  | 0, _, h => by cases h
  | n + 1, s, h => by
    cases hf : findF st s with
    | none => rw [chainOf_none hf] at h; cases h
    | some f =>
      rw [chainOf_some hf] at h
      rcases List.mem_cons.1 h with rfl | h
      · exact ⟨f, hf⟩
      · exact chain_found h
theorem staleGo_nil {st : State} (a : List At) : staleGo st a [] = false := by cases a <;> rfl
theorem staleGo_at {st : State} {a b : List At} {k : Nat} {y x : At} (ha : a[k]? = some y) (hb : b[k]? = some x) : staleGo st (a.drop k) (b.drop k) = if y.name = x.name then (if y.seq < cutOf st x.name then true else staleGo st (a.drop (k + 1)) (b.drop (k + 1))) else true := by
  obtain ⟨h1, h2⟩ := List.getElem?_eq_some_iff.1 ha
  obtain ⟨h3, h4⟩ := List.getElem?_eq_some_iff.1 hb
  rw [List.drop_eq_getElem_cons h1, List.drop_eq_getElem_cons h3, h2, h4, staleGo]
theorem field_cut (a b c : Nm) (x y : Int) (g : Bool) (v u : Value) (w : World) : (Instr.field 43 (.agg #[.string a, .int .i64 x, v, .string b, u, .int .i64 y, .bool g, .string c]) 5).run Tryz.prog w = .ok (.int .i64 y) w := by kernel_rfl
set_option maxHeartbeats 8000000 in
set_option maxRecDepth 100000 in
theorem stale_any (st : State) (name : Nm) (hnm : name.size ≤ 140737488355328) (cs : List Value) (w : World) (S : Nat → Prop) (h : rState S w cs st) : Calls Tryz.prog 34 #[.agg cs.toArray, .string name] w fun e w' => e = .returned (.bool (staleB st name)) ∧ Below w.heap.size w w' := by
  have HR := Lib.hid h
  obtain ⟨st_A1, st_c1, st_A2, st_c2, st_A3, st_c3, rfl, st_turn_ok, st_users_l, st_users_m, st_users_n, st_users_s, st_deposits_l, st_deposits_m, st_deposits_n, st_deposits_s, st_folders_l, st_folders_m, st_folders_n, st_folders_s⟩ := open_State h
  obtain ⟨w0, hw0, cw0, fw0, Bw0, qw0⟩ := boxed w #[.int .i64 st.turn, .slice st_A1 st.users.length st_c1, .slice st_A2 st.deposits.length st_c2, .slice st_A3 st.folders.length st_c3] 26
  have HB0 := Lib.hid Bw0
  have HC0 := Lib.hid cw0
  have HST := Lib.hid fun W (hW : Below w0.heap.size w0 W) => rState_keep HR.out (kept_of (bel_call HB0.out hW))
  have s0 := cw0 0 _ rfl
  have s1 := cw0 1 _ rfl
  have s2 := cw0 2 _ rfl
  have s3 := cw0 3 _ rfl
  clear cw0 fw0 Bw0 st_users_s st_deposits_s st_folders_s
  go_enter Tryz.func34, Tryz.ntmps34
  go_wp2_with fail
  clear hw0 s0 s1 s2 s3
  refine Calls.mono (find_any st name _ w0 S (HST.out _ (Below.refl _ _))) ?_
  rintro e w2 ⟨⟨cf, rfl, hf⟩, B2⟩
  obtain ⟨f, hfe⟩ : ∃ f, (findF st name).getD zeroF = f := ⟨_, rfl⟩
  rw [hfe] at hf
  have HFR := Lib.hid hf
  obtain ⟨f_A2, f_c2, f_A3, f_c3, f_A4, f_c4, f_A5, f_c5, f_A6, f_c6, rfl, f_name_le, f_turn_ok, f_manifests_l, f_manifests_m, f_manifests_n, f_manifests_s, f_epochs_l, f_epochs_m, f_epochs_n, f_epochs_s, f_items_l, f_items_m, f_items_n, f_items_s, f_wraps_l, f_wraps_m, f_wraps_n, f_wraps_s, f_links_l, f_links_m, f_links_n, f_links_s⟩ := open_Folder hf
  obtain ⟨w3, hw3, cw3, fw3, Bw3, qw3⟩ := boxed w2 #[.string f.name, .int .i64 f.turn, .slice f_A2 f.manifests.length f_c2, .slice f_A3 f.epochs.length f_c3, .slice f_A4 f.items.length f_c4, .slice f_A5 f.wraps.length f_c5, .slice f_A6 f.links.length f_c6] 35
  have HC3 := Lib.hid cw3
  have HB23 := Lib.hid Bw3
  have HB3 := Lib.hid (bel_call B2 Bw3)
  have d3 := cw3 3 _ rfl
  have hq2 : w.heap.size < w2.heap.size := Nat.lt_of_lt_of_le qw0 B2.size
  clear cw3 fw3 Bw3 B2 f_manifests_s f_items_s f_wraps_s f_links_s
  cases hF : findF st name with
  | none =>
    have HE := Lib.hid (staleB_none hF)
    simp only [Option.isSome_none]
    clear hF hfe
    go_wp2
    go_ret
    exact ⟨by rw [HE.out]; rfl, bel_call HB0.out HB3.out⟩
  | some f' =>
  have HFF := Lib.hid (show findF st name = some f by rw [hF] at hfe; rw [← hfe, hF]; rfl)
  simp only [Option.isSome_some]
  clear hF hfe
  rcases Nat.eq_zero_or_pos f.epochs.length with hz | hz
  · have HE := Lib.hid (staleB_nil HFF.out hz)
    have hzd : ((f.epochs.length : Int) == 0) = true := by simp [hz]
    clear hz
    go_wp2
    go_ret
    exact ⟨by rw [HE.out]; rfl, bel_call HB0.out HB3.out⟩
  have hzd : ((f.epochs.length : Int) == 0) = false := beq_eq_false_iff_ne.2 (by omega)
  obtain ⟨n, hn⟩ : ∃ n, f.epochs.length = n + 1 := ⟨f.epochs.length - 1, by omega⟩
  obtain ⟨e, he⟩ : ∃ e, f.epochs[n]? = some e := ⟨_, List.getElem?_eq_getElem (by omega)⟩
  have HSB := Lib.hid (staleB_some HFF.out hn he)
  obtain ⟨be, oe, ye, hA, hbl, hRe, hcz⟩ := SlAt.elem f_epochs_s he (by decide) HB23.out
  obtain ⟨e_A3, e_c3, rfl, e_place_ok, e_frm_ok, e_seq_ok, e_chain_l, e_chain_m, e_chain_n, e_chain_s, e_who_le⟩ := open_Epoch hRe
  have u3 := hcz 3 _ rfl
  subst hA
  have hw1 : IntKind.i64.wrap (n : Int) = (n : Int) := IntWalk.i64_in _ (by have := f_epochs_n; omega)
  have hni : (n : Int) < (n : Int) + 1 := by omega
  have HSQ := Lib.hid (show ∀ W : World, Below w3.heap.size w3 W → (fun W : World => (W.cell? ⟨w.heap.size, 0, none⟩ = some (.int .i64 st.turn) ∧ W.cell? ⟨w.heap.size, 1, none⟩ = some (.slice st_A1 st.users.length st_c1) ∧ W.cell? ⟨w.heap.size, 2, none⟩ = some (.slice st_A2 st.deposits.length st_c2) ∧ W.cell? ⟨w.heap.size, 3, none⟩ = some (.slice st_A3 st.folders.length st_c3)) ∧ W.cell? ⟨w2.heap.size, 3, none⟩ = some (.slice (some ⟨be, oe, none⟩) (n + 1) f_c3) ∧ W.cell? ⟨be, oe + n * 5 + 3, none⟩ = some (.slice e_A3 e.chain.length e_c3)) W from fun W hW => by
    have c := fun j v (hj : (#[.int .i64 st.turn, .slice st_A1 st.users.length st_c1, .slice st_A2 st.deposits.length st_c2, .slice st_A3 st.folders.length st_c3] : Array Value)[j]? = some v) => ((bel_call HB3.out hW).cell (p := ⟨w.heap.size, j, none⟩) qw0).trans (HC0.out j v hj)
    exact ⟨⟨c 0 _ rfl, c 1 _ rfl, c 2 _ rfl, c 3 _ rfl⟩, by rw [← hn]; exact (hW.cell (p := ⟨w2.heap.size, 3, none⟩) qw3).trans (HC3.out 3 _ rfl), (hW.cell (p := ⟨be, oe + n * 5 + 3, none⟩) (cell_lt u3)).trans u3⟩)
  have HCH := Lib.hid (Sl.keep rAt_ok (by decide) (show Sl 2 rAt S w2 (.slice e_A3 e.chain.length e_c3) e.chain from ⟨_, _, rfl, e_chain_l, e_chain_m, e_chain_n, e_chain_s⟩) (kept_of HB23.out))
  have hcl : e.chain.length ≤ 140737488355328 := e_chain_n
  rw [hn] at hw3 d3
  go_wp2
  clear hn hz hzd he hcz hw3 d3 u3
  have HS := HSQ.out
  refine wp_region_held_drew (S := fun W : World => (W.cell? ⟨w.heap.size, 0, none⟩ = some (.int .i64 st.turn) ∧ W.cell? ⟨w.heap.size, 1, none⟩ = some (.slice st_A1 st.users.length st_c1) ∧ W.cell? ⟨w.heap.size, 2, none⟩ = some (.slice st_A2 st.deposits.length st_c2) ∧ W.cell? ⟨w.heap.size, 3, none⟩ = some (.slice st_A3 st.folders.length st_c3)) ∧ W.cell? ⟨w2.heap.size, 3, none⟩ = some (.slice (some ⟨be, oe, none⟩) (n + 1) f_c3) ∧ W.cell? ⟨be, oe + n * 5 + 3, none⟩ = some (.slice e_A3 e.chain.length e_c3)) (by kernel_rfl) (HS _ (Below.refl _ _).drew) (fun hHeld => ?_)
  refine wpAnyH_take (i := 0) (oi := ?_) (v := ?_) ?_ (by kernel_rfl) (by kernel_rfl) (by kernel_rfl) ?_ (Or.inl ⟨?_, ?_⟩) hHeld ?_
  rotate_left 2
  · simp only [List.getElem?_toArray, List.getElem?_cons_zero]; exact rfl
  · exact fun _ _ _ h => h
  · rfl
  · (intro W' hSw; (try dsimp only at hSw); go_simp; try with_reducible rfl)
  try simp only [Act.put, List.setIfInBounds_toArray, List.set_cons_zero, List.set_cons_succ]
  refine wpAnyH_take (i := 1) (oi := ?_) (v := ?_) ?_ (by kernel_rfl) (by kernel_rfl) (by kernel_rfl) ?_ (Or.inl ⟨?_, ?_⟩) hHeld ?_
  rotate_left 2
  · simp only [List.getElem?_toArray, List.getElem?_cons_succ, List.getElem?_cons_zero]; exact rfl
  · exact fun _ _ _ h => h
  · rfl
  · (intro W' hSw; (try dsimp only at hSw); go_simp; try with_reducible rfl)
  try simp only [Act.put, List.setIfInBounds_toArray, List.set_cons_zero, List.set_cons_succ]
  refine wpAnyH_take (i := 2) (oi := ?_) (v := ?_) ?_ (by kernel_rfl) (by kernel_rfl) (by kernel_rfl) ?_ (Or.inl ⟨?_, ?_⟩) hHeld ?_
  rotate_left 2
  · simp only [List.getElem?_toArray, List.getElem?_cons_succ, List.getElem?_cons_zero]; exact rfl
  · exact fun _ _ _ h => h
  · rfl
  · (intro W' hSw; (try dsimp only at hSw); go_simp; try with_reducible rfl)
  try simp only [Act.put, List.setIfInBounds_toArray, List.set_cons_zero, List.set_cons_succ]
  refine wpAnyH_take (i := 3) (oi := ?_) (v := ?_) ?_ (by kernel_rfl) (by kernel_rfl) (by kernel_rfl) ?_ (Or.inl ⟨?_, ?_⟩) hHeld ?_
  rotate_left 2
  · simp only [List.getElem?_toArray, List.getElem?_cons_succ, List.getElem?_cons_zero]; exact rfl
  · exact fun _ _ _ h => h
  · rfl
  · (intro W' hSw; (try dsimp only at hSw); go_simp; try with_reducible rfl)
  try simp only [Act.put, List.setIfInBounds_toArray, List.set_cons_zero, List.set_cons_succ]
  refine wpAnyH_take (i := 4) (oi := ?_) (v := ?_) ?_ (by kernel_rfl) (by kernel_rfl) (by kernel_rfl) ?_ (Or.inl ⟨?_, ?_⟩) hHeld ?_
  rotate_left 2
  · simp only [List.getElem?_toArray, List.getElem?_cons_succ, List.getElem?_cons_zero]; exact rfl
  · exact fun _ _ _ h => h
  · rfl
  · (intro W' hSw; (try dsimp only at hSw); go_simp; try with_reducible rfl)
  try simp only [Act.put, List.setIfInBounds_toArray, List.set_cons_zero, List.set_cons_succ]
  refine wpAnyH_take (i := 5) (oi := ?_) (v := ?_) ?_ (by kernel_rfl) (by kernel_rfl) (by kernel_rfl) ?_ (Or.inl ⟨?_, ?_⟩) hHeld ?_
  rotate_left 2
  · simp only [List.getElem?_toArray, List.getElem?_cons_succ, List.getElem?_cons_zero]; exact rfl
  · exact fun _ _ _ h => h
  · rfl
  · (intro W' hSw; (try dsimp only at hSw); go_simp; try with_reducible rfl)
  try simp only [Act.put, List.setIfInBounds_toArray, List.set_cons_zero, List.set_cons_succ]
  refine wpAnyH_take (i := 6) (oi := ?_) (v := ?_) ?_ (by kernel_rfl) (by kernel_rfl) (by kernel_rfl) ?_ (Or.inl ⟨?_, ?_⟩) hHeld ?_
  rotate_left 2
  · simp only [List.getElem?_toArray, List.getElem?_cons_succ, List.getElem?_cons_zero]; exact rfl
  · exact fun _ _ _ h => h
  · rfl
  · (intro W' hSw; (try dsimp only at hSw); go_simp; try with_reducible rfl)
  try simp only [Act.put, List.setIfInBounds_toArray, List.set_cons_zero, List.set_cons_succ]
  refine wpAnyH_take (i := 7) (oi := ?_) (v := ?_) ?_ (by kernel_rfl) (by kernel_rfl) (by kernel_rfl) ?_ (Or.inl ⟨?_, ?_⟩) hHeld ?_
  rotate_left 2
  · simp only [List.getElem?_toArray, List.getElem?_cons_succ, List.getElem?_cons_zero]; exact rfl
  · exact fun _ _ _ h => h
  · rfl
  · (intro W' hSw; (try dsimp only at hSw); go_simp; try with_reducible rfl)
  try simp only [Act.put, List.setIfInBounds_toArray, List.set_cons_zero, List.set_cons_succ]
  refine wpAnyH_take (i := 8) (oi := ?_) (v := ?_) ?_ (by kernel_rfl) (by kernel_rfl) (by kernel_rfl) ?_ (Or.inl ⟨?_, ?_⟩) hHeld ?_
  rotate_left 2
  · simp only [List.getElem?_toArray, List.getElem?_cons_succ, List.getElem?_cons_zero]; exact rfl
  · exact fun _ _ _ h => h
  · rfl
  · (intro W' hSw; (try dsimp only at hSw); go_simp; try with_reducible rfl)
  try simp only [Act.put, List.setIfInBounds_toArray, List.set_cons_zero, List.set_cons_succ]
  refine wpAnyH_take (i := 9) (oi := ?_) (v := ?_) ?_ (by kernel_rfl) (by kernel_rfl) (by kernel_rfl) ?_ (Or.inl ⟨?_, ?_⟩) hHeld ?_
  rotate_left 2
  · simp only [List.getElem?_toArray, List.getElem?_cons_succ, List.getElem?_cons_zero]; exact rfl
  · exact fun _ _ _ h => h
  · rfl
  · (intro W' hSw; (try dsimp only at hSw); go_simp; try with_reducible rfl)
  try simp only [Act.put, List.setIfInBounds_toArray, List.set_cons_zero, List.set_cons_succ]
  refine wpAnyH_take (i := 10) (oi := ?_) (v := ?_) ?_ (by kernel_rfl) (by kernel_rfl) (by kernel_rfl) ?_ (Or.inl ⟨?_, ?_⟩) hHeld ?_
  rotate_left 2
  · simp only [List.getElem?_toArray, List.getElem?_cons_succ, List.getElem?_cons_zero]; exact rfl
  · exact fun _ _ _ h => h
  · rfl
  · (intro W' hSw; (try dsimp only at hSw); go_simp; try with_reducible rfl)
  try simp only [Act.put, List.setIfInBounds_toArray, List.set_cons_zero, List.set_cons_succ]
  refine wpAnyH_ready (rs := [11]) (by kernel_rfl) (by simp) ?_
  refine AllReadyH.cons rfl (fun K hK => ?_) AllReadyH.nil
  go_simp
  go_at_call 51
  refine Calls.mono (chain_any st name hnm _ _ S (HST.out _ (bel_call HB3.out (Below.refl _ _).drew))) ?_
  rintro e5 w5 ⟨⟨v5, rfl, hs5⟩, b5⟩
  have B5 := Lib.hid (show Below w3.heap.size w3 w5 from bel_call (Below.refl _ _).drew b5)
  clear b5 hHeld
  refine hK.out _ _ (HS _ B5.out) (fun hHeld => ?_)
  clear hK K
  have HS5 := Lib.hid hs5
  clear hs5
  refine wpAnyH_take (i := 12) (oi := ?_) (v := ?_) ?_ (by kernel_rfl) (by kernel_rfl) (by kernel_rfl) ?_ (Or.inl ⟨?_, ?_⟩) hHeld ?_
  rotate_left 2
  · simp only [List.getElem?_toArray, List.getElem?_cons_succ, List.getElem?_cons_zero]; exact rfl
  · exact fun _ _ _ h => h
  · rfl
  · (intro W' hSw; (try dsimp only at hSw); go_simp; try with_reducible rfl)
  try simp only [Act.put, List.setIfInBounds_toArray, List.set_cons_zero, List.set_cons_succ]
  refine wpAnyH_take (i := 13) (oi := ?_) (v := ?_) ?_ (by kernel_rfl) (by kernel_rfl) (by kernel_rfl) ?_ (Or.inl ⟨?_, ?_⟩) hHeld ?_
  rotate_left 2
  · simp only [List.getElem?_toArray, List.getElem?_cons_succ, List.getElem?_cons_zero]; exact rfl
  · exact fun _ _ _ h => h
  · rfl
  · (intro W' hSw; (try dsimp only at hSw); go_simp; try with_reducible rfl)
  try simp only [Act.put, List.setIfInBounds_toArray, List.set_cons_zero, List.set_cons_succ]
  refine wpAnyH_done (by kernel_rfl) ?_ _
  clear hHeld HS
  obtain ⟨now, hnow⟩ : ∃ now, chainOf st 4 name = now := ⟨_, rfl⟩
  have HNOW := Lib.hid hnow
  rw [hnow] at HS5 HSB
  have hn4 : now.length ≤ 4 := by rw [← hnow]; exact chainOf_len _ _ _
  clear hnow
  obtain ⟨A5, c5, rfl, hl5, hc5, hn5, hs5⟩ := HS5.out
  unfold maxLen at hc5
  by_cases hlen : e.chain.length = now.length
  rotate_left
  · rw [if_neg hlen] at HSB
    have hld : ((e.chain.length : Int) == (now.length : Int)) = false := beq_eq_false_iff_ne.2 (by omega)
    clear hlen
    go_wp2
    go_ret
    exact ⟨by rw [HSB.out]; rfl, bel_call HB0.out (bel_call HB3.out B5.out)⟩
  rw [if_pos hlen] at HSB
  have HLEN := Lib.hid hlen
  have hld : ((e.chain.length : Int) == (now.length : Int)) = true := beq_iff_eq.2 (by omega)
  have HCH5 := Lib.hid (HCH.out.keep rAt_ok (by decide) (kept_of B5.out))
  have B05 := Lib.hid (bel_call HB3.out B5.out)
  clear hlen
  go_wp2
  clear hld
  go_loopw [46] (fun i wr => ∃ k : Nat, k ≤ now.length ∧ i = .int .i64 k ∧ Hid (staleGo st (e.chain.drop k) (now.drop k) = staleB st name) ∧ Below w5.heap.size w5 wr) (fun i _ => now.length - (RowKit.intOf i).toNat)
  case atStart => exact ⟨0, by omega, by go_num, (by show _ = _; rw [HSB.out]; rfl), Below.refl _ _⟩
  case round =>
    obtain ⟨k, hk, rfl, HG, hbel⟩ := hrel
    have B0r := Lib.hid (bel_call B05.out hbel)
    by_cases hlt : k < now.length
    · obtain ⟨x, hx⟩ : ∃ x, now[k]? = some x := ⟨_, List.getElem?_eq_getElem hlt⟩
      obtain ⟨y, hy⟩ : ∃ y, e.chain[k]? = some y := ⟨_, List.getElem?_eq_getElem (by have := HLEN.out; omega)⟩
      have HST2 := Lib.hid (staleGo_at (st := st) hy hx)
      obtain ⟨bx, ox, yx, hAx, hbx, hRx, hcx⟩ := SlAt.elem hs5 hx (by decide) hbel
      obtain ⟨Aw, cw, hAw', -, -, -, hsw⟩ := HCH5.out
      cases hAw'
      obtain ⟨bw, ow, yw, hAw, hbw, hRw, hcw⟩ := SlAt.elem hsw hy (by decide) hbel
      obtain ⟨rfl, x_name_le, x_seq_ok⟩ := open_At hRx
      obtain ⟨rfl, y_name_le, y_seq_ok⟩ := open_At hRw
      have u0 := hcx 0 _ rfl
      have u1 := hcx 1 _ rfl
      have v0 := hcw 0 _ rfl
      have v1 := hcw 1 _ rfl
      rw [Nat.add_zero] at u0 v0
      subst hAx
      subst hAw
      have hki : (k : Int) < (now.length : Int) := by omega
      have hki2 : (k : Int) < (e.chain.length : Int) := by have := HLEN.out; omega
      have hxn : x.name.size ≤ 140737488355328 := x_name_le
      obtain ⟨w6, hw6, cw6, fw6, Bw6, qw6⟩ := boxed wr #[.string x.name, .int .i64 x.seq] 65
      have HC6 := Lib.hid cw6
      have HB6 := Lib.hid (bel_call hbel Bw6)
      have HB06 := Lib.hid (bel_call B0r.out Bw6)
      have x0 := cw6 0 _ rfl
      have HBW6 := Lib.hid Bw6
      have c := fun j v (hj : (#[.int .i64 st.turn, .slice st_A1 st.users.length st_c1, .slice st_A2 st.deposits.length st_c2, .slice st_A3 st.folders.length st_c3] : Array Value)[j]? = some v) => (HB06.out.cell (p := ⟨w.heap.size, j, none⟩) qw0).trans (HC0.out j v hj)
      have s0 := c 0 _ rfl
      have s1 := c 1 _ rfl
      have s2 := c 2 _ rfl
      have s3 := c 3 _ rfl
      clear c hx hy hcx hcw cw6 fw6 Bw6
      go_wp2_with fail
      clear hw6 s0 s1 s2 s3 x0
      refine Calls.mono (find_any st x.name _ w6 S (HST.out _ HB06.out)) ?_
      rintro e7 w7 ⟨⟨cg, rfl, hg⟩, b7⟩
      have HCUT := Lib.hid (show cutOf st x.name = (nowM ((findF st x.name).getD zeroF)).cut from rfl)
      obtain ⟨g, hge⟩ : ∃ g, (findF st x.name).getD zeroF = g := ⟨_, rfl⟩
      rw [hge] at hg HCUT
      obtain ⟨ok7, hok7⟩ : ∃ b, (findF st x.name).isSome = b := ⟨_, rfl⟩
      rw [hok7]
      have HGR := Lib.hid hg
      obtain ⟨g_A2, g_c2, g_A3, g_c3, g_A4, g_c4, g_A5, g_c5, g_A6, g_c6, rfl, g_name_le, g_turn_ok, g_manifests_l, g_manifests_m, g_manifests_n, g_manifests_s, g_epochs_l, g_epochs_m, g_epochs_n, g_epochs_s, g_items_l, g_items_m, g_items_n, g_items_s, g_wraps_l, g_wraps_m, g_wraps_n, g_wraps_s, g_links_l, g_links_m, g_links_n, g_links_s⟩ := open_Folder hg
      obtain ⟨w8, hw8, cw8, fw8, Bw8, qw8⟩ := boxed w7 #[.string g.name, .int .i64 g.turn, .slice g_A2 g.manifests.length g_c2, .slice g_A3 g.epochs.length g_c3, .slice g_A4 g.items.length g_c4, .slice g_A5 g.wraps.length g_c5, .slice g_A6 g.links.length g_c6] 35
      have HC8 := Lib.hid cw8
      have B68 := Lib.hid (bel_call b7 Bw8)
      have B78 := Lib.hid Bw8
      have B58 := Lib.hid (bel_call HB6.out B68.out)
      by_cases hne : y.name = x.name
      rotate_left
      · have HEND := Lib.hid (show staleB st name = true by rw [← HG.out, HST2.out, if_neg hne])
        have hse : (y.name.toList == x.name.toList) = false := eqS_ne hne
        have x0 := (B68.out.cell (p := ⟨wr.heap.size, 0, none⟩) qw6).trans (HC6.out 0 _ rfl)
        have q0 := ((bel_call HBW6.out B68.out).cell (p := ⟨bw, ow + k * 2, none⟩) (cell_lt v0)).trans v0
        clear hne b7 hge hok7 cw8 fw8 Bw8
        go_wp2
        go_quiet (fail)
        go_wp2
        go_ret
        exact ⟨by rw [HEND.out]; rfl, belN (bel_call HB0.out (bel_call B05.out B58.out)) _⟩
      have HNE := Lib.hid hne
      have hse : (x.name.toList == x.name.toList) = true := by simp
      have HS8 := Lib.hid (show ∀ W : World, Below w8.heap.size w8 W → (fun W : World => W.cell? ⟨wr.heap.size, 0, none⟩ = some (.string x.name) ∧ W.cell? ⟨bw, ow + k * 2, none⟩ = some (.string x.name) ∧ W.cell? ⟨bw, ow + k * 2 + 1, none⟩ = some (.int .i64 y.seq) ∧ W.cell? ⟨w7.heap.size, 0, none⟩ = some (.string g.name) ∧ W.cell? ⟨w7.heap.size, 1, none⟩ = some (.int .i64 g.turn) ∧ W.cell? ⟨w7.heap.size, 2, none⟩ = some (.slice g_A2 g.manifests.length g_c2) ∧ W.cell? ⟨w7.heap.size, 3, none⟩ = some (.slice g_A3 g.epochs.length g_c3) ∧ W.cell? ⟨w7.heap.size, 4, none⟩ = some (.slice g_A4 g.items.length g_c4) ∧ W.cell? ⟨w7.heap.size, 5, none⟩ = some (.slice g_A5 g.wraps.length g_c5) ∧ W.cell? ⟨w7.heap.size, 6, none⟩ = some (.slice g_A6 g.links.length g_c6)) W from fun W hW => by
        have c := fun j v (hj : (#[.string g.name, .int .i64 g.turn, .slice g_A2 g.manifests.length g_c2, .slice g_A3 g.epochs.length g_c3, .slice g_A4 g.items.length g_c4, .slice g_A5 g.wraps.length g_c5, .slice g_A6 g.links.length g_c6] : Array Value)[j]? = some v) => (hW.cell (p := ⟨w7.heap.size, j, none⟩) qw8).trans (HC8.out j v hj)
        have b := bel_call HBW6.out (bel_call B68.out hW)
        refine ⟨((bel_call B68.out hW).cell (p := ⟨wr.heap.size, 0, none⟩) qw6).trans (HC6.out 0 _ rfl), (b.cell (p := ⟨bw, ow + k * 2, none⟩) (cell_lt v0)).trans (by rw [v0, HNE.out]), (b.cell (p := ⟨bw, ow + k * 2 + 1, none⟩) (cell_lt v1)).trans v1, c 0 _ rfl, c 1 _ rfl, c 2 _ rfl, c 3 _ rfl, c 4 _ rfl, c 5 _ rfl, c 6 _ rfl⟩)
      have HNW := Lib.hid fun W hW => now_any g _ W S (rFolder_keep HGR.out (kept_of hW))
      clear hne b7 hge hok7 cw8 fw8 Bw8 v0 v1
      go_wp2
      have HS := HS8.out
      refine wp_region_held_drew (S := fun W : World => W.cell? ⟨wr.heap.size, 0, none⟩ = some (.string x.name) ∧ W.cell? ⟨bw, ow + k * 2, none⟩ = some (.string x.name) ∧ W.cell? ⟨bw, ow + k * 2 + 1, none⟩ = some (.int .i64 y.seq) ∧ W.cell? ⟨w7.heap.size, 0, none⟩ = some (.string g.name) ∧ W.cell? ⟨w7.heap.size, 1, none⟩ = some (.int .i64 g.turn) ∧ W.cell? ⟨w7.heap.size, 2, none⟩ = some (.slice g_A2 g.manifests.length g_c2) ∧ W.cell? ⟨w7.heap.size, 3, none⟩ = some (.slice g_A3 g.epochs.length g_c3) ∧ W.cell? ⟨w7.heap.size, 4, none⟩ = some (.slice g_A4 g.items.length g_c4) ∧ W.cell? ⟨w7.heap.size, 5, none⟩ = some (.slice g_A5 g.wraps.length g_c5) ∧ W.cell? ⟨w7.heap.size, 6, none⟩ = some (.slice g_A6 g.links.length g_c6)) (by kernel_rfl) (HS _ (Below.refl _ _).drew) (fun hHeld => ?_)
      refine wpAnyH_take (i := 0) (oi := ?_) (v := ?_) ?_ (by kernel_rfl) (by kernel_rfl) (by kernel_rfl) ?_ (Or.inl ⟨?_, ?_⟩) hHeld ?_
      rotate_left 2
      · simp only [List.getElem?_toArray, List.getElem?_cons_zero]; exact rfl
      · exact fun _ _ _ h => h
      · rfl
      · (intro W' hSw; (try dsimp only at hSw); go_simp; try with_reducible rfl)
      try simp only [Act.put, List.setIfInBounds_toArray, List.set_cons_zero, List.set_cons_succ]
      refine wpAnyH_take (i := 1) (oi := ?_) (v := ?_) ?_ (by kernel_rfl) (by kernel_rfl) (by kernel_rfl) ?_ (Or.inl ⟨?_, ?_⟩) hHeld ?_
      rotate_left 2
      · simp only [List.getElem?_toArray, List.getElem?_cons_succ, List.getElem?_cons_zero]; exact rfl
      · exact fun _ _ _ h => h
      · rfl
      · (intro W' hSw; (try dsimp only at hSw); go_simp; try with_reducible rfl)
      try simp only [Act.put, List.setIfInBounds_toArray, List.set_cons_zero, List.set_cons_succ]
      refine wpAnyH_take (i := 2) (oi := ?_) (v := ?_) ?_ (by kernel_rfl) (by kernel_rfl) (by kernel_rfl) ?_ (Or.inl ⟨?_, ?_⟩) hHeld ?_
      rotate_left 2
      · simp only [List.getElem?_toArray, List.getElem?_cons_succ, List.getElem?_cons_zero]; exact rfl
      · exact fun _ _ _ h => h
      · rfl
      · (intro W' hSw; (try dsimp only at hSw); go_simp; try with_reducible rfl)
      try simp only [Act.put, List.setIfInBounds_toArray, List.set_cons_zero, List.set_cons_succ]
      refine wpAnyH_take (i := 3) (oi := ?_) (v := ?_) ?_ (by kernel_rfl) (by kernel_rfl) (by kernel_rfl) ?_ (Or.inl ⟨?_, ?_⟩) hHeld ?_
      rotate_left 2
      · simp only [List.getElem?_toArray, List.getElem?_cons_succ, List.getElem?_cons_zero]; exact rfl
      · exact fun _ _ _ h => h
      · rfl
      · (intro W' hSw; (try dsimp only at hSw); go_simp; try with_reducible rfl)
      try simp only [Act.put, List.setIfInBounds_toArray, List.set_cons_zero, List.set_cons_succ]
      refine wpAnyH_take (i := 4) (oi := ?_) (v := ?_) ?_ (by kernel_rfl) (by kernel_rfl) (by kernel_rfl) ?_ (Or.inl ⟨?_, ?_⟩) hHeld ?_
      rotate_left 2
      · simp only [List.getElem?_toArray, List.getElem?_cons_succ, List.getElem?_cons_zero]; exact rfl
      · exact fun _ _ _ h => h
      · rfl
      · (intro W' hSw; (try dsimp only at hSw); go_simp; try with_reducible rfl)
      try simp only [Act.put, List.setIfInBounds_toArray, List.set_cons_zero, List.set_cons_succ]
      refine wpAnyH_take (i := 5) (oi := ?_) (v := ?_) ?_ (by kernel_rfl) (by kernel_rfl) (by kernel_rfl) ?_ (Or.inl ⟨?_, ?_⟩) hHeld ?_
      rotate_left 2
      · simp only [List.getElem?_toArray, List.getElem?_cons_succ, List.getElem?_cons_zero]; exact rfl
      · exact fun _ _ _ h => h
      · rfl
      · (intro W' hSw; (try dsimp only at hSw); go_simp; try with_reducible rfl)
      try simp only [Act.put, List.setIfInBounds_toArray, List.set_cons_zero, List.set_cons_succ]
      refine wpAnyH_take (i := 6) (oi := ?_) (v := ?_) ?_ (by kernel_rfl) (by kernel_rfl) (by kernel_rfl) ?_ (Or.inl ⟨?_, ?_⟩) hHeld ?_
      rotate_left 2
      · simp only [List.getElem?_toArray, List.getElem?_cons_succ, List.getElem?_cons_zero]; exact rfl
      · exact fun _ _ _ h => h
      · rfl
      · (intro W' hSw; (try dsimp only at hSw); go_simp; try with_reducible rfl)
      try simp only [Act.put, List.setIfInBounds_toArray, List.set_cons_zero, List.set_cons_succ]
      refine wpAnyH_take (i := 7) (oi := ?_) (v := ?_) ?_ (by kernel_rfl) (by kernel_rfl) (by kernel_rfl) ?_ (Or.inl ⟨?_, ?_⟩) hHeld ?_
      rotate_left 2
      · simp only [List.getElem?_toArray, List.getElem?_cons_succ, List.getElem?_cons_zero]; exact rfl
      · exact fun _ _ _ h => h
      · rfl
      · (intro W' hSw; (try dsimp only at hSw); go_simp; try with_reducible rfl)
      try simp only [Act.put, List.setIfInBounds_toArray, List.set_cons_zero, List.set_cons_succ]
      refine wpAnyH_take (i := 8) (oi := ?_) (v := ?_) ?_ (by kernel_rfl) (by kernel_rfl) (by kernel_rfl) ?_ (Or.inl ⟨?_, ?_⟩) hHeld ?_
      rotate_left 2
      · simp only [List.getElem?_toArray, List.getElem?_cons_succ, List.getElem?_cons_zero]; exact rfl
      · exact fun _ _ _ h => h
      · rfl
      · (intro W' hSw; (try dsimp only at hSw); go_simp; try with_reducible rfl)
      try simp only [Act.put, List.setIfInBounds_toArray, List.set_cons_zero, List.set_cons_succ]
      refine wpAnyH_take (i := 9) (oi := ?_) (v := ?_) ?_ (by kernel_rfl) (by kernel_rfl) (by kernel_rfl) ?_ (Or.inl ⟨?_, ?_⟩) hHeld ?_
      rotate_left 2
      · simp only [List.getElem?_toArray, List.getElem?_cons_succ, List.getElem?_cons_zero]; exact rfl
      · exact fun _ _ _ h => h
      · rfl
      · (intro W' hSw; (try dsimp only at hSw); go_simp; try with_reducible rfl)
      try simp only [Act.put, List.setIfInBounds_toArray, List.set_cons_zero, List.set_cons_succ]
      refine wpAnyH_take (i := 12) (oi := ?_) (v := ?_) ?_ (by kernel_rfl) (by kernel_rfl) (by kernel_rfl) ?_ (Or.inl ⟨?_, ?_⟩) hHeld ?_
      rotate_left 2
      · simp only [List.getElem?_toArray, List.getElem?_cons_succ, List.getElem?_cons_zero]; exact rfl
      · exact fun _ _ _ h => h
      · rfl
      · (intro W' hSw; (try dsimp only at hSw); go_simp; try with_reducible rfl)
      try simp only [Act.put, List.setIfInBounds_toArray, List.set_cons_zero, List.set_cons_succ]
      refine wpAnyH_take (i := 13) (oi := ?_) (v := ?_) ?_ (by kernel_rfl) (by kernel_rfl) (by kernel_rfl) ?_ (Or.inl ⟨?_, ?_⟩) hHeld ?_
      rotate_left 2
      · simp only [List.getElem?_toArray, List.getElem?_cons_succ, List.getElem?_cons_zero]; exact rfl
      · exact fun _ _ _ h => h
      · rfl
      · (intro W' hSw; (try dsimp only at hSw); go_simp; try with_reducible rfl)
      try simp only [Act.put, List.setIfInBounds_toArray, List.set_cons_zero, List.set_cons_succ]
      refine wpAnyH_take (i := 14) (oi := ?_) (v := ?_) ?_ (by kernel_rfl) (by kernel_rfl) (by kernel_rfl) ?_ (Or.inl ⟨?_, ?_⟩) hHeld ?_
      rotate_left 2
      · simp only [List.getElem?_toArray, List.getElem?_cons_succ, List.getElem?_cons_zero]; exact rfl
      · exact fun _ _ _ h => h
      · rfl
      · (intro W' hSw; (try dsimp only at hSw); go_simp; try with_reducible rfl)
      try simp only [Act.put, List.setIfInBounds_toArray, List.set_cons_zero, List.set_cons_succ]
      refine wpAnyH_take (i := 15) (oi := ?_) (v := ?_) ?_ (by kernel_rfl) (by kernel_rfl) (by kernel_rfl) ?_ (Or.inl ⟨?_, ?_⟩) hHeld ?_
      rotate_left 2
      · simp only [List.getElem?_toArray, List.getElem?_cons_succ, List.getElem?_cons_zero]; exact rfl
      · exact fun _ _ _ h => h
      · rfl
      · (intro W' hSw; (try dsimp only at hSw); go_simp; try with_reducible rfl)
      try simp only [Act.put, List.setIfInBounds_toArray, List.set_cons_zero, List.set_cons_succ]
      refine wpAnyH_take (i := 16) (oi := ?_) (v := ?_) ?_ (by kernel_rfl) (by kernel_rfl) (by kernel_rfl) ?_ (Or.inl ⟨?_, ?_⟩) hHeld ?_
      rotate_left 2
      · simp only [List.getElem?_toArray, List.getElem?_cons_succ, List.getElem?_cons_zero]; exact rfl
      · exact fun _ _ _ h => h
      · rfl
      · (intro W' hSw; (try dsimp only at hSw); go_simp; try with_reducible rfl)
      try simp only [Act.put, List.setIfInBounds_toArray, List.set_cons_zero, List.set_cons_succ]
      refine wpAnyH_ready (rs := [10]) (by kernel_rfl) (by simp) ?_
      refine AllReadyH.cons rfl (fun K hK => ?_) AllReadyH.nil
      go_simp
      go_at_call 28
      refine Calls.mono (HNW.out _ (bel_call B78.out (Below.refl _ _).drew)) ?_
      rintro e9 w9 ⟨⟨cm, rfl, hm⟩, b9⟩
      have B9 := Lib.hid (show Below w8.heap.size w8 w9 from bel_call (Below.refl _ _).drew b9)
      clear b9 hHeld
      obtain ⟨m, hme⟩ : ∃ m, nowM g = m := ⟨_, rfl⟩
      rw [hme] at hm
      have HCUT2 := Lib.hid (show cutOf st x.name = m.cut by rw [HCUT.out, hme])
      clear hme
      obtain ⟨m_A2, m_c2, m_A4, m_c4, rfl, m_folder_le, m_seq_ok, m_prev_l, m_prev_m, m_prev_n, m_prev_s, m_parent_le, m_members_l, m_members_m, m_members_n, m_members_s, m_cut_ok, m_who_le⟩ := open_Manifest hm
      have hfd := field_cut m.folder m.parent m.who m.seq m.cut m.gone (.slice m_A2 m.prev.length m_c2) (.slice m_A4 m.members.length m_c4)
      refine hK.out _ _ (HS _ B9.out) (fun hHeld => ?_)
      clear hK K m_prev_s m_members_s
      refine wpAnyH_take (i := 11) (oi := ?_) (v := ?_) ?_ (by kernel_rfl) (by kernel_rfl) (by kernel_rfl) ?_ (Or.inl ⟨?_, ?_⟩) hHeld ?_
      rotate_left 2
      · simp only [List.getElem?_toArray, List.getElem?_cons_succ, List.getElem?_cons_zero]; exact rfl
      · exact fun _ _ _ h => h
      · rfl
      · (intro W' hSw; (try dsimp only at hSw); go_simp; try with_reducible rfl)
      try simp only [Act.put, List.setIfInBounds_toArray, List.set_cons_zero, List.set_cons_succ]
      refine wpAnyH_take (i := 17) (oi := ?_) (v := ?_) ?_ (by kernel_rfl) (by kernel_rfl) (by kernel_rfl) ?_ (Or.inl ⟨?_, ?_⟩) hHeld ?_
      rotate_left 2
      · simp only [List.getElem?_toArray, List.getElem?_cons_succ, List.getElem?_cons_zero]; exact rfl
      · exact fun _ _ _ h => h
      · rfl
      · (intro W' hSw; (try dsimp only at hSw); go_simp; try with_reducible rfl)
      try simp only [Act.put, List.setIfInBounds_toArray, List.set_cons_zero, List.set_cons_succ]
      refine wpAnyH_take (i := 18) (oi := ?_) (v := ?_) ?_ (by kernel_rfl) (by kernel_rfl) (by kernel_rfl) ?_ (Or.inl ⟨?_, ?_⟩) hHeld ?_
      rotate_left 2
      · simp only [List.getElem?_toArray, List.getElem?_cons_succ, List.getElem?_cons_zero]; exact rfl
      · exact fun _ _ _ h => h
      · rfl
      · (intro W' hSw; (try dsimp only at hSw); go_simp; try with_reducible rfl)
      try simp only [Act.put, List.setIfInBounds_toArray, List.set_cons_zero, List.set_cons_succ]
      refine wpAnyH_done (by kernel_rfl) ?_ _
      clear hHeld HS
      have HB9 := Lib.hid (bel_call B58.out B9.out)
      by_cases hct : y.seq < m.cut
      · have hcd : decide (y.seq < m.cut) = true := decide_eq_true hct
        rw [hcd]
        have HEND := Lib.hid (show staleB st name = true by rw [← HG.out, HST2.out, if_pos HNE.out, HCUT2.out, if_pos hct])
        clear hct hcd
        go_wp2
        go_ret
        exact ⟨by rw [HEND.out]; rfl, bel_call HB0.out (bel_call B05.out HB9.out)⟩
      · have hcd : decide (y.seq < m.cut) = false := decide_eq_false hct
        rw [hcd]
        have HEND := Lib.hid (show staleGo st (e.chain.drop (k + 1)) (now.drop (k + 1)) = staleB st name by rw [← HG.out, HST2.out, if_pos HNE.out, HCUT2.out, if_neg hct])
        clear hct hcd
        go_wp2
        go_roundw
        case rel =>
          have HF : ∃ j' : Nat, j' ≤ now.length ∧ Value.int .i64 ((k : Int) + 1) = .int .i64 j' ∧ Hid (staleGo st (e.chain.drop j') (now.drop j') = staleB st name) ∧ Below w5.heap.size w5 w9 := ⟨k + 1, by omega, by go_num, HEND, HB9.out⟩
          first | exact HF | ((repeat apply Exists.intro); refine ⟨HF, ?_⟩; first | rfl | ((repeat' apply And.intro) <;> rfl) | (simp; (repeat' apply And.intro) <;> first | rfl | (have := HLEN.out; omega)))
        case measure => simp [RowKit.intOf]; omega
    · obtain rfl : k = now.length := by omega
      have HE := Lib.hid (show staleB st name = false by rw [← HG.out, List.drop_length, staleGo_nil])
      go_wp2
      go_ret
      exact ⟨by rw [HE.out]; rfl, bel_call HB0.out B0r.out⟩
end Go.Proofs.YtkapaafbnbnpjaaGreatDoor
