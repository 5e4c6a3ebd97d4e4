/- Layer show: the lines of a folder's items. Conditions: as each theorem says. -/
import Derived.Test.YtkapaafbnbnpjaaGreatDoorSeItem
import Derived.Test.YtkapaafbnbnpjaaGreatDoorSeLine
namespace Go.Proofs.YtkapaafbnbnpjaaGreatDoor
open Go.RowKit Go.Deep Go.Shelf Go.Sort Go.Proofs

def zeroI : Version := ⟨0, false, ⟨#[]⟩, []⟩
theorem ILine.mk (d : Nat) (x : Nm) : ILine d (((⟨(List.replicate (2 * d) 32).toArray⟩ : Nm) ++ ⟨#[45, 32]⟩) ++ x) := by
  refine ⟨32 :: x.data.toList, ?_⟩
  simp [ByteArray.data_append, blanksL]
theorem ILine.app {d : Nat} {z : Nm} (h : ILine d z) (x : Nm) : ILine d (z ++ x) := by
  obtain ⟨r, hr⟩ := h
  refine ⟨r ++ x.data.toList, ?_⟩
  rw [show (z ++ x).data.toList = z.data.toList ++ x.data.toList by simp [ByteArray.data_append], hr]
  simp
theorem grow_sl_str {e : TypeId} {B : Nat → Prop} {w : World} {base : Nat} {v : Value} {l : List Nm} (h : Grow e 1 rStr B w base v l) : Sl 1 rStr (fun z => base ≤ z) w v l := by
  obtain ⟨A, c, hv', h1, h2, h3, h4⟩ := Own.sl rStr_ok h
  have hb := h.base_le
  refine ⟨A, c, hv', h1, h2, h3, fun i x hx => ?_⟩
  obtain ⟨b, o, ys, hA, _, hl, hc, hR⟩ := h4 i x hx
  exact ⟨b, o, ys, hA, (hb b (by rw [hv', hA]; rfl)).1, hl, hc, hR⟩
def ILines (d : Nat) (L : List Nm) : Prop := ∀ y ∈ L, ILine d y ∧ y.size ≤ 1048700

set_option maxHeartbeats 4000000 in
set_option maxRecDepth 100000 in
theorem items_any (f : Folder) (hlen : f.items.length ≤ 1000) (hby : ∀ x ∈ f.items, x.name.size ≤ 20 ∧ ∀ v ∈ x.versions, v.who.size ≤ 1048576) (deep : Nat) (hd : deep ≤ 4) (cf : List Value) (w : World) (S : Nat → Prop) (hf : rFolder S w cf f) (hp : Pow w) :
    Calls Tryz.prog 22 #[.agg cf.toArray, .int .i64 deep] w fun e w' => (∃ v : Value, e = .returned v ∧ ∃ L : List Nm, Sl 1 rStr (fun z => w.heap.size ≤ z) w' v L ∧ ILines deep L ∧ L.length ≤ f.items.length) ∧ Below w.heap.size w w' := by
  have HP := Lib.hid hp
  have HBY := Lib.hid hby
  clear hp hby
  obtain ⟨f_A2, f_c2, f_A3, f_c3, f_A4, f_c4, f_A5, f_c5, f_A6, f_c6, rfl, f_name_le, f_turn_ok, f_manifests_l, f_manifests_m, f_manifests_n, f_manifests_s, f_epochs_l, f_epochs_m, f_epochs_n, f_epochs_s, f_items_l, f_items_m, f_items_n, f_items_s, f_wraps_l, f_wraps_m, f_wraps_n, f_wraps_s, f_links_l, f_links_m, f_links_n, f_links_s⟩ := open_Folder hf
  obtain ⟨w0, hw0, cw0, fw0, Bw0, qw0⟩ := boxed w #[.string f.name, .int .i64 f.turn, .slice f_A2 f.manifests.length f_c2, .slice f_A3 f.epochs.length f_c3, .slice f_A4 f.items.length f_c4, .slice f_A5 f.wraps.length f_c5, .slice f_A6 f.links.length f_c6] 35
  have HB0 := Lib.hid Bw0
  have t4 := cw0 4 _ rfl
  have HCL := Lib.hid (cloneI_any f.items (.slice f_A4 f.items.length f_c4) w0 S (Sl.keep rItem_ok (by decide) ⟨_, _, rfl, f_items_l, (by unfold maxLen; exact f_items_m), f_items_n, f_items_s⟩ (kept_of Bw0)) (by omega))
  clear cw0 fw0 Bw0 f_manifests_s f_epochs_s f_items_s f_wraps_s f_links_s
  go_enter Tryz.func22, Tryz.ntmps22
  go_wp2_with fail
  clear hw0 t4
  refine Calls.mono HCL.out ?_
  rintro e w1 ⟨⟨v1, rfl, g1⟩, B1⟩
  have HB1 := Lib.hid (bel_call HB0.out B1)
  have HB01 := Lib.hid B1
  rcases Nat.eq_zero_or_pos f.items.length with h0 | h0
  · obtain ⟨A1, n1, c1, rfl, hn1⟩ := g1.shape'
    obtain rfl : n1 = 0 := by omega
    clear g1 h0 hn1
    go_wp2_with fail
    refine Calls.mono (sortStable_nil A1 c1 w1 _) ?_
    rintro e w2 ⟨rfl, rfl⟩
    go_wp2
    go_loop [6, 17] (fun v6 vi => v6 = .slice none 0 0 ∧ vi = .int .i64 0) (fun _ _ => 0)
    case atStart => exact ⟨rfl, rfl⟩
    case round =>
      obtain ⟨rfl, rfl⟩ := hrel
      go_wp2
      go_ret
      exact ⟨⟨_, rfl, [], Sl_nil _ _ _ _, (fun y hy => by cases hy), Nat.zero_le _⟩, HB1.out⟩
  · obtain ⟨g, cap, d0, rfl, hgb, hgl, hnc, hcm, hd0, hH, hraw⟩ := raw_of_grow g1 h0
    unfold maxLen at hcm
    have HSO := Lib.hid (sortStable_any g cap f.items.length d0 w1 ⟨encI_len, encI_one, hH, hgl⟩ hd0 hlen)
    have HRAW := Lib.hid hraw
    have HHH := Lib.hid hH
    have HD0 := Lib.hid hd0
    have HGB := Lib.hid hgb
    clear g1 hH hraw hd0 hgb
    go_wp2_with fail
    refine Calls.mono HSO.out ?_
    rintro e w2 ⟨rfl, d, hA, hW⟩
    have HA := Lib.hid hA
    have HSZ := Lib.hid (show d.size = f.items.length from hA.1.trans HD0.out)
    have HBUT := Lib.hid (SWK.but hW)
    have HHD := Lib.hid (hW.holds hgl HHH.out hA.1)
    have B2 := Lib.hid (ButB.below (n := w0.heap.size) HB01.out (HB01.out.size) (fun k hk => by rw [hk]; exact HGB.out) (SWK.but hW))
    clear hA hW HSO HCL
    go_wp2
    obtain ⟨n, hn⟩ : ∃ n, f.items.length = n := ⟨_, rfl⟩
    rw [hn] at hnc hlen h0 HSZ ⊢
    have HN := Lib.hid hn
    obtain ⟨istr, histr, hzstr, h1str, h2str⟩ := info_parts (show (Tryz.prog.info? 9).map (fun i => (i.zero, i.size, i.bytes)) = some (some (.string ⟨#[]⟩), 1, 16) from by kernel_rfl)
    clear hn h0
    go_loopw [6, 17] (fun vo vi wr => ∃ (k : Nat) (L : List Nm), k ≤ n ∧ vi = .int .i64 k ∧ Hid (Grow 9 1 rStr (fun _ => False) wr w2.heap.size vo L) ∧ Hid (ILines deep L) ∧ L.length ≤ k ∧ Below w2.heap.size w2 wr) (fun _ vi _ => n - (RowKit.intOf vi).toNat)
    case atStart => exact ⟨0, [], by omega, by go_num, Lib.hid Grow.nil, Lib.hid (fun y hy => by cases hy), by simp, Below.refl _ _⟩
    case round =>
      obtain ⟨k, L, hk, rfl, HG, HL, hLk, hbel⟩ := hrel
      obtain ⟨A2, n2, c2, rfl, hn2⟩ := HG.out.shape'
      have HN2 := Lib.hid hn2
      have hzr := hbel.size
      clear hn2
      by_cases hlt : k < n
      · have hki : (k : Int) < (n : Int) := by omega
        have hkd : k < d.size := by have := HSZ.out; omega
        obtain ⟨y, hy⟩ : ∃ y, d[k]! = y := ⟨_, rfl⟩
        have hym : y ∈ d := by rw [← hy]; exact getI_mem hkd
        obtain ⟨x, hxl, hxR⟩ := HRAW.out y (HA.out.2 y hym)
        obtain ⟨Av, cv, he, hx1, hx2, hx3, hx4, hx5⟩ := open_Item hxR
        obtain ⟨sy, Ay, ny, cy⟩ := y
        simp only [encI, List.cons.injEq, Value.string.injEq, Value.slice.injEq, and_true] at he
        obtain ⟨rfl, rfl, rfl, rfl⟩ := he
        have u0 := (HoldsK.cell HHD.out hkd (c := 0) (by decide)).1
        have u1 := (HoldsK.cell HHD.out hkd (c := 1) (by decide)).1
        rw [hy] at u0 u1
        rw [Nat.zero_add, Nat.add_zero] at u0
        rw [Nat.zero_add] at u1
        replace u0 : w2.cell? ⟨g, k * 2, none⟩ = some (.string x.name) := u0
        replace u1 : w2.cell? ⟨g, k * 2 + 1, none⟩ = some (.slice Ay x.versions.length cy) := u1
        have a0 := (hbel.cell (p := ⟨g, k * 2, none⟩) (cell_lt u0)).trans u0
        have a1 := (hbel.cell (p := ⟨g, k * 2 + 1, none⟩) (cell_lt u1)).trans u1
        obtain ⟨hxn, hxv⟩ := HBY.out x hxl
        have HXV := Lib.hid hxv
        obtain ⟨w3, hw3, cw3, fw3, Bw3, qw3⟩ := boxed wr #[.string x.name, .slice Ay x.versions.length cy] 84
        have B3 := Lib.hid (bel_call hbel Bw3)
        have e0 := cw3 0 _ rfl
        have e1 := cw3 1 _ rfl
        have HG3 := Lib.hid (HG.out.below rStr_ok Bw3)
        clear hy hym hxl hxR u0 u1 hxv fw3 Bw3
        rcases Nat.eq_zero_or_pos x.versions.length with hv0 | hv0
        · have hvd : ((x.versions.length : Int) == 0) = true := by simp [hv0]
          clear hv0
          go_wp2
          go_roundw
          case rel => exact ⟨k + 1, L, by omega, by go_num, HG3, HL, by omega, B3.out⟩
          case measure => simp [RowKit.intOf]; omega
        · have hvd : ((x.versions.length : Int) == 0) = false := beq_eq_false_iff_ne.2 (by omega)
          obtain ⟨q, hq⟩ : ∃ q, x.versions.length = q + 1 := ⟨x.versions.length - 1, by omega⟩
          obtain ⟨vv, hvv⟩ : ∃ vv, x.versions[q]? = some vv := ⟨_, List.getElem?_eq_getElem (by omega)⟩
          obtain ⟨b, o, ys, hAv, hbl, hRv, hcv⟩ := SlAt.elem (hx5.keep rVersion_ok (by decide) (S' := fun _ => True) (ButB.kept HBUT.out (fun z hz => ⟨trivial, hz⟩))) hvv (by decide) hbel
          obtain ⟨vv_A3, vv_c3, rfl, vv_epoch_ok, vv_who_le, vv_data_l, vv_data_m, vv_data_n, vv_data_s⟩ := open_Version hRv
          have z1 := hcv 1 _ rfl
          have z2 := hcv 2 _ rfl
          subst hAv
          have hvw := HXV.out vv (List.mem_of_getElem? hvv)
          have zb1 : w3.cell? ⟨b, o + q * 4 + 1, none⟩ = some (.bool vv.gone) := by rw [← hw3]; exact ((Below.refl _ _).alloc (Nat.le_refl _) _ |>.cell (p := ⟨b, o + q * 4 + 1, none⟩) (cell_lt z1)).trans z1
          have zb2 : w3.cell? ⟨b, o + q * 4 + 2, none⟩ = some (.string vv.who) := by rw [← hw3]; exact ((Below.refl _ _).alloc (Nat.le_refl _) _ |>.cell (p := ⟨b, o + q * 4 + 2, none⟩) (cell_lt z2)).trans z2
          rw [hq] at hvd cw3 hw3 e1 hx2 hx4 a1
          have hqw : IntKind.i64.wrap (q : Int) = (q : Int) := IntWalk.i64_in _ (by omega)
          have hqi : (q : Int) < (q : Int) + 1 := by omega
          have HBY1 := Lib.hid hvw
          clear hvv hcv hvw hq hx5 hv0 z1 z2 vv_data_s
          obtain ⟨gn, hgn⟩ : ∃ gn, vv.gone = gn := ⟨_, rfl⟩
          obtain ⟨wo, hwo⟩ : ∃ wo, vv.who = wo := ⟨_, rfl⟩
          rw [hgn] at zb1
          rw [hwo] at zb2 HBY1
          clear hgn hwo
          cases gn with
          | true =>
            go_wp2
            go_roundw
            case rel => exact ⟨k + 1, L, by omega, by go_num, HG3, HL, by omega, B3.out⟩
            case measure => simp [RowKit.intOf]; omega
          | false =>
            have HPW := Lib.hid fun (W : World) (hW : Below w3.heap.size w3 W) => HP.out.below (bel_call HB0.out (bel_call B2.out (bel_call B3.out hW)))
            have HSQ := Lib.hid (show ∀ W : World, Below w3.heap.size w3 W → (fun W : World => W.cell? ⟨wr.heap.size, 0, none⟩ = some (.string x.name) ∧ W.cell? ⟨wr.heap.size, 1, none⟩ = some (.slice (some ⟨b, o, none⟩) (q + 1) cy) ∧ W.cell? ⟨b, o + q * 4 + 2, none⟩ = some (.string wo)) W from fun W hW => ⟨(hW.cell (p := ⟨wr.heap.size, 0, none⟩) qw3).trans e0, (hW.cell (p := ⟨wr.heap.size, 1, none⟩) qw3).trans e1, (hW.cell (p := ⟨b, o + q * 4 + 2, none⟩) (cell_lt zb2)).trans zb2⟩)
            obtain ⟨rp, hrp⟩ : ∃ rp : Nm, (⟨(List.replicate (2 * deep) 32).toArray⟩ : Nm) = rp := ⟨_, rfl⟩
            obtain ⟨d1, hd1⟩ : ∃ d1 : Nm, itoaS ((q : Int) + 1) = d1 := ⟨_, rfl⟩
            have zr : rp.size ≤ 8 := by rw [← hrp]; simp [ByteArray.size]; omega
            have z1 : d1.size ≤ 20 := by rw [← hd1]; exact itoaS_size _ ⟨by omega, by omega⟩
            have REP := Lib.hid fun W => repeat2_any deep W (by omega)
            rw [hrp] at REP
            have N1 := Lib.hid fun W (hW : Pow W) => num_any ((q : Int) + 1) ⟨by omega, by omega⟩ W hW
            rw [hd1] at N1
            have zw : wo.size ≤ 1048576 := HBY1.out
            obtain ⟨y1, hy1⟩ : ∃ y1 : Nm, rp ++ ⟨#[45, 32]⟩ = y1 := ⟨_, rfl⟩
            have s1 : y1.size ≤ 10 := by rw [← hy1, ByteArray.size_append]; show _ + 2 ≤ _; omega
            have g1 : ¬ 9223372036854775807 < rp.size + 2 := by omega
            obtain ⟨y2, hy2⟩ : ∃ y2 : Nm, y1 ++ x.name = y2 := ⟨_, rfl⟩
            have s2 : y2.size ≤ 30 := by rw [← hy2, ByteArray.size_append]; omega
            have g2 : ¬ 9223372036854775807 < y1.size + x.name.size := by omega
            obtain ⟨y3, hy3⟩ : ∃ y3 : Nm, y2 ++ ⟨#[32]⟩ = y3 := ⟨_, rfl⟩
            have s3 : y3.size ≤ 31 := by rw [← hy3, ByteArray.size_append]; show _ + 1 ≤ _; omega
            have g3 : ¬ 9223372036854775807 < y2.size + 1 := by omega
            obtain ⟨y4, hy4⟩ : ∃ y4 : Nm, y3 ++ d1 = y4 := ⟨_, rfl⟩
            have s4 : y4.size ≤ 51 := by rw [← hy4, ByteArray.size_append]; omega
            have g4 : ¬ 9223372036854775807 < y3.size + d1.size := by omega
            obtain ⟨y5, hy5⟩ : ∃ y5 : Nm, y4 ++ ⟨#[32]⟩ = y5 := ⟨_, rfl⟩
            have s5 : y5.size ≤ 52 := by rw [← hy5, ByteArray.size_append]; show _ + 1 ≤ _; omega
            have g5 : ¬ 9223372036854775807 < y4.size + 1 := by omega
            obtain ⟨y6, hy6⟩ : ∃ y6 : Nm, y5 ++ wo = y6 := ⟨_, rfl⟩
            have s6 : y6.size ≤ 1048700 := by rw [← hy6, ByteArray.size_append]; omega
            have g6 : ¬ 9223372036854775807 < y5.size + wo.size := by omega
            have HI6 := Lib.hid (show ILine deep y6 by
              have h9 := ILine.mk deep x.name
              rw [hrp, hy1, hy2] at h9
              rw [← hy6, ← hy5, ← hy4, ← hy3]
              exact (((h9.app _).app _).app _).app _)
            clear hrp hd1
            go_wp2_with fail
            clear hw3 e0 e1 a0 a1 zb1 zb2
            have HS := HSQ.out
            refine wp_region_held_drew (S := fun W : World => W.cell? ⟨wr.heap.size, 0, none⟩ = some (.string x.name) ∧ W.cell? ⟨wr.heap.size, 1, none⟩ = some (.slice (some ⟨b, o, none⟩) (q + 1) cy) ∧ W.cell? ⟨b, o + q * 4 + 2, none⟩ = some (.string wo)) (by kernel_rfl) (HS _ (Below.refl _ _).drew) (fun hHeld => ?_)
            refine wpAnyH_take (i := 0) (oi := ?_) (v := ?_) ?_ (by kernel_rfl) (by kernel_rfl) (by kernel_rfl) ?_ (Or.inl ⟨?_, ?_⟩) hHeld ?_
            rotate_left 2
            · simp only [List.getElem?_toArray, List.getElem?_cons_zero]; exact rfl
            · exact fun _ _ _ h => h
            · rfl
            · (intro W' hSw; (try dsimp only at hSw); go_simp; try with_reducible rfl)
            try simp only [Act.put, List.setIfInBounds_toArray, List.set_cons_zero, List.set_cons_succ]
            refine wpAnyH_take (i := 1) (oi := ?_) (v := ?_) ?_ (by kernel_rfl) (by kernel_rfl) (by kernel_rfl) ?_ (Or.inl ⟨?_, ?_⟩) hHeld ?_
            rotate_left 2
            · simp only [List.getElem?_toArray, List.getElem?_cons_succ, List.getElem?_cons_zero]; exact rfl
            · exact fun _ _ _ h => h
            · rfl
            · (intro W' hSw; (try dsimp only at hSw); go_simp; try with_reducible rfl)
            try simp only [Act.put, List.setIfInBounds_toArray, List.set_cons_zero, List.set_cons_succ]
            refine wpAnyH_take (i := 4) (oi := ?_) (v := ?_) ?_ (by kernel_rfl) (by kernel_rfl) (by kernel_rfl) ?_ (Or.inl ⟨?_, ?_⟩) hHeld ?_
            rotate_left 2
            · simp only [List.getElem?_toArray, List.getElem?_cons_succ, List.getElem?_cons_zero]; exact rfl
            · exact fun _ _ _ h => h
            · rfl
            · (intro W' hSw; (try dsimp only at hSw); go_simp; try with_reducible rfl)
            try simp only [Act.put, List.setIfInBounds_toArray, List.set_cons_zero, List.set_cons_succ]
            refine wpAnyH_take (i := 5) (oi := ?_) (v := ?_) ?_ (by kernel_rfl) (by kernel_rfl) (by kernel_rfl) ?_ (Or.inl ⟨?_, ?_⟩) hHeld ?_
            rotate_left 2
            · simp only [List.getElem?_toArray, List.getElem?_cons_succ, List.getElem?_cons_zero]; exact rfl
            · exact fun _ _ _ h => h
            · rfl
            · (intro W' hSw; (try dsimp only at hSw); go_simp; try with_reducible rfl)
            try simp only [Act.put, List.setIfInBounds_toArray, List.set_cons_zero, List.set_cons_succ]
            refine wpAnyH_take (i := 8) (oi := ?_) (v := ?_) ?_ (by kernel_rfl) (by kernel_rfl) (by kernel_rfl) ?_ (Or.inl ⟨?_, ?_⟩) hHeld ?_
            rotate_left 2
            · simp only [List.getElem?_toArray, List.getElem?_cons_succ, List.getElem?_cons_zero]; exact rfl
            · exact fun _ _ _ h => h
            · rfl
            · (intro W' hSw; (try dsimp only at hSw); go_simp; try with_reducible rfl)
            try simp only [Act.put, List.setIfInBounds_toArray, List.set_cons_zero, List.set_cons_succ]
            refine wpAnyH_take (i := 12) (oi := ?_) (v := ?_) ?_ (by kernel_rfl) (by kernel_rfl) (by kernel_rfl) ?_ (Or.inl ⟨?_, ?_⟩) hHeld ?_
            rotate_left 2
            · simp only [List.getElem?_toArray, List.getElem?_cons_succ, List.getElem?_cons_zero]; exact rfl
            · exact fun _ _ _ h => h
            · rfl
            · (intro W' hSw; (try dsimp only at hSw); go_simp; try with_reducible rfl)
            try simp only [Act.put, List.setIfInBounds_toArray, List.set_cons_zero, List.set_cons_succ]
            refine wpAnyH_take (i := 13) (oi := ?_) (v := ?_) ?_ (by kernel_rfl) (by kernel_rfl) (by kernel_rfl) ?_ (Or.inl ⟨?_, ?_⟩) hHeld ?_
            rotate_left 2
            · simp only [List.getElem?_toArray, List.getElem?_cons_succ, List.getElem?_cons_zero]; exact rfl
            · exact fun _ _ _ h => h
            · rfl
            · (intro W' hSw; (try dsimp only at hSw); go_simp; try with_reducible rfl)
            try simp only [Act.put, List.setIfInBounds_toArray, List.set_cons_zero, List.set_cons_succ]
            refine wpAnyH_take (i := 14) (oi := ?_) (v := ?_) ?_ (by kernel_rfl) (by kernel_rfl) (by kernel_rfl) ?_ (Or.inl ⟨?_, ?_⟩) hHeld ?_
            rotate_left 2
            · simp only [List.getElem?_toArray, List.getElem?_cons_succ, List.getElem?_cons_zero]; exact rfl
            · exact fun _ _ _ h => h
            · rfl
            · (intro W' hSw; (try dsimp only at hSw); go_simp; try with_reducible rfl)
            try simp only [Act.put, List.setIfInBounds_toArray, List.set_cons_zero, List.set_cons_succ]
            refine wpAnyH_take (i := 15) (oi := ?_) (v := ?_) ?_ (by kernel_rfl) (by kernel_rfl) (by kernel_rfl) ?_ (Or.inl ⟨?_, ?_⟩) hHeld ?_
            rotate_left 2
            · simp only [List.getElem?_toArray, List.getElem?_cons_succ, List.getElem?_cons_zero]; exact rfl
            · exact fun _ _ _ h => h
            · rfl
            · (intro W' hSw; (try dsimp only at hSw); go_simp; try with_reducible rfl)
            try simp only [Act.put, List.setIfInBounds_toArray, List.set_cons_zero, List.set_cons_succ]
            refine wpAnyH_take (i := 16) (oi := ?_) (v := ?_) ?_ (by kernel_rfl) (by kernel_rfl) (by kernel_rfl) ?_ (Or.inl ⟨?_, ?_⟩) hHeld ?_
            rotate_left 2
            · simp only [List.getElem?_toArray, List.getElem?_cons_succ, List.getElem?_cons_zero]; exact rfl
            · exact fun _ _ _ h => h
            · rfl
            · (intro W' hSw; (try dsimp only at hSw); go_simp; try with_reducible rfl)
            try simp only [Act.put, List.setIfInBounds_toArray, List.set_cons_zero, List.set_cons_succ]
            refine wpAnyH_take (i := 17) (oi := ?_) (v := ?_) ?_ (by kernel_rfl) (by kernel_rfl) (by kernel_rfl) ?_ (Or.inl ⟨?_, ?_⟩) hHeld ?_
            rotate_left 2
            · simp only [List.getElem?_toArray, List.getElem?_cons_succ, List.getElem?_cons_zero]; exact rfl
            · exact fun _ _ _ h => h
            · rfl
            · (intro W' hSw; (try dsimp only at hSw); go_simp; try with_reducible rfl)
            try simp only [Act.put, List.setIfInBounds_toArray, List.set_cons_zero, List.set_cons_succ]
            refine wpAnyH_take (i := 18) (oi := ?_) (v := ?_) ?_ (by kernel_rfl) (by kernel_rfl) (by kernel_rfl) ?_ (Or.inl ⟨?_, ?_⟩) hHeld ?_
            rotate_left 2
            · simp only [List.getElem?_toArray, List.getElem?_cons_succ, List.getElem?_cons_zero]; exact rfl
            · exact fun _ _ _ h => h
            · rfl
            · (intro W' hSw; (try dsimp only at hSw); go_simp; try with_reducible rfl)
            try simp only [Act.put, List.setIfInBounds_toArray, List.set_cons_zero, List.set_cons_succ]
            refine wpAnyH_ready (rs := [2]) (by kernel_rfl) (by simp) ?_
            refine AllReadyH.cons rfl (fun K hK => ?_) AllReadyH.nil
            go_simp
            go_at_call 26
            refine Calls.mono (REP.out _) ?_
            rintro e w4 ⟨rfl, b4⟩
            have B4 := Lib.hid (show Below w3.heap.size w3 w4 from bel_call (Below.refl _ _).drew b4)
            clear b4 hHeld
            refine hK.out _ _ (HS _ B4.out) (fun hHeld => ?_)
            clear hK K
            refine wpAnyH_take (i := 3) (oi := ?_) (v := ?_) ?_ (by kernel_rfl) (by kernel_rfl) (by kernel_rfl) ?_ (Or.inl ⟨?_, ?_⟩) hHeld ?_
            rotate_left 2
            · simp only [List.getElem?_toArray, List.getElem?_cons_succ, List.getElem?_cons_zero]; exact rfl
            · exact fun _ _ _ h => h
            · rfl
            · (intro W' hSw; (try dsimp only at hSw); go_simp; try with_reducible rfl)
            try simp only [Act.put, List.setIfInBounds_toArray, List.set_cons_zero, List.set_cons_succ]
            refine wpAnyH_take (i := 6) (oi := ?_) (v := ?_) ?_ (by kernel_rfl) (by kernel_rfl) (by kernel_rfl) ?_ (Or.inl ⟨?_, ?_⟩) hHeld ?_
            rotate_left 2
            · simp only [List.getElem?_toArray, List.getElem?_cons_succ, List.getElem?_cons_zero]; exact rfl
            · exact fun _ _ _ h => h
            · rfl
            · (intro W' hSw; (try dsimp only at hSw); go_simp; try with_reducible rfl)
            try simp only [Act.put, List.setIfInBounds_toArray, List.set_cons_zero, List.set_cons_succ]
            refine wpAnyH_take (i := 7) (oi := ?_) (v := ?_) ?_ (by kernel_rfl) (by kernel_rfl) (by kernel_rfl) ?_ (Or.inl ⟨?_, ?_⟩) hHeld ?_
            rotate_left 2
            · simp only [List.getElem?_toArray, List.getElem?_cons_succ, List.getElem?_cons_zero]; exact rfl
            · exact fun _ _ _ h => h
            · rfl
            · (intro W' hSw; (try dsimp only at hSw); go_simp; try with_reducible rfl)
            try simp only [Act.put, List.setIfInBounds_toArray, List.set_cons_zero, List.set_cons_succ]
            refine wpAnyH_ready (rs := [9]) (by kernel_rfl) (by simp) ?_
            refine AllReadyH.cons rfl (fun K hK => ?_) AllReadyH.nil
            go_simp
            go_at_call 33
            refine Calls.mono (N1.out _ (HPW.out _ B4.out)) ?_
            rintro e w5 ⟨rfl, b5⟩
            have B5 := Lib.hid (bel_call B4.out b5)
            clear b5 hHeld
            refine hK.out _ _ (HS _ B5.out) (fun hHeld => ?_)
            clear hK K
            refine wpAnyH_take (i := 10) (oi := ?_) (v := ?_) ?_ (by kernel_rfl) (by kernel_rfl) (by kernel_rfl) ?_ (Or.inl ⟨?_, ?_⟩) hHeld ?_
            rotate_left 2
            · simp only [List.getElem?_toArray, List.getElem?_cons_succ, List.getElem?_cons_zero]; exact rfl
            · exact fun _ _ _ h => h
            · rfl
            · (intro W' hSw; (try dsimp only at hSw); go_simp; try with_reducible rfl)
            try simp only [Act.put, List.setIfInBounds_toArray, List.set_cons_zero, List.set_cons_succ]
            refine wpAnyH_take (i := 11) (oi := ?_) (v := ?_) ?_ (by kernel_rfl) (by kernel_rfl) (by kernel_rfl) ?_ (Or.inl ⟨?_, ?_⟩) hHeld ?_
            rotate_left 2
            · simp only [List.getElem?_toArray, List.getElem?_cons_succ, List.getElem?_cons_zero]; exact rfl
            · exact fun _ _ _ h => h
            · rfl
            · (intro W' hSw; (try dsimp only at hSw); go_simp; try with_reducible rfl)
            try simp only [Act.put, List.setIfInBounds_toArray, List.set_cons_zero, List.set_cons_succ]
            refine wpAnyH_take (i := 19) (oi := ?_) (v := ?_) ?_ (by kernel_rfl) (by kernel_rfl) (by kernel_rfl) ?_ (Or.inl ⟨?_, ?_⟩) hHeld ?_
            rotate_left 2
            · simp only [List.getElem?_toArray, List.getElem?_cons_succ, List.getElem?_cons_zero]; exact rfl
            · exact fun _ _ _ h => h
            · rfl
            · (intro W' hSw; (try dsimp only at hSw); go_simp; try with_reducible rfl)
            try simp only [Act.put, List.setIfInBounds_toArray, List.set_cons_zero, List.set_cons_succ]
            obtain ⟨w6, hw6, cw6, fw6, Bw6, qw6⟩ := boxed w5 #[.string y6] 9
            have B6 := Lib.hid (bel_call B5.out Bw6)
            have HG6 := Lib.hid (HG3.out.below rStr_ok B6.out)
            have hz5 := B5.out.size
            have hz6 := B6.out.size
            have hz3 := B3.out.size
            have hgb2 := HG.out.base_le
            have HROW := Lib.hid (show SlAt 1 rStr (Free (fun _ => False) w6 (.slice A2 n2 c2)) w6 (some ⟨w5.heap.size, 0, none⟩) [y6] from SlAt_one [.string y6] ⟨qw6, (fun h => h), (fun e => by have h1 := (hgb2 _ e).2; have := Bw6.size; have h5 := (bel_call B3.out B5.out).size; have h3 : wr.heap.size < w3.heap.size := qw3; omega)⟩ rfl (fun j z hj => by rw [Nat.zero_add]; exact cw6 j z (by simpa using hj)) ⟨rfl, by omega⟩)
            refine wpAnyH_ready (rs := [20]) (by kernel_rfl) (by simp) ?_
            refine AllReadyH.cons rfl (fun K hK => ?_) AllReadyH.nil
            go_simp
            clear hHeld
            refine hK.out _ _ (HS _ B6.out) (fun hHeld => ?_)
            clear hK K hw6 cw6 fw6 Bw6 hgb2
            refine wpAnyH_ready (rs := [21]) (by kernel_rfl) (by simp) ?_
            refine AllReadyH.cons rfl (fun K hK => ?_) AllReadyH.nil
            refine step_grow w6 rfl (.tmp 35) (.tmp 55) 37 rfl 9 istr _ 1 16 Tryz.underlying37 histr hzstr h1str h2str rfl (by decide) rStr_ok w2.heap.size (by omega) (.slice A2 n2 c2) L rfl HG6.out _ 1 _ rfl [y6] rfl HROW.out (by omega) (by decide) ?_
            intro v7 w7 g7 gg7
            have G7 := Lib.hid g7
            have B7 := Lib.hid (Below.grown (bel_call B3.out B6.out) gg7 (by omega) (fun b hb => (HG6.out.base_le b hb).1))
            have HS7 : (fun W : World => W.cell? ⟨wr.heap.size, 0, none⟩ = some (.string x.name) ∧ W.cell? ⟨wr.heap.size, 1, none⟩ = some (.slice (some ⟨b, o, none⟩) (q + 1) cy) ∧ W.cell? ⟨b, o + q * 4 + 2, none⟩ = some (.string wo)) w7 := by
              have hh := HS _ B6.out
              have T := fun z (hz : z < w6.heap.size) (hn : (Value.slice A2 n2 c2).ownBlock ≠ some z) => gg7.block z hz fun e => hn e.symm
              have hb3 := HG.out.base_le
              have h3 : wr.heap.size < w3.heap.size := qw3
              have Ti := T wr.heap.size (by omega) fun e => by have := (hb3 _ e).2; omega
              have Tb := T b (by omega) fun e => by have := (hb3 _ e).1; omega
              exact ⟨(World.cell?_of_block Ti).trans hh.1, (World.cell?_of_block Ti).trans hh.2.1, (World.cell?_of_block Tb).trans hh.2.2⟩
            clear g7 gg7 hHeld
            refine hK.out _ _ HS7 (fun hHeld => ?_)
            clear hK K HS7
            refine wpAnyH_take (i := 22) (oi := ?_) (v := ?_) ?_ (by kernel_rfl) (by kernel_rfl) (by kernel_rfl) ?_ (Or.inl ⟨?_, ?_⟩) hHeld ?_
            rotate_left 2
            · simp only [List.getElem?_toArray, List.getElem?_cons_succ, List.getElem?_cons_zero]; exact rfl
            · exact fun _ _ _ h => h
            · rfl
            · (intro W' hSw; (try dsimp only at hSw); go_simp; try with_reducible rfl)
            try simp only [Act.put, List.setIfInBounds_toArray, List.set_cons_zero, List.set_cons_succ]
            refine wpAnyH_done (by kernel_rfl) ?_ _
            clear hHeld HS HSQ hy1 hy2 hy3 hy4 hy5 hy6 g1 g2 g3 g4 g5 g6 s1 s2 s3 s4 s5 REP N1
            go_wp2
            go_roundw
            case rel => exact ⟨k + 1, L ++ [y6], by omega, by go_num, G7, Lib.hid (fun z hz => (List.mem_append.1 hz).elim (HL.out z) (fun hz => by rw [List.mem_singleton.1 hz]; exact ⟨HI6.out, s6⟩)), by simp; omega, B7.out⟩
            case measure => simp [RowKit.intOf]; omega
      · obtain rfl : k = n := by omega
        go_wp2
        go_ret
        exact ⟨⟨_, rfl, L, (grow_sl_str HG.out).keep rStr_ok (by decide) (Kept.refl _ fun z hz => Nat.le_trans (Nat.le_trans HB0.out.size B2.out.size) hz), HL.out, by rw [HN.out]; exact hLk⟩, bel_call HB0.out (bel_call B2.out hbel)⟩
end Go.Proofs.YtkapaafbnbnpjaaGreatDoor
