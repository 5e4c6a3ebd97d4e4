/- TreeShape: for every input the law returns true and leaves its arguments as they were. No condition. -/
import Derived.Test.YthcmlakifdoneaaTrShA
namespace Go.Proofs.Ythcmlakifdoneaa
open Go.ChangeShapes Go.WideShapes Go.ChangeAt Go.RowKit Go.Deep

theorem sl_butm {w w' : World} {t m n : Nat} {D : DataW Unit} {F : Fs} {v : Value} {l : List Nm} (h : Sl 1 rStr (fun _ => True) w v l) (k : TreeS w t m n D F) (b : ButB (fun x => x = m) w w') : Sl 1 rStr (fun _ => True) w' v l := by
  obtain ⟨A, c, hv, h1, h2, h3, h4⟩ := h
  refine ⟨A, c, hv, h1, h2, h3, fun i x hx => ?_⟩
  obtain ⟨b', o, ys, hA, hS, hl, hc, hR⟩ := h4 i x hx
  refine ⟨b', o, ys, hA, trivial, hl, fun j u hj => ?_, hR⟩
  have hcu := hc j u hj
  have hne : b' ≠ m := by
    rintro rfl
    obtain ⟨es, cl, he, _⟩ := k.own
    simp only [World.cell?, he] at hcu
    cases hcu
  exact (World.cell?_of_block (b.block b' (cell_lt hcu) hne)).trans hcu
theorem cells3t {W W' : World} {b : Nat} {v0 v1 v2 : Value} (c : ∀ (j : Nat) (v : Value), (#[v0, v1, v2] : Array Value)[j]? = some v → W.cell? ⟨b, j, none⟩ = some v) (h : W'.heap[b]? = W.heap[b]?) : W'.cell? ⟨b, 0, none⟩ = some v0 ∧ W'.cell? ⟨b, 1, none⟩ = some v1 ∧ W'.cell? ⟨b, 2, none⟩ = some v2 := by
  have q : ∀ (j : Nat) (v : Value), (#[v0, v1, v2] : Array Value)[j]? = some v → W'.cell? ⟨b, j, none⟩ = some v := fun j v hj => (World.cell?_of_block h).trans (c j v hj)
  exact ⟨q 0 _ rfl, q 1 _ rfl, q 2 _ rfl⟩
theorem add_parts (F : Fs) (s p : Nm) : (addE F s p = 0 ∧ addF F s p = upd F s (p, false)) ∨ (addE F s p ≠ 0 ∧ addF F s p = F) := by
  by_cases h : addE F s p = 0
  · exact .inl ⟨h, by rw [addF, if_pos h]⟩
  · exact .inr ⟨h, by rw [addF, if_neg h]⟩
theorem move_parts (F : Fs) (s p : Nm) (k : Nat) : (moveE F s p k = 0 ∧ moveF F s p k = upd F s (p, false)) ∨ (moveE F s p k ≠ 0 ∧ moveF F s p k = F) := by
  by_cases h : moveE F s p k = 0
  · exact .inl ⟨h, by rw [moveF, if_pos h]⟩
  · exact .inr ⟨h, by rw [moveF, if_neg h]⟩
theorem rm_parts (F : Fs) (s : Nm) (R : List Nm) : (rmE F s R = 0 ∧ rmF F s R = upd F s (parF F s, true)) ∨ (rmE F s R ≠ 0 ∧ rmF F s R = F) := by
  by_cases h : rmE F s R = 0
  · exact .inl ⟨h, by rw [rmF, if_pos h]⟩
  · exact .inr ⟨h, by rw [rmF, if_neg h]⟩
set_option maxHeartbeats 8000000 in
set_option maxRecDepth 100000 in
theorem walk_treeShape (w : World) (L : List TDo) (va : Value) (ha : Sl 3 rTDo (fun _ => True) w va L) : Calls Try.prog 4 #[va] w fun e w' => e = .returned (.bool true) ∧ Below w.heap.size w w' := by
  have hfew := Lib.hid (fun W (hW : Below w.heap.size w W) => few_any L va W (fun _ => True) (ha.keep rTDo_ok (by decide) (kept_of hW)))
  have HA := Lib.hid ha
  obtain ⟨A, c, rfl, hal, hac, han, has⟩ := ha
  unfold maxLen at hac
  cases hf : fewB L with
  | false =>
    rw [hf] at hfew
    clear hf
    go_enter Try.func4, Try.ntmps4
    go_wp2_with (first
      | (go_at_call 5; refine Calls.mono (awake_any _) ?_; rintro e w1 ⟨rfl, B1⟩)
      | (go_at_call 8; refine Calls.mono (add_nil _ _ _) ?_; rintro e w9 ⟨rfl, rfl⟩)
      | (go_at_call 10; refine Calls.mono (move_nil _ _ _) ?_; rintro e w9 ⟨rfl, rfl⟩)
      | (go_at_call 12; refine Calls.mono (remove_nil _ _) ?_; rintro e w9 ⟨rfl, rfl⟩)
      | (go_at_call 18; refine Calls.mono (has_nil _ _) ?_; rintro e w9 ⟨rfl, rfl⟩)
      | (go_at_call 20; refine Calls.mono (chain_nil _ _) ?_; rintro e w9 ⟨rfl, rfl⟩)
      | (go_at_call 22; refine Calls.mono (under_nil _ _) ?_; rintro e w2 ⟨rfl, B2⟩)
      | (go_at_call 24; refine Calls.mono (children_nil _) ?_; rintro e w3 ⟨rfl, B3⟩)
      | (go_at_call 26; refine Calls.mono (high_nil _ _) ?_; rintro e w4 ⟨rfl, B4⟩)
      | (go_at_call 6; refine Calls.mono (hfew.out _ (bel_call (bel_call (bel_call B1 B2) B3) B4)) ?_; rintro e w5 ⟨rfl, B5⟩))
    go_ret
    exact ⟨rfl, bel_call (bel_call (bel_call (bel_call B1 B2) B3) B4) B5⟩
  | true =>
    rw [hf] at hfew
    obtain ⟨hl40, hsh⟩ := fewB_yes hf
    have HSH := Lib.hid hsh
    clear hf hsh
    go_enter Try.func4, Try.ntmps4
    go_wp2_with (first
      | (go_at_call 5; refine Calls.mono (awake_any _) ?_; rintro e w1 ⟨rfl, B1⟩)
      | (go_at_call 8; refine Calls.mono (add_nil _ _ _) ?_; rintro e w9 ⟨rfl, rfl⟩)
      | (go_at_call 10; refine Calls.mono (move_nil _ _ _) ?_; rintro e w9 ⟨rfl, rfl⟩)
      | (go_at_call 12; refine Calls.mono (remove_nil _ _) ?_; rintro e w9 ⟨rfl, rfl⟩)
      | (go_at_call 18; refine Calls.mono (has_nil _ _) ?_; rintro e w9 ⟨rfl, rfl⟩)
      | (go_at_call 20; refine Calls.mono (chain_nil _ _) ?_; rintro e w9 ⟨rfl, rfl⟩)
      | (go_at_call 22; refine Calls.mono (under_nil _ _) ?_; rintro e w2 ⟨rfl, B2⟩)
      | (go_at_call 24; refine Calls.mono (children_nil _) ?_; rintro e w3 ⟨rfl, B3⟩)
      | (go_at_call 26; refine Calls.mono (high_nil _ _) ?_; rintro e w4 ⟨rfl, B4⟩)
      | (go_at_call 6; refine Calls.mono (hfew.out _ (bel_call (bel_call (bel_call B1 B2) B3) B4)) ?_; rintro e w5 ⟨rfl, B5⟩)
      | (go_at_call 7; refine Calls.mono (new_any _) ?_; rintro e w6 ⟨⟨t, m, rfl, hs, ht, hm, htl, hml⟩, B6⟩; have HS := Lib.hid hs; have HB5 := Lib.hid (bel_call (bel_call (bel_call (bel_call (bel_call B1 B2) B3) B4) B5) B6); have HTM : Hid (w.heap.size ≤ t ∧ w.heap.size ≤ m) := Lib.hid (by have h5 := (bel_call (bel_call (bel_call (bel_call B1 B2) B3) B4) B5).size; exact ⟨by omega, by omega⟩); clear hs ht hm htl hml B1 B2 B3 B4 B5 B6))
    clear hfew
    go_loopw [54] (fun i wr => ∃ (k n : Nat) (F : Fs), k ≤ L.length ∧ i = .int .i64 k ∧ n ≤ k ∧ Hid (Inv F ∧ Small F) ∧ Hid (∃ D, TreeS wr t m n D F) ∧ Hid (Below w.heap.size w wr)) (fun i _ => L.length - (RowKit.intOf i).toNat)
    case atStart => exact ⟨0, 0, fun _ => none, by omega, by go_num, by omega, ⟨Inv.start, Small.start⟩, ⟨.map [], HS.out⟩, HB5⟩
    case round =>
      clear HS HB5
      obtain ⟨k, n, F, hk, rfl, hn, HI, HT, HB⟩ := hrel
      obtain ⟨wq, hwq⟩ : ∃ q : World, q = wr := ⟨_, rfl⟩
      subst hwq
      by_cases hlt : k < L.length
      · obtain ⟨d, b, o, _, hdm, rfl, x0, x1, x2⟩ := get_TDo has hlt (kept_of HB.out)
        have hns : d.name.size ≤ 1000 := by have := (HSH.out d hdm).1; omega
        have hps : d.parent.size ≤ 1000 := by have := (HSH.out d hdm).2; omega
        obtain ⟨D, hts⟩ := HT.out
        have HS := Lib.hid (fun (W : World) (hW : Below wq.heap.size wq W) => hts.below hW)
        clear hdm hts HT
        generalize d.name = y at x1 hns
        generalize d.parent = p at x2 hps
        generalize d.kind = kd at x0

        by_cases k1 : kd = 1
        · rw [k1] at x0

          go_wp2_with fail
          obtain ⟨W, hW, cW, fW, BW, qW⟩ := boxed wq #[.int .i64 1, .string y, .string p] 33
          rw [hW]
          have CW := Lib.hid cW
          have HX1 := Lib.hid BW
          have HQ := Lib.hid (show wq.heap.size < W.heap.size from qW)
          clear x0 x1 x2 hW cW fW BW qW
          refine Calls.mono (chain_any (HS.out _ HX1.out) HI.out.1 HI.out.2.par y hns) ?_
          rintro e w1 ⟨⟨u1, rfl, S1⟩, b1⟩
          have HS1 := Lib.hid S1
          have HX2 := Lib.hid (bel_call HX1.out b1)
          have HD1 := Lib.hid (b1.block _ HQ.out)
          have HZW := Lib.hid b1.size
          clear S1 b1
          go_wp2_with fail
          refine Calls.mono (children_any (HS.out _ HX2.out) HI.out.1 HI.out.2 (by omega) Top (by decide)) ?_
          rintro e w2 ⟨⟨u2, R, rfl, S2, IN⟩, b2⟩
          have HSA := Lib.hid (HS1.out.keep (S' := fun _ => True) rStr_ok (by decide) (kept_of b2))
          have HSB := Lib.hid S2
          have HIN := Lib.hid IN
          have HX3 := Lib.hid (bel_call HX2.out b2)
          have HD2 := Lib.hid ((b2.block _ (Nat.lt_of_lt_of_le HQ.out HZW.out)).trans HD1.out)
          have HZW2 := Lib.hid (Nat.le_trans HZW.out b2.size)
          clear S2 IN b2 HS1 HD1
          obtain ⟨C0, C1, C2⟩ := cells3t CW.out HD2.out
          go_wp2_with fail
          refine Calls.mono (add_any (HS.out _ HX3.out) HI.out.1 HI.out.2 (by omega) y p hns hps) ?_
          rintro e w3 ⟨rfl, ⟨n3, D3, hn3, hs3⟩, hb3⟩
          have HK := Lib.hid (add_keeps HI.out.1 HI.out.2 hns hps)
          have HD3 := Lib.hid ((hb3.block _ (Nat.lt_of_lt_of_le HQ.out HZW2.out) (fun e9 => by have h9 := (HS.out _ (Below.refl _ _)).lt m (.inr rfl); omega)).trans HD2.out)
          have HQ3 := Lib.hid (Nat.lt_of_lt_of_le HQ.out (Nat.le_trans HZW2.out hb3.size))
          have HSA3 := Lib.hid (sl_butm HSA.out (HS.out _ HX3.out) hb3)
          have HSB3 := Lib.hid (sl_butm HSB.out (HS.out _ HX3.out) hb3)
          have HB3 := Lib.hid (ButB.below (bel_call HB.out HX3.out) (bel_call HB.out HX3.out).size (by rintro x rfl; exact HTM.out.2) hb3)
          have hn3' : n3 ≤ k + 1 := by omega
          clear hb3 hn3 C0 C1 C2 HSA HSB HX1 HX2 HX3 HD2 HS HB
          obtain ⟨C0, C1, C2⟩ := cells3t CW.out HD3.out
          rcases add_parts F y p with ⟨hz, hf⟩ | ⟨hz, hf⟩
          · rw [hz]
            rw [hf] at hs3 HK
            have HS4 := Lib.hid (fun (W : World) (hW : Below w3.heap.size w3 W) => hs3.below hW)
            have hlv : liveB (upd F y (p, false)) y = true := by rw [live_upd, if_pos rfl]; rfl
            have hpr : parF (upd F y (p, false)) y = p := by rw [par_upd, if_pos rfl]
            generalize hF' : upd F y (p, false) = F' at hlv hpr HK HS4
            clear hs3 hf hF' hz
            have HY1 := Lib.hid (Below.refl w3.heap.size w3)
            have hp := parent_any (HS4.out _ HY1.out) y hns
            rw [hlv, hpr, if_pos rfl] at hp
            have HP := Lib.hid hp
            clear hp hlv hpr
            go_wp2_with fail
            refine Calls.mono HP.out ?_
            rintro e w8 ⟨rfl, b8⟩
            have HY8 := Lib.hid (bel_call HY1.out b8)
            obtain ⟨C0, C1, C2⟩ := cells3t CW.out ((HY8.out.block _ HQ3.out).trans HD3.out)
            clear b8
            go_wp2_with fail
            refine Calls.mono (shape_any (HS4.out _ HY8.out) HK.out.1 HK.out.2 (by omega) L _ (fun _ => True) (HA.out.keep rTDo_ok (by decide) (kept_of (bel_call HB3.out HY8.out))) (fun d hd => (HSH.out d hd).1)) ?_
            rintro e w9 ⟨rfl, b9⟩
            have HY9 := Lib.hid (bel_call HY8.out b9)
            clear b9
            go_wp2_with fail
            go_roundw
            case rel => exact ⟨k + 1, n3, _, by omega, by go_num, hn3', HK, ⟨D3, HS4.out _ HY9.out⟩, bel_call HB3.out HY9.out⟩
            case measure => simp [RowKit.intOf]; omega
          · rw [hf] at hs3 HK
            have HS4 := Lib.hid (fun (W : World) (hW : Below w3.heap.size w3 W) => hs3.below hW)
            generalize addE F y p = z at hz
            clear hs3 hf
            have HY1 := Lib.hid (Below.refl w3.heap.size w3)
            go_wp2_with fail
            refine Calls.mono (chain_any (HS4.out _ HY1.out) HK.out.1 HK.out.2.par y hns) ?_
            rintro e w4 ⟨⟨u4, rfl, S4⟩, b4⟩
            have HY2 := Lib.hid (bel_call HY1.out b4)
            have HSC := Lib.hid S4
            have HSA4 := Lib.hid (HSA3.out.keep (S' := fun _ => True) rStr_ok (by decide) (kept_of HY2.out))
            clear S4 b4
            go_wp2_with fail
            refine Calls.mono (same_any _ _ _ _ w4 (fun _ => True) (fun _ => True) HSC.out HSA4.out rfl) ?_
            rintro e w5 ⟨rfl, b5⟩
            have HY3 := Lib.hid (bel_call HY2.out b5)
            clear b5 HSC HSA4
            go_wp2_with fail
            refine Calls.mono (children_any (HS4.out _ HY3.out) HK.out.1 HK.out.2 (by omega) Top (by decide)) ?_
            rintro e w6 ⟨⟨u6, R6, rfl, S6, IN6⟩, b6⟩
            obtain rfl := IsNames.ext IN6 HIN.out (fun x => Iff.rfl)
            have HY4 := Lib.hid (bel_call HY3.out b6)
            have HSC := Lib.hid S6
            have HSB4 := Lib.hid (HSB3.out.keep (S' := fun _ => True) rStr_ok (by decide) (kept_of HY4.out))
            clear S6 b6 IN6
            go_wp2_with fail
            refine Calls.mono (same_any _ _ _ _ w6 (fun _ => True) (fun _ => True) HSC.out HSB4.out rfl) ?_
            rintro e w7 ⟨rfl, b7⟩
            have HY5 := Lib.hid (bel_call HY4.out b7)
            clear b7 HSC HSB4 HY1 HY2 HY3 HY4
            have hp := parent_any (HS4.out _ HY5.out) y hns
            generalize (if liveB F y then parF F y else Top) = pp at hp
            generalize liveB F y = lv at hp
            have HP := Lib.hid hp
            clear hp C0 C1 C2
            obtain ⟨C0, C1, C2⟩ := cells3t CW.out ((HY5.out.block _ HQ3.out).trans HD3.out)
            go_wp2_with fail
            refine Calls.mono HP.out ?_
            rintro e w8 ⟨rfl, b8⟩
            have HY8 := Lib.hid (bel_call HY5.out b8)
            obtain ⟨C0, C1, C2⟩ := cells3t CW.out ((HY8.out.block _ HQ3.out).trans HD3.out)
            clear b8
            go_wp2_with fail
            refine Calls.mono (shape_any (HS4.out _ HY8.out) HK.out.1 HK.out.2 (by omega) L _ (fun _ => True) (HA.out.keep rTDo_ok (by decide) (kept_of (bel_call HB3.out HY8.out))) (fun d hd => (HSH.out d hd).1)) ?_
            rintro e w9 ⟨rfl, b9⟩
            have HY9 := Lib.hid (bel_call HY8.out b9)
            clear b9
            go_wp2_with fail
            go_roundw
            case rel => exact ⟨k + 1, n3, _, by omega, by go_num, hn3', HK, ⟨D3, HS4.out _ HY9.out⟩, bel_call HB3.out HY9.out⟩
            case measure => simp [RowKit.intOf]; omega
        · skip
          by_cases k2 : kd = 2
          · rw [k2] at x0

            go_wp2_with fail
            obtain ⟨W, hW, cW, fW, BW, qW⟩ := boxed wq #[.int .i64 2, .string y, .string p] 33
            rw [hW]
            have CW := Lib.hid cW
            have HX1 := Lib.hid BW
            have HQ := Lib.hid (show wq.heap.size < W.heap.size from qW)
            clear x0 x1 x2 hW cW fW BW qW
            refine Calls.mono (chain_any (HS.out _ HX1.out) HI.out.1 HI.out.2.par y hns) ?_
            rintro e w1 ⟨⟨u1, rfl, S1⟩, b1⟩
            have HS1 := Lib.hid S1
            have HX2 := Lib.hid (bel_call HX1.out b1)
            have HD1 := Lib.hid (b1.block _ HQ.out)
            have HZW := Lib.hid b1.size
            clear S1 b1
            go_wp2_with fail
            refine Calls.mono (children_any (HS.out _ HX2.out) HI.out.1 HI.out.2 (by omega) Top (by decide)) ?_
            rintro e w2 ⟨⟨u2, R, rfl, S2, IN⟩, b2⟩
            have HSA := Lib.hid (HS1.out.keep (S' := fun _ => True) rStr_ok (by decide) (kept_of b2))
            have HSB := Lib.hid S2
            have HIN := Lib.hid IN
            have HX3 := Lib.hid (bel_call HX2.out b2)
            have HD2 := Lib.hid ((b2.block _ (Nat.lt_of_lt_of_le HQ.out HZW.out)).trans HD1.out)
            have HZW2 := Lib.hid (Nat.le_trans HZW.out b2.size)
            clear S2 IN b2 HS1 HD1
            obtain ⟨C0, C1, C2⟩ := cells3t CW.out HD2.out
            go_wp2_with fail
            refine Calls.mono (move_any (HS.out _ HX3.out) HI.out.1 HI.out.2 (by omega) y p hns hps) ?_
            rintro e w3 ⟨k3, rfl, hk3, ⟨n3, D3, hn3, hs3⟩, hb3⟩
            have HK := Lib.hid (move_keeps HI.out.1 HI.out.2 hk3 hns hps)
            clear hk3
            have HD3 := Lib.hid ((hb3.block _ (Nat.lt_of_lt_of_le HQ.out HZW2.out) (fun e9 => by have h9 := (HS.out _ (Below.refl _ _)).lt m (.inr rfl); omega)).trans HD2.out)
            have HQ3 := Lib.hid (Nat.lt_of_lt_of_le HQ.out (Nat.le_trans HZW2.out hb3.size))
            have HSA3 := Lib.hid (sl_butm HSA.out (HS.out _ HX3.out) hb3)
            have HSB3 := Lib.hid (sl_butm HSB.out (HS.out _ HX3.out) hb3)
            have HB3 := Lib.hid (ButB.below (bel_call HB.out HX3.out) (bel_call HB.out HX3.out).size (by rintro x rfl; exact HTM.out.2) hb3)
            have hn3' : n3 ≤ k + 1 := by omega
            clear hb3 hn3 C0 C1 C2 HSA HSB HX1 HX2 HX3 HD2 HS HB
            obtain ⟨C0, C1, C2⟩ := cells3t CW.out HD3.out
            rcases move_parts F y p k3 with ⟨hz, hf⟩ | ⟨hz, hf⟩
            · rw [hz]
              rw [hf] at hs3 HK
              have HS4 := Lib.hid (fun (W : World) (hW : Below w3.heap.size w3 W) => hs3.below hW)
              have hlv : liveB (upd F y (p, false)) y = true := by rw [live_upd, if_pos rfl]; rfl
              have hpr : parF (upd F y (p, false)) y = p := by rw [par_upd, if_pos rfl]
              generalize hF' : upd F y (p, false) = F' at hlv hpr HK HS4
              clear hs3 hf hF' hz
              have HY1 := Lib.hid (Below.refl w3.heap.size w3)
              have hp := parent_any (HS4.out _ HY1.out) y hns
              rw [hlv, hpr, if_pos rfl] at hp
              have HP := Lib.hid hp
              clear hp hlv hpr
              go_wp2_with fail
              refine Calls.mono HP.out ?_
              rintro e w8 ⟨rfl, b8⟩
              have HY8 := Lib.hid (bel_call HY1.out b8)
              obtain ⟨C0, C1, C2⟩ := cells3t CW.out ((HY8.out.block _ HQ3.out).trans HD3.out)
              clear b8
              go_wp2_with fail
              refine Calls.mono (shape_any (HS4.out _ HY8.out) HK.out.1 HK.out.2 (by omega) L _ (fun _ => True) (HA.out.keep rTDo_ok (by decide) (kept_of (bel_call HB3.out HY8.out))) (fun d hd => (HSH.out d hd).1)) ?_
              rintro e w9 ⟨rfl, b9⟩
              have HY9 := Lib.hid (bel_call HY8.out b9)
              clear b9
              go_wp2_with fail
              go_roundw
              case rel => exact ⟨k + 1, n3, _, by omega, by go_num, hn3', HK, ⟨D3, HS4.out _ HY9.out⟩, bel_call HB3.out HY9.out⟩
              case measure => simp [RowKit.intOf]; omega
            · rw [hf] at hs3 HK
              have HS4 := Lib.hid (fun (W : World) (hW : Below w3.heap.size w3 W) => hs3.below hW)
              generalize moveE F y p k3 = z at hz
              clear hs3 hf
              have HY1 := Lib.hid (Below.refl w3.heap.size w3)
              go_wp2_with fail
              refine Calls.mono (chain_any (HS4.out _ HY1.out) HK.out.1 HK.out.2.par y hns) ?_
              rintro e w4 ⟨⟨u4, rfl, S4⟩, b4⟩
              have HY2 := Lib.hid (bel_call HY1.out b4)
              have HSC := Lib.hid S4
              have HSA4 := Lib.hid (HSA3.out.keep (S' := fun _ => True) rStr_ok (by decide) (kept_of HY2.out))
              clear S4 b4
              go_wp2_with fail
              refine Calls.mono (same_any _ _ _ _ w4 (fun _ => True) (fun _ => True) HSC.out HSA4.out rfl) ?_
              rintro e w5 ⟨rfl, b5⟩
              have HY3 := Lib.hid (bel_call HY2.out b5)
              clear b5 HSC HSA4
              go_wp2_with fail
              refine Calls.mono (children_any (HS4.out _ HY3.out) HK.out.1 HK.out.2 (by omega) Top (by decide)) ?_
              rintro e w6 ⟨⟨u6, R6, rfl, S6, IN6⟩, b6⟩
              obtain rfl := IsNames.ext IN6 HIN.out (fun x => Iff.rfl)
              have HY4 := Lib.hid (bel_call HY3.out b6)
              have HSC := Lib.hid S6
              have HSB4 := Lib.hid (HSB3.out.keep (S' := fun _ => True) rStr_ok (by decide) (kept_of HY4.out))
              clear S6 b6 IN6
              go_wp2_with fail
              refine Calls.mono (same_any _ _ _ _ w6 (fun _ => True) (fun _ => True) HSC.out HSB4.out rfl) ?_
              rintro e w7 ⟨rfl, b7⟩
              have HY5 := Lib.hid (bel_call HY4.out b7)
              clear b7 HSC HSB4 HY1 HY2 HY3 HY4
              have hp := parent_any (HS4.out _ HY5.out) y hns
              generalize (if liveB F y then parF F y else Top) = pp at hp
              generalize liveB F y = lv at hp
              have HP := Lib.hid hp
              clear hp C0 C1 C2
              obtain ⟨C0, C1, C2⟩ := cells3t CW.out ((HY5.out.block _ HQ3.out).trans HD3.out)
              go_wp2_with fail
              refine Calls.mono HP.out ?_
              rintro e w8 ⟨rfl, b8⟩
              have HY8 := Lib.hid (bel_call HY5.out b8)
              obtain ⟨C0, C1, C2⟩ := cells3t CW.out ((HY8.out.block _ HQ3.out).trans HD3.out)
              clear b8
              go_wp2_with fail
              refine Calls.mono (shape_any (HS4.out _ HY8.out) HK.out.1 HK.out.2 (by omega) L _ (fun _ => True) (HA.out.keep rTDo_ok (by decide) (kept_of (bel_call HB3.out HY8.out))) (fun d hd => (HSH.out d hd).1)) ?_
              rintro e w9 ⟨rfl, b9⟩
              have HY9 := Lib.hid (bel_call HY8.out b9)
              clear b9
              go_wp2_with fail
              go_roundw
              case rel => exact ⟨k + 1, n3, _, by omega, by go_num, hn3', HK, ⟨D3, HS4.out _ HY9.out⟩, bel_call HB3.out HY9.out⟩
              case measure => simp [RowKit.intOf]; omega
          · skip
            by_cases k3 : kd = 3
            · rw [k3] at x0

              go_wp2_with fail
              obtain ⟨W, hW, cW, fW, BW, qW⟩ := boxed wq #[.int .i64 3, .string y, .string p] 33
              rw [hW]
              have CW := Lib.hid cW
              have HX1 := Lib.hid BW
              have HQ := Lib.hid (show wq.heap.size < W.heap.size from qW)
              clear x0 x1 x2 hW cW fW BW qW
              refine Calls.mono (chain_any (HS.out _ HX1.out) HI.out.1 HI.out.2.par y hns) ?_
              rintro e w1 ⟨⟨u1, rfl, S1⟩, b1⟩
              have HS1 := Lib.hid S1
              have HX2 := Lib.hid (bel_call HX1.out b1)
              have HD1 := Lib.hid (b1.block _ HQ.out)
              have HZW := Lib.hid b1.size
              clear S1 b1
              go_wp2_with fail
              refine Calls.mono (children_any (HS.out _ HX2.out) HI.out.1 HI.out.2 (by omega) Top (by decide)) ?_
              rintro e w2 ⟨⟨u2, R, rfl, S2, IN⟩, b2⟩
              have HSA := Lib.hid (HS1.out.keep (S' := fun _ => True) rStr_ok (by decide) (kept_of b2))
              have HSB := Lib.hid S2
              have HIN := Lib.hid IN
              have HX3 := Lib.hid (bel_call HX2.out b2)
              have HD2 := Lib.hid ((b2.block _ (Nat.lt_of_lt_of_le HQ.out HZW.out)).trans HD1.out)
              have HZW2 := Lib.hid (Nat.le_trans HZW.out b2.size)
              clear S2 IN b2 HS1 HD1
              obtain ⟨C0, C1, C2⟩ := cells3t CW.out HD2.out
              go_wp2_with fail
              refine Calls.mono (remove_any (HS.out _ HX3.out) HI.out.1 HI.out.2 (by omega) y hns) ?_
              rintro e w3 ⟨k3, rfl, hk3, ⟨n3, D3, hn3, hs3⟩, hb3⟩
              have HK := Lib.hid (rm_keeps HI.out.1 HI.out.2 hk3 hns)
              clear hk3
              have HD3 := Lib.hid ((hb3.block _ (Nat.lt_of_lt_of_le HQ.out HZW2.out) (fun e9 => by have h9 := (HS.out _ (Below.refl _ _)).lt m (.inr rfl); omega)).trans HD2.out)
              have HQ3 := Lib.hid (Nat.lt_of_lt_of_le HQ.out (Nat.le_trans HZW2.out hb3.size))
              have HSA3 := Lib.hid (sl_butm HSA.out (HS.out _ HX3.out) hb3)
              have HSB3 := Lib.hid (sl_butm HSB.out (HS.out _ HX3.out) hb3)
              have HB3 := Lib.hid (ButB.below (bel_call HB.out HX3.out) (bel_call HB.out HX3.out).size (by rintro x rfl; exact HTM.out.2) hb3)
              have hn3' : n3 ≤ k + 1 := by omega
              clear hb3 hn3 C0 C1 C2 HSA HSB HX1 HX2 HX3 HD2 HS HB
              obtain ⟨C0, C1, C2⟩ := cells3t CW.out HD3.out
              rcases rm_parts F y k3 with ⟨hz, hf⟩ | ⟨hz, hf⟩
              · rw [hz]
                rw [hf] at hs3 HK
                have HS4 := Lib.hid (fun (W : World) (hW : Below w3.heap.size w3 W) => hs3.below hW)
                have hlv : liveB (upd F y (parF F y, true)) y = false := by rw [live_upd, if_pos rfl]; rfl
                have hpr : parF (upd F y (parF F y, true)) y = parF F y := by rw [par_upd, if_pos rfl]
                generalize hF' : upd F y (parF F y, true) = F' at hlv hpr HK HS4
                clear hs3 hf hF' hz
                have HY1 := Lib.hid (Below.refl w3.heap.size w3)
                have hp := parent_any (HS4.out _ HY1.out) y hns
                rw [hlv, if_neg (by decide)] at hp
                have HP := Lib.hid hp
                clear hp hlv hpr
                go_wp2_with fail
                refine Calls.mono HP.out ?_
                rintro e w8 ⟨rfl, b8⟩
                have HY8 := Lib.hid (bel_call HY1.out b8)
                obtain ⟨C0, C1, C2⟩ := cells3t CW.out ((HY8.out.block _ HQ3.out).trans HD3.out)
                clear b8
                go_wp2_with fail
                refine Calls.mono (shape_any (HS4.out _ HY8.out) HK.out.1 HK.out.2 (by omega) L _ (fun _ => True) (HA.out.keep rTDo_ok (by decide) (kept_of (bel_call HB3.out HY8.out))) (fun d hd => (HSH.out d hd).1)) ?_
                rintro e w9 ⟨rfl, b9⟩
                have HY9 := Lib.hid (bel_call HY8.out b9)
                clear b9
                go_wp2_with fail
                go_roundw
                case rel => exact ⟨k + 1, n3, _, by omega, by go_num, hn3', HK, ⟨D3, HS4.out _ HY9.out⟩, bel_call HB3.out HY9.out⟩
                case measure => simp [RowKit.intOf]; omega
              · rw [hf] at hs3 HK
                have HS4 := Lib.hid (fun (W : World) (hW : Below w3.heap.size w3 W) => hs3.below hW)
                generalize rmE F y k3 = z at hz
                clear hs3 hf
                have HY1 := Lib.hid (Below.refl w3.heap.size w3)
                go_wp2_with fail
                refine Calls.mono (chain_any (HS4.out _ HY1.out) HK.out.1 HK.out.2.par y hns) ?_
                rintro e w4 ⟨⟨u4, rfl, S4⟩, b4⟩
                have HY2 := Lib.hid (bel_call HY1.out b4)
                have HSC := Lib.hid S4
                have HSA4 := Lib.hid (HSA3.out.keep (S' := fun _ => True) rStr_ok (by decide) (kept_of HY2.out))
                clear S4 b4
                go_wp2_with fail
                refine Calls.mono (same_any _ _ _ _ w4 (fun _ => True) (fun _ => True) HSC.out HSA4.out rfl) ?_
                rintro e w5 ⟨rfl, b5⟩
                have HY3 := Lib.hid (bel_call HY2.out b5)
                clear b5 HSC HSA4
                go_wp2_with fail
                refine Calls.mono (children_any (HS4.out _ HY3.out) HK.out.1 HK.out.2 (by omega) Top (by decide)) ?_
                rintro e w6 ⟨⟨u6, R6, rfl, S6, IN6⟩, b6⟩
                obtain rfl := IsNames.ext IN6 HIN.out (fun x => Iff.rfl)
                have HY4 := Lib.hid (bel_call HY3.out b6)
                have HSC := Lib.hid S6
                have HSB4 := Lib.hid (HSB3.out.keep (S' := fun _ => True) rStr_ok (by decide) (kept_of HY4.out))
                clear S6 b6 IN6
                go_wp2_with fail
                refine Calls.mono (same_any _ _ _ _ w6 (fun _ => True) (fun _ => True) HSC.out HSB4.out rfl) ?_
                rintro e w7 ⟨rfl, b7⟩
                have HY5 := Lib.hid (bel_call HY4.out b7)
                clear b7 HSC HSB4 HY1 HY2 HY3 HY4
                have hp := parent_any (HS4.out _ HY5.out) y hns
                generalize (if liveB F y then parF F y else Top) = pp at hp
                generalize liveB F y = lv at hp
                have HP := Lib.hid hp
                clear hp C0 C1 C2
                obtain ⟨C0, C1, C2⟩ := cells3t CW.out ((HY5.out.block _ HQ3.out).trans HD3.out)
                go_wp2_with fail
                refine Calls.mono HP.out ?_
                rintro e w8 ⟨rfl, b8⟩
                have HY8 := Lib.hid (bel_call HY5.out b8)
                obtain ⟨C0, C1, C2⟩ := cells3t CW.out ((HY8.out.block _ HQ3.out).trans HD3.out)
                clear b8
                go_wp2_with fail
                refine Calls.mono (shape_any (HS4.out _ HY8.out) HK.out.1 HK.out.2 (by omega) L _ (fun _ => True) (HA.out.keep rTDo_ok (by decide) (kept_of (bel_call HB3.out HY8.out))) (fun d hd => (HSH.out d hd).1)) ?_
                rintro e w9 ⟨rfl, b9⟩
                have HY9 := Lib.hid (bel_call HY8.out b9)
                clear b9
                go_wp2_with fail
                go_roundw
                case rel => exact ⟨k + 1, n3, _, by omega, by go_num, hn3', HK, ⟨D3, HS4.out _ HY9.out⟩, bel_call HB3.out HY9.out⟩
                case measure => simp [RowKit.intOf]; omega
            · skip
              go_wp2_with fail
              obtain ⟨W, hW, cW, fW, BW, qW⟩ := boxed wq #[.int .i64 kd, .string y, .string p] 33
              rw [hW]
              have CW := Lib.hid cW
              have HX1 := Lib.hid BW
              have HQ := Lib.hid (show wq.heap.size < W.heap.size from qW)
              clear x0 x1 x2 hW cW fW BW qW
              refine Calls.mono (chain_any (HS.out _ HX1.out) HI.out.1 HI.out.2.par y hns) ?_
              rintro e w1 ⟨⟨u1, rfl, S1⟩, b1⟩
              have HS1 := Lib.hid S1
              have HX2 := Lib.hid (bel_call HX1.out b1)
              have HD1 := Lib.hid (b1.block _ HQ.out)
              have HZW := Lib.hid b1.size
              clear S1 b1
              go_wp2_with fail
              refine Calls.mono (children_any (HS.out _ HX2.out) HI.out.1 HI.out.2 (by omega) Top (by decide)) ?_
              rintro e w2 ⟨⟨u2, R, rfl, S2, IN⟩, b2⟩
              have HSA := Lib.hid (HS1.out.keep (S' := fun _ => True) rStr_ok (by decide) (kept_of b2))
              have HSB := Lib.hid S2
              have HIN := Lib.hid IN
              have HX3 := Lib.hid (bel_call HX2.out b2)
              have HD2 := Lib.hid ((b2.block _ (Nat.lt_of_lt_of_le HQ.out HZW.out)).trans HD1.out)
              have HZW2 := Lib.hid (Nat.le_trans HZW.out b2.size)
              clear S2 IN b2 HS1 HD1
              obtain ⟨C0, C1, C2⟩ := cells3t CW.out HD2.out
              go_wp2_with fail
              go_roundw
              case rel => exact ⟨k + 1, n, F, by omega, by go_num, by omega, HI, ⟨D, HS.out _ HX3.out⟩, bel_call HB.out HX3.out⟩
              case measure => simp [RowKit.intOf]; omega
      · obtain rfl : k = L.length := by omega
        go_wp2
        go_ret
        exact ⟨rfl, HB.out⟩
set_option maxRecDepth 100000 in
theorem lifted_treeShape (os : Os) (started : os.Started) (H : Type) (enc : TypeId × Value → H) :
    ReturnsInHanded {} Try.checked os 4 .any (Rows.treeShapeSpec.pre6 enc Try.prog Try.f4 Rows.treeShapeRow.domain false) (Rows.treeShapeSpec.post enc Try.prog Try.f4 false true false false) := by
  refine returnsInHanded_of_change_sized (C := Try.checked) law_own started (by kernel_rfl) Try.func4
    (ChangeSpec.witness6 (enc := enc) (C := Try.checked) false ⟨#[], #[.slice none 0 0], []⟩ 8 (by kernel_rfl) (by kernel_rfl) (by kernel_rfl) (by kernel_rfl)) ?_
  intro W base args ds gs before hval0 hW hcnd hsz0 _
  have hval : ∀ (j : Nat) t v, Try.f4.params[j]? = some t → args[j]? = some v → Value.okWide Try.prog W .any base t v := hval0
  have hW' := hW
  obtain ⟨p, q, hA0, hV, rfl, hfz, hnd⟩ := hW
  have hA : DataW.TrodAll enc Try.prog W 0 (fun _ => true) true Try.f4.params.toList args.toList ds p := hA0
  rw [Try.params4] at hA hval
  obtain ⟨v0, vs0, d0, ds0, p0, q0, hargs, rfl, rfl, h0, r0⟩ := trodAll_cons hA
  obtain ⟨rfl, rfl, rfl⟩ := trodAll_nil r0
  obtain rfl : args = #[v0] := by cases args; simp_all
  obtain ⟨rfl, rfl⟩ := trodVars_none hV
  clear hargs
  obtain ⟨fu0, hf0⟩ := h0
  obtain ⟨a0, hx0⟩ := rdv_sl Try.underlying22 (rd_slice Try.underlying22 (by kernel_rfl) (of_decide_eq_true (by kernel_rfl)) (by decide) rdTDo (rTDo_ok).len) (hval 0 22 v0 rfl rfl) hf0 (fun q hq => by simpa using List.all_eq_true.1 hsz0 q (DataW.weights_mem_each (j := 0) rfl rfl q hq))
  refine (walk_treeShape W a0 _ hx0).mono fun e W' ⟨he, hg⟩ => ?_
  subst he
  exact ⟨_, rfl, law_post hW' rfl rfl rfl Try.underlying4 law_laid (by kernel_rfl) hg⟩

theorem treeShape_holds : Rows.TreeShapeSaid :=
  OpenClaim.holds_of_wide 4 Try.f4 rfl rfl rfl rfl rfl rfl rfl ⟨rfl, rfl, rfl, rfl, rfl⟩ rfl rfl rfl rfl rfl (by kernel_rfl) Try.func4 (by kernel_rfl)
    (of_decide_eq_true (by kernel_rfl)) (by unfold Func.isWrapper; first | (rw [if_pos (by decide +kernel)]; kernel_rfl) | (rw [if_neg (by decide +kernel)]; exact ⟨rfl, rfl⟩))
    (fun os started H enc _ => lifted_treeShape os started H enc)
end Go.Proofs.Ythcmlakifdoneaa
