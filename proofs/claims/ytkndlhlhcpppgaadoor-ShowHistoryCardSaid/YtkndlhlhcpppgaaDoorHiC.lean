/- Layer show: the document's History. Conditions: at most twenty versions, each written by a user of at most twenty bytes. -/
import Derived.Test.YtkndlhlhcpppgaaDoorHiB
namespace Go.Proofs.YtkndlhlhcpppgaaDoor
open Go.RowKit Go.Deep

theorem refnum_b (n : Int) (hn : I64 n) (w : World) : Calls Tryd.prog 22 #[.int .i64 n] w fun e w' => e = .returned (.string (itoaS n)) ∧ Below w.heap.size w w' :=
  (refnum_any n hn w).mono fun _ _ ⟨h, k⟩ => ⟨h, k ▸ Below.refl _ _⟩
set_option maxHeartbeats 2000000 in
theorem refhistory_any (l : List Past) (hl20 : l.length ≤ 20) (hby : ∀ p ∈ l, I64 p.number ∧ I64 p.epoch ∧ p.who.size ≤ 20) (v : Value) (w : World) (S : Nat → Prop) (h : Sl 4 rPast S w v l) :
    Calls Tryd.prog 13 #[v] w fun e w' => (∃ u, e = .returned u ∧ Sl 1 rStr (fun _ => True) w' u (tableOf (histRows l))) ∧ Below w.heap.size w w' := by
  obtain ⟨A, cp, rfl, hl, hcp, hn, hs⟩ := h
  unfold maxLen at hcp
  have HB := Lib.hid hby
  clear hby
  obtain ⟨irow, hirow, hzrow, h1row, h2row⟩ := info_parts (show (Tryd.prog.info? 25).map (fun i => (i.zero, i.size, i.bytes)) = some (some (.slice none 0 0), 1, 24) from by kernel_rfl)
  go_enter Tryd.func13, Tryd.ntmps13
  go_wp2
  go_loopw [3, 4] (fun v3 i wr => ∃ k : Nat, k ≤ l.length ∧ i = .int .i64 k ∧ Hid (Grow 25 1 rRow (fun _ => False) wr w.heap.size v3 (histRows (l.take k))) ∧ Below w.heap.size w wr) (fun _ i _ => l.length - (intOf i).toNat)
  case atStart =>
    refine ⟨0, by omega, by go_num, ?_, by go_grown⟩
    exact Grow.one rRow_ok (x := headRow) (blk_alloc_new _ (by simp)) (by simp) rfl ⟨_, rfl, sl_three (blk_alloc_old _ (heap_alloc_new w _)) ⟨by simp; omega, fun h => h, by simp [Value.ownBlock]⟩ (by decide) (by decide) (by decide)⟩
  case round =>
    obtain ⟨k, hk, rfl, HG, hbel⟩ := hrel
    obtain ⟨A0, n0, c0, rfl, hn0⟩ := HG.out.shape'
    have HN := Lib.hid hn0
    clear hn0
    have hzb := hbel.size
    by_cases hlt : k < l.length
    · obtain ⟨x, b, o, hx, _, hm, rfl, hb, _, x0, x1, x2, x3, _, hn1, hn2, hz⟩ := get_Past hs hlt (kept_of hbel)
      have HT := Lib.hid (show histRows (l.take (k + 1)) = histRows (l.take k) ++ [pastRow x] by rw [histRows, histRows, List.take_add_one, hx, List.map_append]; rfl)
      have hby := (HB.out x hm).2.2
      obtain ⟨num, ep, gone, who⟩ := x
      dsimp only at x0 x1 x2 x3 hn1 hn2 hz hby
      clear hx hm
      cases gone with
      | true =>
        go_wp2_with fail
        have hbl := HG.out.base_le
        have k0 : ∀ W, wr.grownBy W (Value.slice A0 n0 c0).ownBlock → W.cell? ⟨b, o + k * 4, none⟩ = some (.int .i64 num) := fun W hW => (gb_cell hW (by omega) (fun e => by have := (hbl _ e).1; omega)).trans x0
        have k1 : ∀ W, wr.grownBy W (Value.slice A0 n0 c0).ownBlock → W.cell? ⟨b, o + k * 4 + 1, none⟩ = some (.int .i64 ep) := fun W hW => (gb_cell hW (by omega) (fun e => by have := (hbl _ e).1; omega)).trans x1
        have BW : ∀ W, wr.grownBy W (Value.slice A0 n0 c0).ownBlock → Below w.heap.size w W := fun W hW => Below.grown hbel hW (by omega) fun b hb => (hbl b hb).1
        have ca := fun W => refnum_b num hn1 W
        have cb := fun W => refnum_b ep hn2 W
        have hkl : (k : Int) < (l.length : Int) := by omega
        have HBW := Lib.hid BW
        have HL9 := Lib.hid (show (histRows (l.take k)).length ≤ 1000 by rw [histRows, List.length_cons, List.length_map, List.length_take]; omega)
        have s1 := itoaS_size num hn1
        have s2 := itoaS_size ep hn2
        have s3 : (who ++ { data := #[32, 40, 103, 111, 110, 101, 41] } : ByteArray).size ≤ 1000 := by rw [ByteArray.size_append]; show _ + 7 ≤ _; omega
        have GX : ∀ X, Below wr.heap.size wr X → Grow 25 1 rRow (fun _ => False) X w.heap.size (.slice A0 n0 c0) (histRows (l.take k)) := fun X hX => HG.out.below rRow_ok hX
        have HGX := Lib.hid GX
        clear BW GX hbl
        go_region_held3 (fun W => wr.grownBy W (Value.slice A0 n0 c0).ownBlock) (first | assumption | exact gb_alloc (by assumption) _ | exact gb_drew (by assumption) | exact gb_drew gb_refl | exact gb_refl | exact gb_call (by assumption) (by assumption)) (first
          | (go_at_call_of 22 num; refine Calls.mono (ca _) ?_; rintro e wA ⟨rfl, hA⟩; have hA' := bel_call (w := wr) (by first | assumption | exact (Below.refl _ _).drew | exact Below.refl _ _ | exact Below.drew (by assumption)) hA)
          | (go_at_call_of 22 ep; refine Calls.mono (cb _) ?_; rintro e wC ⟨rfl, hC⟩; have hC' := bel_call (w := wr) (by first | assumption | exact (Below.refl _ _).drew | exact Below.refl _ _ | exact Below.drew (by assumption)) hC)
          | (refine step_row rfl (.tmp 26) (.tmp 41) rfl _ (itoaS num) (itoaS ep) _ w.heap.size (.slice A0 n0 c0) _ rfl (HGX.out _ (by assumption)) (by have := hbel.size; have := Below.size (by assumption : Below wr.heap.size wr _); omega) rfl (by omega) (by omega) (by omega) HL9.out ?_; intro v1 w5 g1 gg1; have GB5 := grown_trans (gb_below (by assumption : Below wr.heap.size wr _)) gg1; have G5 := Lib.hid g1; clear g1 gg1))
        go_wp2
        go_roundw
        case rel =>
          refine ⟨k + 1, by omega, by go_num, ?_, HBW.out _ GB5⟩
          show Grow _ _ _ _ _ _ _ _
          rw [HT.out]
          exact G5.out
        case measure => simp [intOf]; omega
      | false =>
        go_wp2_with fail
        have hbl := HG.out.base_le
        have k0 : ∀ W, wr.grownBy W (Value.slice A0 n0 c0).ownBlock → W.cell? ⟨b, o + k * 4, none⟩ = some (.int .i64 num) := fun W hW => (gb_cell hW (by omega) (fun e => by have := (hbl _ e).1; omega)).trans x0
        have k1 : ∀ W, wr.grownBy W (Value.slice A0 n0 c0).ownBlock → W.cell? ⟨b, o + k * 4 + 1, none⟩ = some (.int .i64 ep) := fun W hW => (gb_cell hW (by omega) (fun e => by have := (hbl _ e).1; omega)).trans x1
        have BW : ∀ W, wr.grownBy W (Value.slice A0 n0 c0).ownBlock → Below w.heap.size w W := fun W hW => Below.grown hbel hW (by omega) fun b hb => (hbl b hb).1
        have ca := fun W => refnum_b num hn1 W
        have cb := fun W => refnum_b ep hn2 W
        have hkl : (k : Int) < (l.length : Int) := by omega
        have HBW := Lib.hid BW
        have HL9 := Lib.hid (show (histRows (l.take k)).length ≤ 1000 by rw [histRows, List.length_cons, List.length_map, List.length_take]; omega)
        have s1 := itoaS_size num hn1
        have s2 := itoaS_size ep hn2
        have s3 : who.size ≤ 1000 := by omega
        have GX : ∀ X, Below wr.heap.size wr X → Grow 25 1 rRow (fun _ => False) X w.heap.size (.slice A0 n0 c0) (histRows (l.take k)) := fun X hX => HG.out.below rRow_ok hX
        have HGX := Lib.hid GX
        clear BW GX hbl
        go_region_held3 (fun W => wr.grownBy W (Value.slice A0 n0 c0).ownBlock) (first | assumption | exact gb_alloc (by assumption) _ | exact gb_drew (by assumption) | exact gb_drew gb_refl | exact gb_refl | exact gb_call (by assumption) (by assumption)) (first
          | (go_at_call_of 22 num; refine Calls.mono (ca _) ?_; rintro e wA ⟨rfl, hA⟩; have hA' := bel_call (w := wr) (by first | assumption | exact (Below.refl _ _).drew | exact Below.refl _ _ | exact Below.drew (by assumption)) hA)
          | (go_at_call_of 22 ep; refine Calls.mono (cb _) ?_; rintro e wC ⟨rfl, hC⟩; have hC' := bel_call (w := wr) (by first | assumption | exact (Below.refl _ _).drew | exact Below.refl _ _ | exact Below.drew (by assumption)) hC)
          | (refine step_row rfl (.tmp 26) (.tmp 41) rfl _ (itoaS num) (itoaS ep) _ w.heap.size (.slice A0 n0 c0) _ rfl (HGX.out _ (by assumption)) (by have := hbel.size; have := Below.size (by assumption : Below wr.heap.size wr _); omega) rfl (by omega) (by omega) (by omega) HL9.out ?_; intro v1 w5 g1 gg1; have GB5 := grown_trans (gb_below (by assumption : Below wr.heap.size wr _)) gg1; have G5 := Lib.hid g1; clear g1 gg1))
        go_wp2
        go_roundw
        case rel =>
          refine ⟨k + 1, by omega, by go_num, ?_, HBW.out _ GB5⟩
          show Grow _ _ _ _ _ _ _ _
          rw [HT.out]
          exact G5.out
        case measure => simp [intOf]; omega
    · obtain rfl : k = l.length := by omega
      have HR := Lib.hid (HG.out.sl (S := fun _ => True) rRow_ok (fun _ _ _ => trivial) (fun _ _ => trivial))
      have hok : OkRows (histRows l) := hist_ok l hl20 HB.out
      have ct := reftable_any (histRows l) hok (.slice A0 n0 c0) wr (fun _ => True) (by have := HR.out; rw [List.take_length] at this; exact this)
      rw [← tables_agree] at ct
      have CT := Lib.hid ct
      clear hok ct
      go_wp2_with (go_at_call 9; refine Calls.mono CT.out ?_; rintro e w9 ⟨⟨u, rfl, SU⟩, B9⟩; have SU' := Lib.hid SU; clear SU)
      go_ret
      exact ⟨⟨_, rfl, SU'.out⟩, bel_call hbel B9⟩
end Go.Proofs.YtkndlhlhcpppgaaDoor
