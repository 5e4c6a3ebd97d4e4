/- Layer granted: Last; the things that are the first of their names. Conditions: as each theorem says. -/
import Derived.Test.YtocofkccdfaaaaaGrFind
namespace Go.Proofs.Ytocofkccdfaaaaa
open Go.RowKit Go.Deep Go.Maps

theorem lastOf_in {l : List Epoch} {k : Nat} (h1 : 1 ≤ k) (h2 : k ≤ l.length) : lastOf l k = lastGo (l.drop k) k := by
  rw [lastOf, if_pos ⟨by omega, by omega⟩]
  rfl
theorem lastGo_stop {l : List Epoch} {k : Nat} {x : Epoch} (hx : l[k]? = some x) (hp : x.place = 1) (e : Int) : lastGo (l.drop k) e = e := by
  have hk := List.getElem?_eq_some_iff.1 hx
  rw [List.drop_eq_getElem_cons hk.1, hk.2, lastGo, if_pos hp]
theorem lastGo_on {l : List Epoch} {k : Nat} {x : Epoch} (hx : l[k]? = some x) (hp : x.place ≠ 1) (e : Int) : lastGo (l.drop k) e = lastGo (l.drop (k + 1)) (e + 1) := by
  have hk := List.getElem?_eq_some_iff.1 hx
  rw [List.drop_eq_getElem_cons hk.1, hk.2, lastGo, if_neg hp]
set_option maxHeartbeats 1000000 in
theorem last_any (f : Folder) (n : Int) (hn : I64 n) (cs : List Value) (w : World) (S : Nat → Prop) (h : rFolder S w cs f) : Calls Try.prog 27 #[.agg cs.toArray, .int .i64 n] w fun e w' => e = .returned (.int .i64 (lastOf f.epochs n)) ∧ Below w.heap.size w w' := by
  have hR := Lib.hid h
  obtain ⟨f_A2, f_c2, f_A3, f_c3, f_A4, f_c4, f_A5, f_c5, f_A6, f_c6, rfl, f_name_le, f_turn_ok, f_manifests_l, f_manifests_m, f_manifests_n, f_manifests_s, f_epochs_l, f_epochs_m, f_epochs_n, f_epochs_s, f_items_l, f_items_m, f_items_n, f_items_s, f_wraps_l, f_wraps_m, f_wraps_n, f_wraps_s, f_links_l, f_links_m, f_links_n, f_links_s⟩ := open_Folder h
  obtain ⟨w0, hw0, cw0, fw0, Bw0, qw0⟩ := boxed w #[.string f.name, .int .i64 f.turn, .slice f_A2 f.manifests.length f_c2, .slice f_A3 f.epochs.length f_c3, .slice f_A4 f.items.length f_c4, .slice f_A5 f.wraps.length f_c5, .slice f_A6 f.links.length f_c6] 43
  have HCW := Lib.hid cw0
  have HB0 := Lib.hid Bw0
  have hI := Lib.hid hn
  clear cw0 fw0 Bw0 f_manifests_s f_items_s f_wraps_s f_links_s hn
  go_enter Try.func27, Try.ntmps27
  go_wp2
  go_loopw [1] (fun i wr => ∃ m : Int, i = .int .i64 m ∧ Hid (lastOf f.epochs m = lastOf f.epochs n) ∧ Hid ((m = n) ∨ (1 ≤ m ∧ m ≤ f.epochs.length)) ∧ Below w0.heap.size w0 wr) (fun i _ => f.epochs.length + 1 - (RowKit.intOf i).toNat)
  case atStart => exact ⟨n, rfl, (by show _ = _; rfl), .inl rfl, Below.refl _ _⟩
  case round =>
    obtain ⟨m, rfl, HE, HM, hbel⟩ := hrel
    have HB := Lib.hid (bel_call HB0.out hbel)
    have x0 := (hbel.cell (p := ⟨w.heap.size, 0, none⟩) qw0).trans (HCW.out 0 _ rfl)
    have x1 := (hbel.cell (p := ⟨w.heap.size, 1, none⟩) qw0).trans (HCW.out 1 _ rfl)
    have x2 := (hbel.cell (p := ⟨w.heap.size, 2, none⟩) qw0).trans (HCW.out 2 _ rfl)
    have x3 := (hbel.cell (p := ⟨w.heap.size, 3, none⟩) qw0).trans (HCW.out 3 _ rfl)
    have x4 := (hbel.cell (p := ⟨w.heap.size, 4, none⟩) qw0).trans (HCW.out 4 _ rfl)
    have x5 := (hbel.cell (p := ⟨w.heap.size, 5, none⟩) qw0).trans (HCW.out 5 _ rfl)
    have x6 := (hbel.cell (p := ⟨w.heap.size, 6, none⟩) qw0).trans (HCW.out 6 _ rfl)
    have HH := Lib.hid (hasf_any f m _ wr S (rFolder_keep hR.out (kept_of HB.out)))
    cases hh : hasE f m with
    | false =>
      have HR := Lib.hid (show m = lastOf f.epochs n by
        rw [← HE.out, lastOf_out]
        exact fun h => by rw [hasE_iff.2 h] at hh; cases hh)
      rw [hh] at HH
      clear hh
      go_wp2_with (go_at_call 38; refine Calls.mono HH.out ?_; rintro e w1 ⟨rfl, B1⟩; have HB1 := Lib.hid (bel_call HB.out B1); clear B1)
      go_ret
      exact ⟨by rw [← HR.out]; rfl, HB1.out⟩
    | true =>
      obtain ⟨hm1, hm2⟩ := hasE_iff.1 hh
      rw [hh] at HH
      clear hh
      obtain ⟨k, rfl⟩ : ∃ k : Nat, m = k := ⟨m.toNat, by omega⟩
      by_cases hk : k < f.epochs.length
      · obtain ⟨x, hx⟩ : ∃ x, f.epochs[k]? = some x := ⟨_, List.getElem?_eq_getElem hk⟩
        obtain ⟨b, o, ys, hA, hbl, hxR, hcz⟩ := SlAt.elem f_epochs_s hx (by decide) HB.out
        obtain ⟨x_A3, x_c3, rfl, x_place_ok, x_frm_ok, x_seq_ok, x_chain_l, x_chain_m, x_chain_n, x_chain_s, x_who_le⟩ := open_Epoch hxR
        have u0 := hcz 0 _ rfl
        rw [Nat.add_zero] at u0
        subst hA
        have hkk : (k : Int) < (f.epochs.length : Int) := by omega
        have HX := Lib.hid hx
        clear hcz x_chain_s hx
        by_cases hp : x.place = 1
        · have HR := Lib.hid (show (k : Int) = lastOf f.epochs n by
            rw [← HE.out, lastOf_in (by omega) (by omega), lastGo_stop HX.out hp])
          have hp2 : (x.place == 1) = true := beq_iff_eq.2 hp
          clear hp
          go_wp2_with (go_at_call 38; refine Calls.mono HH.out ?_; rintro e w1 ⟨rfl, B1⟩; have HB1 := Lib.hid (bel_call HB.out B1); have v3 := (B1.cell (p := ⟨w.heap.size, 3, none⟩) (cell_lt x3)).trans x3; have v0 := (B1.cell (p := ⟨b, o + k * 5, none⟩) (cell_lt u0)).trans u0; clear B1)
          go_ret
          exact ⟨by rw [← HR.out]; rfl, HB1.out⟩
        · have HR := Lib.hid (show lastOf f.epochs ((k + 1 : Nat) : Int) = lastOf f.epochs n by
            rw [← HE.out, lastOf_in (by omega) (by omega), lastOf_in (k := k) (by omega) (by omega), lastGo_on HX.out hp]
            rfl)
          have hp2 : (x.place == 1) = false := by simpa using hp
          clear hp
          go_wp2_with (go_at_call 38; refine Calls.mono HH.out ?_; rintro e w1 ⟨rfl, B1⟩; have HB1 := Lib.hid (bel_call hbel B1); have v3 := (B1.cell (p := ⟨w.heap.size, 3, none⟩) (cell_lt x3)).trans x3; have v0 := (B1.cell (p := ⟨b, o + k * 5, none⟩) (cell_lt u0)).trans u0; clear B1)
          go_roundw
          case rel => exact ⟨((k + 1 : Nat) : Int), by go_num, HR, .inr ⟨by omega, by omega⟩, HB1.out⟩
          case measure => simp [RowKit.intOf]; omega
      · obtain rfl : k = f.epochs.length := by omega
        have HR := Lib.hid (show (f.epochs.length : Int) = lastOf f.epochs n by
          rw [← HE.out, lastOf_in (by omega) (Nat.le_refl _), List.drop_length]
          rfl)
        have hf0 : decide ((f.epochs.length : Int) < (f.epochs.length : Int)) = false := decide_eq_false (by omega)
        go_wp2_with (go_at_call 38; refine Calls.mono HH.out ?_; rintro e w1 ⟨rfl, B1⟩; have HB1 := Lib.hid (bel_call HB.out B1); have v3 := (B1.cell (p := ⟨w.heap.size, 3, none⟩) (cell_lt x3)).trans x3; clear B1)
        go_ret
        exact ⟨by rw [← HR.out]; rfl, HB1.out⟩
end Go.Proofs.Ytocofkccdfaaaaa
