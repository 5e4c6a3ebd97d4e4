/- StatCounts: for every input the law returns true and leaves its arguments as they were; the table that its row lists is tied to the program's text. No condition. -/
import Derived.Test.YtalhilelbebfbaaDoorStOf
import Derived.Test.YtalhilelbebfbaaDoorStBy
import Derived.Test.YtalhilelbebfbaaDoorStAddW
import Derived.Test.YtalhilelbebfbaaDoorStAddR
import Derived.Test.YtalhilelbebfbaaDoorStUsP
import Derived.Test.YtalhilelbebfbaaDoorStAwk
import Derived.Test.YtalhilelbebfbaaDoorCaF
import Derived.Test.YtalhilelbebfbaaDoorCaL
import Derived.Test.YtalhilelbebfbaaDoorLaw
import Derived.Test.YtalhilelbebfbaaDoorArgs
import Derived.Test.YtalhilelbebfbaaDoorCards
import Derived.Test.YtalhilelbebfbaaDoorTie
import Derived.LaidMore
import Derived.Lay
import Derived.SevenTiedAt
import Derived.Stop.Joined
import Derived.BigQuiet
import Derived.Deep.RegionHeld3
namespace Go.Proofs.YtalhilelbebfbaaDoor
open Go.ChangeShapes Go.WideShapes Go.ChangeAt Go.RowKit Go.Deep Go.Maps

theorem cnt_snoc (l : List Int) (x e : Int) : cntOf (l ++ [x]) e = cntOf l e + (if x = e then 1 else 0) := by
  rw [cnt_append]
  by_cases h : x = e
  · subst h
    rw [if_pos rfl]
    simp [cntOf]
  · rw [if_neg h]
    have : List.count e [x] = 0 := List.count_eq_zero.2 (by simpa using fun k => h k.symm)
    simp only [cntOf, this]
    rfl
theorem few_users {Cs : List Call} (h : fewL Cs = true) : Cs.length ≤ 40 ∧ ∀ x ∈ Cs, x.user.size ≤ 20 := by
  unfold fewL at h
  rw [Bool.and_eq_true, decide_eq_true_eq, List.all_eq_true] at h
  exact ⟨h.2, fun x hx => (fewC_iff.1 (h.1 x hx)).1⟩

set_option maxHeartbeats 4000000 in
set_option maxRecDepth 100000 in
theorem walk0 (w : World) (L : List (Int × Nat)) (va : Value) (ha : Sl 7 rAnsD (fun _ => True) w va L) (l0 l1 : List Count) (v0 v1 : Value) (h0 : Sl 2 rCount (fun _ => True) w v0 l0) (h1 : Sl 2 rCount (fun _ => True) w v1 l1) (Cs : List Call) (vc : Value) (hc : Sl 8 rCall (fun _ => True) w vc Cs) (hw : 0 < w.heap.size) (hcf : ∀ r : Nat, r < 17 → w.cell? ⟨0, r, none⟩ = some (.int .i64 (fieldsOf r : Nat))) :
    Calls Tryd.prog 3 #[va, .agg #[v0, v1], vc] w fun e w' => e = .returned (.bool true) ∧ Below w.heap.size w w' := by
  have HA := Lib.hid ha
  have HL0 := Lib.hid h0
  have HL1 := Lib.hid h1
  have HC := Lib.hid hc
  have HCF := Lib.hid hcf
  have HW := Lib.hid hw
  obtain ⟨Aa, ca, rfl, hal, hac, han, has⟩ := ha
  obtain ⟨A0, c0, rfl, h0l, h0c, h0n, h0s⟩ := h0
  obtain ⟨A1, c1, rfl, h1l, h1c, h1n, h1s⟩ := h1
  obtain ⟨Ac, cc, rfl, hcl, hcc, hcn, hcs⟩ := hc
  unfold maxLen at hac h0c h1c hcc
  clear hcf hw h0s h1s hcs
  obtain ⟨w0, hw0, cw0, fw0, Bw0, qw0⟩ := boxed w #[.slice A0 l0.length c0, .slice A1 l1.length c1] 24
  have b0 := cw0 0 _ rfl
  have b1 := cw0 1 _ rfl
  have HB0 := Lib.hid Bw0
  have HAW := Lib.hid (awake_any w0)
  clear cw0 fw0 Bw0
  by_cases hA40 : 40 < L.length
  · have dA : decide ((40 : Int) < (L.length : Int)) = true := decide_eq_true (by omega)
    clear hA40
    go_enter Tryd.func3, Tryd.ntmps3
    go_wp2_with (go_at_call 4; refine Calls.mono HAW.out ?_; rintro e w1 ⟨rfl, B1⟩)
    go_ret
    exact ⟨rfl, bel_call HB0.out B1⟩
  have dA : decide ((40 : Int) < (L.length : Int)) = false := decide_eq_false (by omega)
  by_cases h20 : 20 < l0.length
  · have d0 : decide ((20 : Int) < (l0.length : Int)) = true := decide_eq_true (by omega)
    clear hA40 h20
    go_enter Tryd.func3, Tryd.ntmps3
    go_wp2_with (go_at_call 4; refine Calls.mono HAW.out ?_; rintro e w1 ⟨rfl, B1⟩; have y0 := (B1.cell (p := ⟨w.heap.size, 0, none⟩) qw0).trans b0)
    go_ret
    exact ⟨rfl, bel_call HB0.out B1⟩
  have d0 : decide ((20 : Int) < (l0.length : Int)) = false := decide_eq_false (by omega)
  by_cases h21 : 20 < l1.length
  · have d1 : decide ((20 : Int) < (l1.length : Int)) = true := decide_eq_true (by omega)
    clear hA40 h20 h21
    go_enter Tryd.func3, Tryd.ntmps3
    go_wp2_with (go_at_call 4; refine Calls.mono HAW.out ?_; rintro e w1 ⟨rfl, B1⟩; have y0 := (B1.cell (p := ⟨w.heap.size, 0, none⟩) qw0).trans b0; have y1 := (B1.cell (p := ⟨w.heap.size, 1, none⟩) qw0).trans b1)
    go_ret
    exact ⟨rfl, bel_call HB0.out B1⟩
  have d1 : decide ((20 : Int) < (l1.length : Int)) = false := decide_eq_false (by omega)
  cases hfw : fewL Cs with
  | false =>
    have HFW := Lib.hid hfw
    clear hA40 h20 h21 hfw
    go_enter Tryd.func3, Tryd.ntmps3
    go_wp2_with (first
      | (go_at_call 4; refine Calls.mono HAW.out ?_; rintro e w1 ⟨rfl, B1⟩; have y0 := (B1.cell (p := ⟨w.heap.size, 0, none⟩) qw0).trans b0; have y1 := (B1.cell (p := ⟨w.heap.size, 1, none⟩) qw0).trans b1; have HX1 := Lib.hid (bel_call HB0.out B1))
      | (go_at_call 5; refine Calls.mono (few_any Cs _ w1 (fun _ => True) (HC.out.keep rCall_ok (by decide) (kept_of HX1.out))) ?_; rw [HFW.out]; rintro e w2 ⟨rfl, B2⟩))
    go_ret
    exact ⟨rfl, bel_call HX1.out B2⟩
  | true =>
    have HFW := Lib.hid hfw
    have HUS := Lib.hid (few_users hfw)
    have hL40 : L.length ≤ 40 := by omega
    have HL20 := Lib.hid (show l0.length ≤ 20 ∧ l1.length ≤ 20 from ⟨by omega, by omega⟩)
    clear hA40 h20 h21 hfw
    go_enter Tryd.func3, Tryd.ntmps3
    go_wp2_with (first
      | (go_at_call 4; refine Calls.mono HAW.out ?_; rintro e w1 ⟨rfl, B1⟩; have y0 := (B1.cell (p := ⟨w.heap.size, 0, none⟩) qw0).trans b0; have y1 := (B1.cell (p := ⟨w.heap.size, 1, none⟩) qw0).trans b1; have HX1 := Lib.hid (bel_call HB0.out B1))
      | (go_at_call 5; refine Calls.mono (few_any Cs _ w1 (fun _ => True) (HC.out.keep rCall_ok (by decide) (kept_of HX1.out))) ?_; rw [HFW.out]; rintro e w2 ⟨rfl, B2⟩))
    have BX2 := bel_call B1 B2
    have HB1 := Lib.hid BX2
    clear y0 y1 HX1 B1 B2 BX2 dA d0 d1 HAW
    go_loopw [7, 39] (fun s i wr => ∃ (k m : Nat), k ≤ L.length ∧ i = .int .i64 k ∧ s = .int .i64 m ∧ Hid (m = bytesOf (L.take k)) ∧ Hid (∀ x ∈ L.take k, x.2 ≤ 1000) ∧ Below w0.heap.size w0 wr) (fun _ i _ => L.length - (RowKit.intOf i).toNat)
    case atStart => exact ⟨0, 0, by omega, by go_num, by go_num, rfl, (fun x hx => by simp at hx), HB1.out⟩
    case round =>
      obtain ⟨k, m, hk, rfl, rfl, HM, HD, hbel⟩ := hrel
      have hz := hbel.size
      by_cases hlt : k < L.length
      · obtain ⟨x, b, o, n, t, A3, A4, A5, A6, c3, n4, c4, n5, c5, n6, c6, hx, hm, rfl, hb, x0, x1, x2, x3, x4, x5, x6, _⟩ := get_AnsD has hlt (kept_of (bel_call HB0.out hbel))
        by_cases hx2 : 1000 < x.2
        · have dx : decide ((1000 : Int) < (x.2 : Int)) = true := decide_eq_true (by omega)
          clear hx hm hx2
          go_wp2
          go_ret
          exact ⟨rfl, bel_call HB0.out (by go_grown)⟩
        · have dx : decide ((1000 : Int) < (x.2 : Int)) = false := decide_eq_false (by omega)
          have HT := Lib.hid (show bytesOf (L.take (k + 1)) = bytesOf (L.take k) + x.2 by rw [List.take_add_one, hx]; exact bytes_snoc _ _)
          have HD2 := Lib.hid (show ∀ y ∈ L.take (k + 1), y.2 ≤ 1000 by
            rw [List.take_add_one, hx]
            intro y hy
            rcases List.mem_append.1 hy with hy | hy
            · exact HD.out y hy
            · obtain rfl : y = x := by simpa using hy
              omega)
          have hb1 := bytes_le (L.take k) HD.out
          rw [List.length_take, ← HM.out] at hb1
          have hwr : IntKind.i64.wrap ((m : Int) + (x.2 : Int)) = (m : Int) + (x.2 : Int) := IntWalk.i64_in _ (by omega)
          clear hx hm hb1 hx2
          go_wp2
          go_roundw
          case rel => exact ⟨k + 1, m + x.2, by omega, by go_num, by first | rfl | go_num, by show _ = _; rw [HT.out, HM.out], HD2, by go_grown⟩
          case measure => simp [RowKit.intOf]; omega
      · obtain rfl : k = L.length := by omega
        obtain rfl : m = bytesOf L := by have := HM.out; rwa [List.take_length] at this
        have HD2 := Lib.hid (show ∀ x ∈ L, x.2 ≤ 1000 by have := HD.out; rwa [List.take_length] at this)
        obtain ⟨E, hE⟩ : ∃ E, L.map Prod.fst = E := ⟨_, rfl⟩
        have hEl : E.length = L.length := by rw [← hE, List.length_map]
        have HE := Lib.hid (show ∀ W : World, Below w0.heap.size w0 W → Sl 7 rAns (fun _ => True) W (.slice Aa L.length ca) E from fun W hW => hE ▸ sl_errs (HA.out.keep rAnsD_ok (by decide) (kept_of (bel_call HB0.out hW))))
        have HEL := Lib.hid (show E.length ≤ 100 by omega)
        have HEk := Lib.hid (show ∀ (j : Nat) (x : Int × Nat), L[j]? = some x → E.take (j + 1) = E.take j ++ [x.1] from fun j x hx => by rw [← hE, List.take_add_one, List.getElem?_map, hx]; rfl)
        have HBR := Lib.hid hbel
        have HCO := Lib.hid (counts_any E HEL.out _ wr (fun _ => True) (HE.out wr hbel))
        clear hE HM HD hbel hz
        go_wp2_with (go_at_call 6; refine Calls.mono HCO.out ?_; rintro e w4 ⟨⟨u, R, rfl, SU, IC⟩, B4⟩; have SU' := Lib.hid SU; have IC' := Lib.hid IC; have HB4 := Lib.hid (bel_call HBR.out B4); clear SU IC B4)
        clear HCO HBR
        go_loopw [55] (fun i wr => ∃ k : Nat, k ≤ 50 ∧ i = .int .i64 k ∧ Below w4.heap.size w4 wr) (fun i _ => 50 - (RowKit.intOf i).toNat)
        case atStart => exact ⟨0, by omega, by go_num, by go_grown⟩
        case round =>
          obtain ⟨k, hk, rfl, hbel⟩ := hrel
          by_cases hlt50 : k < 50
          · have hlt50' : (k : Int) < 50 := by omega
            go_wp2
            go_loopw [12, 60] (fun s i wq => ∃ (j : Nat) (q : Int), j ≤ L.length ∧ i = .int .i64 j ∧ s = .int .i64 q ∧ Hid (q = cntOf (E.take j) (k : Int)) ∧ Below w4.heap.size w4 wq) (fun _ i _ => L.length - (RowKit.intOf i).toNat)
            case atStart => exact ⟨0, 0, by omega, by go_num, by go_num, rfl, hbel⟩
            case round =>
              obtain ⟨j, q, hj, rfl, rfl, HQ, hbq⟩ := hrel
              have hzq := hbq.size
              by_cases hltj : j < L.length
              · obtain ⟨x, b, o, n, t, A3, A4, A5, A6, c3, n4, c4, n5, c5, n6, c6, hx, hm, rfl, hb, x0, x1, x2, x3, x4, x5, x6, _⟩ := get_AnsD has hltj (kept_of (bel_call HB0.out (bel_call HB4.out hbq)))
                have HT := Lib.hid (HEk.out j x hx)
                by_cases hxe : x.1 = (k : Int)
                · have he : (x.1 == (k : Int)) = true := beq_iff_eq.2 hxe
                  have HQ2 := Lib.hid (show q + 1 = cntOf (E.take (j + 1)) (k : Int) by rw [HT.out, cnt_snoc, if_pos hxe, HQ.out])
                  have hqb := cnt_le (E.take j) (k : Int)
                  rw [← HQ.out, List.length_take] at hqb
                  have hwr : IntKind.i64.wrap (q + 1) = q + 1 := IntWalk.i64_in _ (by omega)
                  clear hx hm hxe hqb
                  go_wp2
                  go_roundw
                  case rel => exact ⟨j + 1, q + 1, by omega, by go_num, by first | rfl | go_num, HQ2, by go_grown⟩
                  case measure => simp [RowKit.intOf]; omega
                · have he : (x.1 == (k : Int)) = false := beq_eq_false_iff_ne.2 hxe
                  have HQ2 := Lib.hid (show q = cntOf (E.take (j + 1)) (k : Int) by rw [HT.out, cnt_snoc, if_neg hxe, Int.add_zero, HQ.out])
                  clear hx hm hxe
                  go_wp2
                  go_roundw
                  case rel => exact ⟨j + 1, q, by omega, by go_num, by first | rfl | go_num, HQ2, by go_grown⟩
                  case measure => simp [RowKit.intOf]; omega
              · obtain rfl : j = L.length := by omega
                have hof : ofB R (k : Int) = q := by
                  have h2 := HQ.out
                  rw [List.take_of_length_le (by omega)] at h2
                  rw [of_counts IC'.out, h2]
                have CO := of_any R (k : Int) u wr (fun _ => True) (SU'.out.keep rCount_ok (by decide) (kept_of hbq))
                rw [hof] at CO
                have CO' := Lib.hid CO
                clear hof CO
                go_wp2_with (go_at_call 7; refine Calls.mono CO'.out ?_; rintro e w5 ⟨rfl, B5⟩)
                go_roundw
                case rel => exact ⟨k + 1, by omega, by go_num, bel_call hbq B5⟩
                case measure => simp [RowKit.intOf]; omega
          · obtain rfl : k = 50 := by omega
            have HBX := Lib.hid (bel_call HB4.out hbel).drew
            have HBD := Lib.hid hbel.drew
            have HSS := Lib.hid (show ∀ W : World, Below w0.heap.size w0 W → (W.cell? ⟨w.heap.size, 0, none⟩ = some (.slice A0 l0.length c0) ∧ W.cell? ⟨w.heap.size, 1, none⟩ = some (.slice A1 l1.length c1)) from fun W hW => ⟨(hW.cell (p := ⟨w.heap.size, 0, none⟩) qw0).trans b0, (hW.cell (p := ⟨w.heap.size, 1, none⟩) qw0).trans b1⟩)
            have HW0 := Lib.hid (show ∀ W : World, Below w0.heap.size w0 W → Below w.heap.size w W from fun W hW => bel_call HB0.out hW)
            clear hbel hlt50 hk b0 b1 qw0
            go_wp2_with fail
            refine wp_region_held_drew (S := fun W : World => W.cell? ⟨w.heap.size, 0, none⟩ = some (.slice A0 l0.length c0) ∧ W.cell? ⟨w.heap.size, 1, none⟩ = some (.slice A1 l1.length c1)) (by kernel_rfl) (HSS.out _ HBX.out) (fun hHeld => ?_)
            refine wpAnyH_take (i := 0) (oi := ?_) (v := ?_) ?_ (by kernel_rfl) (by kernel_rfl) (by kernel_rfl) ?_ (Or.inl ⟨?_, ?_⟩) hHeld ?_
            rotate_left 2
            · simp only [List.getElem?_toArray, List.getElem?_cons_zero]; exact rfl
            · exact fun _ _ _ h => h
            · rfl
            · (intro W' hSw; (try dsimp only at hSw); go_simp; try with_reducible rfl)
            try simp only [Act.put, List.setIfInBounds_toArray, List.set_cons_zero, List.set_cons_succ]
            refine wpAnyH_take (i := 1) (oi := ?_) (v := ?_) ?_ (by kernel_rfl) (by kernel_rfl) (by kernel_rfl) ?_ (Or.inl ⟨?_, ?_⟩) hHeld ?_
            rotate_left 2
            · simp only [List.getElem?_toArray, List.getElem?_cons_succ, List.getElem?_cons_zero]; exact rfl
            · exact fun _ _ _ h => h
            · rfl
            · (intro W' hSw; (try dsimp only at hSw); go_simp; try with_reducible rfl)
            try simp only [Act.put, List.setIfInBounds_toArray, List.set_cons_zero, List.set_cons_succ]
            refine wpAnyH_ready (rs := [2]) (by kernel_rfl) (by simp) ?_
            refine AllReadyH.cons rfl (fun K hK => ?_) AllReadyH.nil
            go_simp
            go_at_call 9
            refine Calls.mono (refcounts_any E HEL.out _ _ (fun _ => True) (HE.out _ HBX.out)) ?_
            rintro e w5 ⟨⟨u5, R5, rfl, S5, I5⟩, B5⟩
            have HX5 := Lib.hid (bel_call HBX.out B5)
            have E5 := Lib.hid (IC'.out.ext I5 (fun _ => Iff.rfl) (fun _ _ => rfl))
            have SS5 := Lib.hid S5
            have SR5 := Lib.hid (SU'.out.keep (S' := fun _ => True) rCount_ok (by decide) (kept_of (bel_call HBD.out B5)))
            clear S5 I5 B5 hHeld
            refine hK.out _ _ (HSS.out _ HX5.out) (fun hHeld => ?_)
            clear hK K
            try simp only [Act.put, List.setIfInBounds_toArray, List.set_cons_zero, List.set_cons_succ]
            refine wpAnyH_ready (rs := [3]) (by kernel_rfl) (by simp) ?_
            refine AllReadyH.cons rfl (fun K hK => ?_) AllReadyH.nil
            go_simp
            go_at_call 8
            refine Calls.mono (same_any R R5 _ _ w5 (fun _ => True) (fun _ => True) SR5.out SS5.out E5.out) ?_
            rintro e w6 ⟨rfl, B6⟩
            have HX6 := Lib.hid (bel_call HX5.out B6)
            clear B6 SR5 SS5 E5 hHeld
            refine hK.out _ _ (HSS.out _ HX6.out) (fun hHeld => ?_)
            clear hK K
            try simp only [Act.put, List.setIfInBounds_toArray, List.set_cons_zero, List.set_cons_succ]
            refine wpAnyH_take (i := 4) (oi := ?_) (v := ?_) ?_ (by kernel_rfl) (by kernel_rfl) (by kernel_rfl) ?_ (Or.inl ⟨?_, ?_⟩) hHeld ?_
            rotate_left 2
            · simp only [List.getElem?_toArray, List.getElem?_cons_succ, List.getElem?_cons_zero]; exact rfl
            · exact fun _ _ _ h => h
            · rfl
            · (intro W' hSw; (try dsimp only at hSw); go_simp; try with_reducible rfl)
            try simp only [Act.put, List.setIfInBounds_toArray, List.set_cons_zero, List.set_cons_succ]
            refine wpAnyH_take (i := 5) (oi := ?_) (v := ?_) ?_ (by kernel_rfl) (by kernel_rfl) (by kernel_rfl) ?_ (Or.inl ⟨?_, ?_⟩) hHeld ?_
            rotate_left 2
            · simp only [List.getElem?_toArray, List.getElem?_cons_succ, List.getElem?_cons_zero]; exact rfl
            · exact fun _ _ _ h => h
            · rfl
            · (intro W' hSw; (try dsimp only at hSw); go_simp; try with_reducible rfl)
            try simp only [Act.put, List.setIfInBounds_toArray, List.set_cons_zero, List.set_cons_succ]
            refine wpAnyH_take (i := 6) (oi := ?_) (v := ?_) ?_ (by kernel_rfl) (by kernel_rfl) (by kernel_rfl) ?_ (Or.inl ⟨?_, ?_⟩) hHeld ?_
            rotate_left 2
            · simp only [List.getElem?_toArray, List.getElem?_cons_succ, List.getElem?_cons_zero]; exact rfl
            · exact fun _ _ _ h => h
            · rfl
            · (intro W' hSw; (try dsimp only at hSw); go_simp; try with_reducible rfl)
            try simp only [Act.put, List.setIfInBounds_toArray, List.set_cons_zero, List.set_cons_succ]
            refine wpAnyH_take (i := 7) (oi := ?_) (v := ?_) ?_ (by kernel_rfl) (by kernel_rfl) (by kernel_rfl) ?_ (Or.inl ⟨?_, ?_⟩) hHeld ?_
            rotate_left 2
            · simp only [List.getElem?_toArray, List.getElem?_cons_succ, List.getElem?_cons_zero]; exact rfl
            · exact fun _ _ _ h => h
            · rfl
            · (intro W' hSw; (try dsimp only at hSw); go_simp; try with_reducible rfl)
            try simp only [Act.put, List.setIfInBounds_toArray, List.set_cons_zero, List.set_cons_succ]
            refine wpAnyH_take (i := 8) (oi := ?_) (v := ?_) ?_ (by kernel_rfl) (by kernel_rfl) (by kernel_rfl) ?_ (Or.inl ⟨?_, ?_⟩) hHeld ?_
            rotate_left 2
            · simp only [List.getElem?_toArray, List.getElem?_cons_succ, List.getElem?_cons_zero]; exact rfl
            · exact fun _ _ _ h => h
            · rfl
            · (intro W' hSw; (try dsimp only at hSw); go_simp; try with_reducible rfl)
            try simp only [Act.put, List.setIfInBounds_toArray, List.set_cons_zero, List.set_cons_succ]
            refine wpAnyH_take (i := 10) (oi := ?_) (v := ?_) ?_ (by kernel_rfl) (by kernel_rfl) (by kernel_rfl) ?_ (Or.inl ⟨?_, ?_⟩) hHeld ?_
            rotate_left 2
            · simp only [List.getElem?_toArray, List.getElem?_cons_succ, List.getElem?_cons_zero]; exact rfl
            · exact fun _ _ _ h => h
            · rfl
            · (intro W' hSw; (try dsimp only at hSw); go_simp; try with_reducible rfl)
            try simp only [Act.put, List.setIfInBounds_toArray, List.set_cons_zero, List.set_cons_succ]
            refine wpAnyH_take (i := 11) (oi := ?_) (v := ?_) ?_ (by kernel_rfl) (by kernel_rfl) (by kernel_rfl) ?_ (Or.inl ⟨?_, ?_⟩) hHeld ?_
            rotate_left 2
            · simp only [List.getElem?_toArray, List.getElem?_cons_succ, List.getElem?_cons_zero]; exact rfl
            · exact fun _ _ _ h => h
            · rfl
            · (intro W' hSw; (try dsimp only at hSw); go_simp; try with_reducible rfl)
            try simp only [Act.put, List.setIfInBounds_toArray, List.set_cons_zero, List.set_cons_succ]
            refine wpAnyH_take (i := 12) (oi := ?_) (v := ?_) ?_ (by kernel_rfl) (by kernel_rfl) (by kernel_rfl) ?_ (Or.inl ⟨?_, ?_⟩) hHeld ?_
            rotate_left 2
            · simp only [List.getElem?_toArray, List.getElem?_cons_succ, List.getElem?_cons_zero]; exact rfl
            · exact fun _ _ _ h => h
            · rfl
            · (intro W' hSw; (try dsimp only at hSw); go_simp; try with_reducible rfl)
            try simp only [Act.put, List.setIfInBounds_toArray, List.set_cons_zero, List.set_cons_succ]
            refine wpAnyH_take (i := 13) (oi := ?_) (v := ?_) ?_ (by kernel_rfl) (by kernel_rfl) (by kernel_rfl) ?_ (Or.inl ⟨?_, ?_⟩) hHeld ?_
            rotate_left 2
            · simp only [List.getElem?_toArray, List.getElem?_cons_succ, List.getElem?_cons_zero]; exact rfl
            · exact fun _ _ _ h => h
            · rfl
            · (intro W' hSw; (try dsimp only at hSw); go_simp; try with_reducible rfl)
            try simp only [Act.put, List.setIfInBounds_toArray, List.set_cons_zero, List.set_cons_succ]
            refine wpAnyH_ready (rs := [9]) (by kernel_rfl) (by simp) ?_
            refine AllReadyH.cons rfl (fun K hK => ?_) AllReadyH.nil
            go_simp
            go_at_call 10
            refine Calls.mono (addw_any l0 l1 (by have := HL20.out; omega) (by have := HL20.out; omega) _ _ w6 (fun _ => True) (fun _ => True) (HL0.out.keep rCount_ok (by decide) (kept_of (HW0.out _ HX6.out))) (HL1.out.keep rCount_ok (by decide) (kept_of (HW0.out _ HX6.out)))) ?_
            rintro e w7 ⟨⟨u7, R7, rfl, S7, I7⟩, B7⟩
            have HX7 := Lib.hid (bel_call HX6.out B7)
            have SS7 := Lib.hid S7
            have II7 := Lib.hid I7
            clear S7 I7 B7 hHeld
            refine hK.out _ _ (HSS.out _ HX7.out) (fun hHeld => ?_)
            clear hK K
            try simp only [Act.put, List.setIfInBounds_toArray, List.set_cons_zero, List.set_cons_succ]
            refine wpAnyH_ready (rs := [14]) (by kernel_rfl) (by simp) ?_
            refine AllReadyH.cons rfl (fun K hK => ?_) AllReadyH.nil
            go_simp
            go_at_call 11
            refine Calls.mono (refadd_any l0 l1 (by have := HL20.out; omega) (by have := HL20.out; omega) _ _ w7 (fun _ => True) (fun _ => True) (HL0.out.keep rCount_ok (by decide) (kept_of (HW0.out _ HX7.out))) (HL1.out.keep rCount_ok (by decide) (kept_of (HW0.out _ HX7.out)))) ?_
            rintro e w8 ⟨⟨u8, R8, rfl, S8, I8⟩, B8⟩
            have HX8 := Lib.hid (bel_call HX7.out B8)
            have SS8 := Lib.hid S8
            have SR8 := Lib.hid (SS7.out.keep (S' := fun _ => True) rCount_ok (by decide) (kept_of B8))
            have E8 := Lib.hid (II7.out.ext I8 (fun _ => Iff.rfl) (fun _ _ => rfl))
            clear S8 I8 B8 hHeld II7 SS7
            refine hK.out _ _ (HSS.out _ HX8.out) (fun hHeld => ?_)
            clear hK K
            try simp only [Act.put, List.setIfInBounds_toArray, List.set_cons_zero, List.set_cons_succ]
            refine wpAnyH_ready (rs := [15]) (by kernel_rfl) (by simp) ?_
            refine AllReadyH.cons rfl (fun K hK => ?_) AllReadyH.nil
            go_simp
            go_at_call 8
            refine Calls.mono (same_any R7 R8 _ _ w8 (fun _ => True) (fun _ => True) SR8.out SS8.out E8.out) ?_
            rintro e w9 ⟨rfl, B9⟩
            have HX9 := Lib.hid (bel_call HX8.out B9)
            clear B9 SR8 SS8 E8 hHeld
            refine hK.out _ _ (HSS.out _ HX9.out) (fun hHeld => ?_)
            clear hK K
            try simp only [Act.put, List.setIfInBounds_toArray, List.set_cons_zero, List.set_cons_succ]
            refine wpAnyH_take (i := 16) (oi := ?_) (v := ?_) ?_ (by kernel_rfl) (by kernel_rfl) (by kernel_rfl) ?_ (Or.inl ⟨?_, ?_⟩) hHeld ?_
            rotate_left 2
            · simp only [List.getElem?_toArray, List.getElem?_cons_succ, List.getElem?_cons_zero]; exact rfl
            · exact fun _ _ _ h => h
            · rfl
            · (intro W' hSw; (try dsimp only at hSw); go_simp; try with_reducible rfl)
            try simp only [Act.put, List.setIfInBounds_toArray, List.set_cons_zero, List.set_cons_succ]
            refine wpAnyH_take (i := 17) (oi := ?_) (v := ?_) ?_ (by kernel_rfl) (by kernel_rfl) (by kernel_rfl) ?_ (Or.inl ⟨?_, ?_⟩) hHeld ?_
            rotate_left 2
            · simp only [List.getElem?_toArray, List.getElem?_cons_succ, List.getElem?_cons_zero]; exact rfl
            · exact fun _ _ _ h => h
            · rfl
            · (intro W' hSw; (try dsimp only at hSw); go_simp; try with_reducible rfl)
            try simp only [Act.put, List.setIfInBounds_toArray, List.set_cons_zero, List.set_cons_succ]
            refine wpAnyH_take (i := 18) (oi := ?_) (v := ?_) ?_ (by kernel_rfl) (by kernel_rfl) (by kernel_rfl) ?_ (Or.inl ⟨?_, ?_⟩) hHeld ?_
            rotate_left 2
            · simp only [List.getElem?_toArray, List.getElem?_cons_succ, List.getElem?_cons_zero]; exact rfl
            · exact fun _ _ _ h => h
            · rfl
            · (intro W' hSw; (try dsimp only at hSw); go_simp; try with_reducible rfl)
            try simp only [Act.put, List.setIfInBounds_toArray, List.set_cons_zero, List.set_cons_succ]
            refine wpAnyH_take (i := 20) (oi := ?_) (v := ?_) ?_ (by kernel_rfl) (by kernel_rfl) (by kernel_rfl) ?_ (Or.inl ⟨?_, ?_⟩) hHeld ?_
            rotate_left 2
            · simp only [List.getElem?_toArray, List.getElem?_cons_succ, List.getElem?_cons_zero]; exact rfl
            · exact fun _ _ _ h => h
            · rfl
            · (intro W' hSw; (try dsimp only at hSw); go_simp; try with_reducible rfl)
            try simp only [Act.put, List.setIfInBounds_toArray, List.set_cons_zero, List.set_cons_succ]
            refine wpAnyH_ready (rs := [19]) (by kernel_rfl) (by simp) ?_
            refine AllReadyH.cons rfl (fun K hK => ?_) AllReadyH.nil
            go_simp
            go_at_call 12
            refine Calls.mono (bytes_any L hL40 HD2.out _ w9 (fun _ => True) (HA.out.keep rAnsD_ok (by decide) (kept_of (HW0.out _ HX9.out)))) ?_
            rintro e wA ⟨rfl, BA⟩
            have HXA := Lib.hid (bel_call HX9.out BA)
            clear BA hHeld
            refine hK.out _ _ (HSS.out _ HXA.out) (fun hHeld => ?_)
            clear hK K
            try simp only [Act.put, List.setIfInBounds_toArray, List.set_cons_zero, List.set_cons_succ]
            refine wpAnyH_take (i := 21) (oi := ?_) (v := ?_) ?_ (by kernel_rfl) (by kernel_rfl) (by kernel_rfl) ?_ (Or.inl ⟨?_, ?_⟩) hHeld ?_
            rotate_left 2
            · simp only [List.getElem?_toArray, List.getElem?_cons_succ, List.getElem?_cons_zero]; exact rfl
            · exact fun _ _ _ h => h
            · rfl
            · (intro W' hSw; (try dsimp only at hSw); go_simp; try with_reducible rfl)
            try simp only [Act.put, List.setIfInBounds_toArray, List.set_cons_zero, List.set_cons_succ]
            refine wpAnyH_take (i := 22) (oi := ?_) (v := ?_) ?_ (by kernel_rfl) (by kernel_rfl) (by kernel_rfl) ?_ (Or.inl ⟨?_, ?_⟩) hHeld ?_
            rotate_left 2
            · simp only [List.getElem?_toArray, List.getElem?_cons_succ, List.getElem?_cons_zero]; exact rfl
            · exact fun _ _ _ h => h
            · rfl
            · (intro W' hSw; (try dsimp only at hSw); go_simp; try with_reducible rfl)
            try simp only [Act.put, List.setIfInBounds_toArray, List.set_cons_zero, List.set_cons_succ]
            refine wpAnyH_take (i := 23) (oi := ?_) (v := ?_) ?_ (by kernel_rfl) (by kernel_rfl) (by kernel_rfl) ?_ (Or.inl ⟨?_, ?_⟩) hHeld ?_
            rotate_left 2
            · simp only [List.getElem?_toArray, List.getElem?_cons_succ, List.getElem?_cons_zero]; exact rfl
            · exact fun _ _ _ h => h
            · rfl
            · (intro W' hSw; (try dsimp only at hSw); go_simp; try with_reducible rfl)
            try simp only [Act.put, List.setIfInBounds_toArray, List.set_cons_zero, List.set_cons_succ]
            refine wpAnyH_take (i := 24) (oi := ?_) (v := ?_) ?_ (by kernel_rfl) (by kernel_rfl) (by kernel_rfl) ?_ (Or.inl ⟨?_, ?_⟩) hHeld ?_
            rotate_left 2
            · simp only [List.getElem?_toArray, List.getElem?_cons_succ, List.getElem?_cons_zero]; exact rfl
            · exact fun _ _ _ h => h
            · rfl
            · (intro W' hSw; (try dsimp only at hSw); go_simp; try with_reducible rfl)
            try simp only [Act.put, List.setIfInBounds_toArray, List.set_cons_zero, List.set_cons_succ]
            refine wpAnyH_take (i := 26) (oi := ?_) (v := ?_) ?_ (by kernel_rfl) (by kernel_rfl) (by kernel_rfl) ?_ (Or.inl ⟨?_, ?_⟩) hHeld ?_
            rotate_left 2
            · simp only [List.getElem?_toArray, List.getElem?_cons_succ, List.getElem?_cons_zero]; exact rfl
            · exact fun _ _ _ h => h
            · rfl
            · (intro W' hSw; (try dsimp only at hSw); go_simp; try with_reducible rfl)
            try simp only [Act.put, List.setIfInBounds_toArray, List.set_cons_zero, List.set_cons_succ]
            refine wpAnyH_ready (rs := [25]) (by kernel_rfl) (by simp) ?_
            refine AllReadyH.cons rfl (fun K hK => ?_) AllReadyH.nil
            go_simp
            go_at_call 14
            refine Calls.mono (users_any Cs HUS.out.1 HUS.out.2 _ wA (fun _ => True) (HC.out.keep rCall_ok (by decide) (kept_of (HW0.out _ HXA.out))) (by have := (HW0.out _ HXA.out).size; have := HW.out; omega) (fun r hr => ((HW0.out _ HXA.out).cell (p := ⟨0, r, none⟩) HW.out).trans (HCF.out r hr))) ?_
            rintro e wB ⟨⟨uB, RB, rfl, SB, IB⟩, BB⟩
            have HXB := Lib.hid (bel_call HXA.out BB)
            have SSB := Lib.hid SB
            have IIB := Lib.hid IB
            clear SB IB BB hHeld
            refine hK.out _ _ (HSS.out _ HXB.out) (fun hHeld => ?_)
            clear hK K
            try simp only [Act.put, List.setIfInBounds_toArray, List.set_cons_zero, List.set_cons_succ]
            refine wpAnyH_ready (rs := [27]) (by kernel_rfl) (by simp) ?_
            refine AllReadyH.cons rfl (fun K hK => ?_) AllReadyH.nil
            go_simp
            go_at_call 15
            refine Calls.mono (refusers_any Cs HUS.out.1 HUS.out.2 _ wB (fun _ => True) (HC.out.keep rCall_ok (by decide) (kept_of (HW0.out _ HXB.out)))) ?_
            rintro e wC ⟨⟨uC, RC, rfl, SC, IC9⟩, BC⟩
            have HXC := Lib.hid (bel_call HXB.out BC)
            have SSC := Lib.hid SC
            have SRC := Lib.hid (SSB.out.keep (S' := fun _ => True) rStr_ok (by decide) (kept_of BC))
            have EC := Lib.hid (IIB.out.ext IC9 (fun _ => Iff.rfl))
            clear SC IC9 BC hHeld IIB SSB
            refine hK.out _ _ (HSS.out _ HXC.out) (fun hHeld => ?_)
            clear hK K
            try simp only [Act.put, List.setIfInBounds_toArray, List.set_cons_zero, List.set_cons_succ]
            refine wpAnyH_ready (rs := [28]) (by kernel_rfl) (by simp) ?_
            refine AllReadyH.cons rfl (fun K hK => ?_) AllReadyH.nil
            go_simp
            go_at_call 13
            refine Calls.mono (sameT_any RB RC _ _ wC (fun _ => True) (fun _ => True) SRC.out SSC.out EC.out) ?_
            rintro e wD ⟨rfl, BD⟩
            have HXD := Lib.hid (bel_call HXC.out BD)
            clear BD SRC SSC EC hHeld
            refine hK.out _ _ (HSS.out _ HXD.out) (fun hHeld => ?_)
            clear hK K
            try simp only [Act.put, List.setIfInBounds_toArray, List.set_cons_zero, List.set_cons_succ]
            refine wpAnyH_take (i := 29) (oi := ?_) (v := ?_) ?_ (by kernel_rfl) (by kernel_rfl) (by kernel_rfl) ?_ (Or.inl ⟨?_, ?_⟩) hHeld ?_
            rotate_left 2
            · simp only [List.getElem?_toArray, List.getElem?_cons_succ, List.getElem?_cons_zero]; exact rfl
            · exact fun _ _ _ h => h
            · rfl
            · (intro W' hSw; (try dsimp only at hSw); go_simp; try with_reducible rfl)
            try simp only [Act.put, List.setIfInBounds_toArray, List.set_cons_zero, List.set_cons_succ]
            refine wpAnyH_take (i := 30) (oi := ?_) (v := ?_) ?_ (by kernel_rfl) (by kernel_rfl) (by kernel_rfl) ?_ (Or.inl ⟨?_, ?_⟩) hHeld ?_
            rotate_left 2
            · simp only [List.getElem?_toArray, List.getElem?_cons_succ, List.getElem?_cons_zero]; exact rfl
            · exact fun _ _ _ h => h
            · rfl
            · (intro W' hSw; (try dsimp only at hSw); go_simp; try with_reducible rfl)
            try simp only [Act.put, List.setIfInBounds_toArray, List.set_cons_zero, List.set_cons_succ]
            refine wpAnyH_done (by kernel_rfl) ?_ _
            clear hHeld
            go_wp2
            go_ret
            exact ⟨rfl, HW0.out _ HXD.out⟩

theorem walk_statCounts (w : World) (L : List (Int × Nat)) (va : Value) (ha : Sl 7 rAnsD (fun _ => True) w va L) (l0 l1 : List Count) (v0 v1 : Value) (h0 : Sl 2 rCount (fun _ => True) w v0 l0) (h1 : Sl 2 rCount (fun _ => True) w v1 l1) (Cs : List Call) (vc : Value) (hc : Sl 8 rCall (fun _ => True) w vc Cs) (hL : laidMetH Tryd.prog Rows.statCountsRow.laid w) :
    Calls Tryd.prog 3 #[va, .agg #[v0, v1], vc] w fun e w' => e = .returned (.bool true) ∧ Below w.heap.size w w' :=
  walk0 w L va ha l0 l1 v0 v1 h0 h1 Cs vc hc (laid_cells hL).1 (laid_cells hL).2

set_option maxRecDepth 100000 in
theorem lifted_statCounts (os : Os) (started : os.Started) (H : Type) (enc : TypeId × Value → H) :
    ReturnsInHanded {} Tryd.checked os 3 .any (fun w args => (Rows.statCountsSpec.pre enc Tryd.prog Tryd.f3 Rows.statCountsRow.domain false w args ∧ laidMetH Tryd.prog Rows.statCountsRow.laid w) ∧ sizedMet enc Tryd.prog Tryd.f3 (OpenSpec.ofChange Rows.statCountsSpec) false w args) (Rows.statCountsSpec.post enc Tryd.prog Tryd.f3 false true false false) := by
  refine returnsInHanded_of_change_and (C := Tryd.checked) (X := fun w _ => laidMetH Tryd.prog Rows.statCountsRow.laid w) (fun _ _ _ hh h => h.of_heap hh) law_own started (by kernel_rfl) Tryd.func3
    (ChangeSpec.witness_shaped (enc := enc) (C := Tryd.checked) (os := os) (X := fun w _ => laidMetH Tryd.prog Rows.statCountsRow.laid w) false (World.laidAll Tryd.prog os Rows.statCountsRow.laid) #[.slice none 0 0, .agg #[.slice none 0 0, .slice none 0 0], .slice none 0 0] 8 (World.laidAll_os _ _ _)
      (World.shaped_of_ZipB (by kernel_rfl) (by kernel_rfl)) (by kernel_rfl) (by kernel_rfl) (by kernel_rfl)
      (by rw [MakeChecks.laidMetH_plain _ _ _ (by kernel_rfl)]; exact laidMet_laidAll _ (by kernel_rfl) (by kernel_rfl))) ?_
  intro W base args ds gs before hval0 hW hcnd hsz0 hL _
  have hval : ∀ (j : Nat) t v, Tryd.f3.params[j]? = some t → args[j]? = some v → Value.okWide Tryd.prog W .any base t v := hval0
  have hW' := hW
  obtain ⟨p, q, hA0, hV, rfl, hfz, hnd⟩ := hW
  have hA : DataW.TrodAll enc Tryd.prog W 0 (fun _ => true) true Tryd.f3.params.toList args.toList ds p := hA0
  rw [Tryd.params3] at hA hval
  obtain ⟨v0, vs0, d0, ds0, p0, q0, hargs, rfl, rfl, h0, r0⟩ := trodAll_cons hA
  obtain ⟨v1, vs1, d1, ds1, p1, q1, rfl, rfl, rfl, h1, r1⟩ := trodAll_cons r0
  obtain ⟨v2, vs2, d2, ds2, p2, q2, rfl, rfl, rfl, h2, r2⟩ := trodAll_cons r1
  obtain ⟨rfl, rfl, rfl⟩ := trodAll_nil r2
  obtain rfl : args = #[v0, v1, v2] := by cases args; simp_all
  obtain ⟨rfl, rfl⟩ := trodVars_none hV
  clear hargs
  obtain ⟨fu0, hf0⟩ := h0
  obtain ⟨a0, hx0⟩ := rdv_sl Tryd.underlying22 (rd_slice Tryd.underlying22 (by kernel_rfl) (of_decide_eq_true (by kernel_rfl)) (by decide) rdAnsD (rAnsD_ok).len) (hval 0 22 v0 rfl rfl) hf0 (fun q hq => by simpa using List.all_eq_true.1 hsz0 q (DataW.weights_mem_each (j := 0) rfl rfl q hq))
  obtain ⟨fu1, hf1⟩ := h1
  obtain ⟨va1, vb1, a1, b1, rfl, w1, u1⟩ := rdv_arr2sl Tryd.underlying24 (rd_slice Tryd.underlying23 (by kernel_rfl) (of_decide_eq_true (by kernel_rfl)) (by decide) rdCount (rCount_ok).len) (by kernel_rfl) (by kernel_rfl) (hval 1 24 v1 rfl rfl) hf1 (fun q hq => by simpa using List.all_eq_true.1 hsz0 q (DataW.weights_mem_each (j := 1) rfl rfl q hq))
  obtain ⟨fu2, hf2⟩ := h2
  obtain ⟨a2, hx2⟩ := rdv_sl Tryd.underlying25 (rd_slice Tryd.underlying25 (by kernel_rfl) (of_decide_eq_true (by kernel_rfl)) (by decide) rdCall (rCall_ok).len) (hval 2 25 v2 rfl rfl) hf2 (fun q hq => by simpa using List.all_eq_true.1 hsz0 q (DataW.weights_mem_each (j := 2) rfl rfl q hq))
  refine (walk_statCounts W a0 _ hx0 a1 b1 _ _ w1 u1 a2 _ hx2 hL).mono fun e W' ⟨he, hg⟩ => ?_
  subst he
  exact ⟨_, rfl, law_post hW' rfl rfl rfl Tryd.underlying4 law_laid (by kernel_rfl) hg⟩

theorem statCounts_row_holds : Rows.StatCountsSaid :=
  OpenClaim.holds_of_wide 3 Tryd.f3 rfl rfl rfl rfl rfl rfl rfl ⟨rfl, rfl, rfl, rfl, rfl⟩ rfl rfl rfl rfl rfl (by kernel_rfl) Tryd.func3 (by kernel_rfl)
    (of_decide_eq_true (by kernel_rfl)) (by unfold Func.isWrapper; first | (rw [if_pos (by decide +kernel)]; kernel_rfl) | (rw [if_neg (by decide +kernel)]; exact ⟨rfl, rfl⟩))
    (fun os started H enc _ => lifted_statCounts os started H enc)
theorem statCounts_holds : Rows.StatCountsCardSaid :=
  Claim7.holds_tied_plain_at .later [] [.data] true (true, "fa753cab4e9941a3c49a77a40d868f6218955022ea749745a8ae175369666507") false statCounts_row_holds (fun _ h => by cases h) (by kernel_rfl) (fun _ h => by cases h) statCounts_row_tie rfl ⟨rfl, rfl⟩ (by kernel_rfl) rfl
    (fun f fn hf hfn => by
      obtain rfl : f = 3 := Option.some.inj ((show Tryd.prog.funcNamed Rows.statCountsRow.func = some 3 by kernel_rfl).symm.trans hf) |>.symm
      obtain rfl : fn = Tryd.f3 := (Option.some.inj (Tryd.func3.symm.trans hfn)).symm
      exact ⟨by kernel_rfl, fun j t ht => by
        rw [Tryd.params3] at ht
        have hm : t ∈ [22, 24, 25] := by simpa using Array.mem_of_getElem? ht
        have hall : ([22, 24, 25].all fun u => !Tryd.prog.wantsStandIn u) = true := by kernel_rfl
        exact (show Tryd.prog.wantsStandIn t = false by simpa using List.all_eq_true.1 hall t hm)⟩)
    (by kernel_rfl)
end Go.Proofs.YtalhilelbebfbaaDoor
