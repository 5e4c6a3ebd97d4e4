/- ShowTable: for every input the law returns true and leaves its arguments as they were. No condition. -/
import Derived.Test.YtkndlhlhcpppgaaDoorShF
import Derived.Lib.OthersKept
import Derived.BigQuiet
namespace Go.Proofs.YtkndlhlhcpppgaaDoor
open Go.RowKit Go.Deep

theorem few_ok {rows : List (List ByteArray)} (h : fewT rows = true) : OkRows rows := by
  unfold fewT at h
  rw [Bool.and_eq_true, List.all_eq_true, decide_eq_true_eq] at h
  refine ⟨by omega, fun r hr => ?_⟩
  have h1 := h.1 r hr
  unfold fewRow at h1
  rw [Bool.and_eq_true, List.all_eq_true, decide_eq_true_eq] at h1
  exact ⟨h1.1, fun s hs => by simpa using h1.2 s hs⟩
theorem width_pos (s : ByteArray) (pos : Nat) (h : pos < s.size) : 1 ≤ (Utf8.decode s pos).2 := by
  by_cases ha : (s[pos]'h).toNat < 128
  · rw [decode_ascii s pos h ha]
    exact Nat.le_refl _
  · exact (decode_high s pos h (by omega)).2

/-- What a column's text is in the line. -/
def ColAt (wid : List Int) (r : List ByteArray) (j a : Nat) : Prop := ∃ acc, lineGo wid (r.drop j) j acc = lineGo wid r 0 [] ∧ (gapped j acc).length = a
theorem ColAt.start (wid : List Int) (r : List ByteArray) : ColAt wid r 0 0 := ⟨[], by simp, rfl⟩
theorem ColAt.next {rows : List (List ByteArray)} {r : List ByteArray} {j a : Nat} {s : ByteArray} (h : ColAt (widGo rows []) r j a) (hr : r ∈ rows) (hs : r[j]? = some s) : ColAt (widGo rows []) r (j + 1) (a + wideGo rows j 0 + 2) := by
  obtain ⟨acc, h1, h2⟩ := h
  have hd : r.drop j = s :: r.drop (j + 1) := by
    obtain ⟨h3, h4⟩ := List.getElem?_eq_some_iff.1 hs
    rw [List.drop_eq_getElem_cons h3, h4]
  rw [hd] at h1
  refine ⟨gapped j acc ++ cellTo s ((widGo rows []).getD j 0), h1, ?_⟩
  have hw : s.size ≤ wideGo rows j 0 := szAt_of hs ▸ wideGo_mem rows j 0 r hr
  have hc := cell_len (s := s) (x := (widGo rows []).getD j 0) (by rw [wid_all]; omega)
  rw [wid_all] at hc ⊢
  rw [gapped, if_pos (by omega), List.length_append, List.length_append, h2]
  simp
  omega
theorem ColAt.byte {rows : List (List ByteArray)} {r : List ByteArray} {j a : Nat} {s : ByteArray} (h : ColAt (widGo rows []) r j a) (hs : r[j]? = some s) {n : Nat} (hn : n < s.size) :
    (∀ h : a + n < (lineOf (widGo rows []) r).size, (lineOf (widGo rows []) r)[a + n] = s[n]) ∧ ((lineOf (widGo rows []) r).size ≤ a + n → s[n] = 32) := by
  obtain ⟨acc, h1, h2⟩ := h
  have hd : r.drop j = s :: r.drop (j + 1) := by
    obtain ⟨h3, h4⟩ := List.getElem?_eq_some_iff.1 hs
    rw [List.drop_eq_getElem_cons h3, h4]
  rw [hd] at h1
  obtain ⟨t, ht⟩ := lineGo_ext (widGo rows []) (r.drop (j + 1)) (j + 1) (gapped j acc ++ cellTo s ((widGo rows []).getD j 0))
  have hF : lineGo (widGo rows []) r 0 [] = gapped j acc ++ cellTo s ((widGo rows []).getD j 0) ++ t := by rw [← h1]; exact ht
  have := line_byte (L := lineOf (widGo rows []) r) (show (lineOf (widGo rows []) r).data.toList = _ from rfl) hF hn
  rw [h2] at this
  exact this
theorem line_size {rows : List (List ByteArray)} : tableOf rows = rows.map (lineOf (widGo rows [])) := rfl

set_option maxHeartbeats 2000000 in
set_option maxRecDepth 100000 in
theorem walk_showTable (w : World) (rows : List (List ByteArray)) (v : Value) (h : Sl 1 rRow (fun _ => True) w v rows) (role : Int) (hwf : (Lit.int .i64 role).wf = true) :
    Calls Tryd.prog 3 #[v, .int .i64 role] w fun e w' => e = .returned (.bool true) ∧ Below w.heap.size w w' := by
  have hro : I64 role := by simp [Lit.wf] at hwf; exact hwf
  clear hwf
  obtain ⟨R9, hR9⟩ : ∃ R9, roleOf role = R9 := ⟨_, rfl⟩
  have hrole := fun W => role_any role W
  have hrefrole := fun W => refrole_any role hro W
  rw [hR9] at hrole hrefrole
  clear hR9
  by_cases hf : fewT rows = false
  · go_enter Tryd.func3, Tryd.ntmps3
    go_wp2_with (first
      | (go_at_call 5; refine Calls.mono (awake_any _) ?_; rintro e w1 ⟨rfl, B1⟩)
      | (go_at_call 6; refine Calls.mono (few_any rows _ _ (fun _ => True) (h.keep rRow_ok (by decide) (kept_of B1))) ?_; rw [hf]; rintro e w2 ⟨rfl, rfl⟩))
    go_ret
    exact ⟨rfl, B1⟩
  · have hf : fewT rows = true := by simpa using hf
    have hok := few_ok hf
    have H := Lib.hid h
    have HOK := Lib.hid hok
    have hrl := hok.1
    obtain ⟨A, cp, rfl, hl, hcp, hn, hs⟩ := h
    unfold maxLen at hcp
    have ctab := fun W SS hh => table_any rows hok (.slice A rows.length cp) W SS hh
    have cref := fun W SS hh => reftable_any rows hok (.slice A rows.length cp) W SS hh
    rw [← tables_agree] at cref
    clear hok
    go_enter Tryd.func3, Tryd.ntmps3
    go_wp2_with (first
      | (go_at_call 5; refine Calls.mono (awake_any _) ?_; rintro e w1 ⟨rfl, B1⟩)
      | (go_at_call 6; refine Calls.mono (few_any rows _ _ (fun _ => True) (H.out.keep rRow_ok (by decide) (kept_of B1))) ?_; rw [hf]; rintro e w2 ⟨rfl, rfl⟩)
      | (go_at_call 7; refine Calls.mono (ctab _ (fun _ => True) (H.out.keep rRow_ok (by decide) (kept_of B1))) ?_; rintro e w3 ⟨⟨u, rfl, SU⟩, B3⟩; have B3' := bel_call B1 B3; have SU' := Lib.hid SU; clear SU)
      | (go_at_call 9; refine Calls.mono (cref _ (fun _ => True) (H.out.keep rRow_ok (by decide) (kept_of B3'))) ?_; rintro e w4 ⟨⟨u2, rfl, SU2⟩, B4⟩; have B4' := bel_call B3' B4; have SU2' := Lib.hid SU2; clear SU2)
      | (go_at_call 8; (refine Calls.mono (same_any _ _ _ _ _ (fun _ => True) (fun _ => True) (SU'.out.keep rStr_ok (by decide) (kept_of B4)) SU2'.out) ?_; rw [decide_eq_true rfl]; rintro e w5 ⟨rfl, B5⟩); have B5' := bel_call B4' B5)
      | (go_at_call 10; refine Calls.mono (hrole _) ?_; rintro e w6 ⟨rfl, rfl⟩)
      | (go_at_call 11; refine Calls.mono (hrefrole _) ?_; rintro e w7 ⟨rfl, B7⟩; have B7' := bel_call B5' B7))
    obtain ⟨Au, cu, rfl, hul, huc, hun, hus⟩ := SU'.out
    have hlenT : (tableOf rows).length = rows.length := by rw [tableOf, List.length_map]
    rw [hlenT] at hul hun
    rw [hlenT]
    have HLT := Lib.hid hlenT
    unfold maxLen at huc
    have BT := Lib.hid (bel_call B4 (bel_call B5 B7))
    have BW := Lib.hid B7'
    have hz7 := B7'.size
    have hz37 := BT.out.size
    have hz3 := B3'.size
    clear hlenT ctab cref hrole hrefrole B1 B3 B3' B4 B4' B5 B5' B7 B7'
    go_loopw [36] (fun i wr => ∃ k : Nat, k ≤ rows.length ∧ i = .int .i64 k ∧ Below w7.heap.size w7 wr) (fun i _ => rows.length - (intOf i).toNat)
    case atStart => exact ⟨0, by omega, by go_num, by go_grown⟩
    case round =>
      obtain ⟨k, hk, rfl, hbel⟩ := hrel
      have hzb := hbel.size
      by_cases hlt : k < rows.length
      · obtain ⟨r, hr, hd, hmem⟩ := get_at hlt
        obtain ⟨b, o, A', c', rfl, q1, hl', hc', hn', hs'⟩ := row_at hs hr
        have lt1 : b < w.heap.size := cell_lt q1
        have x1 : wr.cell? ⟨b, o + k, none⟩ = some (.slice A' r.length c') := ((bel_call BW.out hbel).cell (p := ⟨b, o + k, none⟩) lt1).trans q1
        have HM := Lib.hid hmem
        have HR := Lib.hid (HOK.out.2 r hmem)
        have hr12 := HR.out.1
        have hL : (tableOf rows)[k]? = some (lineOf (widGo rows []) r) := by rw [tableOf, List.getElem?_map, hr]; rfl
        obtain ⟨bu, ou, rfl, q9, hLz⟩ := str_at hus hL
        obtain ⟨L, hLe⟩ : ∃ L, L = lineOf (widGo rows []) r := ⟨_, rfl⟩
        rw [← hLe] at q9 hLz
        have HLE := Lib.hid hLe
        have ltu : bu < w3.heap.size := cell_lt q9
        have Q9 := Lib.hid q9
        clear hr hd hmem q1 hL hLe q9
        go_wp2
        obtain ⟨wo, rfl⟩ : ∃ wo : World, wo = wr := ⟨_, rfl⟩
        go_loopw [8, 43] (fun s8 i wr => ∃ (j a : Nat), j ≤ r.length ∧ i = .int .i64 j ∧ s8 = .int .i64 a ∧ Hid (ColAt (widGo rows []) r j a) ∧ a ≤ 42 * j ∧ Below wo.heap.size wo wr) (fun _ i _ => r.length - (intOf i).toNat)
        case atStart => exact ⟨0, 0, by omega, by go_num, by go_num, ColAt.start _ _, by omega, by go_grown⟩
        case round =>
          obtain ⟨j, a, hj, rfl, rfl, HC, ha, hbel'⟩ := hrel
          have hzb' := hbel'.size
          by_cases hltj : j < r.length
          · obtain ⟨s, hsj, hds, hms⟩ := get_at hltj
            obtain ⟨b', o', rfl, q2, hz⟩ := str_at hs' hsj
            have lt2 : b' < w.heap.size := cell_lt q2
            have BB := bel_call (bel_call BW.out hbel) hbel'
            have x2 : wr.cell? ⟨b', o' + j, none⟩ = some (.string s) := (BB.cell (p := ⟨b', o' + j, none⟩) lt2).trans q2
            have hs40 := HR.out.2 s hms
            have HS := Lib.hid hsj
            clear hsj hds hms q2
            go_wp2
            obtain ⟨wp, rfl⟩ : ∃ wp : World, wp = wr := ⟨_, rfl⟩
            go_loopw [] (fun wr => ∃ pos : Nat, wr.heap[wp.heap.size]? = some (.stringIter s pos) ∧ Below wp.heap.size wp wr) (fun wr => s.size - wr.iterPos wp.heap.size)
            case atStart => exact ⟨0, World.iter_heap wp s 0, (Below.refl _ wp).alloc (Nat.le_refl _) _⟩
            case round =>
              obtain ⟨pos, hit, hbi⟩ := hrel
              have hsz : wp.heap.size < wr.heap.size := (Array.getElem?_eq_some_iff.1 hit).1
              by_cases hp : pos < s.size
              · have hnx : ∀ ty, (Instr.next (.pointer (some ⟨wp.heap.size, 0, none⟩)) true ty).run Tryd.prog wr = _ := fun ty => Lib.run_next_any_at wr wp.heap.size s pos ty hit hp
                have hwd := width_pos s pos hp
                have hd1 := decode_le s pos
                have hit2 := Lib.iterAt_heap wr wp.heap.size s pos (pos + (Utf8.decode s pos).2) hit
                have hbi2 := Lib.below_iterAt hbi (k := wp.heap.size) (by omega) s (pos + (Utf8.decode s pos).2)
                obtain ⟨W2, hW2⟩ : ∃ W2, wr.iterAt wp.heap.size s (pos + (Utf8.decode s pos).2) = W2 := ⟨_, rfl⟩
                have HW2 := Lib.hid hW2
                rw [hW2] at hnx hit2 hbi2
                have y9 : W2.cell? ⟨bu, ou + k, none⟩ = some (.string L) := (Below.cell (p := ⟨bu, ou + k, none⟩) (bel_call BT.out (bel_call hbel (bel_call hbel' hbi2))) ltu).trans Q9.out
                obtain ⟨hin, hout⟩ := HC.out.byte HS.out hp
                rw [← HLE.out] at hin hout
                obtain ⟨m, hm⟩ : ∃ m, a + pos = m := ⟨_, rfl⟩
                have hwr : IntKind.i64.wrap ((a : Int) + pos) = m := by rw [show (a : Int) + pos = m by omega]; exact IntWalk.i64_in _ (by omega)
                rw [hm] at hin hout
                have HIT := Lib.hid hit
                have HIT2 := Lib.hid hit2
                have HPOS := Lib.hid hd1
                clear hit hit2 hm hd1 hW2
                by_cases hmL : m < L.size
                · obtain ⟨bb, hbb⟩ : ∃ bb, (s[pos]'hp).toNat = bb := ⟨_, rfl⟩
                  have hbL : (L[m]'hmL).toNat = bb := by rw [hin hmL, hbb]
                  have hge : decide ((L.size : Int) ≤ (m : Int)) = false := decide_eq_false (by omega)
                  have hge1 : decide (L.size ≤ m) = false := decide_eq_false (by omega)
                  have hlt9 : (m : Int) < (L.size : Int) := by omega
                  clear hin hout
                  go_wp2_with fail
                  go_quiet (fail)
                  go_wp2
                  go_roundw
                  case rel => exact ⟨_, HIT2.out, below_drewN2 hbi2 _⟩
                  case measure =>
                    simp only [World.iterPos, HIT.out, show (W2.drewN nq).heap[wp.heap.size]? = some (.stringIter s (pos + (Utf8.decode s pos).2)) from HIT2.out]
                    have := HPOS.out
                    omega
                · have hge : L.size ≤ m := by omega
                  obtain ⟨bb, hbb⟩ : ∃ bb, (s[pos]'hp).toNat = bb := ⟨_, rfl⟩
                  have hdl : decide ((m : Int) < (L.size : Int)) = false := decide_eq_false (by omega)
                  have hdg : (L.size : Int) ≤ (m : Int) := by omega
                  have hI : (bb : Int) = 32 := by
                    have : (s[pos]'hp).toNat = 32 := by rw [hout hge]; rfl
                    omega
                  clear hin hout
                  go_wp2_with fail
                  go_quiet (fail)
                  go_wp2
                  go_roundw
                  case rel => exact ⟨_, HIT2.out, below_drewN2 hbi2 _⟩
                  case measure =>
                    simp only [World.iterPos, HIT.out, show (W2.drewN nq).heap[wp.heap.size]? = some (.stringIter s (pos + (Utf8.decode s pos).2)) from HIT2.out]
                    have := HPOS.out
                    omega
              · have hnx : ∀ ty, (Instr.next (.pointer (some ⟨wp.heap.size, 0, none⟩)) true ty).run Tryd.prog wr = _ := fun ty => Lib.run_next_end_at wr wp.heap.size s pos ty hit hp
                clear hit
                have BC := Lib.hid (bel_call BB hbi)
                have hzc := BC.out.size
                have hw1 : wideGo rows j 0 ≤ 40 := wideGo_le rows j 0 HOK.out.2 (by omega)
                have HN := Lib.hid (HC.out.next HM.out HS.out)
                obtain ⟨W, hW⟩ : ∃ W, wideGo rows j 0 = W := ⟨_, rfl⟩
                rw [hW] at hw1
                have HN' : Hid (ColAt (widGo rows []) r (j + 1) (a + W + 2)) := by
                  have := HN.out
                  rw [hW] at this
                  exact this
                have HWW := Lib.hid hW
                clear hW HN
                go_wp2
                obtain ⟨wq, rfl⟩ : ∃ wq : World, wq = wr := ⟨_, rfl⟩
                go_loop [12, 95] (fun n i => ∃ p m : Nat, p ≤ rows.length ∧ m ≤ 140737488355328 ∧ i = .int .i64 p ∧ n = .int .i64 m ∧ Hid (wideGo (rows.drop p) j m = W)) (fun _ i => rows.length - (intOf i).toNat)
                case atStart => exact ⟨0, 0, by omega, by omega, by go_num, by go_num, HWW⟩
                case round =>
                  obtain ⟨p, m, hpp, hm, rfl, rfl, E⟩ := hrel
                  by_cases hltp : p < rows.length
                  · obtain ⟨r', hr', hd', _⟩ := get_at hltp
                    obtain ⟨b2, o2, A2, c2, he2, q3, hl2, hc2, hn2, hs2⟩ := row_at hs hr'
                    simp only [Option.some.injEq, Addr.mk.injEq, and_true] at he2
                    obtain ⟨rfl, rfl⟩ := he2
                    have x3 : wq.cell? ⟨b, o + p, none⟩ = some (.slice A2 r'.length c2) := (BC.out.cell (p := ⟨b, o + p, none⟩) lt1).trans q3
                    have E1 := E.out
                    rw [hd', wideGo] at E1
                    clear hr' hd' q3
                    by_cases hcl : j < r'.length
                    · obtain ⟨s', hsj', _, _⟩ := get_at hcl
                      obtain ⟨b3, o3, rfl, q4, hz4⟩ := str_at hs2 hsj'
                      have x4 : wq.cell? ⟨b3, o3 + j, none⟩ = some (.string s') := (BC.out.cell (p := ⟨b3, o3 + j, none⟩) (cell_lt q4)).trans q4
                      rw [szAt_of hsj'] at E1
                      have E2 := Lib.hid E1
                      clear hsj' q4 E1
                      go_wp2
                      go_round
                      case rel => exact ⟨p + 1, max m s'.size, by omega, by omega, by go_num, by simp only [Value.int.injEq, true_and]; omega, E2⟩
                      case measure => simp [intOf]; omega
                    · rw [szAt, List.getElem?_eq_none (by omega)] at E1
                      dsimp only at E1
                      rw [Nat.max_eq_left (by omega)] at E1
                      have E2 := Lib.hid E1
                      clear E1
                      go_wp2
                      go_round
                      case rel => exact ⟨p + 1, m, by omega, by omega, by go_num, by go_num, E2⟩
                      case measure => simp [intOf]; omega
                  · obtain rfl : p = rows.length := by omega
                    have E1 := E.out
                    rw [List.drop_length, wideGo] at E1
                    subst E1
                    have hu1 : IntKind.i64.wrap ((a : Int) + m) = (a : Int) + m := IntWalk.i64_in _ (by omega)
                    have hu2 : IntKind.i64.wrap ((a : Int) + m + 2) = (a : Int) + m + 2 := IntWalk.i64_in _ (by omega)
                    go_wp2
                    go_roundw
                    case rel => exact ⟨j + 1, a + m + 2, by omega, by go_num, by go_num, HN', by omega, hbel'.trans (hbi.mono (by omega))⟩
                    case measure => simp [intOf]; omega
          · obtain rfl : j = r.length := by omega
            go_wp2
            go_roundw
            case rel => exact ⟨k + 1, by omega, by go_num, hbel.trans (hbel'.mono (by omega))⟩
            case measure => simp [intOf]; omega
      · obtain rfl : k = rows.length := by omega
        go_wp2
        go_ret
        exact ⟨rfl, bel_call BW.out hbel⟩
end Go.Proofs.YtkndlhlhcpppgaaDoor
