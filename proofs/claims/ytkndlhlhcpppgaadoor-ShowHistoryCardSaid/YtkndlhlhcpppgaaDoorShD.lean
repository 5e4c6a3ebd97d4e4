/- Layer show: the document's Table. Conditions: at most forty rows of at most twelve texts of at most forty bytes. -/
import Derived.Test.YtkndlhlhcpppgaaDoorShC
namespace Go.Proofs.YtkndlhlhcpppgaaDoor
open Go.RowKit Go.Deep

def refGo (rows : List (List ByteArray)) : List ByteArray → Nat → Nat → List UInt8 → List UInt8
  | [], _, _, acc => acc
  | s :: r, k, a, acc => refGo rows r (k + 1) (a + wideGo rows k 0 + 2) (acc ++ List.replicate (a - acc.length) 32 ++ s.data.toList)
def refLine (rows : List (List ByteArray)) (r : List ByteArray) : ByteArray := ⟨(Lib.trimRightB (refGo rows r 0 0 []) 32).toArray⟩
def refTable (rows : List (List ByteArray)) : List ByteArray := rows.map (refLine rows)

theorem wideGo_ge : ∀ (l : List (List ByteArray)) (c n : Nat), n ≤ wideGo l c n
  | [], _, n => Nat.le_refl _
  | r :: l, c, n => Nat.le_trans (Nat.le_max_left _ _) (wideGo_ge l c _)
theorem wideGo_mem : ∀ (l : List (List ByteArray)) (c n : Nat) (r : List ByteArray), r ∈ l → szAt r c ≤ wideGo l c n
  | t :: l, c, n, r, h => by
    rcases List.mem_cons.1 h with rfl | h
    · exact Nat.le_trans (Nat.le_max_right _ _) (wideGo_ge l c _)
    · exact wideGo_mem l c _ r h
theorem szAt_le {r : List ByteArray} (h : OkRow r) (c : Nat) : szAt r c ≤ 40 := by
  unfold szAt
  split
  · exact h.2 _ (List.mem_of_getElem? (by assumption))
  · omega
theorem wideGo_le : ∀ (l : List (List ByteArray)) (c n : Nat), (∀ r ∈ l, OkRow r) → n ≤ 40 → wideGo l c n ≤ 40
  | [], _, n, _, h => h
  | t :: l, c, n, h, hn => wideGo_le l c _ (fun r hr => h r (List.mem_cons_of_mem _ hr)) (Nat.max_le.2 ⟨hn, szAt_le (h t (List.mem_cons_self ..)) c⟩)
theorem szAt_of {r : List ByteArray} {c : Nat} {s : ByteArray} (h : r[c]? = some s) : szAt r c = s.size := by rw [szAt, h]

theorem trim_snoc (l : List UInt8) (c : UInt8) : Lib.trimRightB (l ++ [c]) c = Lib.trimRightB l c := by
  simp [Lib.trimRightB]
theorem trim_keep (l : List UInt8) (b c : UInt8) (h : b ≠ c) : Lib.trimRightB (l ++ [b]) c = l ++ [b] := by
  simp [Lib.trimRightB, h]
theorem trim_nil (c : UInt8) : Lib.trimRightB [] c = [] := rfl
def lenStr : Value → Nat
  | .string s => s.size
  | _ => 0

theorem byte_at {s : ByteArray} {k : Nat} (h : k < s.size) : s.data.toList.drop k = s[k] :: s.data.toList.drop (k + 1) := by
  have h' : k < s.data.toList.length := by simpa using h
  rw [List.drop_eq_getElem_cons h']
  rfl
theorem blanks_q (n : Nat) (hn : n ≤ 1000000) (w : World) : Calls Tryd.prog 19 #[.int .i64 n] w fun e w' => e = .returned (.string (blankS n)) ∧ w' = w :=
  (blanks_any n hn w).mono fun _ _ ⟨h, k⟩ => ⟨h, k.symm⟩

set_option maxHeartbeats 4000000 in
theorem reftable_any (rows : List (List ByteArray)) (hok : OkRows rows) (v : Value) (w : World) (S : Nat → Prop) (h : Sl 1 rRow S w v rows) :
    Calls Tryd.prog 9 #[v] w fun e w' => (∃ u, e = .returned u ∧ Sl 1 rStr (fun _ => True) w' u (refTable rows)) ∧ Below w.heap.size w w' := by
  have hR := Lib.hid h
  have FT : Hid (refTable rows = rows.map (refLine rows)) := rfl
  obtain ⟨A, cp, rfl, hl, hcp, hn, hs⟩ := h
  unfold maxLen at hcp
  obtain ⟨istring, histring, hzstring, h1string, h2string⟩ := info_parts (show (Tryd.prog.info? 9).map (fun i => (i.zero, i.size, i.bytes)) = some (some (.string ⟨#[]⟩), 1, 16) from by kernel_rfl)
  have H20 := Lib.hid hok
  have hn20 := hok.1
  clear hok
  go_enter Tryd.func9, Tryd.ntmps9
  go_wp2
  go_loopw [3, 4] (fun v4 i wr => ∃ k : Nat, k ≤ rows.length ∧ i = .int .i64 k ∧ Hid (Grow 9 1 rStr (fun _ => False) wr w.heap.size v4 ((rows.take k).map (refLine rows))) ∧ Below w.heap.size w wr) (fun _ i _ => rows.length - (intOf i).toNat)
  case atStart => exact ⟨0, by omega, by go_num, Grow.nil, by go_grown⟩
  case round =>
    obtain ⟨k, hk, rfl, HG, hbel⟩ := hrel
    obtain ⟨A0, n0, c0, rfl, hn0⟩ := HG.out.shape'
    have HN := Lib.hid hn0
    clear hn0
    have hzb := hbel.size
    by_cases hlt : k < rows.length
    · obtain ⟨r, hr, hd, hmem⟩ := get_at hlt
      obtain ⟨b, o, A', c', rfl, q1, hl', hc', hn', hs'⟩ := row_at hs hr
      have lt1 : b < w.heap.size := cell_lt q1
      have x1 : wr.cell? ⟨b, o + k, none⟩ = some (.slice A' r.length c') := (hbel.cell (p := ⟨b, o + k, none⟩) lt1).trans q1
      have HT := Lib.hid (show rows.take (k + 1) = rows.take k ++ [r] by rw [List.take_add_one, hr]; rfl)
      have HR := Lib.hid (H20.out.2 r hmem)
      have HM := Lib.hid hmem
      have hr12 := HR.out.1
      have Q1 := Lib.hid q1
      clear hr hd hmem q1
      go_wp2
      obtain ⟨wo, rfl⟩ : ∃ wo : World, wo = wr := ⟨_, rfl⟩
      go_loopw [5, 6, 7] (fun s5 s6 s7 wr => ∃ (j a : Nat) (t : ByteArray), j ≤ r.length ∧ s7 = .int .i64 j ∧ s6 = .int .i64 a ∧ s5 = .string t ∧ Hid (refGo rows (r.drop j) j a t.data.toList = refGo rows r 0 0 []) ∧ t.size ≤ a ∧ a ≤ 42 * j ∧ Below wo.heap.size wo wr) (fun _ _ i _ => r.length - (intOf i).toNat)
      case atStart => exact ⟨0, 0, ⟨#[]⟩, by omega, by go_num, by go_num, rfl, by simp [Hid], by decide, by omega, by go_grown⟩
      case round =>
        obtain ⟨j, a, t, hj, rfl, rfl, rfl, E, hta, ha, hbel'⟩ := hrel
        have hzb' := hbel'.size
        have x2 : wr.cell? ⟨b, o + k, none⟩ = some (.slice A' r.length c') := ((bel_call hbel hbel').cell (p := ⟨b, o + k, none⟩) lt1).trans Q1.out
        by_cases hltj : j < r.length
        · obtain ⟨s, hsj, hds, hms⟩ := get_at hltj
          obtain ⟨b', o', rfl, q2, hz⟩ := str_at hs' hsj
          have BB := bel_call hbel hbel'
          have x3 : wr.cell? ⟨b', o' + j, none⟩ = some (.string s) := (BB.cell (p := ⟨b', o' + j, none⟩) (cell_lt q2)).trans q2
          have hs40 := HR.out.2 s hms
          have E3 := E.out
          rw [hds, refGo] at E3
          have E4 := Lib.hid E3
          have hw1 : s.size ≤ wideGo rows j 0 := szAt_of hsj ▸ wideGo_mem rows j 0 r HM.out
          have hw2 : wideGo rows j 0 ≤ 40 := wideGo_le rows j 0 H20.out.2 (by omega)
          have WW := Lib.hid (wide_any rows j (by omega) _ wr S (hR.out.keep rRow_ok (by decide) (kept_of BB)))
          obtain ⟨W, hW⟩ : ∃ W, wideGo rows j 0 = W := ⟨_, rfl⟩
          rw [hW] at hw1 hw2
          have HWW := Lib.hid hW
          obtain ⟨c, hc⟩ : ∃ c : Nat, a = t.size + c := ⟨a - t.size, by omega⟩
          subst hc
          have hsub : IntKind.i64.wrap (((t.size + c : Nat) : Int) - t.size) = c := by
            rw [show ((t.size + c : Nat) : Int) - t.size = c by omega]
            exact IntWalk.i64_in _ (by omega)
          have hsub2 : IntKind.i64.wrap ((t.size : Int) + c - t.size) = c := by
            rw [show (t.size : Int) + c - t.size = c by omega]
            exact IntWalk.i64_in _ (by omega)
          have hrs := blankS_size c
          have hz1 : (t ++ blankS c).size = t.size + c := by simp [ByteArray.size_append, hrs]
          have hz2 : (t ++ blankS c ++ s).size = t.size + c + s.size := by simp [ByteArray.size_append, hrs]
          have hcat : Hid ((t ++ blankS c ++ s).data.toList = t.data.toList ++ List.replicate c 32 ++ s.data.toList) := by
            show _ = _
            simp [blankS, ByteArray.data_append]
          have hg1 : ¬ 9223372036854775807 < t.size + c := by omega
          have hg2 : ¬ 9223372036854775807 < t.size + c + s.size := by omega
          clear hsj hds hms q2 E3 E hW
          go_wp2_with fail
          go_quiet ((go_at_call 19; refine Calls.quiet_of_same (blanks_q c (by omega) _)))
          go_wp2_with fail
          have WQ := WW.out
          rw [HWW.out] at WQ
          refine Calls.mono (wide_any rows j (by omega) _ (wr.drewN nq) S (hR.out.keep rRow_ok (by decide) (kept_of (below_drewN2 BB nq)))) ?_
          rw [HWW.out]
          rintro e w4 ⟨rfl, rfl⟩
          clear WQ
          have hu1 : IntKind.i64.wrap ((t.size : Int) + c + W) = (t.size : Int) + c + W := IntWalk.i64_in _ (by omega)
          have hu2 : IntKind.i64.wrap ((t.size : Int) + c + W + 2) = (t.size : Int) + c + W + 2 := IntWalk.i64_in _ (by omega)
          go_wp2
          go_roundw
          case rel =>
            refine ⟨j + 1, t.size + c + W + 2, t ++ blankS c ++ s, by omega, by go_num, by go_num, rfl, ?_, ?_, by omega, below_drewN2 hbel' _⟩
            · show _ = _
              have := E4.out
              rw [HWW.out, size_list, show t.size + c - t.size = c by omega] at this
              rw [hcat.out]
              exact this
            · rw [hz2]; omega
          case measure => simp [intOf]; omega
        · obtain rfl : j = r.length := by omega
          have E3 := E.out
          rw [List.drop_length, refGo] at E3
          have E4 := Lib.hid E3
          have BB := Lib.hid (bel_call hbel hbel')
          have hBz := BB.out.size
          clear E3 E
          go_wp2
          obtain ⟨w2, rfl⟩ : ∃ w2 : World, w2 = wr := ⟨_, rfl⟩
          go_loopw [5] (fun s5 wr => ∃ q : ByteArray, s5 = .string q ∧ Hid (Lib.trimRightB q.data.toList 32 = Lib.trimRightB (refGo rows r 0 0 []) 32) ∧ q.size ≤ 504 ∧ wr = w2) (fun s5 _ => lenStr s5)
          case atStart => exact ⟨t, rfl, by show _ = _; rw [E4.out], by omega, rfl⟩
          case round =>
            obtain ⟨q, rfl, EQ, hq, rfl⟩ := hrel
            by_cases hq0 : q.size = 0
            · have E9 : Hid (q = refLine rows r) := by
                show _ = _
                apply Go.WideShapes.bytes_inj
                show _ = Lib.trimRightB _ _
                rw [← EQ.out]
                have : q.data.toList = [] := List.eq_nil_of_length_eq_zero (by rw [size_list]; exact hq0)
                rw [this]
                rfl
              have G0 := Lib.hid (HG.out.below rStr_ok (w' := wr) hbel')
              have HL9 := Lib.hid (show ((rows.take k).map (refLine rows)).length ≤ 40 by rw [List.length_map, List.length_take]; omega)
              go_wp2_with (at_builtin; go_loud (refine wpList_grow1 (R := rStr) _ _ rfl (.tmp 60) (.tmp 62) 25 rfl 9 istring _ 1 16 Tryd.underlying25 histring hzstring h1string h2string rfl (by decide) rStr_ok w.heap.size (by omega) _ _ rfl G0.out _ _ rfl (by simp only [World.size_alloc, World.size_setCell, World.size_drew]) _ (by intro b hb; exact hb.elim) ⟨rfl, (by omega)⟩ (by have := HL9.out; omega) (by decide) ?_); intro v1 w5 g1 gg1 go1; obtain ⟨A5, n5, c5, rfl, hn5⟩ := g1.shape'; have G5 := Lib.hid g1; have GG := Lib.hid gg1; clear hn5 g1 gg1 go1)
              go_roundw
              case rel =>
                refine ⟨k + 1, by omega, by go_num, ?_, ?_⟩
                · show Grow _ _ _ _ _ _ _ _
                  have := G5.out
                  rw [HT.out, List.map_append]
                  rw [E9.out] at this
                  exact this
                · exact Below.grown BB.out GG.out (by omega) fun b hb => (HG.out.base_le b hb).1
              case measure => simp [intOf]; omega
            · obtain ⟨n, hn1⟩ : ∃ n, q.size = n + 1 := ⟨q.size - 1, by omega⟩
              have hlast : Hid (q.data.toList = q.data.toList.take n ++ [q[n]'(by omega)]) := by
                show _ = _
                have h1 : q.data.toList.length = n + 1 := by rw [size_list]; exact hn1
                have h2 := (List.take_append_drop n q.data.toList).symm
                rw [byte_at (by omega), List.drop_of_length_le (by omega)] at h2
                exact h2
              have hlt9 : n < q.size := by omega
              have hsub3 : IntKind.i64.wrap (((n + 1 : Nat) : Int) - 1) = n := by
                rw [show ((n + 1 : Nat) : Int) - 1 = n by omega]
                exact IntWalk.i64_in _ (by omega)
              have hsub4 : IntKind.i64.wrap ((n : Int) + 1 - 1) = n := by
                rw [show (n : Int) + 1 - 1 = n by omega]
                exact IntWalk.i64_in _ (by omega)
              have hsub5 : IntKind.i64.wrap ((q.size : Int) - 1) = n := by
                rw [hn1]; exact hsub3
              obtain ⟨bb, hbb⟩ : ∃ bb, (q[n]'hlt9).toNat = bb := ⟨_, rfl⟩
              by_cases hb32 : bb = 32
              · subst hb32
                have hb8 : q[n]'hlt9 = 32 := UInt8.toNat_inj.1 hbb
                have E9 : Hid (Lib.trimRightB (q.extract 0 n).data.toList 32 = Lib.trimRightB (refGo rows r 0 0 []) 32) := by
                  show _ = _
                  rw [← EQ.out, hlast.out, hb8, trim_snoc]
                  congr 1
                  simp [ByteArray.data_extract, List.take_take]
                have hez : (q.extract 0 n).size = n := by simp [ByteArray.size_extract]; omega
                clear hb8
                go_wp2
                go_roundw
                case rel => exact ⟨_, rfl, E9, by rw [hez]; omega, by first | rfl | trivial⟩
                case measure => simp only [lenStr, hez]; omega
              · have hb8 : q[n]'hlt9 ≠ 32 := fun e => hb32 (by rw [← hbb, e]; rfl)
                have E9 : Hid (q = refLine rows r) := by
                  show _ = _
                  apply Go.WideShapes.bytes_inj
                  show _ = Lib.trimRightB _ _
                  rw [← EQ.out]
                  have h := hlast.out
                  rw [h, trim_keep _ _ _ hb8]
                have hbi : ¬ (bb : Int) = 32 := by omega
                clear hb8 hb32
                have G0 := Lib.hid (HG.out.below rStr_ok (w' := wr) hbel')
                have HL9 := Lib.hid (show ((rows.take k).map (refLine rows)).length ≤ 40 by rw [List.length_map, List.length_take]; omega)
                go_wp2_with (at_builtin; go_loud (refine wpList_grow1 (R := rStr) _ _ rfl (.tmp 60) (.tmp 62) 25 rfl 9 istring _ 1 16 Tryd.underlying25 histring hzstring h1string h2string rfl (by decide) rStr_ok w.heap.size (by omega) _ _ rfl G0.out _ _ rfl (by simp only [World.size_alloc, World.size_setCell, World.size_drew]) _ (by intro b hb; exact hb.elim) ⟨rfl, (by omega)⟩ (by have := HL9.out; omega) (by decide) ?_); intro v1 w5 g1 gg1 go1; obtain ⟨A5, n5, c5, rfl, hn5⟩ := g1.shape'; have G5 := Lib.hid g1; have GG := Lib.hid gg1; clear hn5 g1 gg1 go1)
                go_roundw
                case rel =>
                  refine ⟨k + 1, by omega, by go_num, ?_, ?_⟩
                  · show Grow _ _ _ _ _ _ _ _
                    have := G5.out
                    rw [HT.out, List.map_append]
                    rw [E9.out] at this
                    exact this
                  · exact Below.grown BB.out GG.out (by omega) fun b hb => (HG.out.base_le b hb).1
                case measure => simp [intOf]; omega
    · obtain rfl : k = rows.length := by omega
      go_wp2
      go_ret
      refine ⟨⟨_, rfl, ?_⟩, hbel⟩
      have := Own.sl rStr_ok HG.out
      rw [List.take_length] at this
      rw [FT.out]
      exact this
end Go.Proofs.YtkndlhlhcpppgaaDoor
