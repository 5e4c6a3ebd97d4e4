/- Layer show: Table. Conditions: at most forty rows of at most twelve texts of at most forty bytes. -/
import Derived.Test.YtkapaafbnbnpjaaGreatDoorSwB
import Derived.Test.YtkapaafbnbnpjaaGreatDoorShLays
namespace Go.Proofs.YtkapaafbnbnpjaaGreatDoor
open Go.RowKit Go.Deep

def cellTo (s : ByteArray) (x : Int) : List UInt8 := s.data.toList ++ List.replicate (x - s.size).toNat 32
def lineGo (wid : List Int) : List ByteArray → Nat → List UInt8 → List UInt8
  | [], _, acc => acc
  | s :: r, i, acc => lineGo wid r (i + 1) ((if 0 < i then acc ++ [32, 32] else acc) ++ cellTo s (wid.getD i 0))
def lineOf (wid : List Int) (r : List ByteArray) : ByteArray := ⟨(Lib.trimRightB (lineGo wid r 0 []) 32).toArray⟩
def tableOf (rows : List (List ByteArray)) : List ByteArray := rows.map (lineOf (widGo rows []))

/-! The widths fit. -/
def Fits (wid : List Int) (r : List ByteArray) : Prop := ∀ (i : Nat) (s : ByteArray), r[i]? = some s → ∃ x, wid[i]? = some x ∧ (s.size : Int) ≤ x
/-- Every place of a is in b, and not narrower. -/
def LeW (a b : List Int) : Prop := ∀ (i : Nat) (x : Int), a[i]? = some x → ∃ y, b[i]? = some y ∧ x ≤ y
theorem LeW.refl (a : List Int) : LeW a a := fun i x h => ⟨x, h, Int.le_refl _⟩
theorem LeW.trans {a b c : List Int} (h : LeW a b) (k : LeW b c) : LeW a c := fun i x hx => by
  obtain ⟨y, hy, h1⟩ := h i x hx
  obtain ⟨z, hz, h2⟩ := k i y hy
  exact ⟨z, hz, Int.le_trans h1 h2⟩
theorem growW_le (a : List Int) (i : Nat) : LeW a (growW a i) := fun j x hx => by
  unfold growW
  split
  · exact ⟨x, by rw [List.getElem?_append_left (List.getElem?_eq_some_iff.1 hx).1]; exact hx, Int.le_refl _⟩
  · exact ⟨x, hx, Int.le_refl _⟩
theorem updW_le (a : List Int) (i : Nat) (s : ByteArray) : LeW a (updW a i s) := fun j x hx => by
  unfold updW
  have hl := (List.getElem?_eq_some_iff.1 hx).1
  by_cases hij : i = j
  · subst hij
    refine ⟨_, List.getElem?_set_self hl, ?_⟩
    rw [List.getD, hx, Option.getD_some]
    omega
  · exact ⟨x, by rw [List.getElem?_set_ne hij]; exact hx, Int.le_refl _⟩
theorem stepW_le (a : List Int) (i : Nat) (s : ByteArray) : LeW a (updW (growW a i) i s) := (growW_le a i).trans (updW_le _ i s)
theorem rowGo_le : ∀ (r : List ByteArray) (i : Nat) (a : List Int), LeW a (rowGo r i a)
  | [], _, a => LeW.refl a
  | s :: r, i, a => (stepW_le a i s).trans (rowGo_le r (i + 1) _)
theorem widGo_le : ∀ (l : List (List ByteArray)) (a : List Int), LeW a (widGo l a)
  | [], a => LeW.refl a
  | r :: l, a => (rowGo_le r 0 a).trans (widGo_le l _)
theorem stepW_len (a : List Int) (i : Nat) (s : ByteArray) (h : i ≤ a.length) : i + 1 ≤ (updW (growW a i) i s).length := by
  rw [updW, List.length_set, growW]
  split
  · simp; omega
  · omega
theorem stepW_at (a : List Int) (i : Nat) (s : ByteArray) (h : i ≤ a.length) : ∃ x, (updW (growW a i) i s)[i]? = some x ∧ (s.size : Int) ≤ x := by
  have h1 := stepW_len a i s h
  have h2 : i < (growW a i).length := by rw [updW, List.length_set] at h1; omega
  exact ⟨_, List.getElem?_set_self h2, by omega⟩
theorem rowGo_at : ∀ (r : List ByteArray) (i : Nat) (a : List Int), i ≤ a.length → ∀ (j : Nat) (s : ByteArray), r[j]? = some s → ∃ x, (rowGo r i a)[i + j]? = some x ∧ (s.size : Int) ≤ x
  | [], _, _, _, j, s, hj => by simp at hj
  | t :: r, i, a, h, 0, s, hj => by
    obtain rfl : t = s := by simpa using hj
    obtain ⟨x, hx, h1⟩ := stepW_at a i t h
    obtain ⟨y, hy, h2⟩ := rowGo_le r (i + 1) _ i x hx
    exact ⟨y, hy, by omega⟩
  | t :: r, i, a, h, j + 1, s, hj => by
    have := rowGo_at r (i + 1) (updW (growW a i) i t) (stepW_len a i t h) j s (by simpa using hj)
    rw [show i + 1 + j = i + (j + 1) by omega] at this
    exact this
theorem widGo_fits : ∀ (l : List (List ByteArray)) (a : List Int) (r : List ByteArray), r ∈ l → Fits (widGo l a) r
  | t :: l, a, r, h => fun i s hs => by
    rcases List.mem_cons.1 h with rfl | h
    · obtain ⟨x, hx, h1⟩ := rowGo_at r 0 a (Nat.zero_le _) i s hs
      rw [Nat.zero_add] at hx
      obtain ⟨y, hy, h2⟩ := widGo_le l _ i x hx
      exact ⟨y, hy, by omega⟩
    · exact widGo_fits l _ r h i s hs

section
variable {S : Nat → Prop} {w w' : World} {A : Option Addr}
theorem int_at {l : List Int} (hs : SlAt 1 rInt S w A l) {k : Nat} {x : Int} (hk : l[k]? = some x) : ∃ b o, A = some ⟨b, o, none⟩ ∧ w.cell? ⟨b, o + k, none⟩ = some (.int .i64 x) := by
  obtain ⟨b, o, ys, rfl, _, _, hc, rfl, hz⟩ := hs k x hk
  have h := hc 0 _ rfl
  rw [show k * 1 + 0 = k by omega] at h
  exact ⟨b, o, rfl, h⟩
theorem IsB.below {B b : Nat} {l : List UInt8} (h : IsB B b l w) (hb : Below w.heap.size w w') : IsB B b l w' := by
  have one : ∀ p, Lib.BuilderAt 68 5 B b p (Lib.byteCells l) w → Lib.BuilderAt 68 5 B b p (Lib.byteCells l) w' := by
    rintro p ⟨hB, v, hk, ⟨h3, h4⟩, hne⟩
    refine ⟨hB, v, (hb.block b (blk_lt hk)).trans hk, ⟨h3, ?_⟩, hne⟩
    rcases h4 with h4 | ⟨g, cap, cur, hv, hbg, hg, r⟩
    · exact .inl h4
    · exact .inr ⟨g, cap, cur, hv, hbg, (hb.block g (blk_lt hg)).trans hg, r⟩
  exact h.elim (fun h => .inl (one _ h)) fun h => .inr (one _ h)
theorem IsB.fresh (w : World) : IsB w.heap.size w.heap.size [] (w.alloc (.cells #[.pointer none, .slice none 0 0] 68)) :=
  .inl ⟨Nat.le_refl _, _, heap_alloc_new w _, World.ownsRow_nil _ _ _ _, by simp [Value.ownBlock]⟩
theorem string_any' (B b : Nat) (l : List UInt8) (w : World) (h : IsB B b l w) (hBw : B ≤ w.heap.size) :
    Calls Tryz.prog 24 #[.pointer (some ⟨b, 0, none⟩)] w fun e w' => ∃ t : ByteArray, e = .returned (.string t) ∧ Hid (t.data.toList = l) ∧ Below B w w' := by
  refine Calls.mono (string_any B b l w h hBw) ?_
  rintro e w' ⟨rfl, hb⟩
  exact ⟨_, rfl, rfl, hb⟩
theorem trim_any' (s : ByteArray) (w : World) (hs : s.size ≤ 9223372036854775807) :
    Calls Tryz.prog 27 #[.string s, .string ⟨#[32]⟩] w fun e w' => ∃ t : ByteArray, e = .returned (.string t) ∧ Hid (t.data.toList = Lib.trimRightB s.data.toList 32) ∧ w' = w := by
  refine Calls.mono (trim_any s w hs) ?_
  rintro e w' ⟨rfl, hb⟩
  exact ⟨_, rfl, rfl, hb⟩
end
theorem repeat_any' (c : Nat) (w : World) (hc : c ≤ 1000) :
    Calls Tryz.prog 26 #[.string ⟨#[32]⟩, .int .i64 c] w fun e w' => e = .returned (.string (blankS c)) ∧ Below w.heap.size w w' := repeat_any c w hc
theorem trim_len (l : List UInt8) (c : UInt8) : (Lib.trimRightB l c).length ≤ l.length := by
  rw [Lib.trimRightB, List.length_reverse]
  have := (List.dropWhile_sublist (· == c) (l := l.reverse)).length_le
  simpa using this
theorem size_list (s : ByteArray) : s.data.toList.length = s.size := by simp

set_option maxHeartbeats 4000000 in
theorem table_any (rows : List (List ByteArray)) (hok : OkRows rows) (v : Value) (w : World) (S : Nat → Prop) (h : Sl 1 rRow S w v rows) :
    Calls Tryz.prog 15 #[v] w fun e w' => (∃ u, e = .returned u ∧ Sl 1 rStr (fun _ => True) w' u (tableOf rows)) ∧ Below w.heap.size w w' := by
  have cw := widths_any rows hok v w S h
  have FT : Hid (tableOf rows = rows.map (lineOf (widGo rows []))) := rfl
  have HF : Hid (∀ r ∈ rows, Fits (widGo rows []) r) := fun r hr => widGo_fits rows [] r hr
  generalize widGo rows [] = wid at cw FT HF
  obtain ⟨A, cp, rfl, hl, hcp, hn, hs⟩ := h
  unfold maxLen at hcp
  obtain ⟨istring, histring, hzstring, h1string, h2string⟩ := info_parts (show (Tryz.prog.info? 9).map (fun i => (i.zero, i.size, i.bytes)) = some (some (.string ⟨#[]⟩), 1, 16) from by kernel_rfl)
  have H20 := Lib.hid hok
  have hn20 := hok.1
  clear hok
  go_enter Tryz.func15, Tryz.ntmps15
  go_wp2_with (go_at_call 25; refine Calls.mono cw ?_; rintro e w1 ⟨⟨u, rfl, G⟩, OKW, B1⟩; obtain ⟨Au, cu, rfl, hul, huc, hun, hus⟩ := Own.sl rInt_ok G; have HO := Lib.hid OKW; clear OKW G)
  clear cw
  unfold maxLen at huc
  have hz1 := B1.size
  go_loopw [4, 14] (fun v4 i wr => ∃ k : Nat, k ≤ rows.length ∧ i = .int .i64 k ∧ Hid (Grow 9 1 rStr (fun _ => False) wr w1.heap.size v4 ((rows.take k).map (lineOf wid))) ∧ Below w1.heap.size w1 wr) (fun _ i _ => rows.length - (intOf i).toNat)
  case atStart => exact ⟨0, by omega, by go_num, Grow.nil, by go_grown⟩
  case round =>
    obtain ⟨k, hk, rfl, HG, hbel⟩ := hrel
    obtain ⟨A0, n0, c0, rfl, hn0⟩ := HG.out.shape'
    have HN := Lib.hid hn0
    clear hn0
    have hzb := hbel.size
    by_cases hlt : k < rows.length
    · obtain ⟨r, hr, hd, hmem⟩ := get_at hlt
      obtain ⟨b, o, A', c', rfl, q1, hl', hc', hn', hs'⟩ := row_at hs hr
      have lt1 : b < w.heap.size := cell_lt q1
      have x1 : wr.cell? ⟨b, o + k, none⟩ = some (.slice A' r.length c') := ((bel_call B1 hbel).cell (p := ⟨b, o + k, none⟩) lt1).trans q1
      have HT := Lib.hid (show rows.take (k + 1) = rows.take k ++ [r] by rw [List.take_add_one, hr]; rfl)
      have HR := Lib.hid (H20.out.2 r hmem)
      have hr12 := HR.out.1
      have HFr := Lib.hid (HF.out r hmem)
      clear hr hd hmem q1
      go_wp2
      obtain ⟨wo, rfl⟩ : ∃ wo : World, wo = wr := ⟨_, rfl⟩
      go_loopw [20] (fun i wr => ∃ (j : Nat) (acc : List UInt8), j ≤ r.length ∧ i = .int .i64 j ∧ Hid (lineGo wid (r.drop j) j acc = lineGo wid r 0 []) ∧ acc.length ≤ 42 * j ∧ Hid (IsB wo.heap.size wo.heap.size acc wr) ∧ Below wo.heap.size wo wr) (fun i _ => r.length - (intOf i).toNat)
      case atStart => exact ⟨0, [], by omega, by go_num, by simp [Hid], by simp, IsB.fresh wo, by go_grown⟩
      case round =>
        obtain ⟨j, acc, hj, rfl, E, hacc, HB, hbel'⟩ := hrel
        have hzb' := hbel'.size
        by_cases hltj : j < r.length
        · obtain ⟨s, hsj, hds, hms⟩ := get_at hltj
          obtain ⟨b', o', rfl, q2, hz⟩ := str_at hs' hsj
          have lt2 : b' < w.heap.size := cell_lt q2
          have BB := bel_call (bel_call B1 hbel) hbel'
          have x2 : wr.cell? ⟨b', o' + j, none⟩ = some (.string s) := (BB.cell (p := ⟨b', o' + j, none⟩) lt2).trans q2
          have hs40 := HR.out.2 s hms
          obtain ⟨x, hx, hsx⟩ := HFr.out j s hsj
          obtain ⟨g, og, rfl, q3⟩ := int_at hus hx
          have hjw : j < wid.length := (List.getElem?_eq_some_iff.1 hx).1
          have hx40 := (HO.out.2 x (List.mem_of_getElem? hx)).2
          have lt3 : g < w1.heap.size := cell_lt q3
          have hgo : ∀ W, Below wo.heap.size wo W → W.cell? ⟨g, og + j, none⟩ = some (.int .i64 x) := fun W hW => ((bel_call hbel hW).cell (p := ⟨g, og + j, none⟩) lt3).trans q3
          obtain ⟨c, hc⟩ : ∃ c : Nat, x = (s.size : Int) + c := ⟨(x - s.size).toNat, by omega⟩
          have E3 := E.out
          rw [hds, lineGo, List.getD, hx, Option.getD_some] at E3
          have E4 := Lib.hid E3
          have HGO := Lib.hid hgo
          subst hc
          have hcell : Hid (cellTo s ((s.size : Int) + c) = s.data.toList ++ List.replicate c 32) := by
            show _ = _
            rw [cellTo, show ((s.size : Int) + c - s.size).toNat = c by omega]
          have hsub : IntKind.i64.wrap ((s.size : Int) + c - s.size) = c := by
            rw [show (s.size : Int) + c - s.size = c by omega]
            exact IntWalk.i64_in _ (by omega)
          have hrs := blankS_size c
          have hcat : Hid ((s ++ blankS c).data.toList = s.data.toList ++ List.replicate c 32) := by
            show _ = _
            simp [blankS, ByteArray.data_append]
          have hcatz : (s ++ blankS c).size = s.size + c := by simp [ByteArray.size_append, hrs]
          clear hsj hds hms q2 q3 E3 E hx hgo
          by_cases hj0 : 0 < j
          · rw [if_pos hj0] at E4
            go_wp2_with fail
            refine Calls.mono (write_any _ _ acc ⟨#[32, 32]⟩ _ HB.out (by show _ + 2 ≤ _; omega) (by omega)) ?_
            rintro e w2 ⟨rfl, I2, B2⟩
            have B2' := hbel'.trans B2
            have y2 := (Below.cell (p := ⟨b', o' + j, none⟩) B2 (by have := (bel_call B1 hbel).size; dsimp only; omega)).trans x2
            have y3 := HGO.out w2 B2'
            have I2' := Lib.hid I2
            clear I2
            go_wp2_with fail
            refine Calls.mono (repeat_any' c _ (by omega)) ?_
            rintro e w3 ⟨rfl, B3⟩
            have I3 := Lib.hid (I2'.out.below B3)
            have B3' := bel_call B2' B3
            go_wp2_with fail
            refine Calls.mono (write_any _ _ _ _ _ I3.out (by rw [hcatz, List.length_append]; show _ + 2 + _ ≤ _; omega) (by have := B3'.size; omega)) ?_
            rintro e w4 ⟨rfl, I4, B4⟩
            have B4' := B3'.trans B4
            have I4' := Lib.hid I4
            clear I4 I2'
            go_wp2
            go_roundw
            case rel =>
              refine ⟨j + 1, _, by omega, by go_num, E4, ?_, ?_, B4'⟩
              · rw [hcell.out]; simp; omega
              · show IsB _ _ _ _
                have := I4'.out
                rw [hcat.out] at this
                rw [hcell.out]
                exact this
            case measure => simp [intOf]; omega
          · rw [if_neg hj0] at E4
            have y3 := HGO.out wr hbel'
            go_wp2_with fail
            refine Calls.mono (repeat_any' c _ (by omega)) ?_
            rintro e w3 ⟨rfl, B3⟩
            have I3 := Lib.hid (HB.out.below B3)
            have B3' := bel_call hbel' B3
            go_wp2_with fail
            refine Calls.mono (write_any _ _ _ _ _ I3.out (by rw [hcatz]; omega) (by have := B3'.size; omega)) ?_
            rintro e w4 ⟨rfl, I4, B4⟩
            have B4' := B3'.trans B4
            have I4' := Lib.hid I4
            clear I4
            go_wp2
            go_roundw
            case rel =>
              refine ⟨j + 1, _, by omega, by go_num, E4, ?_, ?_, B4'⟩
              · rw [hcell.out]; simp; omega
              · show IsB _ _ _ _
                have := I4'.out
                rw [hcat.out] at this
                rw [hcell.out]
                exact this
            case measure => simp [intOf]; omega
        · obtain rfl : j = r.length := by omega
          have E3 := E.out
          rw [List.drop_length, lineGo] at E3
          have E4 := Lib.hid E3
          clear E3 E
          have G0 := Lib.hid (HG.out.below rStr_ok (w' := wr) hbel')
          have HL9 := Lib.hid (show ((rows.take k).map (lineOf wid)).length ≤ 40 by rw [List.length_map, List.length_take]; omega)
          go_wp2_with (first
            | (go_at_call 24; refine Calls.mono (string_any' _ _ acc _ HB.out (by omega)) ?_; rintro e w3 ⟨t, rfl, ht, B3⟩; have B3' := hbel'.trans B3; have ts := Lib.hid (size_list t); have tz : t.size ≤ 504 := (by rw [← ts.out, ht.out]; omega))
            | (go_at_call 27; refine Calls.mono (trim_any' t _ (by omega)) ?_; rintro e w4 ⟨t', rfl, ht', rfl⟩; have tz' : t'.size ≤ 504 := (by rw [← size_list t', ht'.out]; exact Nat.le_trans (trim_len _ _) (by rw [size_list]; omega)); have G3 := Lib.hid (HG.out.below rStr_ok (w' := w4) B3'))
            | (at_builtin; go_loud (refine wpList_grow1 (R := rStr) _ _ rfl (.tmp 40) (.tmp 43) 37 rfl 9 istring _ 1 16 Tryz.underlying37 histring hzstring h1string h2string rfl (by decide) rStr_ok w1.heap.size (by have := B3'.size; omega) _ _ rfl G3.out _ _ rfl (by simp only [World.size_alloc, World.size_setCell, World.size_drew]) _ (by intro b hb; exact hb.elim) ⟨rfl, (by omega)⟩ (by have := HL9.out; omega) (by decide) ?_); intro v1 w5 g1 gg1 go1; obtain ⟨A5, n5, c5, rfl, hn5⟩ := g1.shape'; have G5 := Lib.hid g1; have GG := Lib.hid gg1; clear hn5 g1 gg1 go1))
          go_roundw
          case rel =>
            refine ⟨k + 1, by omega, by go_num, ?_, ?_⟩
            · show Grow _ _ _ _ _ _ _ _
              have := G5.out
              rw [HT.out, List.map_append]
              have e : t' = lineOf wid r := by
                apply Go.WideShapes.bytes_inj
                rw [ht'.out, ht.out, E4.out]
                rfl
              rw [e] at this
              exact this
            · exact Below.grown (bel_call hbel B3') GG.out (by have := B3'.size; omega) fun b hb => (HG.out.base_le b hb).1
          case measure => simp [intOf]; omega
    · obtain rfl : k = rows.length := by omega
      go_wp2
      go_ret
      refine ⟨⟨_, rfl, ?_⟩, bel_call B1 hbel⟩
      have := Own.sl rStr_ok HG.out
      rw [List.take_length] at this
      rw [FT.out]
      exact this
end Go.Proofs.YtkapaafbnbnpjaaGreatDoor
