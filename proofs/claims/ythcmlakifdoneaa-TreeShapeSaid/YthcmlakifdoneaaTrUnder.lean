/- Layer tree: Under, Children, High. Conditions: the pointer leads to a tree of at most a hundred folders whose chains end and whose names are short. -/
import Derived.Test.YthcmlakifdoneaaTrPick
import Derived.StillTactics
namespace Go.Proofs.Ythcmlakifdoneaa
open Go.RowKit Go.Deep Go.Maps

theorem under1_any {w : World} {t m n a b : Nat} {D : DataW Unit} {F : Fs} (h : TreeS w t m n D F) (hI : Inv F) (hF : Small F) (s x : Nm) (hx : x.size ≤ 1000) (ca : w.cell? ⟨a, 0, none⟩ = some (.pointer (some ⟨t, 0, none⟩))) (cb : w.cell? ⟨b, 0, none⟩ = some (.string s)) :
    Calls Try.prog 34 #[.string x, .pointer (some ⟨a, 0, none⟩), .pointer (some ⟨b, 0, none⟩)] w fun e w' => e = .returned (.bool (memB (ch F x) s)) ∧ Below w.heap.size w w' := by
  have hch := Lib.hid (chain_any (w := w.drew) (h.of fun _ _ => rfl) hI hF.par x hx)
  have la := cell_lt ca
  have lb := cell_lt cb
  clear h
  go_enter Try.func34, Try.ntmps34
  go_wp2_with fail
  go_region_held3 (fun W => W.cell? ⟨a, 0, none⟩ = some (.pointer (some ⟨t, 0, none⟩)) ∧ W.cell? ⟨b, 0, none⟩ = some (.string s)) (first | exact ⟨da, db⟩ | exact ⟨ca, cb⟩) (first
    | (go_at_call 20; refine Calls.mono hch.out ?_; rintro e W1 ⟨⟨u, rfl, SU⟩, B1⟩; have da := (B1.cell (p := ⟨a, 0, none⟩) la).trans ca; have db := (B1.cell (p := ⟨b, 0, none⟩) lb).trans cb; have HU := Lib.hid SU; have HB1 := Lib.hid B1; clear SU B1)
    | (go_at_call 31; refine Calls.mono (contains_any _ _ _ _ _ HU.out) ?_; rintro e W2 ⟨rfl, hw2⟩; obtain rfl := hw2.symm; clear hw2))
  go_wp2
  go_ret
  exact ⟨rfl, (Below.refl _ w).drew.trans HB1.out⟩
theorem children1_any {w : World} {t m n a b : Nat} {D : DataW Unit} {F : Fs} (h : TreeS w t m n D F) (s x : Nm) (hx : x.size ≤ 1000) (hl : liveB F x = true) (ca : w.cell? ⟨a, 0, none⟩ = some (.pointer (some ⟨t, 0, none⟩))) (cb : w.cell? ⟨b, 0, none⟩ = some (.string s)) :
    Calls Try.prog 36 #[.string x, .pointer (some ⟨a, 0, none⟩), .pointer (some ⟨b, 0, none⟩)] w fun e w' => e = .returned (.bool ((parF F x).toList == s.toList)) ∧ Below w.heap.size w w' := by
  obtain ⟨ct, ft⟩ := blk_cells h.cell
  have c0 := ct 0 _ rfl
  obtain ⟨v, ps, hrun, hv⟩ := (h.own.drew).lookup keyN Try.underlying47 (zeroN _) (nodeElem_mk Top false) (key_mk hx)
  obtain ⟨c, rfl, hc⟩ := nodeElem_inv hv
  obtain ⟨c, g⟩ := c
  obtain rfl := (h.rel.look x (congrArg Prod.fst hc).symm).2 hl
  have hfd := field_node
  clear ct h hc hv ft hl
  dsimp only at hrun
  go_enter Try.func36, Try.ntmps36
  go_wp2_with fail
  go_still (by kernel_rfl)
  go_wp2
  go_ret
  exact ⟨rfl, (Below.refl _ w).drew⟩
theorem eqS_iff {a b : Nm} : (a.toList == b.toList) = true ↔ a = b := by
  rw [beq_iff_eq]
  exact ⟨toList_inj, fun h => by rw [h]⟩
theorem under_any {w : World} {t m n : Nat} {D : DataW Unit} {F : Fs} (h : TreeS w t m n D F) (hI : Inv F) (hF : Small F) (hn : n ≤ 100) (s : Nm) : Calls Try.prog 22 #[.pointer (some ⟨t, 0, none⟩), .string s] w fun e w' => (∃ u R, e = .returned u ∧ Sl 1 rStr (fun _ => True) w' u R ∧ IsNames (fun x => s ∈ ch F x) R) ∧ Below w.heap.size w w' := by
  obtain ⟨W1, hW1, c1, f1, B1, q1⟩ := boxed w #[.pointer (some ⟨t, 0, none⟩)] 25
  obtain ⟨W2, hW2, c2, f2, B2, q2⟩ := boxed W1 #[.string s] 9
  have hs1 : W1.heap.size = w.heap.size + 1 := by rw [← hW1]; simp
  have ca := c1 0 _ rfl
  have ca2 := (B2.cell (p := ⟨w.heap.size, 0, none⟩) (by dsimp only; omega)).trans ca
  have cb2 := c2 0 _ rfl
  rw [hs1] at cb2
  have h2 := (h.below B1).below B2
  have B12 := bel_call B1 B2
  have l1 := cell_lt ca2
  have l2 := cell_lt cb2
  have hp := Lib.hid (pick_under h2 hF hn (fun x => memB (ch F x) s) (fun W x hW hx hl => under1_any (h2.below hW) hI hF s x hx ((hW.cell (p := ⟨w.heap.size, 0, none⟩) l1).trans ca2) ((hW.cell (p := ⟨w.heap.size + 1, 0, none⟩) l2).trans cb2)))
  have HW1 := Lib.hid hW1
  have HW2 := Lib.hid hW2
  clear h h2 hW1 hW2 c1 c2 f1 f2 ca l1 l2
  go_enter Try.func22, Try.ntmps22
  have hW1 := HW1.out
  have hW2 := HW2.out
  go_wp2_with fail
  refine Calls.mono hp.out ?_
  rintro e w3 ⟨⟨u, R, rfl, SU, IN⟩, B3⟩
  have HU := Lib.hid SU
  have HI := Lib.hid (show IsNames (fun x => s ∈ ch F x) R from ⟨IN.1, fun x => (IN.2 x).trans ⟨fun k => memB_iff.1 k.2, fun k => ⟨live_of_ch hI k, memB_iff.2 k⟩⟩⟩)
  clear SU IN hW1 hW2 ca2 cb2
  go_wp2
  go_ret
  exact ⟨⟨_, R, rfl, HU.out, HI.out⟩, bel_call B12 B3⟩
theorem children_any {w : World} {t m n : Nat} {D : DataW Unit} {F : Fs} (h : TreeS w t m n D F) (hI : Inv F) (hF : Small F) (hn : n ≤ 100) (s : Nm) (hs : s.size ≤ 1000) : Calls Try.prog 24 #[.pointer (some ⟨t, 0, none⟩), .string s] w fun e w' => (∃ u R, e = .returned u ∧ Sl 1 rStr (fun _ => True) w' u R ∧ IsNames (fun x => liveB F x = true ∧ parF F x = s) R) ∧ Below w.heap.size w w' := by
  obtain ⟨W1, hW1, c1, f1, B1, q1⟩ := boxed w #[.pointer (some ⟨t, 0, none⟩)] 25
  obtain ⟨W2, hW2, c2, f2, B2, q2⟩ := boxed W1 #[.string s] 9
  have hs1 : W1.heap.size = w.heap.size + 1 := by rw [← hW1]; simp
  have ca := c1 0 _ rfl
  have ca2 := (B2.cell (p := ⟨w.heap.size, 0, none⟩) (by dsimp only; omega)).trans ca
  have cb2 := c2 0 _ rfl
  rw [hs1] at cb2
  have h2 := (h.below B1).below B2
  have B12 := bel_call B1 B2
  have l1 := cell_lt ca2
  have l2 := cell_lt cb2
  have hh := Lib.hid (has_any h2 s hs)
  have hp := Lib.hid (fun W (hW : Below W2.heap.size W2 W) => pick_children (h2.below hW) hF hn (fun x => (parF F x).toList == s.toList) (fun W' x hW' hx hl => children1_any (h2.below (bel_call hW hW')) s x hx hl (((bel_call hW hW').cell (p := ⟨w.heap.size, 0, none⟩) l1).trans ca2) (((bel_call hW hW').cell (p := ⟨w.heap.size + 1, 0, none⟩) l2).trans cb2)))
  have HA := Lib.hid ca2
  have HB := Lib.hid cb2
  have HW1 := Lib.hid hW1
  have HW2 := Lib.hid hW2
  clear h h2 hW1 hW2 c1 c2 f1 f2 ca
  by_cases e : s = Top
  · subst e
    clear hh
    go_enter Try.func24, Try.ntmps24
    have hW1 := HW1.out
    have hW2 := HW2.out
    go_wp2_with fail
    refine Calls.mono (hp.out _ (Below.refl _ _)) ?_
    rintro e w3 ⟨⟨u, R, rfl, SU, IN⟩, B3⟩
    have HU := Lib.hid SU
    have HI := Lib.hid (show IsNames (fun x => liveB F x = true ∧ parF F x = Top) R from ⟨IN.1, fun x => (IN.2 x).trans ⟨fun k => ⟨k.1, eqS_iff.1 k.2⟩, fun k => ⟨k.1, eqS_iff.2 k.2⟩⟩⟩)
    clear SU IN hW1 hW2 ca2 cb2
    go_wp2
    go_ret
    exact ⟨⟨_, R, rfl, HU.out, HI.out⟩, bel_call B12 B3⟩
  · have e1 := eqS_ne e
    have e3 : ¬ s.toList = [] := fun h => e (toList_inj (by rw [h, top_list]))
    have e4 : s.toList.isEmpty = false := by simpa using e3
    cases hl : liveB F s with
    | false =>
      rw [hl] at hh
      have HN := Lib.hid (IsNames.nil (P := fun x => liveB F x = true ∧ parF F x = s) fun x ⟨k1, k2⟩ => by
        rcases hI.up x k1 with k | k
        · exact e (k2.symm.trans k)
        · rw [k2, hl] at k; cases k)
      clear hl
      go_enter Try.func24, Try.ntmps24
      have hW1 := HW1.out
      have hW2 := HW2.out
      go_wp2_with fail
      refine Calls.mono hh.out ?_
      rintro e w3 ⟨rfl, B3⟩
      clear hW1 hW2 ca2 cb2
      go_wp2
      go_ret
      exact ⟨⟨_, [], rfl, Sl_nil _ _ _ _, HN.out⟩, bel_call B12 B3⟩
    | true =>
      rw [hl] at hh
      clear hl
      go_enter Try.func24, Try.ntmps24
      have hW1 := HW1.out
      have hW2 := HW2.out
      go_wp2_with fail
      refine Calls.mono hh.out ?_
      rintro e w3 ⟨rfl, B3⟩
      have ca3 := (B3.cell (p := ⟨w.heap.size, 0, none⟩) l1).trans ca2
      have cb3 := (B3.cell (p := ⟨w.heap.size + 1, 0, none⟩) l2).trans cb2
      clear hW1 hW2 ca2 cb2
      go_wp2_with fail
      refine Calls.mono (hp.out _ B3) ?_
      rintro e w4 ⟨⟨u, R, rfl, SU, IN⟩, B4⟩
      have HU := Lib.hid SU
      have HI := Lib.hid (show IsNames (fun x => liveB F x = true ∧ parF F x = s) R from ⟨IN.1, fun x => (IN.2 x).trans ⟨fun k => ⟨k.1, eqS_iff.1 k.2⟩, fun k => ⟨k.1, eqS_iff.2 k.2⟩⟩⟩)
      clear SU IN ca3 cb3
      go_wp2
      go_ret
      exact ⟨⟨_, R, rfl, HU.out, HI.out⟩, bel_call B12 (bel_call B3 B4)⟩
/-! High. -/
def HighUp (F : Fs) (deep : Nat) (l : List Nm) (m : Nat) : Prop := (∀ x ∈ l, (ch F x).length + 1 ≤ m + deep) ∧ (m = 0 ∨ ∃ x ∈ l, (ch F x).length + 1 = m + deep)
theorem HighUp.step {F : Fs} {deep : Nat} {l : List Nm} {m : Nat} (h : HighUp F deep l m) (x : Nm) (hx : deep ≤ (ch F x).length) : HighUp F deep (l ++ [x]) (max m ((ch F x).length - deep + 1)) := by
  obtain ⟨h1, h2⟩ := h
  refine ⟨fun y hy => ?_, ?_⟩
  · rcases List.mem_append.1 hy with hy | hy
    · have := h1 y hy; omega
    · obtain rfl : y = x := by simpa using hy
      omega
  · by_cases hm : m ≤ (ch F x).length - deep + 1
    · right
      exact ⟨x, by simp, by omega⟩
    · rcases h2 with h2 | ⟨y, y1, y2⟩
      · omega
      · right
        exact ⟨y, List.mem_append_left _ y1, by omega⟩
theorem HighUp.done {F : Fs} (hI : Inv F) {s : Nm} {R : List Nm} {m : Nat} (hR : IsNames (fun x => s ∈ ch F x) R) (h : HighUp F (ch F s).length R m) : IsHigh F s m := by
  obtain ⟨h1, h2⟩ := h
  refine ⟨fun hl => ?_, fun hl => ⟨fun x hx => h1 x ((hR.2 x).2 hx), ?_⟩⟩
  · rcases h2 with h2 | ⟨x, x1, _⟩
    · exact h2
    · have := ch_mem_live ((hR.2 x).1 x1)
      rw [hl] at this
      cases this
  · rcases h2 with h2 | ⟨x, x1, x2⟩
    · have := h1 s ((hR.2 s).2 (ch_self hI hl))
      omega
    · exact ⟨x, (hR.2 x).1 x1, x2⟩
set_option maxHeartbeats 1000000 in
theorem high_any {w : World} {t m n : Nat} {D : DataW Unit} {F : Fs} (h : TreeS w t m n D F) (hI : Inv F) (hF : Small F) (hn : n ≤ 100) (s : Nm) (hs : s.size ≤ 1000) : Calls Try.prog 26 #[.pointer (some ⟨t, 0, none⟩), .string s] w fun e w' => (∃ k : Nat, e = .returned (.int .i64 k) ∧ IsHigh F s k) ∧ Below w.heap.size w w' := by
  have HS := Lib.hid h
  have hch := Lib.hid (chain_any h hI hF.par s hs)
  clear h
  have hd4 := hI.deep s
  go_enter Try.func26, Try.ntmps26
  go_wp2_with fail
  refine Calls.mono hch.out ?_
  rintro e w1 ⟨⟨u1, rfl, S1⟩, B1⟩
  obtain ⟨A1, c1, rfl, l1, m1, n1, s1⟩ := S1
  unfold maxLen at m1
  have hun := Lib.hid (under_any (HS.out.below B1) hI hF hn s)
  clear s1
  go_wp2_with fail
  refine Calls.mono hun.out ?_
  rintro e w2 ⟨⟨u2, R, rfl, S2, IN⟩, B2⟩
  have HN := Lib.hid IN
  obtain ⟨A2, c2, rfl, l2, m2, n2, s2⟩ := S2
  unfold maxLen at m2
  have B12 := bel_call B1 B2
  clear IN hun
  go_wp2
  go_loopw [6, 17] (fun hi i wr => ∃ (k m' : Nat), k ≤ R.length ∧ m' ≤ 5 ∧ i = .int .i64 k ∧ hi = .int .i64 m' ∧ Hid (HighUp F (ch F s).length (R.take k) m') ∧ Below w2.heap.size w2 wr) (fun _ i _ => R.length - (RowKit.intOf i).toNat)
  case atStart => exact ⟨0, 0, by omega, by omega, by go_num, by go_num, ⟨fun x hx => by simp at hx, .inl rfl⟩, by go_grown⟩
  case round =>
    obtain ⟨k, m', hk, hm5, rfl, rfl, HU, hbel⟩ := hrel
    by_cases hlt : k < R.length
    · obtain ⟨x, b, o, hx, _, hm, rfl, q⟩ := get_str s2 hlt (kept_of hbel)
      have hin := (HN.out.2 x).1 hm
      have hle := ch_le hI hin
      have hd := hI.deep x
      have hxs := hF.key x (live_some (live_of_ch hI hin))
      have HT := Lib.hid (show HighUp F (ch F s).length (R.take (k + 1)) (max m' ((ch F x).length - (ch F s).length + 1)) by rw [List.take_add_one, hx]; exact HU.out.step x hle)
      have hc2 := Lib.hid (chain_any (HS.out.below (bel_call B12 hbel)) hI hF.par x hxs)
      have hmx : max (m' : Int) (((ch F x).length : Int) - ((ch F s).length : Int) + 1) = ((max m' ((ch F x).length - (ch F s).length + 1) : Nat) : Int) := by omega
      have HMX := Lib.hid hmx
      have hm6 : max m' ((ch F x).length - (ch F s).length + 1) ≤ 5 := by omega
      have h0 : (0 : Int) ≤ ((ch F x).length : Int) - ((ch F s).length : Int) := by omega
      clear hx hm hin hmx
      go_wp2_with fail
      refine Calls.mono hc2.out ?_
      rintro e w3 ⟨⟨u3, rfl, S3⟩, B3⟩
      obtain ⟨A3, c3, rfl, l3, m3, n3, s3⟩ := S3
      unfold maxLen at m3
      clear s3 q hc2
      have hw1 : IntKind.i64.wrap (((ch F x).length : Int) - ((ch F s).length : Int)) = ((ch F x).length : Int) - ((ch F s).length : Int) := IntWalk.i64_in _ (by omega)
      have hw2 : IntKind.i64.wrap (((ch F x).length : Int) - ((ch F s).length : Int) + 1) = ((ch F x).length : Int) - ((ch F s).length : Int) + 1 := IntWalk.i64_in _ (by omega)
      go_wp2
      go_roundw
      case rel => exact ⟨k + 1, _, by omega, hm6, by go_num, by rw [HMX.out], HT, bel_call hbel B3⟩
      case measure => simp [RowKit.intOf]; omega
    · obtain rfl : k = R.length := by omega
      have HH := Lib.hid (show IsHigh F s m' from HighUp.done hI HN.out (by have := HU.out; rwa [List.take_length] at this))
      go_wp2
      go_ret
      exact ⟨⟨m', rfl, HH.out⟩, bel_call B12 hbel⟩
/-! A tree that is none. -/
theorem pick_nil (v : Value) (w : World) : Calls Try.prog 33 #[.pointer none, v] w fun e w' => e = .returned (.slice none 0 0) ∧ w' = w := by
  go_enter Try.func33, Try.ntmps33
  go_wp2_with (go_at_call 29; refine Calls.mono (is_nil _) ?_; rintro e w1 ⟨rfl, rfl⟩)
  go_ret
  exact ⟨rfl, rfl⟩
theorem under_nil (s : Nm) (w : World) : Calls Try.prog 22 #[.pointer none, .string s] w fun e w' => e = .returned (.slice none 0 0) ∧ Below w.heap.size w w' := by
  go_enter Try.func22, Try.ntmps22
  go_wp2_with (go_at_call 33; refine Calls.mono (pick_nil _ _) ?_; rintro e w1 ⟨rfl, rfl⟩)
  go_ret
  exact ⟨rfl, by go_grown⟩
theorem children_nil (w : World) : Calls Try.prog 24 #[.pointer none, .string Top] w fun e w' => e = .returned (.slice none 0 0) ∧ Below w.heap.size w w' := by
  go_enter Try.func24, Try.ntmps24
  go_wp2_with (go_at_call 33; refine Calls.mono (pick_nil _ _) ?_; rintro e w1 ⟨rfl, rfl⟩)
  go_ret
  exact ⟨rfl, by go_grown⟩
theorem high_nil (s : Nm) (w : World) : Calls Try.prog 26 #[.pointer none, .string s] w fun e w' => e = .returned (.int .i64 0) ∧ Below w.heap.size w w' := by
  go_enter Try.func26, Try.ntmps26
  go_wp2_with (first
    | (go_at_call 20; refine Calls.mono (chain_nil _ _) ?_; rintro e w1 ⟨rfl, rfl⟩)
    | (go_at_call 22; refine Calls.mono (under_nil _ _) ?_; rintro e w2 ⟨rfl, B2⟩))
  go_loop [6, 17] (fun hi i => hi = .int .i64 0 ∧ i = .int .i64 0) (fun _ _ => 0)
  case atStart => exact ⟨rfl, rfl⟩
  case round =>
    obtain ⟨rfl, rfl⟩ := hrel
    go_wp2
    go_ret
    exact ⟨rfl, B2⟩
end Go.Proofs.Ythcmlakifdoneaa
