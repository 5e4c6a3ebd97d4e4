/- Layer tree: Add, Move, Remove. Conditions: the pointer leads to a tree of less than sixty folders whose chains end and whose names are short. -/
import Derived.Test.YthcmlakifdoneaaTrUnder
import Derived.Test.YthcmlakifdoneaaButB
import Derived.Test.YthcmlakifdoneaaName
namespace Go.Proofs.Ythcmlakifdoneaa
open Go.RowKit Go.Deep Go.Maps

def addE (F : Fs) (s p : Nm) : Int := if nameOk s = false then 2 else if (F s).isSome = true then 42 else if mayB F p = false then 41 else if 4 ≤ (ch F p).length then 3 else 0
def addF (F : Fs) (s p : Nm) : Fs := if addE F s p = 0 then upd F s (p, false) else F
def moveE (F : Fs) (s p : Nm) (k : Nat) : Int := if liveB F s = false then 41 else if mayB F p = false then 41 else if memB (ch F p) s = true then 43 else if 4 < (ch F p).length + k then 3 else 0
def moveF (F : Fs) (s p : Nm) (k : Nat) : Fs := if moveE F s p k = 0 then upd F s (p, false) else F
def rmE (F : Fs) (s : Nm) (R : List Nm) : Int := if liveB F s = false then 41 else if 0 < R.length then 47 else 0
def rmF (F : Fs) (s : Nm) (R : List Nm) : Fs := if rmE F s R = 0 then upd F s (parF F s, true) else F

/-- A tree is left as it was, or with one folder written. -/
def TreeTo (w w' : World) (t m n : Nat) (F : Fs) : Prop := (∃ n' D', n' ≤ n + 1 ∧ TreeS w' t m n' D' F) ∧ ButB (fun x => x = m) w w'
theorem TreeTo.same {w w' : World} {t m n : Nat} {D : DataW Unit} {F : Fs} (h : TreeS w t m n D F) (hb : Below w.heap.size w w') : TreeTo w w' t m n F := ⟨⟨n, D, by omega, h.below hb⟩, ButB.of hb⟩
theorem TreeTo.put {w w1 w' : World} {t m n : Nat} {D : DataW Unit} {F : Fs} (h : TreeS w t m n D F) (hb : Below w.heap.size w w1) {s p q : Nm} {g : Bool} (hpq : g = false → q = p) (ho : w'.ownsMap Try.prog 9 nodeElem m (n + 1) (D.put (kS s) (encN q g))) (hg : w1.grownBy w' (some m)) : TreeTo w w' t m n (upd F s (p, g)) := by
  have h1 := h.below hb
  exact ⟨⟨n + 1, _, Nat.le_refl _, ⟨(hg.block t (h1.lt t (.inl rfl)) (fun e => h.ne (Option.some.inj e))).trans h1.cell, ho, h.rel.put s p q g hpq, h.ne⟩⟩, (ButB.of hb).trans (ButB.grown hg rfl)⟩

theorem add_nil (s p : Nm) (w : World) : Calls Try.prog 8 #[.pointer none, .string s, .string p] w fun e w' => e = .returned (.int .i64 1) ∧ w' = w := by
  go_enter Try.func8, Try.ntmps8
  go_wp2_with (go_at_call 29; refine Calls.mono (is_nil _) ?_; rintro e w1 ⟨rfl, rfl⟩)
  go_ret
  exact ⟨rfl, rfl⟩
theorem move_nil (s p : Nm) (w : World) : Calls Try.prog 10 #[.pointer none, .string s, .string p] w fun e w' => e = .returned (.int .i64 1) ∧ w' = w := by
  go_enter Try.func10, Try.ntmps10
  go_wp2_with (go_at_call 29; refine Calls.mono (is_nil _) ?_; rintro e w1 ⟨rfl, rfl⟩)
  go_ret
  exact ⟨rfl, rfl⟩
theorem remove_nil (s : Nm) (w : World) : Calls Try.prog 12 #[.pointer none, .string s] w fun e w' => e = .returned (.int .i64 1) ∧ w' = w := by
  go_enter Try.func12, Try.ntmps12
  go_wp2_with (go_at_call 29; refine Calls.mono (is_nil _) ?_; rintro e w1 ⟨rfl, rfl⟩)
  go_ret
  exact ⟨rfl, rfl⟩
set_option maxHeartbeats 1000000 in
theorem add_any {w : World} {t m n : Nat} {D : DataW Unit} {F : Fs} (h : TreeS w t m n D F) (hI : Inv F) (hF : Small F) (hn : n ≤ 60) (s p : Nm) (hs : s.size ≤ 1000) (hp : p.size ≤ 1000) : Calls Try.prog 8 #[.pointer (some ⟨t, 0, none⟩), .string s, .string p] w fun e w' => e = .returned (.int .i64 (addE F s p)) ∧ TreeTo w w' t m n (addF F s p) := by
  have his := Lib.hid (is_any h)
  have HS := Lib.hid h
  have hkey := key_mk hs
  have hnm := name_any s (by omega)
  obtain ⟨cb, fb⟩ := blk_cells h.cell
  have c0 := cb 0 _ rfl
  have hsz : Maps.size D ≤ 60 := by have := h.len; omega
  clear h cb
  have hhas : Maps.has D (kS s) = (F s).isSome := HS.out.rel.has s
  cases hk : nameOk s with
  | false =>
    have E := Lib.hid (show addE F s p = 2 by rw [addE, if_pos hk])
    have EF := Lib.hid (show addF F s p = F by rw [addF, E.out, if_neg (by decide)])
    rw [hk] at hnm
    clear hk hhas
    go_enter Try.func8, Try.ntmps8
    go_wp2_with (first
      | (go_at_call 29; refine Calls.mono his.out ?_; rintro e w1 ⟨rfl, hw⟩; obtain rfl : w = w1 := hw.symm; clear hw)
      | (at_lookup; refine wpList_look_node_ok _ rfl _ _ 47 rfl 9 51 keyN Try.underlying47 (zeroN _) m n D rfl HS.out.own _ _ rfl hkey ?_; intro c g hc; clear hc)
      | (go_at_call 14; refine Calls.mono (hnm _) ?_; rintro e w2 ⟨rfl, rfl⟩))
    go_ret
    exact ⟨by rw [E.out]; rfl, by rw [EF.out]; exact TreeTo.same HS.out (by go_grown)⟩
  | true =>
    rw [hk] at hnm
    cases hf : (F s).isSome with
    | true =>
      have E := Lib.hid (show addE F s p = 42 by rw [addE, hk, if_neg (by decide), if_pos hf])
      have EF := Lib.hid (show addF F s p = F by rw [addF, E.out, if_neg (by decide)])
      rw [hf] at hhas
      clear hk hf
      go_enter Try.func8, Try.ntmps8
      go_wp2_with (first
        | (go_at_call 29; refine Calls.mono his.out ?_; rintro e w1 ⟨rfl, hw⟩; obtain rfl : w = w1 := hw.symm; clear hw)
        | (at_lookup; refine wpList_look_node_ok _ rfl _ _ 47 rfl 9 51 keyN Try.underlying47 (zeroN _) m n D rfl HS.out.own _ _ rfl hkey ?_; intro c g hc; clear hc)
        | (go_at_call 14; refine Calls.mono (hnm _) ?_; rintro e w2 ⟨rfl, hw⟩; obtain rfl := hw.symm; clear hw))
      go_ret
      exact ⟨by rw [E.out]; rfl, by rw [EF.out]; exact TreeTo.same HS.out (by go_grown)⟩
    | false =>
      rw [hf] at hhas
      have hmy := fun W (hW : Below w.heap.size w W) => may_any (HS.out.below hW) p hp
      cases hmp : mayB F p with
      | false =>
        have E := Lib.hid (show addE F s p = 41 by rw [addE, hk, if_neg (by decide), hf, if_neg (by decide), if_pos hmp])
        have EF := Lib.hid (show addF F s p = F by rw [addF, E.out, if_neg (by decide)])
        rw [hmp] at hmy
        clear hk hf hmp
        go_enter Try.func8, Try.ntmps8
        go_wp2_with (first
          | (go_at_call 29; refine Calls.mono his.out ?_; rintro e w1 ⟨rfl, hw⟩; obtain rfl : w = w1 := hw.symm; clear hw)
          | (at_lookup; refine wpList_look_node_ok _ rfl _ _ 47 rfl 9 51 keyN Try.underlying47 (zeroN _) m n D rfl HS.out.own _ _ rfl hkey ?_; intro c g hc; clear hc)
          | (go_at_call 14; refine Calls.mono (hnm _) ?_; rintro e w2 ⟨rfl, hw⟩; obtain rfl := hw.symm; clear hw)
          | (go_at_call 30; refine Calls.mono (hmy _ (by go_grown)) ?_; rintro e w3 ⟨rfl, B3⟩; have HB3 := Lib.hid (bel_call (w := w) (by go_grown) B3); clear B3))
        go_ret
        exact ⟨by rw [E.out]; rfl, by rw [EF.out]; exact TreeTo.same HS.out HB3.out⟩
      | true =>
        rw [hmp] at hmy
        by_cases hc4 : 4 ≤ (ch F p).length
        · have E := Lib.hid (show addE F s p = 3 by rw [addE, hk, if_neg (by decide), hf, if_neg (by decide), hmp, if_neg (by decide), if_pos hc4])
          have EF := Lib.hid (show addF F s p = F by rw [addF, E.out, if_neg (by decide)])
          clear hk hf hmp
          go_enter Try.func8, Try.ntmps8
          go_wp2_with (first
            | (go_at_call 29; refine Calls.mono his.out ?_; rintro e w1 ⟨rfl, hw⟩; obtain rfl : w = w1 := hw.symm; clear hw)
            | (at_lookup; refine wpList_look_node_ok _ rfl _ _ 47 rfl 9 51 keyN Try.underlying47 (zeroN _) m n D rfl HS.out.own _ _ rfl hkey ?_; intro c g hc; clear hc)
            | (go_at_call 14; refine Calls.mono (hnm _) ?_; rintro e w2 ⟨rfl, hw⟩; obtain rfl := hw.symm; clear hw)
            | (go_at_call 30; refine Calls.mono (hmy _ (by go_grown)) ?_; rintro e w3 ⟨rfl, B3⟩; have HB3 := Lib.hid (bel_call (w := w) (by go_grown) B3); clear B3)
            | (go_at_call 20; refine Calls.mono (chain_any (HS.out.below HB3.out) hI hF.par p hp) ?_; rintro e w4 ⟨⟨u4, rfl, S4⟩, B4⟩; obtain ⟨A4, c4, rfl, l4, m4, n4, s4⟩ := S4; have HB4 := Lib.hid (bel_call HB3.out B4); have HS4 := Lib.hid (HS.out.below HB4.out); have c4 := (blk_cells HS4.out.cell).1 0 _ rfl; clear s4 B4))
          go_ret
          exact ⟨by rw [E.out]; rfl, by rw [EF.out]; exact TreeTo.same HS.out HB4.out⟩
        · have E := Lib.hid (show addE F s p = 0 by rw [addE, hk, if_neg (by decide), hf, if_neg (by decide), hmp, if_neg (by decide), if_neg hc4])
          have EF := Lib.hid (show addF F s p = upd F s (p, false) by rw [addF, E.out, if_pos rfl])
          have hc5 : decide ((4 : Int) ≤ ((ch F p).length : Int)) = false := decide_eq_false (by omega)
          have hs64 : decide ((64 : Int) ≤ (Maps.size D : Int)) = false := decide_eq_false (by omega)
          clear hk hf hmp
          go_enter Try.func8, Try.ntmps8
          go_wp2_with (first
            | (go_at_call 29; refine Calls.mono his.out ?_; rintro e w1 ⟨rfl, hw⟩; obtain rfl : w = w1 := hw.symm; clear hw)
            | (at_lookup; refine wpList_look_node_ok _ rfl _ _ 47 rfl 9 51 keyN Try.underlying47 (zeroN _) m n D rfl HS.out.own _ _ rfl hkey ?_; intro c g hc; clear hc)
            | (go_at_call 14; refine Calls.mono (hnm _) ?_; rintro e w2 ⟨rfl, hw⟩; obtain rfl := hw.symm; clear hw)
            | (go_at_call 30; refine Calls.mono (hmy _ (by go_grown)) ?_; rintro e w3 ⟨rfl, B3⟩; have HB3 := Lib.hid (bel_call (w := w) (by go_grown) B3); clear B3)
            | (go_at_call 20; refine Calls.mono (chain_any (HS.out.below HB3.out) hI hF.par p hp) ?_; rintro e w4 ⟨⟨u4, rfl, S4⟩, B4⟩; obtain ⟨A4, c4, rfl, l4, m4, n4, s4⟩ := S4; have HB4 := Lib.hid (bel_call HB3.out B4); have HS4 := Lib.hid (HS.out.below HB4.out); have c4 := (blk_cells HS4.out.cell).1 0 _ rfl; have hlen := fun ty => HS4.out.own.len Try.underlying47 ty; clear s4 B4)
            | (at_mapUpdate; go_loud (refine wpList_mapUpdate_own _ rfl _ _ _ 47 rfl 9 51 keyN Try.underlying47 nodeElem m n D rfl HS4.out.own (by unfold maxLen; omega) _ (.agg #[.string p, .bool false]) _ rfl rfl hkey _ [] (nodeElem_mk p false) ?_); intro w5 hown5 hg5; have HO5 := Lib.hid hown5; have HG5 := Lib.hid hg5; clear hown5 hg5))
          go_ret
          exact ⟨by rw [E.out]; rfl, by rw [EF.out]; exact TreeTo.put HS.out HB4.out (fun _ => rfl) HO5.out HG5.out⟩
theorem high_exists {F : Fs} (hI : Inv F) (s : Nm) : ∃ k, IsHigh F s k := by
  cases hl : liveB F s with
  | false => exact ⟨0, IsHigh.off hl⟩
  | true =>
    have hb : ∀ x, s ∈ ch F x → ∃ k, 1 ≤ k ∧ k ≤ 4 ∧ (ch F x).length + 1 = k + (ch F s).length := fun x hx => by
      have h1 := ch_le hI hx
      have h2 := hI.deep x
      have h3 := ch_len hI hl
      exact ⟨(ch F x).length + 1 - (ch F s).length, by omega, by omega, by omega⟩
    have key : ∀ n, n ≤ 4 → (∀ x, s ∈ ch F x → (ch F x).length + 1 ≤ n + (ch F s).length) → ∃ k, IsHigh F s k := by
      intro n
      induction n with
      | zero =>
        intro _ h
        have := h s (ch_self hI hl)
        omega
      | succ n ih =>
        intro hn h
        by_cases hx : ∃ x, s ∈ ch F x ∧ (ch F x).length + 1 = (n + 1) + (ch F s).length
        · exact ⟨n + 1, fun k => (by rw [hl] at k; cases k), fun _ => ⟨h, hx⟩⟩
        · exact ih (by omega) fun x hm => by
            have h1 := h x hm
            by_cases e : (ch F x).length + 1 = (n + 1) + (ch F s).length
            · exact absurd ⟨x, hm, e⟩ hx
            · omega
    exact key 4 (Nat.le_refl _) fun x hx => by
      obtain ⟨k, k1, k2, k3⟩ := hb x hx
      omega
def HighIf (F : Fs) (s p : Nm) (k : Nat) : Prop := liveB F s = true → mayB F p = true → memB (ch F p) s = false → IsHigh F s k
theorem moveE_one {F : Fs} {s p : Nm} {k k' : Nat} (h : HighIf F s p k) (h' : HighIf F s p k') : moveE F s p k = moveE F s p k' := by
  unfold moveE
  cases hl : liveB F s with
  | false => rfl
  | true => cases hm : mayB F p with
    | false => rfl
    | true => cases hc : memB (ch F p) s with
      | true => rfl
      | false => rw [(h hl hm hc).one (h' hl hm hc)]
theorem moveF_one {F : Fs} {s p : Nm} {k k' : Nat} (h : HighIf F s p k) (h' : HighIf F s p k') : moveF F s p k = moveF F s p k' := by
  unfold moveF
  rw [moveE_one h h']
def KidsIf (F : Fs) (s : Nm) (R : List Nm) : Prop := liveB F s = true → IsNames (fun x => liveB F x = true ∧ parF F x = s) R
theorem rmE_one {F : Fs} {s : Nm} {R R' : List Nm} (h : KidsIf F s R) (h' : KidsIf F s R') : rmE F s R = rmE F s R' := by
  unfold rmE
  cases hl : liveB F s with
  | false => rfl
  | true => rw [(h hl).ext (h' hl) fun _ => Iff.rfl]
theorem rmF_one {F : Fs} {s : Nm} {R R' : List Nm} (h : KidsIf F s R) (h' : KidsIf F s R') : rmF F s R = rmF F s R' := by
  unfold rmF
  rw [rmE_one h h']

set_option maxHeartbeats 2000000 in
theorem move_any {w : World} {t m n : Nat} {D : DataW Unit} {F : Fs} (h : TreeS w t m n D F) (hI : Inv F) (hF : Small F) (hn : n ≤ 60) (s p : Nm) (hs : s.size ≤ 1000) (hp : p.size ≤ 1000) : Calls Try.prog 10 #[.pointer (some ⟨t, 0, none⟩), .string s, .string p] w fun e w' => ∃ k, e = .returned (.int .i64 (moveE F s p k)) ∧ HighIf F s p k ∧ TreeTo w w' t m n (moveF F s p k) := by
  have his := Lib.hid (is_any h)
  have HS := Lib.hid h
  have hkey := key_mk hs
  have hhs := Lib.hid (has_any h s hs)
  have hmy := Lib.hid (fun W (hW : Below w.heap.size w W) => may_any (h.below hW) p hp)
  have hd4 := hI.deep p
  clear h
  cases hl : liveB F s with
  | false =>
    have E := Lib.hid (show moveE F s p 0 = 41 by rw [moveE, if_pos hl])
    have EF := Lib.hid (show moveF F s p 0 = F by rw [moveF, E.out, if_neg (by decide)])
    have HI := Lib.hid (show HighIf F s p 0 from fun k => by rw [hl] at k; cases k)
    rw [hl] at hhs
    clear hl
    go_enter Try.func10, Try.ntmps10
    go_wp2_with (first
      | (go_at_call 29; refine Calls.mono his.out ?_; rintro e w1 ⟨rfl, hw⟩; obtain rfl : w = w1 := hw.symm; clear hw)
      | (go_at_call 18; refine Calls.mono hhs.out ?_; rintro e w2 ⟨rfl, B2⟩; have HB2 := Lib.hid B2; clear B2))
    go_ret
    exact ⟨0, by rw [E.out]; rfl, HI.out, by rw [EF.out]; exact TreeTo.same HS.out HB2.out⟩
  | true =>
    rw [hl] at hhs
    cases hm : mayB F p with
    | false =>
      have E := Lib.hid (show moveE F s p 0 = 41 by rw [moveE, hl, if_neg (by decide), if_pos hm])
      have EF := Lib.hid (show moveF F s p 0 = F by rw [moveF, E.out, if_neg (by decide)])
      have HI := Lib.hid (show HighIf F s p 0 from fun _ k => by rw [hm] at k; cases k)
      rw [hm] at hmy
      clear hl hm
      go_enter Try.func10, Try.ntmps10
      go_wp2_with (first
        | (go_at_call 29; refine Calls.mono his.out ?_; rintro e w1 ⟨rfl, hw⟩; obtain rfl : w = w1 := hw.symm; clear hw)
        | (go_at_call 18; refine Calls.mono hhs.out ?_; rintro e w2 ⟨rfl, B2⟩; have HB2 := Lib.hid B2; clear B2)
        | (go_at_call 30; refine Calls.mono (hmy.out _ HB2.out) ?_; rintro e w3 ⟨rfl, B3⟩; have HB3 := Lib.hid (bel_call HB2.out B3); clear B3))
      go_ret
      exact ⟨0, by rw [E.out]; rfl, HI.out, by rw [EF.out]; exact TreeTo.same HS.out HB3.out⟩
    | true =>
      rw [hm] at hmy
      cases hc : memB (ch F p) s with
      | true =>
        have E := Lib.hid (show moveE F s p 0 = 43 by rw [moveE, hl, if_neg (by decide), hm, if_neg (by decide), if_pos hc])
        have EF := Lib.hid (show moveF F s p 0 = F by rw [moveF, E.out, if_neg (by decide)])
        have HI := Lib.hid (show HighIf F s p 0 from fun _ _ k => by rw [hc] at k; cases k)
        clear hl hm
        go_enter Try.func10, Try.ntmps10
        go_wp2_with (first
          | (go_at_call 29; refine Calls.mono his.out ?_; rintro e w1 ⟨rfl, hw⟩; obtain rfl : w = w1 := hw.symm; clear hw)
          | (go_at_call 18; refine Calls.mono hhs.out ?_; rintro e w2 ⟨rfl, B2⟩; have HB2 := Lib.hid B2; clear B2)
          | (go_at_call 30; refine Calls.mono (hmy.out _ HB2.out) ?_; rintro e w3 ⟨rfl, B3⟩; have HB3 := Lib.hid (bel_call HB2.out B3); clear B3)
          | (go_at_call 20; refine Calls.mono (chain_any (HS.out.below HB3.out) hI hF.par p hp) ?_; rintro e w4 ⟨⟨u4, rfl, S4⟩, B4⟩; have HU4 := Lib.hid S4; obtain ⟨A4, c4, rfl, l4, m4, n4, s4⟩ := S4; have HB4 := Lib.hid (bel_call HB3.out B4); clear s4 B4)
          | (go_at_call 31; refine Calls.mono (contains_any _ _ _ _ _ HU4.out) ?_; rintro e w5 ⟨rfl, hw⟩; obtain rfl := hw.symm; clear hw))
        go_ret
        exact ⟨0, by rw [E.out]; rfl, HI.out, by rw [EF.out]; exact TreeTo.same HS.out HB4.out⟩
      | false =>
        obtain ⟨k, HK0⟩ := high_exists hI s
        have hk5 := (IsHigh.ge hI hl HK0).2
        have HK := Lib.hid HK0
        have HI := Lib.hid (show HighIf F s p k from fun _ _ _ => HK0)
        clear HK0
        by_cases h4 : 4 < (ch F p).length + k
        · have E := Lib.hid (show moveE F s p k = 3 by rw [moveE, hl, if_neg (by decide), hm, if_neg (by decide), hc, if_neg (by decide), if_pos h4])
          have EF := Lib.hid (show moveF F s p k = F by rw [moveF, E.out, if_neg (by decide)])
          clear hl hm
          go_enter Try.func10, Try.ntmps10
          go_wp2_with (first
            | (go_at_call 29; refine Calls.mono his.out ?_; rintro e w1 ⟨rfl, hw⟩; obtain rfl : w = w1 := hw.symm; clear hw)
            | (go_at_call 18; refine Calls.mono hhs.out ?_; rintro e w2 ⟨rfl, B2⟩; have HB2 := Lib.hid B2; clear B2)
            | (go_at_call 30; refine Calls.mono (hmy.out _ HB2.out) ?_; rintro e w3 ⟨rfl, B3⟩; have HB3 := Lib.hid (bel_call HB2.out B3); clear B3)
            | (go_at_call 20; refine Calls.mono (chain_any (HS.out.below HB3.out) hI hF.par p hp) ?_; rintro e w4 ⟨⟨u4, rfl, S4⟩, B4⟩; have HU4 := Lib.hid S4; obtain ⟨A4, c4, rfl, l4, m4, n4, s4⟩ := S4; have HB4 := Lib.hid (bel_call HB3.out B4); clear s4 B4)
            | (go_at_call 31; refine Calls.mono (contains_any _ _ _ _ _ HU4.out) ?_; rintro e w5 ⟨rfl, hw⟩; obtain rfl := hw.symm; clear hw)
            | (go_at_call 26; refine Calls.mono (high_any (HS.out.below HB4.out) hI hF (by omega) s hs) ?_; rintro e w6 ⟨⟨k, rfl, hk⟩, B6⟩; obtain rfl := IsHigh.one hk HK.out; have HB6 := Lib.hid (bel_call HB4.out B6); have HS6 := Lib.hid (HS.out.below HB6.out); have c6 := (blk_cells HS6.out.cell).1 0 _ rfl; clear hk B6))
          go_ret
          exact ⟨k, by rw [E.out]; rfl, HI.out, by rw [EF.out]; exact TreeTo.same HS.out HB6.out⟩
        · have E := Lib.hid (show moveE F s p k = 0 by rw [moveE, hl, if_neg (by decide), hm, if_neg (by decide), hc, if_neg (by decide), if_neg h4])
          have EF := Lib.hid (show moveF F s p k = upd F s (p, false) by rw [moveF, E.out, if_pos rfl])
          clear hl hm
          go_enter Try.func10, Try.ntmps10
          go_wp2_with (first
            | (go_at_call 29; refine Calls.mono his.out ?_; rintro e w1 ⟨rfl, hw⟩; obtain rfl : w = w1 := hw.symm; clear hw)
            | (go_at_call 18; refine Calls.mono hhs.out ?_; rintro e w2 ⟨rfl, B2⟩; have HB2 := Lib.hid B2; clear B2)
            | (go_at_call 30; refine Calls.mono (hmy.out _ HB2.out) ?_; rintro e w3 ⟨rfl, B3⟩; have HB3 := Lib.hid (bel_call HB2.out B3); clear B3)
            | (go_at_call 20; refine Calls.mono (chain_any (HS.out.below HB3.out) hI hF.par p hp) ?_; rintro e w4 ⟨⟨u4, rfl, S4⟩, B4⟩; have HU4 := Lib.hid S4; obtain ⟨A4, c4, rfl, l4, m4, n4, s4⟩ := S4; have HB4 := Lib.hid (bel_call HB3.out B4); clear s4 B4)
            | (go_at_call 31; refine Calls.mono (contains_any _ _ _ _ _ HU4.out) ?_; rintro e w5 ⟨rfl, hw⟩; obtain rfl := hw.symm; clear hw)
            | (go_at_call 26; refine Calls.mono (high_any (HS.out.below HB4.out) hI hF (by omega) s hs) ?_; rintro e w6 ⟨⟨k, rfl, hk⟩, B6⟩; obtain rfl := IsHigh.one hk HK.out; have HB6 := Lib.hid (bel_call HB4.out B6); have HS6 := Lib.hid (HS.out.below HB6.out); have c6 := (blk_cells HS6.out.cell).1 0 _ rfl; clear hk B6)
            | (at_mapUpdate; refine wpList_mapUpdate_own _ rfl _ _ _ 47 rfl 9 51 keyN Try.underlying47 nodeElem m n D rfl HS6.out.own (by unfold maxLen; omega) _ (.agg #[.string p, .bool false]) _ rfl rfl hkey _ [] (nodeElem_mk p false) ?_; intro w7 hown7 hg7; have HO7 := Lib.hid hown7; have HG7 := Lib.hid hg7; clear hown7 hg7))
          go_ret
          exact ⟨k, by rw [E.out]; rfl, HI.out, by rw [EF.out]; exact TreeTo.put HS.out HB6.out (fun _ => rfl) HO7.out HG7.out⟩

set_option maxHeartbeats 2000000 in
theorem remove_any {w : World} {t m n : Nat} {D : DataW Unit} {F : Fs} (h : TreeS w t m n D F) (hI : Inv F) (hF : Small F) (hn : n ≤ 60) (s : Nm) (hs : s.size ≤ 1000) : Calls Try.prog 12 #[.pointer (some ⟨t, 0, none⟩), .string s] w fun e w' => ∃ R, e = .returned (.int .i64 (rmE F s R)) ∧ KidsIf F s R ∧ TreeTo w w' t m n (rmF F s R) := by
  have his := Lib.hid (is_any h)
  have HS := Lib.hid h
  have hkey := key_mk hs
  have hhs := Lib.hid (has_any h s hs)
  clear h
  cases hl : liveB F s with
  | false =>
    have E := Lib.hid (show rmE F s [] = 41 by rw [rmE, if_pos hl])
    have EF := Lib.hid (show rmF F s [] = F by rw [rmF, E.out, if_neg (by decide)])
    have HI := Lib.hid (show KidsIf F s [] from fun k => by rw [hl] at k; cases k)
    rw [hl] at hhs
    clear hl
    go_enter Try.func12, Try.ntmps12
    go_wp2_with (first
      | (go_at_call 29; refine Calls.mono his.out ?_; rintro e w1 ⟨rfl, hw⟩; obtain rfl : w = w1 := hw.symm; clear hw)
      | (go_at_call 18; refine Calls.mono hhs.out ?_; rintro e w2 ⟨rfl, B2⟩; have HB2 := Lib.hid B2; clear B2))
    go_ret
    exact ⟨[], by rw [E.out]; rfl, HI.out, by rw [EF.out]; exact TreeTo.same HS.out HB2.out⟩
  | true =>
    rw [hl] at hhs
    have HL := Lib.hid hl
    clear hl
    go_enter Try.func12, Try.ntmps12
    go_wp2_with (first
      | (go_at_call 29; refine Calls.mono his.out ?_; rintro e w1 ⟨rfl, hw⟩; obtain rfl : w = w1 := hw.symm; clear hw)
      | (go_at_call 18; refine Calls.mono hhs.out ?_; rintro e w2 ⟨rfl, B2⟩; have HB2 := Lib.hid B2; clear B2)
      | fail)
    refine Calls.mono (children_any (HS.out.below HB2.out) hI hF (by omega) s hs) ?_
    rintro e w3 ⟨⟨u, R, rfl, S3, IN⟩, B3⟩
    obtain ⟨A3, c3, rfl, l3, m3, n3, s3⟩ := S3
    have HI := Lib.hid (show KidsIf F s R from fun _ => IN)
    have HB3 := Lib.hid (bel_call HB2.out B3)
    have HS3 := Lib.hid (HS.out.below HB3.out)
    have c0 := (blk_cells HS3.out.cell).1 0 _ rfl
    clear s3 IN B3
    by_cases h0 : 0 < R.length
    · have E := Lib.hid (show rmE F s R = 47 by rw [rmE, HL.out, if_neg (by decide), if_pos h0])
      have EF := Lib.hid (show rmF F s R = F by rw [rmF, E.out, if_neg (by decide)])
      have h0' : decide ((0 : Int) < (R.length : Int)) = true := decide_eq_true (by omega)
      go_wp2
      go_ret
      exact ⟨R, by rw [E.out]; rfl, HI.out, by rw [EF.out]; exact TreeTo.same HS.out HB3.out⟩
    · have E := Lib.hid (show rmE F s R = 0 by rw [rmE, HL.out, if_neg (by decide), if_neg h0])
      have EF := Lib.hid (show rmF F s R = upd F s (parF F s, true) by rw [rmF, E.out, if_pos rfl])
      have h0' : decide ((0 : Int) < (R.length : Int)) = false := decide_eq_false (by omega)
      go_wp2_with (at_mapUpdate; refine wpList_mapUpdate_own _ rfl _ _ _ 47 rfl 9 51 keyN Try.underlying47 nodeElem m n D rfl HS3.out.own (by unfold maxLen; omega) _ (.agg #[.string Top, .bool true]) _ rfl rfl hkey _ [] (nodeElem_mk Top true) ?_; intro w7 hown7 hg7; have HO7 := Lib.hid hown7; have HG7 := Lib.hid hg7; clear hown7 hg7)
      go_ret
      exact ⟨R, by rw [E.out]; rfl, HI.out, by rw [EF.out]; exact TreeTo.put HS.out HB3.out (fun h => by cases h) HO7.out HG7.out⟩
end Go.Proofs.Ythcmlakifdoneaa
