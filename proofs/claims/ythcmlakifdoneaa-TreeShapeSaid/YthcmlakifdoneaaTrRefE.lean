/- Layer tree: the document's Add, Move, Remove. Conditions: as for High, and room for one more. -/
import Derived.Test.YthcmlakifdoneaaTrRefD
namespace Go.Proofs.Ythcmlakifdoneaa
open Go.RowKit Go.Deep

/-- What the document's list may write. -/
def Rb (r : Nat) (v : Value) : Nat → Prop := fun x => x = r ∨ v.ownBlock = some x
def RTo (w w' : World) (r : Nat) (v : Value) (N : List Node) (F : Fs) : Prop := ∃ v' N', RTreeS w' r v' N' ∧ fN N' = F ∧ N'.length ≤ N.length + 1 ∧ (v'.ownBlock = v.ownBlock ∨ ∃ k, v'.ownBlock = some k ∧ w.heap.size ≤ k) ∧ ButB (Rb r v) w w'
theorem RTo.same {w w' : World} {r : Nat} {v : Value} {N : List Node} (h : RTreeS w r v N) (hb : Below w.heap.size w w') : RTo w w' r v N (fN N) := ⟨v, N, h.below hb, rfl, by omega, .inl rfl, ButB.of hb⟩
/-- One folder written. -/
theorem RTo.set {w w1 : World} {r g o c k j : Nat} {N : List Node} (h : RTreeS w r (.slice (some ⟨g, o, none⟩) N.length c) N) (hb : Below w.heap.size w w1) {n m : Node} (hk : N[k]? = some n) (hm : m.name = n.name) (hj : j < 3) (u : Value) (hu : u.oneCell' = true) (hc : (cellsN n).set j u = cellsN m) (hs : m.parent.size ≤ 1000) :
    RTo w (w1.setCell ⟨g, o + k * 3 + j, none⟩ u) r (.slice (some ⟨g, o, none⟩) N.length c) N (upd (fN N) n.name (m.parent, m.gone)) := by
  have h1 := h.below hb
  have hgr : r ≠ g := fun e => h.ne (by rw [e]; rfl)
  refine ⟨_, N.set k m, ⟨(Below.heap_setCell _ _ _ _ hgr).trans h1.cell, ?_, h.ne, uniq_set h.uniq hk hm, by rw [List.length_set]; exact h.len, fun x hx => ?_⟩, fN_set h.uniq hk hm, by rw [List.length_set]; omega, .inl rfl, (ButB.of hb).set _ _ (.inr rfl)⟩
  · have := h1.row.write (i := k) (j := j) (x := cellsN n) (by decide) (by rw [List.getElem?_map, hk]; rfl) hj u hu
    rw [hc] at this
    rw [List.map_set]
    exact this
  · rcases List.mem_or_eq_of_mem_set hx with hx | rfl
    · exact h.small x hx
    · exact ⟨by rw [hm]; exact (h.small n (List.mem_of_getElem? hk)).1, hs⟩

theorem refmay {w : World} {r : Nat} {v : Value} {N : List Node} (h : RTreeS w r v N) (p : Nm) (hp : p ≠ Top) : Calls Try.prog 17 #[.pointer (some ⟨r, 0, none⟩), .string p] w fun e w' => (∃ i : Int, e = .returned (.int .i64 i) ∧ decide (i < 0) = !mayB (fN N) p ∧ AtIs N p i) ∧ w' = w :=
  (refat_any h p).mono fun e w' ⟨⟨i, he, ha⟩, hw⟩ => ⟨⟨i, he, by
    unfold mayB
    rw [decide_eq_false hp, Bool.false_or]
    rcases ha with ⟨h1, k, _, rfl, _⟩ | ⟨h1, rfl⟩
    · rw [h1]; simp
    · rw [h1]; rfl, ha⟩, hw⟩
set_option maxHeartbeats 4000000 in
set_option maxRecDepth 100000 in
theorem refmove_any {w : World} {r : Nat} {v : Value} {N : List Node} (h : RTreeS w r v N) (hI : Inv (fN N)) (s p : Nm) (hp : p.size ≤ 1000) : Calls Try.prog 11 #[.pointer (some ⟨r, 0, none⟩), .string s, .string p] w fun e w' => ∃ k, e = .returned (.int .i64 (moveE (fN N) s p k)) ∧ HighIf (fN N) s p k ∧ RTo w w' r v N (moveF (fN N) s p k) := by
  obtain ⟨A, c, rfl, hcm⟩ := h.shape
  have HR := Lib.hid h
  have hl60 := h.len
  have hat := Lib.hid (refat_any h s)
  have hd4 := hI.deep p
  clear h
  cases hl : liveB (fN N) s with
  | false =>
    have E := Lib.hid (show moveE (fN N) s p 0 = 41 by rw [moveE, if_pos hl])
    have EF := Lib.hid (show moveF (fN N) s p 0 = fN N by rw [moveF, E.out, if_neg (by decide)])
    have HI := Lib.hid (show HighIf (fN N) s p 0 from fun k => by rw [hl] at k; cases k)
    have HL := Lib.hid hl
    clear hl
    go_enter Try.func11, Try.ntmps11
    go_wp2_with (go_at_call 17; refine Calls.mono hat.out ?_; rintro e w1 ⟨⟨i0, rfl, ha⟩, hw⟩; obtain rfl : w = w1 := hw.symm; obtain rfl := ha.off HL.out; clear hw ha)
    go_ret
    exact ⟨0, by rw [E.out]; rfl, HI.out, by rw [EF.out]; exact RTo.same HR.out (by go_grown)⟩
  | true =>
    have HL := Lib.hid hl
    have arm : ∀ (P : Prop), P → P := fun _ h => h
    cases hm : mayB (fN N) p with
    | false =>
      have hpt : p ≠ Top := fun e => by unfold mayB at hm; rw [decide_eq_true e] at hm; cases hm
      have E := Lib.hid (show moveE (fN N) s p 0 = 41 by rw [moveE, hl, if_neg (by decide), if_pos hm])
      have EF := Lib.hid (show moveF (fN N) s p 0 = fN N by rw [moveF, E.out, if_neg (by decide)])
      have HI := Lib.hid (show HighIf (fN N) s p 0 from fun _ k => by rw [hm] at k; cases k)
      have hmy := refmay HR.out p hpt
      rw [hm] at hmy
      have HMY := Lib.hid hmy
      have e1 := eqS_ne hpt
      have e3 : ¬ p.toList = [] := fun h => hpt (toList_inj (by rw [h, top_list]))
      have e4 : p.toList.isEmpty = false := by simpa using e3
      clear hl hm hmy hpt arm
      go_enter Try.func11, Try.ntmps11
      go_wp2_with fail
      refine Calls.mono hat.out ?_
      rintro e w1 ⟨⟨i0, rfl, ha⟩, hw⟩
      obtain rfl : w = w1 := hw.symm
      obtain ⟨k, n, rfl, hn, hnm, hgn⟩ := ha.on HL.out
      have hk0 : decide ((k : Int) < 0) = false := decide_eq_false (by omega)
      clear hw ha hn hnm hgn
      go_wp2_with fail
      refine Calls.mono HMY.out ?_
      rintro e w2 ⟨⟨i2, rfl, hi2, _⟩, hw⟩
      obtain rfl : w = w2 := hw.symm
      have hi3 : decide (i2 < 0) = true := hi2
      clear hw hi2
      go_wp2
      go_ret
      exact ⟨0, by rw [E.out]; rfl, HI.out, by rw [EF.out]; exact RTo.same HR.out (by go_grown)⟩
    | true =>
      have HM := Lib.hid hm
      by_cases hpt : p = Top
      · have e2 : (p.toList == ByteArray.toList ⟨#[]⟩) = true := by rw [hpt]; simp
        have e3 : p.toList = [] := by rw [hpt]; exact top_list
        have e4 : p.toList.isEmpty = true := by rw [e3]; rfl
        clear hl hm hpt arm
        go_enter Try.func11, Try.ntmps11
        go_wp2_with fail
        refine Calls.mono hat.out ?_
        rintro e w1 ⟨⟨i0, rfl, ha⟩, hw⟩
        obtain rfl : w = w1 := hw.symm
        obtain ⟨k, n, rfl, hn, hnm, hgn⟩ := ha.on HL.out
        have hk0 : decide ((k : Int) < 0) = false := decide_eq_false (by omega)
        have HNN := Lib.hid hn
        have HNM := Lib.hid hnm
        have HGN := Lib.hid hgn
        have hkl : (k : Int) < (N.length : Int) := by have := (List.getElem?_eq_some_iff.1 hn).1; omega
        clear hw ha hn hnm hgn
        go_wp2_with fail
        refine Calls.mono (refchain_any HR.out hI p) ?_
        rintro e w3 ⟨⟨u3, rfl, S3⟩, B3⟩
        have HU3 := Lib.hid S3
        have HB3 := Lib.hid B3
        clear S3 B3
        cases hc : memB (ch (fN N) p) s with
        | true =>
          have E := Lib.hid (show moveE (fN N) s p 0 = 43 by rw [moveE, HL.out, if_neg (by decide), HM.out, if_neg (by decide), if_pos hc])
          have EF := Lib.hid (show moveF (fN N) s p 0 = fN N by rw [moveF, E.out, if_neg (by decide)])
          have HI := Lib.hid (show HighIf (fN N) s p 0 from fun _ _ k => by rw [hc] at k; cases k)
          have hin := in_any _ _ s w3 _ HU3.out
          rw [hc] at hin
          have HIN := Lib.hid hin
          clear hc hin
          go_wp2_with (go_at_call 32; refine Calls.mono HIN.out ?_; rintro e w4 ⟨rfl, hw⟩; obtain rfl := hw.symm; clear hw)
          go_ret
          exact ⟨0, by rw [E.out]; rfl, HI.out, by rw [EF.out]; exact RTo.same HR.out HB3.out⟩
        | false =>
          have hin := in_any _ _ s w3 _ HU3.out
          rw [hc] at hin
          have HIN := Lib.hid hin
          have HC := Lib.hid hc
          clear hc hin
          go_wp2_with (first
            | (go_at_call 32; refine Calls.mono HIN.out ?_; rintro e w4 ⟨rfl, hw⟩; obtain rfl := hw.symm; clear hw)
            | fail)
          refine Calls.mono (refchain_any (HR.out.below HB3.out) hI p) ?_
          rintro e w5 ⟨⟨u5, rfl, S5⟩, B5⟩
          obtain ⟨A5, c5, rfl, l5, m5, n5, s5⟩ := S5
          have HB5 := Lib.hid (bel_call HB3.out B5)
          clear s5 B5
          go_wp2_with fail
          refine Calls.mono (refhigh_any hI 5 s (HR.out.below HB5.out) (by omega)) ?_
          rintro e w6 ⟨⟨q, rfl, hq⟩, B6⟩
          have hq4 := high_le hI hq
          have HB6 := Lib.hid (bel_call HB5.out B6)
          have HI := Lib.hid (show HighIf (fN N) s p q from fun _ _ _ => hq)
          have HR6 := Lib.hid (HR.out.below HB6.out)
          clear hq B6
          by_cases h4 : 4 < (ch (fN N) p).length + q
          · have E := Lib.hid (show moveE (fN N) s p q = 3 by rw [moveE, HL.out, if_neg (by decide), HM.out, if_neg (by decide), HC.out, if_neg (by decide), if_pos h4])
            have EF := Lib.hid (show moveF (fN N) s p q = fN N by rw [moveF, E.out, if_neg (by decide)])
            have h4' : (4 : Int) < ((ch (fN N) p).length : Int) + (q : Int) := by omega
            go_wp2
            go_ret
            exact ⟨q, by rw [E.out]; rfl, HI.out, by rw [EF.out]; exact RTo.same HR.out HB6.out⟩
          · have E := Lib.hid (show moveE (fN N) s p q = 0 by rw [moveE, HL.out, if_neg (by decide), HM.out, if_neg (by decide), HC.out, if_neg (by decide), if_neg h4])
            have EF := Lib.hid (show moveF (fN N) s p q = upd (fN N) s (p, false) by rw [moveF, E.out, if_pos rfl])
            have h4' : ¬ (4 : Int) < ((ch (fN N) p).length : Int) + (q : Int) := by omega
            obtain ⟨g, o, rfl, x0, x1, x2, hf⟩ := HR6.out.node HNN.out
            have hrc := (blk_cells HR6.out.cell).1 0 _ rfl
            have HT := Lib.hid (show RTo w (w6.setCell ⟨g, o + k * 3 + 1, none⟩ (.string p)) r (.slice (some ⟨g, o, none⟩) N.length c) N (upd (fN N) s (p, false)) by
              have := RTo.set HR.out HB6.out (k := k) (j := 1) (n := n) (m := { n with parent := p }) HNN.out rfl (by decide) (.string p) rfl rfl hp
              rw [HNM.out, HGN.out] at this
              exact this)
            go_wp2
            go_ret
            exact ⟨q, by rw [E.out]; rfl, HI.out, by rw [EF.out]; exact HT.out⟩
      · have hmy := refmay HR.out p hpt
        rw [hm] at hmy
        have HMY := Lib.hid hmy
        have e1 := eqS_ne hpt
        have e3 : ¬ p.toList = [] := fun h => hpt (toList_inj (by rw [h, top_list]))
        have e4 : p.toList.isEmpty = false := by simpa using e3
        clear hl hm hmy hpt arm
        go_enter Try.func11, Try.ntmps11
        go_wp2_with fail
        refine Calls.mono hat.out ?_
        rintro e w1 ⟨⟨i0, rfl, ha⟩, hw⟩
        obtain rfl : w = w1 := hw.symm
        obtain ⟨k, n, rfl, hn, hnm, hgn⟩ := ha.on HL.out
        have hk0 : decide ((k : Int) < 0) = false := decide_eq_false (by omega)
        have HNN := Lib.hid hn
        have HNM := Lib.hid hnm
        have HGN := Lib.hid hgn
        have hkl : (k : Int) < (N.length : Int) := by have := (List.getElem?_eq_some_iff.1 hn).1; omega
        clear hw ha hn hnm hgn
        go_wp2_with fail
        refine Calls.mono HMY.out ?_
        rintro e w2 ⟨⟨i2, rfl, hi2, _⟩, hw⟩
        obtain rfl : w = w2 := hw.symm
        have hi3 : decide (i2 < 0) = false := hi2
        clear hw hi2
        go_wp2_with fail
        refine Calls.mono (refchain_any HR.out hI p) ?_
        rintro e w3 ⟨⟨u3, rfl, S3⟩, B3⟩
        have HU3 := Lib.hid S3
        have HB3 := Lib.hid B3
        clear S3 B3
        cases hc : memB (ch (fN N) p) s with
        | true =>
          have E := Lib.hid (show moveE (fN N) s p 0 = 43 by rw [moveE, HL.out, if_neg (by decide), HM.out, if_neg (by decide), if_pos hc])
          have EF := Lib.hid (show moveF (fN N) s p 0 = fN N by rw [moveF, E.out, if_neg (by decide)])
          have HI := Lib.hid (show HighIf (fN N) s p 0 from fun _ _ k => by rw [hc] at k; cases k)
          have hin := in_any _ _ s w3 _ HU3.out
          rw [hc] at hin
          have HIN := Lib.hid hin
          clear hc hin
          go_wp2_with (go_at_call 32; refine Calls.mono HIN.out ?_; rintro e w4 ⟨rfl, hw⟩; obtain rfl := hw.symm; clear hw)
          go_ret
          exact ⟨0, by rw [E.out]; rfl, HI.out, by rw [EF.out]; exact RTo.same HR.out HB3.out⟩
        | false =>
          have hin := in_any _ _ s w3 _ HU3.out
          rw [hc] at hin
          have HIN := Lib.hid hin
          have HC := Lib.hid hc
          clear hc hin
          go_wp2_with (first
            | (go_at_call 32; refine Calls.mono HIN.out ?_; rintro e w4 ⟨rfl, hw⟩; obtain rfl := hw.symm; clear hw)
            | fail)
          refine Calls.mono (refchain_any (HR.out.below HB3.out) hI p) ?_
          rintro e w5 ⟨⟨u5, rfl, S5⟩, B5⟩
          obtain ⟨A5, c5, rfl, l5, m5, n5, s5⟩ := S5
          have HB5 := Lib.hid (bel_call HB3.out B5)
          clear s5 B5
          go_wp2_with fail
          refine Calls.mono (refhigh_any hI 5 s (HR.out.below HB5.out) (by omega)) ?_
          rintro e w6 ⟨⟨q, rfl, hq⟩, B6⟩
          have hq4 := high_le hI hq
          have HB6 := Lib.hid (bel_call HB5.out B6)
          have HI := Lib.hid (show HighIf (fN N) s p q from fun _ _ _ => hq)
          have HR6 := Lib.hid (HR.out.below HB6.out)
          clear hq B6
          by_cases h4 : 4 < (ch (fN N) p).length + q
          · have E := Lib.hid (show moveE (fN N) s p q = 3 by rw [moveE, HL.out, if_neg (by decide), HM.out, if_neg (by decide), HC.out, if_neg (by decide), if_pos h4])
            have EF := Lib.hid (show moveF (fN N) s p q = fN N by rw [moveF, E.out, if_neg (by decide)])
            have h4' : (4 : Int) < ((ch (fN N) p).length : Int) + (q : Int) := by omega
            go_wp2
            go_ret
            exact ⟨q, by rw [E.out]; rfl, HI.out, by rw [EF.out]; exact RTo.same HR.out HB6.out⟩
          · have E := Lib.hid (show moveE (fN N) s p q = 0 by rw [moveE, HL.out, if_neg (by decide), HM.out, if_neg (by decide), HC.out, if_neg (by decide), if_neg h4])
            have EF := Lib.hid (show moveF (fN N) s p q = upd (fN N) s (p, false) by rw [moveF, E.out, if_pos rfl])
            have h4' : ¬ (4 : Int) < ((ch (fN N) p).length : Int) + (q : Int) := by omega
            obtain ⟨g, o, rfl, x0, x1, x2, hf⟩ := HR6.out.node HNN.out
            have hrc := (blk_cells HR6.out.cell).1 0 _ rfl
            have HT := Lib.hid (show RTo w (w6.setCell ⟨g, o + k * 3 + 1, none⟩ (.string p)) r (.slice (some ⟨g, o, none⟩) N.length c) N (upd (fN N) s (p, false)) by
              have := RTo.set HR.out HB6.out (k := k) (j := 1) (n := n) (m := { n with parent := p }) HNN.out rfl (by decide) (.string p) rfl rfl hp
              rw [HNM.out, HGN.out] at this
              exact this)
            go_wp2
            go_ret
            exact ⟨q, by rw [E.out]; rfl, HI.out, by rw [EF.out]; exact HT.out⟩
set_option maxHeartbeats 4000000 in
set_option maxRecDepth 100000 in
theorem refremove_any {w : World} {r : Nat} {v : Value} {N : List Node} (h : RTreeS w r v N) (hI : Inv (fN N)) (s : Nm) : Calls Try.prog 13 #[.pointer (some ⟨r, 0, none⟩), .string s] w fun e w' => ∃ R, e = .returned (.int .i64 (rmE (fN N) s R)) ∧ KidsIf (fN N) s R ∧ RTo w w' r v N (rmF (fN N) s R) := by
  obtain ⟨A, c, rfl, hcm⟩ := h.shape
  have HR := Lib.hid h
  have hl60 := h.len
  have hat := Lib.hid (refat_any h s)
  clear h
  cases hl : liveB (fN N) s with
  | false =>
    have E := Lib.hid (show rmE (fN N) s [] = 41 by rw [rmE, if_pos hl])
    have EF := Lib.hid (show rmF (fN N) s [] = fN N by rw [rmF, E.out, if_neg (by decide)])
    have HI := Lib.hid (show KidsIf (fN N) s [] from fun k => by rw [hl] at k; cases k)
    have HL := Lib.hid hl
    clear hl
    go_enter Try.func13, Try.ntmps13
    go_wp2_with (go_at_call 17; refine Calls.mono hat.out ?_; rintro e w1 ⟨⟨i0, rfl, ha⟩, hw⟩; obtain rfl : w = w1 := hw.symm; obtain rfl := ha.off HL.out; clear hw ha)
    go_ret
    exact ⟨[], by rw [E.out]; rfl, HI.out, by rw [EF.out]; exact RTo.same HR.out (by go_grown)⟩
  | true =>
    have HL := Lib.hid hl
    clear hl
    go_enter Try.func13, Try.ntmps13
    go_wp2_with fail
    refine Calls.mono hat.out ?_
    rintro e w1 ⟨⟨i0, rfl, ha⟩, hw⟩
    obtain rfl : w = w1 := hw.symm
    obtain ⟨k, n, rfl, hn, hnm, hgn⟩ := ha.on HL.out
    have hk0 : decide ((k : Int) < 0) = false := decide_eq_false (by omega)
    have HNN := Lib.hid hn
    have HNM := Lib.hid hnm
    have HPR := Lib.hid (show parF (fN N) s = n.parent by rw [← hnm]; exact par_mem HR.out.uniq (List.mem_of_getElem? hn))
    have HPS := Lib.hid (HR.out.small n (List.mem_of_getElem? hn)).2
    have hkl : (k : Int) < (N.length : Int) := by have := (List.getElem?_eq_some_iff.1 hn).1; omega
    clear hw ha hn hnm hgn
    go_wp2_with fail
    refine Calls.mono (refchildren_any HR.out hI s) ?_
    rintro e w3 ⟨⟨u, R, rfl, S3, IN⟩, B3⟩
    obtain ⟨A3, c3, rfl, l3, m3, n3, s3⟩ := S3
    have HI := Lib.hid (show KidsIf (fN N) s R from fun _ => IN)
    have HB3 := Lib.hid B3
    have HR3 := Lib.hid (HR.out.below HB3.out)
    clear s3 IN B3
    by_cases h0 : 0 < R.length
    · have E := Lib.hid (show rmE (fN N) s R = 47 by rw [rmE, HL.out, if_neg (by decide), if_pos h0])
      have EF := Lib.hid (show rmF (fN N) s R = fN N by rw [rmF, E.out, if_neg (by decide)])
      have h0' : decide ((0 : Int) < (R.length : Int)) = true := decide_eq_true (by omega)
      go_wp2
      go_ret
      exact ⟨R, by rw [E.out]; rfl, HI.out, by rw [EF.out]; exact RTo.same HR.out HB3.out⟩
    · have E := Lib.hid (show rmE (fN N) s R = 0 by rw [rmE, HL.out, if_neg (by decide), if_neg h0])
      have EF := Lib.hid (show rmF (fN N) s R = upd (fN N) s (parF (fN N) s, true) by rw [rmF, E.out, if_pos rfl])
      have h0' : decide ((0 : Int) < (R.length : Int)) = false := decide_eq_false (by omega)
      obtain ⟨g, o, rfl, x0, x1, x2, hf⟩ := HR3.out.node HNN.out
      have hrc := (blk_cells HR3.out.cell).1 0 _ rfl
      have HT := Lib.hid (show RTo w (w3.setCell ⟨g, o + k * 3 + 2, none⟩ (.bool true)) r (.slice (some ⟨g, o, none⟩) N.length c) N (upd (fN N) s (parF (fN N) s, true)) by
        have := RTo.set HR.out HB3.out (k := k) (j := 2) (n := n) (m := { n with gone := true }) HNN.out rfl (by decide) (.bool true) rfl rfl HPS.out
        rw [HNM.out] at this
        rw [HPR.out]
        exact this)
      go_wp2
      go_ret
      exact ⟨R, by rw [E.out]; rfl, HI.out, by rw [EF.out]; exact HT.out⟩

theorem RTo.add {w w1 w2 : World} {r : Nat} {v v1 : Value} {N : List Node} (h : RTreeS w r v N) (hb : Below w.heap.size w w1) (hl : N.length ≤ 59) {s p : Nm} (hf : fN N s = none) (hs : s.size ≤ 1000) (hp : p.size ≤ 1000) (hr : RowC 43 3 w2 v1 (N.map cellsN ++ [[.string s, .string p, .bool false]])) (hg : w1.grownBy w2 v.ownBlock) (ho : v1.ownBlock = v.ownBlock ∨ ∃ k, v1.ownBlock = some k ∧ w1.heap.size ≤ k) :
    w2.heap[r]? = some (.cells #[v] 30 (0, 0)) ∧ RTo w (w2.setCell ⟨r, 0, none⟩ v1) r v N (upd (fN N) s (p, false)) := by
  have h1 := h.below hb
  have hc2 : w2.heap[r]? = some (.cells #[v] 30 (0, 0)) := (hg.block r (blk_lt h1.cell) (fun e => h.ne e.symm)).trans h1.cell
  have hrl := blk_lt h1.cell
  have hne : v1.ownBlock ≠ some r := by
    rcases ho with ho | ⟨k, hk, hk2⟩
    · rw [ho]; exact h.ne
    · rw [hk]; intro e; cases e; omega
  have hcell : N.map cellsN ++ [[.string s, .string p, .bool false]] = (N ++ [(⟨s, p, false⟩ : Node)]).map cellsN := by rw [List.map_append]; rfl
  refine ⟨hc2, v1, N ++ [⟨s, p, false⟩], ⟨blk_set_same _ hc2 rfl, ?_, hne, uniq_add (n := ⟨s, p, false⟩) h.uniq hf, (by simp; omega), fun x hx => ?_⟩, fN_add (n := ⟨s, p, false⟩) hf, (by simp), ?_, ?_⟩
  · rw [← hcell]
    exact hr.keep fun b hb' => Below.heap_setCell _ _ _ _ fun e => hne (by rw [hb', e])
  · rcases List.mem_append.1 hx with hx | hx
    · exact h.small x hx
    · rw [List.mem_singleton] at hx
      rw [hx]
      exact And.intro hs hp
  · rcases ho with ho | ⟨k, hk, hk2⟩
    · exact .inl ho
    · exact .inr ⟨k, hk, Nat.le_trans hb.size hk2⟩
  · have hg' : ButB (Rb r v) w1 w2 := ⟨hg.os, hg.tape, hg.output, hg.size, fun k hk hn => hg.block k hk fun e => hn (.inr e.symm)⟩
    exact ((ButB.of hb).trans hg').set _ _ (.inl rfl)
theorem fN_isSome {N : List Node} {s : Nm} : (fN N s).isSome = true ↔ ∃ n ∈ N, n.name = s := by
  cases hf : fN N s with
  | none =>
    have := fN_none.1 hf
    constructor
    · intro h; cases h
    · rintro ⟨n, h1, h2⟩; exact absurd h2 (this n h1)
  | some v =>
    obtain ⟨n, h1, h2, _⟩ := fN_some hf
    exact ⟨fun _ => ⟨n, h1, h2⟩, fun _ => rfl⟩
set_option maxHeartbeats 4000000 in
set_option maxRecDepth 100000 in
theorem refadd_any {w : World} {r : Nat} {v : Value} {N : List Node} (h : RTreeS w r v N) (hI : Inv (fN N)) (hl59 : N.length ≤ 59) (s p : Nm) (hs : s.size ≤ 1000) (hp : p.size ≤ 1000) : Calls Try.prog 9 #[.pointer (some ⟨r, 0, none⟩), .string s, .string p] w fun e w' => e = .returned (.int .i64 (addE (fN N) s p)) ∧ RTo w w' r v N (addF (fN N) s p) := by
  obtain ⟨A, c, rfl, hcm⟩ := h.shape
  have HR := Lib.hid h
  have hd4 := hI.deep p
  have hnm := refname_any s (by omega) w
  have hc := (blk_cells h.cell).1 0 _ rfl
  obtain ⟨iN, hiN, hzN, h1N, h2N⟩ := info_parts (show (Try.prog.info? 43).map (fun i => (i.zero, i.size, i.bytes)) = some (some (.agg #[.string ⟨#[]⟩, .string ⟨#[]⟩, .bool false]), 3, 40) from by kernel_rfl)
  clear h
  cases hk : nameOk s with
  | false =>
    have E := Lib.hid (show addE (fN N) s p = 2 by rw [addE, if_pos hk])
    have EF := Lib.hid (show addF (fN N) s p = fN N by rw [addF, E.out, if_neg (by decide)])
    rw [hk] at hnm
    clear hk
    go_enter Try.func9, Try.ntmps9
    go_wp2_with (go_at_call 15; refine Calls.mono hnm ?_; rintro e w2 ⟨rfl, hw⟩; obtain rfl := hw.symm; clear hw)
    go_ret
    exact ⟨by rw [E.out]; rfl, by rw [EF.out]; exact RTo.same HR.out (by go_grown)⟩
  | true =>
    rw [hk] at hnm
    have HK := Lib.hid hk
    clear hk
    go_enter Try.func9, Try.ntmps9
    go_wp2_with (go_at_call 15; refine Calls.mono hnm ?_; rintro e w2 ⟨rfl, hw⟩; obtain rfl := hw.symm; clear hw)
    clear hnm
    go_loop [7] (fun i => ∃ k : Nat, k ≤ N.length ∧ i = .int .i64 k ∧ Hid (∀ n ∈ N.take k, n.name ≠ s)) (fun i => N.length - (RowKit.intOf i).toNat)
    case atStart => exact ⟨0, by omega, by go_num, fun n hn => by simp at hn⟩
    case round =>
      obtain ⟨k, hkN, rfl, HT⟩ := hrel
      by_cases hlt : k < N.length
      · obtain ⟨n, hn⟩ : ∃ n, N[k]? = some n := ⟨_, List.getElem?_eq_getElem hlt⟩
        obtain ⟨g, o, rfl, x0, x1, x2, _⟩ := HR.out.node hn
        by_cases e : n.name = s
        · subst e
          have E := Lib.hid (show addE (fN N) n.name p = 42 by rw [addE, HK.out, if_neg (by decide), if_pos (fN_isSome.2 ⟨n, List.mem_of_getElem? hn, rfl⟩)])
          have EF := Lib.hid (show addF (fN N) n.name p = fN N by rw [addF, E.out, if_neg (by decide)])
          clear hn
          go_wp2
          go_ret
          exact ⟨by rw [E.out]; rfl, by rw [EF.out]; exact RTo.same HR.out (by go_grown)⟩
        · have e1 := eqS_ne e
          have HT2 := Lib.hid (show ∀ m ∈ N.take (k + 1), m.name ≠ s by
            rw [List.take_add_one, hn]
            intro m hm
            rcases List.mem_append.1 hm with hm | hm
            · exact HT.out m hm
            · obtain rfl : m = n := by simpa using hm
              exact e)
          clear hn
          go_wp2
          go_round
          case rel => exact ⟨k + 1, by omega, by go_num, HT2⟩
          case measure => simp [RowKit.intOf]; omega
      · obtain rfl : k = N.length := by omega
        have hfn : fN N s = none := fN_none.2 fun n hn => HT.out n (by rw [List.take_length]; exact hn)
        have HFN := Lib.hid hfn
        have HFS := Lib.hid (show ¬ (fN N s).isSome = true by rw [hfn]; simp)
        clear hfn HT
        cases hm : mayB (fN N) p with
        | false =>
          have hpt : p ≠ Top := fun e => by unfold mayB at hm; rw [decide_eq_true e] at hm; cases hm
          have E := Lib.hid (show addE (fN N) s p = 41 by rw [addE, HK.out, if_neg (by decide), if_neg HFS.out, if_pos hm])
          have EF := Lib.hid (show addF (fN N) s p = fN N by rw [addF, E.out, if_neg (by decide)])
          have hmy := refmay HR.out p hpt
          rw [hm] at hmy
          have HMY := Lib.hid hmy
          have e1 := eqS_ne hpt
          have e3 : ¬ p.toList = [] := fun h => hpt (toList_inj (by rw [h, top_list]))
          have e4 : p.toList.isEmpty = false := by simpa using e3
          clear hm hmy hpt
          go_wp2_with fail
          refine Calls.mono HMY.out ?_
          rintro e w2 ⟨⟨i2, rfl, hi2, _⟩, hw⟩
          obtain rfl := hw.symm
          have hi3 : decide (i2 < 0) = true := hi2
          clear hw hi2
          go_wp2
          go_ret
          exact ⟨by rw [E.out]; rfl, by rw [EF.out]; exact RTo.same HR.out (by go_grown)⟩
        | true =>
          have HM := Lib.hid hm
          by_cases hpt : p = Top
          · have e2 : (p.toList == ByteArray.toList ⟨#[]⟩) = true := by rw [hpt]; simp
            have e3 : p.toList = [] := by rw [hpt]; exact top_list
            have e4 : p.toList.isEmpty = true := by rw [e3]; rfl
            clear hm hpt
            go_wp2_with fail
            refine Calls.mono (refchain_any HR.out hI p) ?_
            rintro e w3 ⟨⟨u3, rfl, S3⟩, B3⟩
            obtain ⟨A3, c3, rfl, l3, m3, n3, s3⟩ := S3
            have HB3 := Lib.hid B3
            have HR3 := Lib.hid (HR.out.below B3)
            clear s3 B3 hc
            have hc := (blk_cells HR3.out.cell).1 0 _ rfl
            by_cases hc4 : 4 ≤ (ch (fN N) p).length
            · have E := Lib.hid (show addE (fN N) s p = 3 by rw [addE, HK.out, if_neg (by decide), if_neg HFS.out, HM.out, if_neg (by decide), if_pos hc4])
              have EF := Lib.hid (show addF (fN N) s p = fN N by rw [addF, E.out, if_neg (by decide)])
              have hc5 : decide ((4 : Int) ≤ ((ch (fN N) p).length : Int)) = true := decide_eq_true (by omega)
              go_wp2
              go_ret
              exact ⟨by rw [E.out]; rfl, by rw [EF.out]; exact RTo.same HR.out HB3.out⟩
            · have E := Lib.hid (show addE (fN N) s p = 0 by rw [addE, HK.out, if_neg (by decide), if_neg HFS.out, HM.out, if_neg (by decide), if_neg hc4])
              have EF := Lib.hid (show addF (fN N) s p = upd (fN N) s (p, false) by rw [addF, E.out, if_pos rfl])
              have hc5 : decide ((4 : Int) ≤ ((ch (fN N) p).length : Int)) = false := decide_eq_false (by omega)
              have hs64 : decide ((64 : Int) ≤ (N.length : Int)) = false := decide_eq_false (by omega)
              go_wp2_with (at_builtin; (refine wpList_rowC w3 [.string s, .string p, .bool false] rfl (.tmp 55) (.tmp 59) 28 rfl iN _ 40 Try.underlying28 hiN hzN h1N h2N rfl (by decide) (by decide) _ _ rfl HR3.out.row (by rw [List.length_map]; omega) rfl (by intro u hu; simp at hu; rcases hu with rfl | rfl | rfl <;> rfl) _ _ rfl rfl ?_); intro v1 w5 r1 g1 o1; obtain ⟨hcr, hto⟩ := RTo.add HR.out HB3.out hl59 HFN.out hs hp r1 g1 o1; have HT := Lib.hid hto; have hc0 := (blk_cells hcr).1 0 _ rfl; have hf0 := (blk_cells hcr).2; obtain ⟨A9, c9, h9, _⟩ := r1.shape; clear r1 g1 o1 hto hcr; generalize (N.map cellsN ++ [[Value.string s, .string p, .bool false]]).length = n9 at h9; subst h9)
              go_ret
              exact ⟨by rw [E.out]; rfl, by rw [EF.out]; exact HT.out⟩
          · have hmy := refmay HR.out p hpt
            rw [hm] at hmy
            have HMY := Lib.hid hmy
            have e1 := eqS_ne hpt
            have e3 : ¬ p.toList = [] := fun h => hpt (toList_inj (by rw [h, top_list]))
            have e4 : p.toList.isEmpty = false := by simpa using e3
            clear hm hmy hpt
            go_wp2_with fail
            refine Calls.mono HMY.out ?_
            rintro e w2 ⟨⟨i2, rfl, hi2, _⟩, hw⟩
            obtain rfl := hw.symm
            have hi3 : decide (i2 < 0) = false := hi2
            clear hw hi2
            go_wp2_with fail
            refine Calls.mono (refchain_any HR.out hI p) ?_
            rintro e w3 ⟨⟨u3, rfl, S3⟩, B3⟩
            obtain ⟨A3, c3, rfl, l3, m3, n3, s3⟩ := S3
            have HB3 := Lib.hid B3
            have HR3 := Lib.hid (HR.out.below B3)
            clear s3 B3 hc
            have hc := (blk_cells HR3.out.cell).1 0 _ rfl
            by_cases hc4 : 4 ≤ (ch (fN N) p).length
            · have E := Lib.hid (show addE (fN N) s p = 3 by rw [addE, HK.out, if_neg (by decide), if_neg HFS.out, HM.out, if_neg (by decide), if_pos hc4])
              have EF := Lib.hid (show addF (fN N) s p = fN N by rw [addF, E.out, if_neg (by decide)])
              have hc5 : decide ((4 : Int) ≤ ((ch (fN N) p).length : Int)) = true := decide_eq_true (by omega)
              go_wp2
              go_ret
              exact ⟨by rw [E.out]; rfl, by rw [EF.out]; exact RTo.same HR.out HB3.out⟩
            · have E := Lib.hid (show addE (fN N) s p = 0 by rw [addE, HK.out, if_neg (by decide), if_neg HFS.out, HM.out, if_neg (by decide), if_neg hc4])
              have EF := Lib.hid (show addF (fN N) s p = upd (fN N) s (p, false) by rw [addF, E.out, if_pos rfl])
              have hc5 : decide ((4 : Int) ≤ ((ch (fN N) p).length : Int)) = false := decide_eq_false (by omega)
              have hs64 : decide ((64 : Int) ≤ (N.length : Int)) = false := decide_eq_false (by omega)
              go_wp2_with (at_builtin; (refine wpList_rowC w3 [.string s, .string p, .bool false] rfl (.tmp 55) (.tmp 59) 28 rfl iN _ 40 Try.underlying28 hiN hzN h1N h2N rfl (by decide) (by decide) _ _ rfl HR3.out.row (by rw [List.length_map]; omega) rfl (by intro u hu; simp at hu; rcases hu with rfl | rfl | rfl <;> rfl) _ _ rfl rfl ?_); intro v1 w5 r1 g1 o1; obtain ⟨hcr, hto⟩ := RTo.add HR.out HB3.out hl59 HFN.out hs hp r1 g1 o1; have HT := Lib.hid hto; have hc0 := (blk_cells hcr).1 0 _ rfl; have hf0 := (blk_cells hcr).2; obtain ⟨A9, c9, h9, _⟩ := r1.shape; clear r1 g1 o1 hto hcr; generalize (N.map cellsN ++ [[Value.string s, .string p, .bool false]]).length = n9 at h9; subst h9)
              go_ret
              exact ⟨by rw [E.out]; rfl, by rw [EF.out]; exact HT.out⟩
end Go.Proofs.Ythcmlakifdoneaa
