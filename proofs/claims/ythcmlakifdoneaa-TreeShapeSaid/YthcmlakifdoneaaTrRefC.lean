/- Layer tree: the document's Under, Children, High. Conditions: the pointer leads to such a list, of at most sixty folders whose chains end. -/
import Derived.Test.YthcmlakifdoneaaTrRefB
namespace Go.Proofs.Ythcmlakifdoneaa
open Go.RowKit Go.Deep

theorem strs_sl {w : World} {v : Value} {R : List Nm} (h : RowC 9 1 w v (strs R)) (hl : R.length ≤ 1000) (hs : ∀ s ∈ R, s.size ≤ 1000) : Sl 1 rStr (fun _ => True) w v R := by
  rcases h.2 with ⟨rfl, h0⟩ | ⟨g, off, cap, cur, hv, hg, h1, h2, h3, h4⟩
  · have : R = [] := by cases R with
      | nil => rfl
      | cons x R => simp [strs] at h0
    subst this
    exact Sl_nil _ _ _ _
  · rw [strs_len] at hv h1
    subst hv
    refine Sl_of rfl h1 h2 (by omega) trivial fun i x hx => ⟨[.string x], rfl, fun j y hj => ?_, rfl, by have := hs x (List.mem_of_getElem? hx); omega⟩
    obtain ⟨-, -, -, hc, -⟩ := (show RowC 9 1 w (.slice (some ⟨g, off, none⟩) R.length cap) (strs R) from h).here (strs_get hx)
    have := hc j y hj
    rwa [Nat.add_assoc] at this
/-- The names of the first k folders that are there and that Q wants. -/
def PickN (N : List Node) (Q : Nm → Bool) (k : Nat) (x : Nm) : Prop := ∃ n ∈ N.take k, n.gone = false ∧ n.name = x ∧ Q x = true
theorem pick_skip {N : List Node} {Q : Nm → Bool} {k : Nat} {n : Node} {R : List Nm} (h : IsNames (PickN N Q k) R) (hn : N[k]? = some n) (hx : ¬ (n.gone = false ∧ Q n.name = true)) : IsNames (PickN N Q (k + 1)) R :=
  ⟨h.1, fun x => (h.2 x).trans ⟨fun ⟨m, h1, h2⟩ => ⟨m, by rw [List.take_add_one]; exact List.mem_append_left _ h1, h2⟩, fun ⟨m, h1, h2, h3, h4⟩ => by
    rw [List.take_add_one, hn] at h1
    rcases List.mem_append.1 h1 with h1 | h1
    · exact ⟨m, h1, h2, h3, h4⟩
    · obtain rfl : m = n := by simpa using h1
      exact absurd ⟨h2, h3 ▸ h4⟩ hx⟩⟩
theorem pick_new {N : List Node} (hu : Uniq N) {Q : Nm → Bool} {k : Nat} {n : Node} (hn : N[k]? = some n) : ¬ PickN N Q k n.name := by
  rintro ⟨m, h1, _, h3, _⟩
  obtain ⟨i, hi⟩ := List.getElem?_of_mem h1
  rw [List.getElem?_take] at hi
  split at hi
  · rename_i hik
    have h4 := nodup_inj hu (List.mem_of_getElem? hi) (List.mem_of_getElem? hn) h3
    subst h4
    have a := (List.getElem?_eq_some_iff.1 hi)
    have b := (List.getElem?_eq_some_iff.1 hn)
    have hnd : N.Nodup := List.Pairwise.imp (fun h e => h (by rw [e])) (List.pairwise_map.1 hu)
    exact List.pairwise_iff_getElem.1 hnd i k a.1 b.1 hik (a.2.trans b.2.symm)
  · cases hi
theorem pick_take {N : List Node} (hu : Uniq N) {Q : Nm → Bool} {k : Nat} {n : Node} {R : List Nm} (h : IsNames (PickN N Q k) R) (hn : N[k]? = some n) (hg : n.gone = false) (hq : Q n.name = true) : IsNames (PickN N Q (k + 1)) (insS n.name R) := by
  have h1 := h.put (pick_new hu hn)
  refine ⟨h1.1, fun x => (h1.2 x).trans ⟨?_, ?_⟩⟩
  · rintro (rfl | ⟨m, m1, m2⟩)
    · exact ⟨n, by rw [List.take_add_one, hn]; simp, hg, rfl, hq⟩
    · exact ⟨m, by rw [List.take_add_one]; exact List.mem_append_left _ m1, m2⟩
  · rintro ⟨m, m1, m2, m3, m4⟩
    rw [List.take_add_one, hn] at m1
    rcases List.mem_append.1 m1 with m1 | m1
    · exact .inr ⟨m, m1, m2, m3, m4⟩
    · obtain rfl : m = n := by simpa using m1
      exact .inl m3.symm
theorem pick_all {N : List Node} (hu : Uniq N) {Q : Nm → Bool} {R : List Nm} (h : IsNames (PickN N Q N.length) R) : IsNames (fun x => liveB (fN N) x = true ∧ Q x = true) R :=
  ⟨h.1, fun x => (h.2 x).trans ⟨fun ⟨n, h1, h2, h3, h4⟩ => ⟨(live_iff hu).2 ⟨n, by rwa [List.take_length] at h1, h3, h2⟩, h4⟩, fun ⟨h1, h2⟩ => by
    obtain ⟨n, n1, n2, n3⟩ := (live_iff hu).1 h1
    exact ⟨n, by rw [List.take_length]; exact n1, n3, n2, h2⟩⟩⟩
theorem insS_len (s : Nm) : ∀ l, (insS s l).length = l.length + 1
  | [] => rfl
  | x :: l => by
    rw [insS]
    split
    · rfl
    · rw [List.length_cons, insS_len s l, List.length_cons]
theorem rowS_keep {w w' : World} {v : Value} {R : List Nm} (h : RowC 9 1 w v (strs R)) (k : Below w.heap.size w w') : RowC 9 1 w' v (strs R) := h.keep fun b hb => k.block b (h.lt b hb)

set_option maxHeartbeats 2000000 in
theorem refunder_any {w : World} {r : Nat} {v : Value} {N : List Node} (h : RTreeS w r v N) (hI : Inv (fN N)) (s : Nm) : Calls Try.prog 23 #[.pointer (some ⟨r, 0, none⟩), .string s] w fun e w' => (∃ u R, e = .returned u ∧ Sl 1 rStr (fun _ => True) w' u R ∧ IsNames (fun x => s ∈ ch (fN N) x) R) ∧ Below w.heap.size w w' := by
  obtain ⟨A, c, rfl, hcm⟩ := h.shape
  have HR := Lib.hid h
  have hl60 := h.len
  have hsm := h.smallF
  clear h
  go_enter Try.func23, Try.ntmps23
  go_wp2
  go_loopw [5, 6] (fun s5 i wr => ∃ (k : Nat) (R : List Nm), k ≤ N.length ∧ R.length ≤ k ∧ i = .int .i64 k ∧ Hid (RowC 9 1 wr s5 (strs R)) ∧ Hid (∀ b, s5.ownBlock = some b → w.heap.size ≤ b) ∧ Hid (IsNames (PickN N (fun x => memB (ch (fN N) x) s) k) R) ∧ Below w.heap.size w wr) (fun _ i _ => N.length - (RowKit.intOf i).toNat)
  case atStart => exact ⟨0, [], by omega, by simp, by go_num, RowC.nil _, (fun b hb => by cases hb), IsNames.nil fun x ⟨n, h1, _⟩ => by simp at h1, by go_grown⟩
  case round =>
    obtain ⟨k, R, hk, hRk, rfl, HW, HO, HN, hbel⟩ := hrel
    obtain ⟨A0, c0, rfl, _⟩ := HW.out.shape
    have HR1 := Lib.hid (HR.out.below hbel)
    have hc := (blk_cells HR1.out.cell).1 0 _ rfl
    by_cases hlt : k < N.length
    · obtain ⟨n, hn⟩ : ∃ n, N[k]? = some n := ⟨_, List.getElem?_eq_getElem hlt⟩
      obtain ⟨g, o, rfl, x0, x1, x2, _⟩ := HR1.out.node hn
      cases hg : n.gone with
      | true =>
        rw [hg] at x2
        have HN2 := Lib.hid (pick_skip HN.out hn (by rw [hg]; simp))
        clear hn hg
        go_wp2
        go_roundw
        case rel => exact ⟨k + 1, R, by omega, by omega, by go_num, HW, HO, HN2, hbel⟩
        case measure => simp [RowKit.intOf]; omega
      | false =>
        rw [hg] at x2
        have HGN := Lib.hid hg
        have HNN := Lib.hid hn
        clear hn hg
        go_wp2_with fail
        refine Calls.mono (refchain_any HR1.out hI n.name) ?_
        rintro e w1 ⟨⟨u1, rfl, S1⟩, B1⟩
        have HU1 := Lib.hid S1
        have HB1 := Lib.hid (bel_call hbel B1)
        have HW1 := Lib.hid (rowS_keep HW.out B1)
        have HR2 := Lib.hid (HR1.out.below B1)
        clear S1 B1 hc x0 x1 x2
        have hc := (blk_cells HR2.out.cell).1 0 _ rfl
        obtain ⟨g', o', he, x0, x1, x2, _⟩ := HR2.out.node HNN.out
        simp only [Option.some.injEq, Addr.mk.injEq, and_true] at he
        obtain ⟨rfl, rfl⟩ := he
        cases hm : memB (ch (fN N) n.name) s with
        | false =>
          have HN2 := Lib.hid (pick_skip HN.out HNN.out (by rw [hm]; simp))
          have hin := in_any _ _ s w1 _ HU1.out
          rw [hm] at hin
          have HIN := Lib.hid hin
          clear hm hin
          go_wp2_with (go_at_call 32; refine Calls.mono HIN.out ?_; rintro e w2 ⟨rfl, hw⟩; obtain rfl := hw.symm; clear hw)
          go_roundw
          case rel => exact ⟨k + 1, R, by omega, by omega, by go_num, HW1, HO, HN2, HB1.out⟩
          case measure => simp [RowKit.intOf]; omega
        | true =>
          have HN2 := Lib.hid (pick_take HR.out.uniq HN.out HNN.out HGN.out hm)
          have HNW := Lib.hid (show n.name ∉ R from fun h9 => pick_new HR.out.uniq HNN.out ((HN.out.2 _).1 h9))
          have hin := in_any _ _ s w1 _ HU1.out
          rw [hm] at hin
          have HIN := Lib.hid hin
          clear hm hin
          rw [strs_len]
          rw [strs_len] at HW1 HO
          go_wp2_with (first
            | (go_at_call 32; refine Calls.mono HIN.out ?_; rintro e w2 ⟨rfl, hw⟩; obtain rfl := hw.symm; clear hw)
            | (go_at_call 35; refine Calls.mono (sorted_any HW1.out (by omega) HN.out.1 n.name HNW.out) ?_; rintro e w3 ⟨v3, rfl, r3, g3, o3⟩; have HR3 := Lib.hid r3; have HO3 := Lib.hid o3; have HB3 := Lib.hid (Below.grown HB1.out g3 HB1.out.size fun b hb => HO.out b hb); clear r3 g3 o3))
          go_roundw
          case rel => exact ⟨k + 1, _, by omega, by rw [insS_len]; omega, by go_num, HR3, fun b hb => (by
            rcases HO3.out with h9 | ⟨q, hq, hl⟩
            · exact HO.out b (by rw [← h9]; exact hb)
            · rw [hq] at hb; cases hb; exact Nat.le_trans HB1.out.size hl), HN2, HB3.out⟩
          case measure => simp [RowKit.intOf]; omega
    · obtain rfl : k = N.length := by omega
      have HF := Lib.hid (pick_all HR.out.uniq HN.out)
      have HS := Lib.hid (strs_sl HW.out (by omega) fun x hx => hsm.key x (live_some ((HF.out.2 x).1 hx).1))
      go_wp2
      go_ret
      exact ⟨⟨_, R, rfl, HS.out, ⟨HF.out.1, fun x => (HF.out.2 x).trans ⟨fun k => memB_iff.1 k.2, fun k => ⟨live_of_ch hI k, memB_iff.2 k⟩⟩⟩⟩, hbel⟩
theorem AtIs.off {N : List Node} {s : Nm} {i : Int} (h : AtIs N s i) (hl : liveB (fN N) s = false) : i = -1 := by
  rcases h with ⟨h1, _⟩ | ⟨_, h1⟩
  · rw [hl] at h1; cases h1
  · exact h1
theorem AtIs.on {N : List Node} {s : Nm} {i : Int} (h : AtIs N s i) (hl : liveB (fN N) s = true) : ∃ (k : Nat) (n : Node), i = k ∧ N[k]? = some n ∧ n.name = s ∧ n.gone = false := by
  rcases h with ⟨_, h1⟩ | ⟨h1, _⟩
  · exact h1
  · rw [hl] at h1; cases h1
set_option maxHeartbeats 4000000 in
theorem refchildren_any {w : World} {r : Nat} {v : Value} {N : List Node} (h : RTreeS w r v N) (hI : Inv (fN N)) (s : Nm) : Calls Try.prog 25 #[.pointer (some ⟨r, 0, none⟩), .string s] w fun e w' => (∃ u R, e = .returned u ∧ Sl 1 rStr (fun _ => True) w' u R ∧ IsNames (fun x => liveB (fN N) x = true ∧ parF (fN N) x = s) R) ∧ Below w.heap.size w w' := by
  obtain ⟨A, c, rfl, hcm⟩ := h.shape
  have HR := Lib.hid h
  have hl60 := h.len
  have hsm := h.smallF
  have hat := Lib.hid (refat_any h s)
  clear h
  by_cases e : s = Top
  · subst e
    clear hat
    generalize hs : Top = s
    have e1 : (s.toList == ByteArray.toList ⟨#[]⟩) = true := by rw [← hs]; simp
    have e3 : s.toList = [] := by rw [← hs]; exact top_list
    have e4 : s.toList.isEmpty = true := by rw [e3]; rfl
    clear hs
    go_enter Try.func25, Try.ntmps25
    go_wp2
    clear e1 e3 e4
    go_loopw [5, 6] (fun s5 i wr => ∃ (k : Nat) (R : List Nm), k ≤ N.length ∧ R.length ≤ k ∧ i = .int .i64 k ∧ Hid (RowC 9 1 wr s5 (strs R)) ∧ Hid (∀ b, s5.ownBlock = some b → w.heap.size ≤ b) ∧ Hid (IsNames (PickN N (fun x => (parF (fN N) x).toList == s.toList) k) R) ∧ Below w.heap.size w wr) (fun _ i _ => N.length - (RowKit.intOf i).toNat)
    case atStart => exact ⟨0, [], by omega, by simp, by go_num, RowC.nil _, (fun b hb => by cases hb), IsNames.nil fun x ⟨n, h1, _⟩ => by simp at h1, by go_grown⟩
    case round =>
      obtain ⟨k, R, hk, hRk, rfl, HW, HO, HN, hbel⟩ := hrel
      obtain ⟨A0, c0, rfl, _⟩ := HW.out.shape
      have HR1 := Lib.hid (HR.out.below hbel)
      have hc := (blk_cells HR1.out.cell).1 0 _ rfl
      by_cases hlt : k < N.length
      · obtain ⟨n, hn⟩ : ∃ n, N[k]? = some n := ⟨_, List.getElem?_eq_getElem hlt⟩
        obtain ⟨g, o, rfl, x0, x1, x2, _⟩ := HR1.out.node hn
        have hpar := par_mem HR.out.uniq (List.mem_of_getElem? hn)
        cases hg : n.gone with
        | true =>
          rw [hg] at x2
          have HN2 := Lib.hid (pick_skip HN.out hn (by rw [hg]; simp))
          clear hn hg hpar
          go_wp2
          go_roundw
          case rel => exact ⟨k + 1, R, by omega, by omega, by go_num, HW, HO, HN2, hbel⟩
          case measure => simp [RowKit.intOf]; omega
        | false =>
          rw [hg] at x2
          by_cases hq : n.parent = s
          · have HN2 := Lib.hid (pick_take HR.out.uniq HN.out hn hg (by rw [hpar, eqS_iff]; exact hq))
            have HNW := Lib.hid (show n.name ∉ R from fun h9 => pick_new HR.out.uniq hn ((HN.out.2 _).1 h9))
            have hqe := eqS_iff.2 hq
            clear hn hg hpar hq
            rw [strs_len]
            rw [strs_len] at HW HO
            go_wp2_with (go_at_call 35; refine Calls.mono (sorted_any HW.out (by omega) HN.out.1 n.name HNW.out) ?_; rintro e w3 ⟨v3, rfl, r3, g3, o3⟩; have HR3 := Lib.hid r3; have HO3 := Lib.hid o3; have HB3 := Lib.hid (Below.grown hbel g3 hbel.size fun b hb => HO.out b hb); clear r3 g3 o3)
            go_roundw
            case rel => exact ⟨k + 1, _, by omega, by rw [insS_len]; omega, by go_num, HR3, fun b hb => (by
              rcases HO3.out with h9 | ⟨q, hq, hl⟩
              · exact HO.out b (by rw [← h9]; exact hb)
              · rw [hq] at hb; cases hb; exact Nat.le_trans hbel.size hl), HN2, HB3.out⟩
            case measure => simp [RowKit.intOf]; omega
          · have HN2 := Lib.hid (pick_skip HN.out hn (by rw [hpar]; exact fun h9 => hq (eqS_iff.1 h9.2)))
            have hqe := eqS_ne hq
            clear hn hg hpar
            go_wp2
            go_roundw
            case rel => exact ⟨k + 1, R, by omega, by omega, by go_num, HW, HO, HN2, hbel⟩
            case measure => simp [RowKit.intOf]; omega
      · obtain rfl : k = N.length := by omega
        have HF := Lib.hid (pick_all HR.out.uniq HN.out)
        have HS := Lib.hid (strs_sl HW.out (by omega) fun x hx => hsm.key x (live_some ((HF.out.2 x).1 hx).1))
        go_wp2
        go_ret
        exact ⟨⟨_, R, rfl, HS.out, ⟨HF.out.1, fun x => (HF.out.2 x).trans ⟨fun k => ⟨k.1, eqS_iff.1 k.2⟩, fun k => ⟨k.1, eqS_iff.2 k.2⟩⟩⟩⟩, hbel⟩
  · have e1 := eqS_ne e
    have e3 : ¬ s.toList = [] := fun h => e (toList_inj (by rw [h, top_list]))
    have e4 : s.toList.isEmpty = false := by simpa using e3
    cases hl : liveB (fN N) s with
    | false =>
      have HN := Lib.hid (IsNames.nil (P := fun x => liveB (fN N) x = true ∧ parF (fN N) x = s) fun x ⟨k1, k2⟩ => by
        rcases hI.up x k1 with k | k
        · exact e (k2.symm.trans k)
        · rw [k2, hl] at k; cases k)
      have HL := Lib.hid hl
      clear hl
      go_enter Try.func25, Try.ntmps25
      go_wp2_with (go_at_call 17; refine Calls.mono hat.out ?_; rintro e w1 ⟨⟨i0, rfl, ha⟩, hw⟩; obtain rfl : w = w1 := hw.symm; obtain rfl := ha.off HL.out; clear hw ha)
      go_ret
      exact ⟨⟨_, [], rfl, Sl_nil _ _ _ _, HN.out⟩, by go_grown⟩
    | true =>
      have HL := Lib.hid hl
      clear hl
      go_enter Try.func25, Try.ntmps25
      go_wp2_with (go_at_call 17; refine Calls.mono hat.out ?_; rintro e w1 ⟨⟨i0, rfl, ha⟩, hw⟩; obtain rfl : w = w1 := hw.symm; obtain ⟨q, _, rfl, _⟩ := ha.on HL.out; have hq0 : decide ((q : Int) < 0) = false := decide_eq_false (by omega); clear hw ha)
      clear hat e1 e3 e4
      go_loopw [5, 6] (fun s5 i wr => ∃ (k : Nat) (R : List Nm), k ≤ N.length ∧ R.length ≤ k ∧ i = .int .i64 k ∧ Hid (RowC 9 1 wr s5 (strs R)) ∧ Hid (∀ b, s5.ownBlock = some b → w.heap.size ≤ b) ∧ Hid (IsNames (PickN N (fun x => (parF (fN N) x).toList == s.toList) k) R) ∧ Below w.heap.size w wr) (fun _ i _ => N.length - (RowKit.intOf i).toNat)
      case atStart => exact ⟨0, [], by omega, by simp, by go_num, RowC.nil _, (fun b hb => by cases hb), IsNames.nil fun x ⟨n, h1, _⟩ => by simp at h1, by go_grown⟩
      case round =>
        obtain ⟨k, R, hk, hRk, rfl, HW, HO, HN, hbel⟩ := hrel
        obtain ⟨A0, c0, rfl, _⟩ := HW.out.shape
        have HR1 := Lib.hid (HR.out.below hbel)
        have hc := (blk_cells HR1.out.cell).1 0 _ rfl
        by_cases hlt : k < N.length
        · obtain ⟨n, hn⟩ : ∃ n, N[k]? = some n := ⟨_, List.getElem?_eq_getElem hlt⟩
          obtain ⟨g, o, rfl, x0, x1, x2, _⟩ := HR1.out.node hn
          have hpar := par_mem HR.out.uniq (List.mem_of_getElem? hn)
          cases hg : n.gone with
          | true =>
            rw [hg] at x2
            have HN2 := Lib.hid (pick_skip HN.out hn (by rw [hg]; simp))
            clear hn hg hpar
            go_wp2
            go_roundw
            case rel => exact ⟨k + 1, R, by omega, by omega, by go_num, HW, HO, HN2, hbel⟩
            case measure => simp [RowKit.intOf]; omega
          | false =>
            rw [hg] at x2
            by_cases hq : n.parent = s
            · have HN2 := Lib.hid (pick_take HR.out.uniq HN.out hn hg (by rw [hpar, eqS_iff]; exact hq))
              have HNW := Lib.hid (show n.name ∉ R from fun h9 => pick_new HR.out.uniq hn ((HN.out.2 _).1 h9))
              have hqe := eqS_iff.2 hq
              clear hn hg hpar hq
              rw [strs_len]
              rw [strs_len] at HW HO
              go_wp2_with (go_at_call 35; refine Calls.mono (sorted_any HW.out (by omega) HN.out.1 n.name HNW.out) ?_; rintro e w3 ⟨v3, rfl, r3, g3, o3⟩; have HR3 := Lib.hid r3; have HO3 := Lib.hid o3; have HB3 := Lib.hid (Below.grown hbel g3 hbel.size fun b hb => HO.out b hb); clear r3 g3 o3)
              go_roundw
              case rel => exact ⟨k + 1, _, by omega, by rw [insS_len]; omega, by go_num, HR3, fun b hb => (by
                rcases HO3.out with h9 | ⟨q, hq, hl⟩
                · exact HO.out b (by rw [← h9]; exact hb)
                · rw [hq] at hb; cases hb; exact Nat.le_trans hbel.size hl), HN2, HB3.out⟩
              case measure => simp [RowKit.intOf]; omega
            · have HN2 := Lib.hid (pick_skip HN.out hn (by rw [hpar]; exact fun h9 => hq (eqS_iff.1 h9.2)))
              have hqe := eqS_ne hq
              clear hn hg hpar
              go_wp2
              go_roundw
              case rel => exact ⟨k + 1, R, by omega, by omega, by go_num, HW, HO, HN2, hbel⟩
              case measure => simp [RowKit.intOf]; omega
        · obtain rfl : k = N.length := by omega
          have HF := Lib.hid (pick_all HR.out.uniq HN.out)
          have HS := Lib.hid (strs_sl HW.out (by omega) fun x hx => hsm.key x (live_some ((HF.out.2 x).1 hx).1))
          go_wp2
          go_ret
          exact ⟨⟨_, R, rfl, HS.out, ⟨HF.out.1, fun x => (HF.out.2 x).trans ⟨fun k => ⟨k.1, eqS_iff.1 k.2⟩, fun k => ⟨k.1, eqS_iff.2 k.2⟩⟩⟩⟩, hbel⟩
end Go.Proofs.Ythcmlakifdoneaa
