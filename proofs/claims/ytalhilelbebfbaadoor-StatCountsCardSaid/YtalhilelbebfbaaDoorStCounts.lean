/- Layer stat: Counts. Condition: at most a hundred answers. -/
import Derived.Test.YtalhilelbebfbaaDoorStSorted
namespace Go.Proofs.YtalhilelbebfbaaDoor
open Go.RowKit Go.Deep Go.Maps

def cntOf (L : List Int) (e : Int) : Int := (L.count e : Nat)
theorem MapIs.congr {D : DataW Unit} {f f' : Int → Int} {K K' : Int → Prop} (h : MapIs D f K) (hf : ∀ e, f e = f' e) (hK : ∀ e, K e ↔ K' e) : MapIs D f' K' :=
  ⟨h.isMap, fun e => by rw [← hf e]; exact h.val e, fun e => by rw [h.key e, hK e]⟩
theorem cnt_step (L : List Int) (x : Int) {D : DataW Unit} (h : MapIs D (cntOf L) (· ∈ L)) : MapIs (D.put (.int .i64 x) (.lit (.int .i64 (cntOf L x + 1)))) (cntOf (L ++ [x])) (· ∈ L ++ [x]) := by
  refine (h.put x (cntOf L x + 1)).congr (fun e => ?_) fun e => ?_
  · unfold cntOf
    rw [List.count_append]
    by_cases he : e = x
    · subst he
      rw [if_pos rfl]
      simp
    · rw [if_neg he]
      have : List.count e [x] = 0 := List.count_eq_zero.2 (by simpa using he)
      omega
  · simp only [List.mem_append, List.mem_singleton]
    constructor
    · rintro (h | h)
      · exact .inr h
      · exact .inl h
    · rintro (h | h)
      · exact .inr h
      · exact .inl h
theorem cnt_le (L : List Int) (e : Int) : 0 ≤ cntOf L e ∧ cntOf L e ≤ L.length := by
  unfold cntOf
  have := List.count_le_length (a := e) (l := L)
  omega

set_option maxHeartbeats 1000000 in
set_option maxRecDepth 100000 in
theorem counts_any (L : List Int) (hL : L.length ≤ 100) (v : Value) (w : World) (S : Nat → Prop) (h : Sl 7 rAns S w v L) :
    Calls Tryd.prog 6 #[v] w fun e w' => (∃ u R, e = .returned u ∧ Sl 2 rCount (fun _ => True) w' u R ∧ IsCounts (cntOf L) (· ∈ L) R) ∧ Below w.heap.size w w' := by
  obtain ⟨A, cp, rfl, hl, hcp, hn, hs⟩ := h
  unfold maxLen at hcp
  have hmm := @run_makeMap Tryd.prog
  go_enter Tryd.func6, Tryd.ntmps6
  go_wp2
  clear hmm
  go_loopw [9] (fun i wr => ∃ (k : Nat) (D : DataW Unit), k ≤ L.length ∧ i = .int .i64 k ∧ Hid (wr.ownsMap Tryd.prog 28 (plainElem Tryd.prog 3) w.heap.size k D) ∧ Hid (MapIs D (cntOf (L.take k)) (· ∈ L.take k)) ∧ Below w.heap.size w wr) (fun i _ => L.length - (RowKit.intOf i).toNat)
  case atStart => exact ⟨0, .map [], by omega, by go_num, World.ownsMap_made _ _ _ _, MapIs.start.congr (fun _ => rfl) (fun _ => by simp), by go_grown⟩
  case round =>
    obtain ⟨k, D, hk, rfl, HO, HM, hbel⟩ := hrel
    have hzb := hbel.size
    by_cases hlt : k < L.length
    · obtain ⟨x, hx, _, _⟩ := at_k hlt
      obtain ⟨b, o, ys, rfl, _, _, hc, an, sn, A3, A4, A5, A6, n3, c3, n4, c4, n5, c5, n6, c6, rfl, hxI⟩ := hs k x hx
      ·
        have q0 : wr.cell? ⟨b, o + k * 7, none⟩ = some (.int .i64 x) := (hbel.cell (p := ⟨b, o + (k * 7 + 0), none⟩) (cell_lt (hc 0 _ rfl))).trans (hc 0 _ rfl)
        have q1 : wr.cell? ⟨b, o + k * 7 + 1, none⟩ = some (.int .i64 an) := (hbel.cell (p := ⟨b, o + (k * 7 + 1), none⟩) (cell_lt (hc 1 _ rfl))).trans (hc 1 _ rfl)
        have q2 : wr.cell? ⟨b, o + k * 7 + 2, none⟩ = some (.string sn) := (hbel.cell (p := ⟨b, o + (k * 7 + 2), none⟩) (cell_lt (hc 2 _ rfl))).trans (hc 2 _ rfl)
        have q3 : wr.cell? ⟨b, o + k * 7 + 3, none⟩ = some (.slice A3 n3 c3) := (hbel.cell (p := ⟨b, o + (k * 7 + 3), none⟩) (cell_lt (hc 3 _ rfl))).trans (hc 3 _ rfl)
        have q4 : wr.cell? ⟨b, o + k * 7 + 4, none⟩ = some (.slice A4 n4 c4) := (hbel.cell (p := ⟨b, o + (k * 7 + 4), none⟩) (cell_lt (hc 4 _ rfl))).trans (hc 4 _ rfl)
        have q5 : wr.cell? ⟨b, o + k * 7 + 5, none⟩ = some (.slice A5 n5 c5) := (hbel.cell (p := ⟨b, o + (k * 7 + 5), none⟩) (cell_lt (hc 5 _ rfl))).trans (hc 5 _ rfl)
        have q6 : wr.cell? ⟨b, o + k * 7 + 6, none⟩ = some (.slice A6 n6 c6) := (hbel.cell (p := ⟨b, o + (k * 7 + 6), none⟩) (cell_lt (hc 6 _ rfl))).trans (hc 6 _ rfl)
        have HT := Lib.hid (show L.take (k + 1) = L.take k ++ [x] by rw [List.take_add_one, hx]; rfl)
        have hkey : keyOf Tryd.prog 28 (.int .i64 x) = some (.int .i64 x) := keyOf_int_mk Tryd.underlying28 (by simp [Lit.wf]; exact hxI)
        have HC := Lib.hid (cnt_le (L.take k) x)
        have HCL := Lib.hid (show (L.take k).length ≤ 100 by rw [List.length_take]; omega)
        clear hx hc
        go_wp2_with (first
          | (at_lookup; refine wpList_lookup_own_int _ rfl _ _ 47 rfl 28 3 .i64 keyE Tryd.underlying47 Tryd.underlying3 (zeroI _) w.heap.size k D rfl (HO.out.alloc _) _ _ rfl hkey ?_; intro c hat hwc; have hcf := HM.out.at hat; have hcb : 0 ≤ c ∧ c ≤ 100 := (by have := HC.out; have := HCL.out; omega); have hwr : IntKind.i64.wrap (c + 1) = c + 1 := IntWalk.i64_in _ (by omega); have HCF := Lib.hid hcf; clear hat hwc hcf)
          | (at_mapUpdate; refine wpList_mapUpdate_own _ rfl _ _ _ 47 rfl 28 3 keyE Tryd.underlying47 _ w.heap.size k D rfl (HO.out.alloc _) (by unfold maxLen; omega) _ (.int .i64 (c + 1)) _ rfl rfl hkey _ [] (plainElem_int Tryd.underlying3 (by have h : I64 (c + 1) := ⟨by omega, by omega⟩; simp [Lit.wf]; exact h)) ?_; intro w1 hown1 hgrow1; have HO1 := Lib.hid hown1; have GG := Lib.hid hgrow1; clear hown1 hgrow1))
        go_roundw
        case rel =>
          refine ⟨k + 1, D.put (.int .i64 x) (.lit (.int .i64 (c + 1))), by omega, by go_num, HO1.out, ?_, Below.grown (hbel.alloc hzb _) GG.out (by simp; omega) fun b hb => (by cases hb; exact Nat.le_refl _)⟩
          show MapIs _ _ _
          rw [HT.out, HCF.out]
          exact cnt_step _ _ HM.out
        case measure => simp [RowKit.intOf]; omega
    · obtain rfl : k = L.length := by omega
      have HM2 : Hid (MapIs D (cntOf L) (· ∈ L)) := by
        have := HM.out
        rw [List.take_length] at this
        exact this
      have cs := Lib.hid (sorted_any w.heap.size L.length D (cntOf L) (· ∈ L) wr HO.out HM2.out (by omega))
      go_wp2_with (go_at_call 16; refine Calls.mono cs.out ?_; rintro e w2 ⟨⟨u, R, rfl, SU, IC⟩, B2⟩; have SU' := Lib.hid SU; have IC' := Lib.hid IC; clear SU IC)
      go_ret
      exact ⟨⟨_, _, rfl, SU'.out, IC'.out⟩, bel_call hbel B2⟩
end Go.Proofs.YtalhilelbebfbaaDoor
