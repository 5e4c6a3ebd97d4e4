/- Layer stat: Add. Conditions: at most a hundred counts on either side, each from 0 to 100. -/
import Derived.Test.YtalhilelbebfbaaDoorStCounts
import Derived.Test.YtalhilelbebfbaaDoorStConcat
namespace Go.Proofs.YtalhilelbebfbaaDoor
open Go.RowKit Go.Deep Go.Maps

def sumAt (M : List Count) (e : Int) : Int := (M.map fun c => if c.err = e then c.n else 0).sum
theorem sumAt_snoc (M : List Count) (x : Count) (e : Int) : sumAt (M ++ [x]) e = sumAt M e + (if x.err = e then x.n else 0) := by
  simp [sumAt]
theorem sumAt_le : ∀ (M : List Count) (e : Int), (∀ c ∈ M, 0 ≤ c.n ∧ c.n ≤ 100) → 0 ≤ sumAt M e ∧ sumAt M e ≤ 100 * M.length
  | [], _, _ => by simp [sumAt]
  | c :: M, e, h => by
    have h1 := h c (List.mem_cons_self ..)
    have h2 := sumAt_le M e fun x hx => h x (List.mem_cons_of_mem _ hx)
    have e1 : sumAt (c :: M) e = (if c.err = e then c.n else 0) + sumAt M e := by simp [sumAt]
    rw [e1, List.length_cons]
    split <;> omega
theorem add_step (M : List Count) (x : Count) {D : DataW Unit} (h : MapIs D (sumAt M) (fun e => ∃ c ∈ M, c.err = e)) :
    MapIs (D.put (.int .i64 x.err) (.lit (.int .i64 (sumAt M x.err + x.n)))) (sumAt (M ++ [x])) (fun e => ∃ c ∈ M ++ [x], c.err = e) := by
  refine (h.put x.err (sumAt M x.err + x.n)).congr (fun e => ?_) fun e => ?_
  · rw [sumAt_snoc]
    by_cases he : e = x.err
    · subst he
      rw [if_pos rfl, if_pos rfl]
    · rw [if_neg he, if_neg (fun h => he h.symm)]
      omega
  · constructor
    · rintro (h | ⟨c, hc, h⟩)
      · exact ⟨x, List.mem_append_right _ (List.mem_singleton.2 rfl), h.symm⟩
      · exact ⟨c, List.mem_append_left _ hc, h⟩
    · rintro ⟨c, hc, h⟩
      rcases List.mem_append.1 hc with hc | hc
      · exact .inr ⟨c, hc, h⟩
      · obtain rfl := List.mem_singleton.1 hc
        exact .inl h.symm

set_option maxHeartbeats 1000000 in
set_option maxRecDepth 100000 in
theorem add_any (la lb : List Count) (hla : la.length ≤ 100) (hlb : lb.length ≤ 100) (hN : ∀ c ∈ la ++ lb, 0 ≤ c.n ∧ c.n ≤ 100) (va vb : Value) (w : World) (S S' : Nat → Prop) (ha : Sl 2 rCount S w va la) (hb : Sl 2 rCount S' w vb lb) :
    Calls Tryd.prog 10 #[va, vb] w fun e w' => (∃ u R, e = .returned u ∧ Sl 2 rCount (fun _ => True) w' u R ∧ IsCounts (sumAt (la ++ lb)) (fun e => ∃ c ∈ la ++ lb, c.err = e) R) ∧ Below w.heap.size w w' := by
  have HA := Lib.hid ha
  have HB := Lib.hid hb
  have HNN := Lib.hid hN
  obtain ⟨Aa, ca, rfl, hal, hac, han, has⟩ := ha
  obtain ⟨Ab, cb, rfl, hbl, hbc, hbn, hbs⟩ := hb
  unfold maxLen at hac hbc
  have hmm := @run_makeMap Tryd.prog
  clear hN
  obtain ⟨M, hM⟩ : ∃ M, la ++ lb = M := ⟨_, rfl⟩
  have hMl : M.length ≤ 200 := by rw [← hM, List.length_append]; omega
  rw [hM] at HNN ⊢
  have HM := Lib.hid hM
  clear hM
  go_enter Tryd.func10, Tryd.ntmps10
  go_wp2_with fail
  clear hmm
  obtain ⟨W1, hW1⟩ : ∃ W1, ((w.alloc (.map #[] 0)).alloc (.cells #[.slice Aa la.length ca, .slice Ab lb.length cb] 23)) = W1 := ⟨_, rfl⟩
  have hW1b : W1.heap[w.heap.size + 1]? = some (.cells #[.slice Aa la.length ca, .slice Ab lb.length cb] 23 (0, 0)) := by
    rw [← hW1]
    exact blk_alloc_new _ (by simp)
  have HO1 : Hid (W1.ownsMap Tryd.prog 28 (plainElem Tryd.prog 3) w.heap.size 0 (.map [] : DataW Unit)) := by
    rw [← hW1]
    exact (World.ownsMap_made _ _ _ _).alloc _
  have B1 : Below w.heap.size w W1 := by rw [← hW1]; go_grown
  have hz1 := B1.size
  rw [hW1]
  obtain ⟨cc, _⟩ := blk_cells hW1b
  have cq := concat_any la lb (by omega) (by omega) _ _ (w.heap.size + 1) W1 S S' (HA.out.keep rCount_ok (by decide) (kept_of B1)) (HB.out.keep rCount_ok (by decide) (kept_of B1)) (cc 0 _ rfl) (cc 1 _ rfl)
  rw [HM.out] at cq
  clear cc hW1b hW1
  refine Calls.mono cq ?_
  rintro e w2 ⟨⟨u, rfl, SU⟩, B2⟩
  clear cq
  have HO2 := Lib.hid (own_below HO1.out B2)
  obtain ⟨Au, cu, rfl, hul, huc, hun, hus⟩ := SU
  unfold maxLen at huc
  have hus2 : SlAt 2 rCount (fun b => b ≠ w.heap.size) w2 Au M := fun i x hx => by
    obtain ⟨b, o, ys, hA, _, hl, hc, hR⟩ := hus i x hx
    refine ⟨b, o, ys, hA, fun e => ?_, hl, hc, hR⟩
    obtain ⟨es, clock, hmp, _⟩ := HO2.out
    obtain ⟨y, hy⟩ : ∃ y, ys[0]? = some y := ⟨ys[0]'(by omega), List.getElem?_eq_getElem (by omega)⟩
    have := hc 0 y hy
    rw [e] at this
    simp [World.cell?, hmp] at this
  clear hus
  have B12 := bel_call B1 B2
  have hz2 := B12.size
  go_wp2
  go_loopw [14] (fun i wr => ∃ (k : Nat) (D : DataW Unit), k ≤ M.length ∧ i = .int .i64 k ∧ Hid (wr.ownsMap Tryd.prog 28 (plainElem Tryd.prog 3) w.heap.size k D) ∧ Hid (MapIs D (sumAt (M.take k)) (fun e => ∃ c ∈ M.take k, c.err = e)) ∧ w2.grownBy wr (some w.heap.size)) (fun i _ => M.length - (RowKit.intOf i).toNat)
  case atStart => exact ⟨0, .map [], by omega, by go_num, HO2.out, MapIs.start.congr (fun _ => rfl) (fun _ => by simp), ⟨rfl, rfl, rfl, Nat.le_refl _, fun _ _ _ => rfl⟩⟩
  case round =>
    obtain ⟨k, D, hk, rfl, HO, HMI, hgr⟩ := hrel
    have hzb := hgr.size
    by_cases hlt : k < M.length
    · obtain ⟨x, b, o, hx, _, hxm, rfl, hb, hbS, x0, x1, _, hn1, hn2⟩ := get_Count hus2 hlt (show Kept (fun b => b ≠ w.heap.size) (fun b => b ≠ w.heap.size) w2 wr from fun b hb hl => ⟨hb, hgr.block b hl (fun e => hb (Option.some.inj e))⟩)
      have HT := Lib.hid (show M.take (k + 1) = M.take k ++ [x] by rw [List.take_add_one, hx]; rfl)
      have hkey : keyOf Tryd.prog 28 (.int .i64 x.err) = some (.int .i64 x.err) := keyOf_int_mk Tryd.underlying28 (by simp [Lit.wf]; exact hn1)
      have HC := Lib.hid (sumAt_le (M.take k) x.err fun c hc => HNN.out c (List.mem_of_mem_take hc))
      have HCL := Lib.hid (show (M.take k).length ≤ 200 by rw [List.length_take]; omega)
      have hxn := HNN.out x hxm
      clear hx hxm
      go_wp2_with (first
        | (at_lookup; refine wpList_lookup_own_int _ rfl _ _ 47 rfl 28 3 .i64 keyE Tryd.underlying47 Tryd.underlying3 (zeroI _) w.heap.size k D rfl (HO.out.alloc _) _ _ rfl hkey ?_; intro c hat hwc; have hcf := HMI.out.at hat; have hcb : 0 ≤ c ∧ c ≤ 20000 := (by have := HC.out; have := HCL.out; omega); have hwr : IntKind.i64.wrap (c + x.n) = c + x.n := IntWalk.i64_in _ (by omega); have HCF := Lib.hid hcf; clear hat hwc hcf)
        | (at_mapUpdate; refine wpList_mapUpdate_own _ rfl _ _ _ 47 rfl 28 3 keyE Tryd.underlying47 _ w.heap.size k D rfl (HO.out.alloc _) (by unfold maxLen; omega) _ (.int .i64 (c + x.n)) _ rfl rfl hkey _ [] (plainElem_int Tryd.underlying3 (by have h : I64 (c + x.n) := ⟨by omega, by omega⟩; simp [Lit.wf]; exact h)) ?_; intro w5 hown1 hgrow1; have HO5 := Lib.hid hown1; have GG := Lib.hid hgrow1; clear hown1 hgrow1))
      go_roundw
      case rel =>
        refine ⟨k + 1, D.put (.int .i64 x.err) (.lit (.int .i64 (c + x.n))), by omega, by go_num, HO5.out, ?_, grown_trans (grown_trans hgr (World.grownBy_alloc _ _ _)) GG.out⟩
        show MapIs _ _ _
        rw [HT.out, HCF.out]
        exact add_step _ _ HMI.out
      case measure => simp [RowKit.intOf]; omega
    · obtain rfl : k = M.length := by omega
      have HM2 : Hid (MapIs D (sumAt M) (fun e => ∃ c ∈ M, c.err = e)) := by
        have := HMI.out
        rw [List.take_length] at this
        exact this
      have cs := Lib.hid (sorted_any w.heap.size M.length D _ _ wr HO.out HM2.out (by omega))
      have BF : Below w.heap.size w wr := Below.grown B12 hgr (by omega) fun b hb => by cases hb; exact Nat.le_refl _
      go_wp2_with (go_at_call 16; refine Calls.mono cs.out ?_; rintro e w6 ⟨⟨u, R, rfl, SU, IC⟩, B6⟩; have SU' := Lib.hid SU; have IC' := Lib.hid IC; clear SU IC)
      go_ret
      exact ⟨⟨_, _, rfl, SU'.out, IC'.out⟩, bel_call BF B6⟩
end Go.Proofs.YtalhilelbebfbaaDoor
