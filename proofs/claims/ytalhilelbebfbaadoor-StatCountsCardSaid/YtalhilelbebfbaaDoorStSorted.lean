/- Layer stat: a map's counts, rising by error. Conditions: the map is the call's own, of at most a thousand keys. -/
import Derived.Test.YtalhilelbebfbaaDoorStSort
namespace Go.Proofs.YtalhilelbebfbaaDoor
open Go.RowKit Go.Deep Go.Maps

theorem own_below {w w' : World} {b n : Nat} {D : DataW Unit} (h : w.ownsMap Tryd.prog 28 (plainElem Tryd.prog 3) b n D) (hb : Below w.heap.size w w') : w'.ownsMap Tryd.prog 28 (plainElem Tryd.prog 3) b n D :=
  h.kept (row := none) ⟨hb.os, hb.tape, hb.output, hb.size, fun k hk _ => hb.block k hk⟩ (by simp)
theorem zeroI (w : World) : (zeroValue 3).run Tryd.prog w = .ok (.int .i64 0) w := by kernel_rfl

set_option maxHeartbeats 1000000 in
set_option maxRecDepth 100000 in
theorem sorted_any (b n : Nat) (D : DataW Unit) (f : Int → Int) (K : Int → Prop) (w : World) (hown : w.ownsMap Tryd.prog 28 (plainElem Tryd.prog 3) b n D) (hm : MapIs D f K) (hn : n ≤ 1000) :
    Calls Tryd.prog 16 #[.map (some b)] w fun e w' => (∃ u R, e = .returned u ∧ Sl 2 rCount (fun _ => True) w' u R ∧ IsCounts f K R) ∧ Below w.heap.size w w' := by
  have hsz := own_size hown
  obtain ⟨hnd, hmem, hI⟩ := hm.keys hown
  have HO := Lib.hid hown
  have HM := Lib.hid hm
  have hks := fun w' => sortedfunc_any b n D w' 
  obtain ⟨iCount, hiCount, hzCount, h1Count, h2Count⟩ := info_parts (show (Tryd.prog.info? 44).map (fun i => (i.zero, i.size, i.bytes)) = some (some (.agg #[.int .i64 0, .int .i64 0]), 2, 16) from by kernel_rfl)
  clear hown hm
  go_enter Tryd.func16, Tryd.ntmps16
  go_wp2_with (first
    | (go_at_call 27; refine Calls.mono (keys_any (some b) _) ?_; rintro e w1 ⟨rfl, rfl⟩)
    | (go_at_call 26; refine Calls.mono (hks _ (HO.out.alloc _) (by omega) w.heap.size (by simp) (by rw [cell_of_row _ w.heap.size 0 #[.map (some b)] _ (0, 0) (heap_alloc_new w _)]; rfl)) ?_; rintro e w2 ⟨v, ks, rfl, hp, hsrt, hsl, B2⟩; have B2' : Below w.heap.size w w2 := bel_call ((Below.refl _ _).alloc (Nat.le_refl _) _) B2; obtain ⟨Av, cv, rfl, hvl, hvc, hvn, hvs⟩ := hsl; have HP := Lib.hid hp; have HS := Lib.hid hsrt; clear hp hsrt))
  clear hks
  unfold maxLen at hvc
  have hz2 := B2'.size
  have hkl : ks.length ≤ 1000 := by
    have := HP.out.length_eq
    have h2 : (intKeys D).length = Maps.size D := by
      obtain ⟨es, rfl⟩ := HM.out.isMap
      show (es.map _).length = es.length
      rw [List.length_map]
    omega
  go_loopw [3, 10] (fun s i wr => ∃ k : Nat, k ≤ ks.length ∧ i = .int .i64 k ∧ Hid (Grow 44 2 rCount (fun _ => False) wr w2.heap.size s ((ks.take k).map fun e => ⟨e, f e⟩)) ∧ Below w2.heap.size w2 wr) (fun _ i _ => ks.length - (RowKit.intOf i).toNat)
  case atStart => exact ⟨0, by omega, by go_num, Grow.nil, by go_grown⟩
  case round =>
    obtain ⟨k, hk, rfl, HG, hbel⟩ := hrel
    obtain ⟨A0, n0, c0, rfl, hn0⟩ := HG.out.shape'
    have HN := Lib.hid hn0
    clear hn0
    have hzb := hbel.size
    by_cases hlt : k < ks.length
    · obtain ⟨x, hx, _, hxm⟩ := at_k hlt
      obtain ⟨g, o, ys, rfl, _, _, hc, rfl, hxI⟩ := hvs k x hx
      have q := hc 0 _ rfl
      rw [show k * 1 + 0 = k by omega] at q
      have x1 : wr.cell? ⟨g, o + k, none⟩ = some (.int .i64 x) := (hbel.cell (p := ⟨g, o + k, none⟩) (cell_lt q)).trans q
      have HT := Lib.hid (show (ks.take (k + 1)).map (fun e => (⟨e, f e⟩ : Count)) = (ks.take k).map (fun e => ⟨e, f e⟩) ++ [⟨x, f x⟩] by rw [List.take_add_one, hx, List.map_append]; rfl)
      have HL9 := Lib.hid (show ((ks.take k).map (fun e => (⟨e, f e⟩ : Count))).length ≤ 1000 by rw [List.length_map, List.length_take]; omega)
      have hown := Lib.hid (own_below HO.out (bel_call B2' hbel))
      have hkey : keyOf Tryd.prog 28 (.int .i64 x) = some (.int .i64 x) := keyOf_int_mk Tryd.underlying28 (by simp [Lit.wf]; exact hxI)
      clear hx hxm q hc
      go_wp2_with (first
        | (at_lookup; refine wpList_lookup_own_int _ rfl _ _ 47 rfl 28 3 .i64 keyE Tryd.underlying47 Tryd.underlying3 (zeroI _) b n D rfl hown.out _ _ rfl hkey ?_; intro c hat hwc; have hcI : I64 c := (by simp [Lit.wf] at hwc; exact hwc); have hcf := Lib.hid (HM.out.at hat); clear hat hwc)
        | (at_builtin; go_loud (refine wpList_grow1 (R := rCount) _ _ rfl (.tmp 14) (.tmp 20) 23 rfl 44 iCount _ 2 16 Tryd.underlying23 hiCount hzCount h1Count h2Count rfl (by decide) rCount_ok w2.heap.size (by omega) _ _ rfl HG.out _ _ rfl (by simp only [World.size_alloc, World.size_setCell, World.size_drew]) _ (by intro b hb; exact hb.elim) (show rCount _ _ _ (⟨x, c⟩ : Count) from ⟨rfl, hxI, hcI⟩) (by have := HL9.out; omega) (by decide) ?_); intro v1 w5 g1 gg1 go1; obtain ⟨A5, n5, c5, rfl, hn5⟩ := g1.shape'; have G5 := Lib.hid g1; have GG := Lib.hid gg1; clear hn5 g1 gg1 go1))
      go_roundw
      case rel =>
        refine ⟨k + 1, by omega, by go_num, ?_, Below.grown hbel GG.out (by omega) fun b hb => (HG.out.base_le b hb).1⟩
        show Grow _ _ _ _ _ _ _ _
        rw [HT.out, ← hcf.out]
        exact G5.out
      case measure => simp [RowKit.intOf]; omega
    · obtain rfl : k = ks.length := by omega
      go_wp2
      go_ret
      refine ⟨⟨_, _, rfl, Own.sl rCount_ok HG.out, ks, by rw [List.take_length], ?_, fun e => by rw [HP.out.mem_iff, hmem]⟩, bel_call B2' hbel⟩
      have nk : ks.Nodup := HP.out.nodup_iff.2 hnd
      exact (HS.out.and nk).imp fun h => by omega
end Go.Proofs.YtalhilelbebfbaaDoor
