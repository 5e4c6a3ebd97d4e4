/- Layer stat: slices.Concat of two lists of counts. Condition: at most a thousand counts in all. -/
import Derived.Test.YtalhilelbebfbaaDoorStCount
namespace Go.Proofs.YtalhilelbebfbaaDoor
open Go.RowKit Go.Deep

theorem Grow.zero {α : Type} {e : TypeId} {sz : Nat} {R : Rp α} {B : Nat → Prop} {w : World} {base : Nat} {A : Option Addr} {n c : Nat} {l : List α} (h : Grow e sz R B w base (.slice A n c) l) (h0 : 0 < n) :
    ∃ g, A = some ⟨g, 0, none⟩ ∧ Grow e sz R B w base (.slice (some ⟨g, 0, none⟩) 0 c) ([] : List α) := by
  obtain ⟨h1, h2, xs, ⟨h3, h4⟩, h5⟩ := h
  rcases h4 with ⟨hv, hn⟩ | ⟨g, cap, cur, hv, hb, hg, hnc, hcm, hcs, htk⟩
  · simp only [Value.slice.injEq] at hv
    omega
  · simp only [Value.slice.injEq] at hv
    obtain ⟨rfl, _, rfl⟩ := hv
    exact ⟨g, rfl, by simp, fun b hb' => ⟨hb'.1, hb'.2.2⟩, [], ⟨by simp, .inr ⟨g, _, cur, rfl, hb, hg, Nat.zero_le _, hcm, hcs, by simp⟩⟩, fun i x hi => by simp at hi⟩

def cnt0 : Count := ⟨0, 0⟩
theorem cnt0_R (S : Nat → Prop) (w : World) : rCount S w (Value.agg #[.int .i64 0, .int .i64 0]).cells.toList cnt0 := ⟨rfl, ⟨by decide, by decide⟩, ⟨by decide, by decide⟩⟩
set_option maxRecDepth 100000 in
theorem growc_any (n : Nat) (hn : n ≤ 1000) (w : World) : Calls Tryd.prog 30 #[.slice none 0 0, .int .i64 n] w fun e w' =>
    (∃ v, e = .returned v ∧ Grow 44 2 rCount (fun _ => False) w' w.heap.size v ([] : List Count)) ∧ Below w.heap.size w w' := by
  obtain ⟨iCount, hiCount, hzCount, h1Count, h2Count⟩ := info_parts (show (Tryd.prog.info? 44).map (fun i => (i.zero, i.size, i.bytes)) = some (some (.agg #[.int .i64 0, .int .i64 0]), 2, 16) from by kernel_rfl)
  by_cases h0 : n = 0
  · subst h0
    go_enter Tryd.func30, Tryd.ntmps30
    go_wp2
    go_ret
    exact ⟨⟨_, rfl, Grow.nil⟩, Below.refl _ _⟩
  · have hp : 0 < n := by omega
    have hw1 : IntKind.i64.wrap ((n : Int)) = n := IntWalk.i64_in _ (by omega)
    go_enter Tryd.func30, Tryd.ntmps30
    go_wp2_with (at_builtin; go_loud (refine wpList_grow_zeros (R := rCount) _ rfl (.tmp 20) (.tmp 21) 23 3 rfl 44 iCount _ 2 16 .i64 .i64 Tryd.underlying23 Tryd.underlying3 hiCount hzCount h1Count h2Count rfl (by decide) rCount_ok cnt0 (fun S w => cnt0_R S w) w.heap.size (Nat.le_refl _) _ _ rfl (Grow.nil (B := fun _ => False)) n rfl (by rw [List.length_nil]; omega) (by decide) ?_); intro v1 w1 g1 gg1 go1; obtain ⟨A1, n1, c1, rfl, hn1⟩ := g1.shape'; have hn2 : n1 = n := (by rw [hn1]; simp); subst hn2; obtain ⟨g, rfl, G0⟩ := g1.zero hp; have G0' := Lib.hid G0; have BB := Lib.hid (Below.grown (Below.refl _ w) gg1 (Nat.le_refl _) fun b hb => absurd hb (nil_own (n := 0) (c := 0))); clear g1 gg1 go1 G0 hn1)
    go_ret
    exact ⟨⟨_, rfl, G0'.out⟩, BB.out⟩

/-- How many of the first k lists' counts there are. -/
def part2 (la lb : List Count) (k : Nat) : List Count := if k = 0 then [] else if k = 1 then la else la ++ lb

set_option maxHeartbeats 1000000 in
set_option maxRecDepth 100000 in
theorem concat_any (la lb : List Count) (hla : la.length ≤ 500) (hlb : lb.length ≤ 500) (va vb : Value) (p : Nat) (w : World) (S S' : Nat → Prop) (ha : Sl 2 rCount S w va la) (hb : Sl 2 rCount S' w vb lb)
    (c0 : w.cell? ⟨p, 0, none⟩ = some va) (c1 : w.cell? ⟨p, 1, none⟩ = some vb) :
    Calls Tryd.prog 20 #[.slice (some ⟨p, 0, none⟩) 2 2] w fun e w' => (∃ u, e = .returned u ∧ Sl 2 rCount (fun _ => True) w' u (la ++ lb)) ∧ Below w.heap.size w w' := by
  obtain ⟨Aa, ca, rfl, hal, hac, han, has⟩ := ha
  obtain ⟨Ab, cb, rfl, hbl, hbc, hbn, hbs⟩ := hb
  unfold maxLen at hac hbc
  have lt0 : p < w.heap.size := cell_lt c0
  obtain ⟨iCount, hiCount, hzCount, h1Count, h2Count⟩ := info_parts (show (Tryd.prog.info? 44).map (fun i => (i.zero, i.size, i.bytes)) = some (some (.agg #[.int .i64 0, .int .i64 0]), 2, 16) from by kernel_rfl)
  have d0 : decide (((la.length : Nat) : Int) < 0) = false := decide_eq_false (by omega)
  have d1 : decide (((la.length : Int) + (lb.length : Int)) < 0) = false := decide_eq_false (by omega)
  have w0 : IntKind.i64.wrap (0 + (la.length : Int)) = la.length := by rw [Int.zero_add]; exact IntWalk.i64_in _ (by omega)
  have w1 : IntKind.i64.wrap ((la.length : Int) + (lb.length : Int)) = (la.length : Int) + (lb.length : Int) := IntWalk.i64_in _ (by omega)
  go_enter Tryd.func20, Tryd.ntmps20
  go_wp2
  go_loop [3, 11] (fun m i => ∃ k : Nat, k ≤ 2 ∧ i = .int .i64 k ∧ m = .int .i64 ((if k = 0 then 0 else if k = 1 then (la.length : Int) else (la.length : Int) + (lb.length : Int)))) (fun _ i => 2 - (RowKit.intOf i).toNat)
  case atStart => exact ⟨0, by omega, by go_num, rfl⟩
  case round =>
    obtain ⟨k, hk, rfl, rfl⟩ := hrel
    rcases (show k = 0 ∨ k = 1 ∨ k = 2 by omega) with rfl | rfl | rfl
    · go_wp2
      go_round
      case rel => exact ⟨1, by omega, by first | rfl | go_num, by first | rfl | simp⟩
      case measure => simp [RowKit.intOf]
    · go_wp2
      go_round
      case rel => exact ⟨2, by omega, by first | rfl | go_num, by first | rfl | simp⟩
      case measure => simp [RowKit.intOf]
    · have cg := growc_any (la.length + lb.length) (by omega) w
      have e1 : (((la.length + lb.length : Nat)) : Int) = (la.length : Int) + (lb.length : Int) := by omega
      rw [e1] at cg
      clear e1
      go_wp2_with (go_at_call 30; refine Calls.mono cg ?_; rintro e w2 ⟨⟨v, rfl, G⟩, B2⟩; have G2 := Lib.hid G; clear G)
      have hz2 := B2.size
      clear cg
      go_loopw [6, 27] (fun v6 i wr => ∃ k : Nat, k ≤ 2 ∧ i = .int .i64 k ∧ Hid (Grow 44 2 rCount (fun _ => False) wr w.heap.size v6 (part2 la lb k)) ∧ Below w.heap.size w wr) (fun _ i _ => 2 - (RowKit.intOf i).toNat)
      case atStart => exact ⟨0, by omega, by first | rfl | go_num, G2.out, B2⟩
      case round =>
        obtain ⟨k, hk, rfl, HG, hbel⟩ := hrel
        obtain ⟨A0, n0, q0, rfl, hn0⟩ := HG.out.shape'
        have HN := Lib.hid hn0
        clear hn0
        have hzb := hbel.size
        have x0 : wr.cell? ⟨p, 0, none⟩ = some (.slice Aa la.length ca) := (hbel.cell (p := ⟨p, 0, none⟩) lt0).trans c0
        have x1 : wr.cell? ⟨p, 1, none⟩ = some (.slice Ab lb.length cb) := (hbel.cell (p := ⟨p, 1, none⟩) lt0).trans c1
        rcases (show k = 0 ∨ k = 1 ∨ k = 2 by omega) with rfl | rfl | rfl
        · go_wp2_with (at_builtin; go_loud (refine wpList_grow (R := rCount) _ rfl (.tmp 31) (.tmp 32) 23 rfl 44 iCount _ 2 16 Tryd.underlying23 hiCount hzCount h1Count h2Count rfl (by decide) rCount_ok w.heap.size (by omega) _ _ rfl HG.out _ _ _ rfl _ rfl (has.keep rCount_ok (by decide) (kept_free hbel (fun _ h => h.elim) fun b hb => (HG.out.base_le b hb).1)) (by simp [part2]; omega) (by decide) ?_); intro v1 w5 g1 gg1 go1; obtain ⟨A5, n5, c5, rfl, hn5⟩ := g1.shape'; have G5 := Lib.hid g1; have GG := Lib.hid gg1; clear hn5 g1 gg1 go1)
          go_roundw
          case rel => exact ⟨1, by omega, by first | rfl | go_num, by show Grow _ _ _ _ _ _ _ _; have := G5.out; simpa [part2] using this, Below.grown hbel GG.out (by omega) fun b hb => (HG.out.base_le b hb).1⟩
          case measure => simp [RowKit.intOf]
        · go_wp2_with (at_builtin; go_loud (refine wpList_grow (R := rCount) _ rfl (.tmp 31) (.tmp 32) 23 rfl 44 iCount _ 2 16 Tryd.underlying23 hiCount hzCount h1Count h2Count rfl (by decide) rCount_ok w.heap.size (by omega) _ _ rfl HG.out _ _ _ rfl _ rfl (hbs.keep rCount_ok (by decide) (kept_free hbel (fun _ h => h.elim) fun b hb => (HG.out.base_le b hb).1)) (by simp [part2]; omega) (by decide) ?_); intro v1 w5 g1 gg1 go1; obtain ⟨A5, n5, c5, rfl, hn5⟩ := g1.shape'; have G5 := Lib.hid g1; have GG := Lib.hid gg1; clear hn5 g1 gg1 go1)
          go_roundw
          case rel => exact ⟨2, by omega, by first | rfl | go_num, by show Grow _ _ _ _ _ _ _ _; have := G5.out; simpa [part2] using this, Below.grown hbel GG.out (by omega) fun b hb => (HG.out.base_le b hb).1⟩
          case measure => simp [RowKit.intOf]
        · go_wp2
          go_ret
          exact ⟨⟨_, rfl, Own.sl rCount_ok HG.out⟩, hbel⟩
end Go.Proofs.YtalhilelbebfbaaDoor
