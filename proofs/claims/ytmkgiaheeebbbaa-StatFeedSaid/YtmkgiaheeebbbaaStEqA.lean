/- Layer stat: the document's Same of two answers: an answer is itself. Condition: both read as the same answer. -/
import Derived.Test.YtmkgiaheeebbbaaStEq
namespace Go.Proofs.Ytmkgiaheeebbbaa
open Go.RowKit Go.Deep

set_option maxHeartbeats 1000000 in
set_option maxRecDepth 100000 in
theorem ansame_any (x : Answer) (cs ds : List Value) (w : World) (S S' : Nat → Prop) (h : rAnswer S w cs x) (k : rAnswer S' w ds x) :
    Calls Try.prog 14 #[.agg cs.toArray, .agg ds.toArray] w fun e w' => e = .returned (.bool true) ∧ Below w.heap.size w w' := by
  obtain ⟨v3, v4, v5, v6, rfl, i0, i1, i2, d3, d4, d5, d6⟩ := h
  obtain ⟨u3, u4, u5, u6, rfl, _, _, _, e3, e4, e5, e6⟩ := k
  obtain ⟨A3, a3, rfl, _, _, _, _⟩ := id d3
  obtain ⟨A4, a4, rfl, hl4, hc4, hn4, hs4⟩ := id d4
  obtain ⟨A5, a5, rfl, _, _, _, _⟩ := id d5
  obtain ⟨A6, a6, rfl, hl6, hc6, hn6, hs6⟩ := id d6
  obtain ⟨B3, b3, rfl, _, _, _, _⟩ := id e3
  obtain ⟨B4, b4, rfl, ml4, mc4, mn4, ms4⟩ := id e4
  obtain ⟨B5, b5, rfl, _, _, _, _⟩ := id e5
  obtain ⟨B6, b6, rfl, ml6, mc6, mn6, ms6⟩ := id e6
  unfold maxLen at hc4 hc6 mc4 mc6
  have D3 := Lib.hid d3
  have D5 := Lib.hid d5
  have E3 := Lib.hid e3
  have E5 := Lib.hid e5
  clear d3 d4 d5 d6 e3 e4 e5 e6
  obtain ⟨W1, hW1, c1, f1, B1, q1⟩ := boxed w #[.int .i64 x.err, .int .i64 x.number, .string x.who, .slice A3 x.data.length a3, .slice A4 x.names.length a4, .slice A5 x.members.length a5, .slice A6 x.history.length a6] 39
  obtain ⟨W2, hW2, c2, f2, B2, q2⟩ := boxed W1 #[.int .i64 x.err, .int .i64 x.number, .string x.who, .slice B3 x.data.length b3, .slice B4 x.names.length b4, .slice B5 x.members.length b5, .slice B6 x.history.length b6] 39
  have hz1 := B1.size
  have hz2 := B2.size
  have ka : ∀ (j : Nat) (v : Value), (#[.int .i64 x.err, .int .i64 x.number, .string x.who, .slice A3 x.data.length a3, .slice A4 x.names.length a4, .slice A5 x.members.length a5, .slice A6 x.history.length a6] : Array Value)[j]? = some v → ∀ W, Below W2.heap.size W2 W → W.cell? ⟨w.heap.size, j, none⟩ = some v := fun j v hj W hW =>
    ((bel_call B2 hW).cell (p := ⟨w.heap.size, j, none⟩) (by dsimp only; omega)).trans (c1 j v hj)
  have kb : ∀ (j : Nat) (v : Value), (#[.int .i64 x.err, .int .i64 x.number, .string x.who, .slice B3 x.data.length b3, .slice B4 x.names.length b4, .slice B5 x.members.length b5, .slice B6 x.history.length b6] : Array Value)[j]? = some v → ∀ W, Below W2.heap.size W2 W → W.cell? ⟨W1.heap.size, j, none⟩ = some v := fun j v hj W hW =>
    (hW.cell (p := ⟨W1.heap.size, j, none⟩) (by dsimp only; omega)).trans (c2 j v hj)
  have KA := Lib.hid ka
  have KB := Lib.hid kb
  have hWs : W1.heap.size = w.heap.size + 1 := by rw [← hW1]; simp
  clear ka kb c1 c2 f1 f2
  have B12 := bel_call B1 B2
  have r0 := KA.out 0 _ rfl W2 (Below.refl _ _)
  have r1 := KA.out 1 _ rfl W2 (Below.refl _ _)
  have r2 := KA.out 2 _ rfl W2 (Below.refl _ _)
  have r3 := KA.out 3 _ rfl W2 (Below.refl _ _)
  have s0 := KB.out 0 _ rfl W2 (Below.refl _ _)
  have s1 := KB.out 1 _ rfl W2 (Below.refl _ _)
  have s2 := KB.out 2 _ rfl W2 (Below.refl _ _)
  have s3 := KB.out 3 _ rfl W2 (Below.refl _ _)
  rw [hWs] at s0 s1 s2 s3
  have eg : Try.prog.eqGuardType Try.prog.depth 60 = false := by kernel_rfl
  have sh : Try.prog.stoodInHeld 60 = false := by kernel_rfl
  have uf := Try.underlying60
  have HW1 := Lib.hid hW1
  have HW2 := Lib.hid hW2
  clear hW1 hW2
  go_enter Try.func14, Try.ntmps14
  have hW1 := HW1.out
  have hW2 := HW2.out
  go_wp2_with fail
  refine Calls.mono (bytesame_any x.data _ _ W2 S S' (D3.out.keep rByte_ok (by decide) (kept_of B12)) (E3.out.keep rByte_ok (by decide) (kept_of B12))) ?_
  rintro e w3 ⟨rfl, B3⟩
  clear hW1 hW2 r0 r1 r2 r3 s0 s1 s2 s3
  have r4 := KA.out 4 _ rfl w3 B3
  have r5 := KA.out 5 _ rfl w3 B3
  have s4 := KB.out 4 _ rfl w3 B3
  have s5 := KB.out 5 _ rfl w3 B3
  rw [hWs] at s4 s5
  have B123 := bel_call B12 B3
  go_wp2_with fail
  refine Calls.mono (memsame_any x.members _ _ w3 S S' (D5.out.keep rMember_ok (by decide) (kept_of B123)) (E5.out.keep rMember_ok (by decide) (kept_of B123))) ?_
  rintro e w4 ⟨rfl, B4⟩
  have B34 := bel_call B3 B4
  have B1234 := bel_call B12 B34
  clear r4 r5 s4 s5
  have r6 := KA.out 6 _ rfl w4 B34
  have s6 := KB.out 6 _ rfl w4 B34
  rw [hWs] at s6
  go_wp2
  clear r6 s6
  go_loopw [5] (fun i wr => ∃ k : Nat, k ≤ x.names.length ∧ i = .int .i64 k ∧ Below W2.heap.size W2 wr) (fun i _ => x.names.length - (RowKit.intOf i).toNat)
  case atStart => exact ⟨0, by omega, by go_num, B34⟩
  case round =>
    obtain ⟨k, hk, rfl, hbel⟩ := hrel
    have r4 := KA.out 4 _ rfl wr hbel
    have s4 := KB.out 4 _ rfl wr hbel
    rw [hWs] at s4
    have BB := bel_call B12 hbel
    by_cases hlt : k < x.names.length
    · obtain ⟨y, hy⟩ : ∃ y, x.names[k]? = some y := ⟨_, List.getElem?_eq_getElem hlt⟩
      obtain ⟨b, o, ys, rfl, _, _, hcc, rfl, _⟩ := hs4 k y hy
      obtain ⟨b', o', ys', rfl, _, _, hcc', rfl, _⟩ := ms4 k y hy
      have q1 := hcc 0 _ rfl
      have q2 := hcc' 0 _ rfl
      rw [show k * 1 + 0 = k by omega] at q1 q2
      have x1 : wr.cell? ⟨b, o + k, none⟩ = some (.string y) := (BB.cell (p := ⟨b, o + k, none⟩) (cell_lt q1)).trans q1
      have x2 : wr.cell? ⟨b', o' + k, none⟩ = some (.string y) := (BB.cell (p := ⟨b', o' + k, none⟩) (cell_lt q2)).trans q2
      clear hy q1 q2 hcc hcc'
      go_wp2_with fail
      go_quiet (fail)
      go_wp2
      go_roundw
      case rel => exact ⟨k + 1, by omega, by go_num, below_drewN2 hbel _⟩
      case measure => simp [RowKit.intOf]; omega
    · obtain rfl : k = x.names.length := by omega
      go_wp2
      obtain ⟨w5, rfl⟩ : ∃ w5 : World, w5 = wr := ⟨_, rfl⟩
      clear r4 s4
      go_loopw [6] (fun i wr => ∃ k : Nat, k ≤ x.history.length ∧ i = .int .i64 k ∧ Below W2.heap.size W2 wr) (fun i _ => x.history.length - (RowKit.intOf i).toNat)
      case atStart => exact ⟨0, by omega, by go_num, hbel⟩
      case round =>
        obtain ⟨k, hk, rfl, hbel⟩ := hrel
        have r6 := KA.out 6 _ rfl wr hbel
        have s6 := KB.out 6 _ rfl wr hbel
        rw [hWs] at s6
        have BB := bel_call B12 hbel
        by_cases hlt : k < x.history.length
        · obtain ⟨y, b, o, hy, _, _, rfl, _, _, x0, x1, x2, x3, _⟩ := get_Past hs6 hlt (kept_of BB)
          obtain ⟨z, b', o', hzz, _, _, rfl, _, _, y0, y1, y2, y3, _⟩ := get_Past ms6 hlt (kept_of BB)
          obtain rfl : y = z := Option.some.inj (hy.symm.trans hzz)
          clear hy hzz
          go_wp2_with fail
          go_quiet (fail)
          go_wp2
          go_roundw
          case rel => exact ⟨k + 1, by omega, by go_num, below_drewN2 hbel _⟩
          case measure => simp [RowKit.intOf]; omega
        · obtain rfl : k = x.history.length := by omega
          go_wp2
          go_ret
          exact ⟨rfl, bel_call B12 hbel⟩
end Go.Proofs.Ytmkgiaheeebbbaa
