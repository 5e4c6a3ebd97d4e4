/- Layer stat: the document's Count and Counts. Condition: at most a thousand counts. -/
import Derived.Test.YtalhilelbebfbaaDoorStCounts
namespace Go.Proofs.YtalhilelbebfbaaDoor
open Go.RowKit Go.Deep Go.Maps

theorem i64_wrap (x : Int) : I64 (wrap64 x) := by
  have h := wrap64_wf x
  simp [Lit.wf] at h
  exact h
/-- A list of counts, rising, with n of e more. -/
def insC : List Count → Bool → Int → Int → List Count
  | [], d, e, n => if d = true then [] else [⟨e, n⟩]
  | c :: l, d, e, n => if c.err = e then ⟨c.err, wrap64 (c.n + n)⟩ :: insC l true e n else if d = false ∧ e < c.err then ⟨e, n⟩ :: c :: insC l true e n else c :: insC l d e n

set_option maxHeartbeats 2000000 in
set_option maxRecDepth 100000 in
theorem refcount_any (l : List Count) (hl1000 : l.length ≤ 1000) (e n : Int) (he : I64 e) (hn : I64 n) (v : Value) (w : World) (S : Nat → Prop) (h : Sl 2 rCount S w v l) :
    Calls Tryd.prog 19 #[v, .int .i64 e, .int .i64 n] w fun e' w' => (∃ u, e' = .returned u ∧ Sl 2 rCount (fun _ => True) w' u (insC l false e n)) ∧ Below w.heap.size w w' := by
  obtain ⟨A, cp, rfl, hl, hcp, hn0, hs⟩ := h
  unfold maxLen at hcp
  obtain ⟨iCount, hiCount, hzCount, h1Count, h2Count⟩ := info_parts (show (Tryd.prog.info? 44).map (fun i => (i.zero, i.size, i.bytes)) = some (some (.agg #[.int .i64 0, .int .i64 0]), 2, 16) from by kernel_rfl)
  have HE := Lib.hid he
  have HN := Lib.hid hn
  clear he hn
  go_enter Tryd.func19, Tryd.ntmps19
  go_wp2
  go_loopw [7, 8, 9] (fun s7 s8 i wr => ∃ (k : Nat) (d : Bool) (out : List Count), k ≤ l.length ∧ out.length ≤ 2 * k ∧ i = .int .i64 k ∧ s8 = .bool d ∧ Hid (out ++ insC (l.drop k) d e n = insC l false e n) ∧ Hid (Grow 44 2 rCount (fun _ => False) wr w.heap.size s7 out) ∧ Below w.heap.size w wr) (fun _ _ i _ => l.length - (RowKit.intOf i).toNat)
  case atStart => exact ⟨0, false, [], by omega, by simp, by go_num, rfl, by simp [Hid], Grow.nil, by go_grown⟩
  case round =>
    obtain ⟨k, d, out, hk, hol, rfl, rfl, E, HG, hbel⟩ := hrel
    obtain ⟨A0, n0, c0, rfl, hn1⟩ := HG.out.shape'
    clear hn1
    have hzb := hbel.size
    by_cases hlt : k < l.length
    · obtain ⟨x, b, o, hx, hd, _, rfl, hb, _, x0, x1, _, hx1, hx2⟩ := get_Count hs hlt (kept_of hbel)
      obtain ⟨xe, xn⟩ := x
      dsimp only at x0 x1 hx1 hx2
      have E1 := E.out
      rw [hd, insC] at E1
      dsimp only at E1
      clear hx hd
      by_cases hq : xe = e
      · subst hq
        rw [if_pos rfl] at E1
        have E2 := Lib.hid E1
        have hwI := Lib.hid (i64_wrap (xn + n))
        clear E1
        go_wp2_with (at_builtin; go_loud (refine wpList_grow1 (R := rCount) _ _ rfl (.tmp 44) (.tmp 46) 23 rfl 44 iCount _ 2 16 Tryd.underlying23 hiCount hzCount h1Count h2Count rfl (by decide) rCount_ok w.heap.size (by simp; omega) _ _ rfl ((HG.out.below rCount_ok (by go_grown))) _ _ rfl (by simp only [World.size_alloc, World.size_setCell, World.size_drew]) _ (by intro b hb; exact hb.elim) (show rCount _ _ _ (⟨xe, wrap64 (xn + n)⟩ : Count) from ⟨rfl, hx1, hwI.out⟩) (by omega) (by decide) ?_); intro v1 w5 g1 gg1 go1; obtain ⟨A5, n5, c5, rfl, hn5⟩ := g1.shape'; have G5 := Lib.hid g1; have GG := Lib.hid gg1; clear hn5 g1 gg1 go1)
        go_roundw
        case rel => exact ⟨k + 1, true, out ++ [⟨xe, wrap64 (xn + n)⟩], by omega, by simp; omega, by go_num, rfl, by show _ = _; rw [List.append_assoc]; exact E2.out, G5, Below.grown (w := _) (by go_grown) GG.out (by simp; omega) fun b hb => (HG.out.base_le b hb).1⟩
        case measure => simp [RowKit.intOf]; omega
      · rw [if_neg hq] at E1
        by_cases hd2 : d = false ∧ e < xe
        · obtain ⟨rfl, hlt2⟩ := hd2
          rw [if_pos ⟨rfl, hlt2⟩] at E1
          have E2 := Lib.hid E1
          clear E1
          go_wp2_with (first
            | (at_builtin; go_loud (refine wpList_grow1 (R := rCount) _ _ rfl (.tmp 38) (.tmp 42) 23 rfl 44 iCount _ 2 16 Tryd.underlying23 hiCount hzCount h1Count h2Count rfl (by decide) rCount_ok w.heap.size (by simp; omega) _ _ rfl ((HG.out.below rCount_ok (by go_grown))) _ _ rfl (by simp only [World.size_alloc, World.size_setCell, World.size_drew]) _ (by intro b hb; exact hb.elim) (show rCount _ _ _ (⟨e, n⟩ : Count) from ⟨rfl, HE.out, HN.out⟩) (by omega) (by decide) ?_); intro v1 w5 g1 gg1 go1; obtain ⟨A5, n5, c5, rfl, hn5⟩ := g1.shape'; have G5 := Lib.hid g1; have hbox : w5.heap[wr.heap.size]? = some (.cells #[.int .i64 xe, .int .i64 xn] 44 (0, 0)) := blk_grown gg1 (blk_alloc_new _ (by simp)) (fun e => by have := (HG.out.base_le _ e).2; omega); obtain ⟨cb5, _⟩ := blk_cells hbox; have z0 := cb5 0 _ rfl; have z1 := cb5 1 _ rfl; have GG := Lib.hid gg1; have hz5 := gg1.size; have B5 := Lib.hid (Below.grown (w := _) (show Below w.heap.size w _ by go_grown) gg1 (by simp; omega) fun b hb => (HG.out.base_le b hb).1); clear cb5 hn5 g1 gg1 go1 hbox)
            | (at_builtin; go_loud (refine wpList_grow1 (R := rCount) _ _ rfl (.tmp 44) (.tmp 46) 23 rfl 44 iCount _ 2 16 Tryd.underlying23 hiCount hzCount h1Count h2Count rfl (by decide) rCount_ok w.heap.size (by have := B5.out.size; omega) _ _ rfl G5.out _ _ rfl (by simp only [World.size_alloc, World.size_setCell, World.size_drew]) _ (by intro b hb; exact hb.elim) (show rCount _ _ _ (⟨xe, xn⟩ : Count) from ⟨rfl, hx1, hx2⟩) (by simp; omega) (by decide) ?_); intro v6 w6 g6 gg6 go6; obtain ⟨A6, n6, c6, rfl, hn6⟩ := g6.shape'; have G6 := Lib.hid g6; have B6 := Lib.hid (Below.grown B5.out gg6 (by have := B5.out.size; omega) fun b hb => (G5.out.base_le b hb).1); clear hn6 g6 gg6 go6))
          go_roundw
          case rel => exact ⟨k + 1, true, out ++ [⟨e, n⟩] ++ [⟨xe, xn⟩], by omega, by simp; omega, by go_num, rfl, by show _ = _; rw [List.append_assoc, List.append_assoc]; exact E2.out, G6, B6.out⟩
          case measure => simp [RowKit.intOf]; omega
        · rw [if_neg hd2] at E1
          have E2 := Lib.hid E1
          clear E1
          have step : ∀ dd : Bool, dd = d → (dd = true ∨ ¬ e < xe) := fun dd h => by
            subst h
            cases dd
            · exact .inr fun h => hd2 ⟨rfl, h⟩
            · exact .inl rfl
          cases d with
          | true =>
            clear hd2 step
            go_wp2_with (at_builtin; go_loud (refine wpList_grow1 (R := rCount) _ _ rfl (.tmp 44) (.tmp 46) 23 rfl 44 iCount _ 2 16 Tryd.underlying23 hiCount hzCount h1Count h2Count rfl (by decide) rCount_ok w.heap.size (by simp; omega) _ _ rfl ((HG.out.below rCount_ok (by go_grown))) _ _ rfl (by simp only [World.size_alloc, World.size_setCell, World.size_drew]) _ (by intro b hb; exact hb.elim) (show rCount _ _ _ (⟨xe, xn⟩ : Count) from ⟨rfl, hx1, hx2⟩) (by omega) (by decide) ?_); intro v1 w5 g1 gg1 go1; obtain ⟨A5, n5, c5, rfl, hn5⟩ := g1.shape'; have G5 := Lib.hid g1; have GG := Lib.hid gg1; clear hn5 g1 gg1 go1)
            go_roundw
            case rel => exact ⟨k + 1, true, out ++ [⟨xe, xn⟩], by omega, by simp; omega, by go_num, rfl, by show _ = _; rw [List.append_assoc]; exact E2.out, G5, Below.grown (w := _) (by go_grown) GG.out (by simp; omega) fun b hb => (HG.out.base_le b hb).1⟩
            case measure => simp [RowKit.intOf]; omega
          | false =>
            have hnl : ¬ e < xe := fun h => hd2 ⟨rfl, h⟩
            clear hd2 step
            go_wp2_with (at_builtin; go_loud (refine wpList_grow1 (R := rCount) _ _ rfl (.tmp 44) (.tmp 46) 23 rfl 44 iCount _ 2 16 Tryd.underlying23 hiCount hzCount h1Count h2Count rfl (by decide) rCount_ok w.heap.size (by simp; omega) _ _ rfl ((HG.out.below rCount_ok (by go_grown))) _ _ rfl (by simp only [World.size_alloc, World.size_setCell, World.size_drew]) _ (by intro b hb; exact hb.elim) (show rCount _ _ _ (⟨xe, xn⟩ : Count) from ⟨rfl, hx1, hx2⟩) (by omega) (by decide) ?_); intro v1 w5 g1 gg1 go1; obtain ⟨A5, n5, c5, rfl, hn5⟩ := g1.shape'; have G5 := Lib.hid g1; have GG := Lib.hid gg1; clear hn5 g1 gg1 go1)
            go_roundw
            case rel => exact ⟨k + 1, false, out ++ [⟨xe, xn⟩], by omega, by simp; omega, by go_num, rfl, by show _ = _; rw [List.append_assoc]; exact E2.out, G5, Below.grown (w := _) (by go_grown) GG.out (by simp; omega) fun b hb => (HG.out.base_le b hb).1⟩
            case measure => simp [RowKit.intOf]; omega
    · obtain rfl : k = l.length := by omega
      have E1 := E.out
      rw [List.drop_length, insC] at E1
      cases d with
      | true =>
        rw [if_pos rfl, List.append_nil] at E1
        have E2 := Lib.hid E1
        clear E1
        go_wp2
        go_ret
        exact ⟨⟨_, rfl, by rw [← E2.out]; exact Own.sl rCount_ok HG.out⟩, hbel⟩
      | false =>
        rw [if_neg (by decide)] at E1
        have E2 := Lib.hid E1
        clear E1
        go_wp2_with (at_builtin; go_loud (refine wpList_grow1 (R := rCount) _ _ rfl (.tmp 50) (.tmp 54) 23 rfl 44 iCount _ 2 16 Tryd.underlying23 hiCount hzCount h1Count h2Count rfl (by decide) rCount_ok w.heap.size (by omega) _ _ rfl HG.out _ _ rfl (by simp only [World.size_alloc, World.size_setCell, World.size_drew]) _ (by intro b hb; exact hb.elim) (show rCount _ _ _ (⟨e, n⟩ : Count) from ⟨rfl, HE.out, HN.out⟩) (by omega) (by decide) ?_); intro v1 w5 g1 gg1 go1; obtain ⟨A5, n5, c5, rfl, hn5⟩ := g1.shape'; have G5 := Lib.hid g1; have GG := Lib.hid gg1; clear hn5 g1 gg1 go1)
        go_ret
        exact ⟨⟨_, rfl, by rw [← E2.out]; exact Own.sl rCount_ok G5.out⟩, Below.grown hbel GG.out (by omega) fun b hb => (HG.out.base_le b hb).1⟩
end Go.Proofs.YtalhilelbebfbaaDoor
