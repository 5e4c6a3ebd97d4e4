/- Layer stat: the document's Add, of any counts. Condition: at most a hundred counts on either side. -/
import Derived.Test.YtalhilelbebfbaaDoorStW
import Derived.StillTailTactics
namespace Go.Proofs.YtalhilelbebfbaaDoor
open Go.RowKit Go.Deep Go.Maps

set_option maxHeartbeats 1000000 in
set_option maxRecDepth 100000 in
theorem refadd_any (la lb : List Count) (hla : la.length ≤ 100) (hlb : lb.length ≤ 100) (va vb : Value) (w : World) (S S' : Nat → Prop) (ha : Sl 2 rCount S w va la) (hb : Sl 2 rCount S' w vb lb) :
    Calls Tryd.prog 11 #[va, vb] w fun e w' => (∃ u R, e = .returned u ∧ Sl 2 rCount (fun _ => True) w' u R ∧ IsCounts (sumW (la ++ lb)) (IsErr (la ++ lb)) R) ∧ Below w.heap.size w w' := by
  obtain ⟨Aa, ca, rfl, hal, hac, han, has⟩ := ha
  obtain ⟨Ab, cb, rfl, hbl, hbc, hbn, hbs⟩ := hb
  unfold maxLen at hac hbc
  go_enter Tryd.func11, Tryd.ntmps11
  go_wp2
  go_loopw [5, 6] (fun s i wr => ∃ (k : Nat) (R : List Count), k ≤ la.length ∧ i = .int .i64 k ∧ Hid (Sl 2 rCount (fun _ => True) wr s R) ∧ Hid (IsCounts (sumW (la.take k)) (IsErr (la.take k)) R) ∧ Below w.heap.size w wr) (fun _ i _ => la.length - (RowKit.intOf i).toNat)
  case atStart => exact ⟨0, [], by omega, by go_num, Sl_nil _ _ _ _, ⟨[], rfl, List.Pairwise.nil, fun e => by simp [IsErr]⟩, by go_grown⟩
  case round =>
    obtain ⟨k, R, hk, rfl, HS, HI, hbel⟩ := hrel
    have hRl : R.length ≤ 200 := by
      have := countsW_len HI.out
      rw [List.length_take] at this
      omega
    by_cases hlt : k < la.length
    · obtain ⟨x, b, o, hx, _, hxm, rfl, hb, hbS, x0, x1, _, hn1, hn2⟩ := get_Count has hlt (kept_of hbel)
      have HT := Lib.hid (show la.take (k + 1) = la.take k ++ [x] by rw [List.take_add_one, hx]; rfl)
      have cr := Lib.hid (refcount_any R (by omega) x.err x.n hn1 hn2 _ wr.drew (fun _ => True) (HS.out.keep rCount_ok (by decide) (kept_of (by go_grown))))
      have HI2 := Lib.hid (ins_isW HI.out x hn2)
      clear hx hxm hn1 hn2
      go_wp2_with fail
      go_still_tail 11, (by kernel_rfl)
      change wpList _ _ _ _ _ (World.drew _)
      go_wp2_with (go_at_call 19; refine Calls.mono cr.out ?_; rintro e w2 ⟨⟨u, rfl, SU⟩, B2⟩; have SU' := Lib.hid SU; have B2' := Lib.hid (bel_call (show Below w.heap.size w wr.drew by go_grown) B2); clear SU B2)
      go_roundw
      case rel => exact ⟨k + 1, _, by omega, by go_num, SU', by rw [HT.out]; exact HI2, B2'.out⟩
      case measure => simp [RowKit.intOf]; omega
    · obtain rfl : k = la.length := by omega
      have HI0 := Lib.hid (show IsCounts (sumW la) (IsErr la) R by have := HI.out; rwa [List.take_length] at this)
      have HRL := Lib.hid (show R.length ≤ 100 by have := countsW_len HI0.out; omega)
      have HS0 := Lib.hid HS.out
      have HB0 := Lib.hid hbel
      clear hRl HI HS hbel
      go_wp2
      go_loopw [5, 7] (fun s i wr => ∃ (k : Nat) (R : List Count), k ≤ lb.length ∧ i = .int .i64 k ∧ Hid (Sl 2 rCount (fun _ => True) wr s R) ∧ Hid (IsCounts (sumW (la ++ lb.take k)) (IsErr (la ++ lb.take k)) R) ∧ Below w.heap.size w wr) (fun _ i _ => lb.length - (RowKit.intOf i).toNat)
      case atStart => exact ⟨0, R, by omega, by go_num, HS0, by rw [List.take_zero, List.append_nil]; exact HI0, HB0.out⟩
      case round =>
        obtain ⟨k, R2, hk2, rfl, HS, HI, hbel⟩ := hrel
        have hRl : R2.length ≤ 200 := by
          have := countsW_len HI.out
          rw [List.length_append, List.length_take] at this
          omega
        by_cases hlt : k < lb.length
        · obtain ⟨x, b, o, hx, _, hxm, rfl, hb, hbS, x0, x1, _, hn1, hn2⟩ := get_Count hbs hlt (kept_of hbel)
          have HT := Lib.hid (show la ++ lb.take (k + 1) = (la ++ lb.take k) ++ [x] by rw [List.take_add_one, hx, List.append_assoc]; rfl)
          have cr := Lib.hid (refcount_any R2 (by omega) x.err x.n hn1 hn2 _ wr.drew (fun _ => True) (HS.out.keep rCount_ok (by decide) (kept_of (by go_grown))))
          have HI2 := Lib.hid (ins_isW HI.out x hn2)
          clear hx hxm hn1 hn2
          go_wp2_with fail
          go_still_tail 11, (by kernel_rfl)
          change wpList _ _ _ _ _ (World.drew _)
          go_wp2_with (go_at_call 19; refine Calls.mono cr.out ?_; rintro e w2 ⟨⟨u, rfl, SU⟩, B2⟩; have SU' := Lib.hid SU; have B2' := Lib.hid (bel_call (show Below w.heap.size w wr.drew by go_grown) B2); clear SU B2)
          go_roundw
          case rel => exact ⟨k + 1, _, by omega, by go_num, SU', by rw [HT.out]; exact HI2, B2'.out⟩
          case measure => simp [RowKit.intOf]; omega
        · obtain rfl : k = lb.length := by omega
          have HI0 := Lib.hid (show IsCounts (sumW (la ++ lb)) (IsErr (la ++ lb)) R2 by have := HI.out; rwa [List.take_length] at this)
          go_wp2
          go_ret
          exact ⟨⟨_, R2, rfl, HS.out, HI0.out⟩, hbel⟩
end Go.Proofs.YtalhilelbebfbaaDoor
