/- Layer stat: New. No condition. -/
import Derived.Test.YtmkgiaheeebbbaaFeedA
namespace Go.Proofs.Ytmkgiaheeebbbaa
open Go.RowKit Go.Conc Go.Maps

theorem feednew_bad (n : Int) (h : n < 1 ∨ 4096 < n) (w : World) : Calls Try.prog 13 #[.int .i64 n] w fun e w' => e = .returned (.tuple #[.pointer none, .int .i64 2]) ∧ w' = w := by
  have hc := Lib.hid (newA_bad n h w)
  clear h
  go_enter Try.func13, Try.ntmps13
  go_wp2_with (go_at_call 21; refine Calls.mono hc.out ?_; rintro e w1 ⟨rfl, rfl⟩)
  go_ret2
  exact ⟨rfl, rfl⟩
theorem feednew_ok (n : Nat) (h : 1 ≤ n) (h' : n ≤ 4096) (w : World) : Calls Try.prog 13 #[.int .i64 n] w fun e w' => ∃ g b c m, e = .returned (.tuple #[.pointer (some ⟨g, 0, none⟩), .int .i64 0]) ∧ BoxA w' b c n [] ∧ FeedAt w' g b m 0 ∧ w'.ownsMap Try.prog 26 (plainElem Try.prog 3) m 0 (.map [] : DataW Unit) ∧ w.heap.size ≤ c ∧ c < b ∧ b < m ∧ m < g ∧ g < w'.heap.size ∧ Below w.heap.size w w' := by
  have hc := Lib.hid (newA_ok n h h' w)
  have hmm := @run_makeMap Try.prog
  clear h h'
  go_enter Try.func13, Try.ntmps13
  go_wp2_with (go_at_call 21; refine Calls.mono hc.out ?_; rintro e w1 ⟨rfl, hb1, B1⟩; have HB := Lib.hid hb1; have hz1 := B1.size; clear hb1)
  have hbs := blk_lt HB.out.2.1
  go_ret2
  refine ⟨_, _, _, w1.heap.size, rfl, (HB.out.alloc _).alloc _, ?_, (World.ownsMap_made _ _ _ _).alloc _, Nat.le_refl _, by omega, by omega, by simp, by simp, by go_grown⟩
  exact blk_alloc_new _ (by simp)
end Go.Proofs.Ytmkgiaheeebbbaa
