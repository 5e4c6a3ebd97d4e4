/- Layer stat: how two errors stand to each other. No condition. -/
import Derived.Test.YtalhilelbebfbaaDoorStCount
namespace Go.Proofs.YtalhilelbebfbaaDoor
open Go.RowKit Go.Deep Go.Maps

def cfE (x y : Int) : Int := if x < y then -1 else if y < x then 1 else 0
theorem cmp_any (x y : Int) (w : World) : Calls Tryd.prog 29 #[.int .i64 x, .int .i64 y] w fun e w' => e = .returned (.int .i64 (cfE x y)) ∧ w' = w := by
  rcases Int.lt_trichotomy x y with h | h | h
  · have F : Hid (cfE x y = -1) := by
      show _ = _
      rw [cfE, if_pos h]
    go_enter Tryd.func29, Tryd.ntmps29
    go_wp2
    go_ret
    exact ⟨by rw [F.out]; rfl, rfl⟩
  · subst h
    have F : Hid (cfE x x = 0) := by
      show _ = _
      rw [cfE, if_neg (by omega), if_neg (by omega)]
    go_enter Tryd.func29, Tryd.ntmps29
    go_wp2
    go_ret
    exact ⟨by rw [F.out]; rfl, rfl⟩
  · have F : Hid (cfE x y = 1) := by
      show _ = _
      rw [cfE, if_neg (by omega), if_pos h]
    have hn : ¬ x < y := by omega
    go_enter Tryd.func29, Tryd.ntmps29
    go_wp2
    go_ret
    exact ⟨by rw [F.out]; rfl, rfl⟩
theorem closure_any (x y : Int) (w : World) : Calls Tryd.prog 28 #[.int .i64 x, .int .i64 y] w fun e w' => e = .returned (.int .i64 (cfE x y)) ∧ w' = w := by
  have c := fun W => cmp_any x y W
  generalize cfE x y = r at c ⊢
  go_enter Tryd.func28, Tryd.ntmps28
  go_wp2_with (go_at_call 29; refine Calls.mono (c _) ?_; rintro e w1 ⟨rfl, rfl⟩)
  go_ret
  exact ⟨rfl, rfl⟩
end Go.Proofs.YtalhilelbebfbaaDoor
