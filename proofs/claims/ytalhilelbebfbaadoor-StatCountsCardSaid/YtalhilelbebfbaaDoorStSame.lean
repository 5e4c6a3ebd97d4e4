/- Layer stat: two lists of counts that are one. No condition but that. -/
import Derived.Test.YtalhilelbebfbaaDoorStCount
import Derived.Laws.StructEq
import Derived.BigQuiet
namespace Go.Proofs.YtalhilelbebfbaaDoor
open Go.RowKit Go.Deep

theorem below_drewN2 {n : Nat} {w w' : World} (h : Below n w w') : ∀ q, Below n w (w'.drewN q)
  | 0 => h
  | q + 1 => (below_drewN2 h q).drew
theorem same_any (l r : List Count) (v u : Value) (w : World) (S S' : Nat → Prop) (h : Sl 2 rCount S w v l) (k : Sl 2 rCount S' w u r) (e : l = r) :
    Calls Tryd.prog 8 #[v, u] w fun e w' => e = .returned (.bool true) ∧ Below w.heap.size w w' := by
  subst e
  obtain ⟨A, c, rfl, hl, hc, hn, hs⟩ := h
  obtain ⟨A', c', rfl, hl', hc', hn', hs'⟩ := k
  unfold maxLen at hc hc'
  have eg : Tryd.prog.eqGuardType Tryd.prog.depth 44 = false := by kernel_rfl
  have sh : Tryd.prog.stoodInHeld 44 = false := by kernel_rfl
  have uf := Tryd.underlying44
  go_enter Tryd.func8, Tryd.ntmps8
  go_wp2
  go_loopw [13] (fun i wr => ∃ k : Nat, k ≤ l.length ∧ i = .int .i64 k ∧ Below w.heap.size w wr) (fun i _ => l.length - (RowKit.intOf i).toNat)
  case atStart => exact ⟨0, by omega, by go_num, by go_grown⟩
  case round =>
    obtain ⟨k, hk, rfl, hbel⟩ := hrel
    by_cases hlt : k < l.length
    · obtain ⟨x, b, o, hx, _, _, rfl, _, _, x0, x1, _, hn1, hn2⟩ := get_Count hs hlt (kept_of hbel)
      obtain ⟨y, b', o', hy, _, _, rfl, _, _, y0, y1, _, _, _⟩ := get_Count hs' hlt (kept_of hbel)
      obtain rfl : x = y := Option.some.inj (hx.symm.trans hy)
      clear hx hy
      go_wp2_with fail
      go_quiet (fail)
      go_wp2
      go_roundw
      case rel => exact ⟨k + 1, by omega, by go_num, below_drewN2 hbel _⟩
      case measure => simp [RowKit.intOf]; omega
    · obtain rfl : k = l.length := by omega
      go_wp2
      go_ret
      exact ⟨rfl, hbel⟩
end Go.Proofs.YtalhilelbebfbaaDoor
