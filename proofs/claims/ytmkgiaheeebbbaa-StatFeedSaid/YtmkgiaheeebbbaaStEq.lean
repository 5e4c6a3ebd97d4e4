/- Layer stat: the document's Same: an answer is itself. Condition: both read as the same answer. -/
import Derived.Test.YtmkgiaheeebbbaaStAnswer
import Derived.Test.YtmkgiaheeebbbaaStSame
namespace Go.Proofs.Ytmkgiaheeebbbaa
open Go.RowKit Go.Deep

theorem bytesame_any (l : List Int) (v u : Value) (w : World) (S S' : Nat → Prop) (h : Sl 1 rByte S w v l) (k : Sl 1 rByte S' w u l) :
    Calls Try.prog 22 #[v, u] w fun e w' => e = .returned (.bool true) ∧ Below w.heap.size w w' := by
  obtain ⟨A, c, rfl, hl, hc, hn, hs⟩ := h
  obtain ⟨A', c', rfl, hl', hc', hn', hs'⟩ := k
  unfold maxLen at hc hc'
  go_enter Try.func22, Try.ntmps22
  go_wp2
  go_loopw [5] (fun i wr => ∃ k : Nat, k ≤ l.length ∧ i = .int .i64 k ∧ Below w.heap.size w wr) (fun i _ => l.length - (RowKit.intOf i).toNat)
  case atStart => exact ⟨0, by omega, by go_num, by go_grown⟩
  case round =>
    obtain ⟨k, hk, rfl, hbel⟩ := hrel
    by_cases hlt : k < l.length
    · obtain ⟨x, hx⟩ : ∃ x, l[k]? = some x := ⟨_, List.getElem?_eq_getElem hlt⟩
      obtain ⟨b, o, ys, rfl, _, _, hcc, rfl, _⟩ := hs k x hx
      obtain ⟨b', o', ys', rfl, _, _, hcc', rfl, _⟩ := hs' k x hx
      have q1 := hcc 0 _ rfl
      have q2 := hcc' 0 _ rfl
      rw [show k * 1 + 0 = k by omega] at q1 q2
      have x1 : wr.cell? ⟨b, o + k, none⟩ = some (.int .u8 x) := (hbel.cell (p := ⟨b, o + k, none⟩) (cell_lt q1)).trans q1
      have x2 : wr.cell? ⟨b', o' + k, none⟩ = some (.int .u8 x) := (hbel.cell (p := ⟨b', o' + k, none⟩) (cell_lt q2)).trans q2
      clear hx q1 q2 hcc hcc'
      go_wp2_with fail
      go_quiet (fail)
      go_wp2
      go_roundw
      case rel => exact ⟨k + 1, by omega, by go_num, below_drewN2 hbel _⟩
      case measure => simp [RowKit.intOf]; omega
    · obtain rfl : k = l.length := by omega
      go_wp2
      go_ret
      exact ⟨rfl, hbel⟩

theorem memsame_any (l : List Member) (v u : Value) (w : World) (S S' : Nat → Prop) (h : Sl 2 rMember S w v l) (k : Sl 2 rMember S' w u l) :
    Calls Try.prog 23 #[v, u] w fun e w' => e = .returned (.bool true) ∧ Below w.heap.size w w' := by
  obtain ⟨A, c, rfl, hl, hc, hn, hs⟩ := h
  obtain ⟨A', c', rfl, hl', hc', hn', hs'⟩ := k
  unfold maxLen at hc hc'
  have eg : Try.prog.eqGuardType Try.prog.depth 74 = false := by kernel_rfl
  have sh : Try.prog.stoodInHeld 74 = false := by kernel_rfl
  have uf := Try.underlying74
  go_enter Try.func23, Try.ntmps23
  go_wp2
  go_loopw [5] (fun i wr => ∃ k : Nat, k ≤ l.length ∧ i = .int .i64 k ∧ Below w.heap.size w wr) (fun i _ => l.length - (RowKit.intOf i).toNat)
  case atStart => exact ⟨0, by omega, by go_num, by go_grown⟩
  case round =>
    obtain ⟨k, hk, rfl, hbel⟩ := hrel
    by_cases hlt : k < l.length
    · obtain ⟨x, b, o, hx, _, _, rfl, _, _, x0, x1, _⟩ := get_Member hs hlt (kept_of hbel)
      obtain ⟨y, b', o', hy, _, _, rfl, _, _, y0, y1, _⟩ := get_Member hs' hlt (kept_of hbel)
      obtain rfl : x = y := Option.some.inj (hx.symm.trans hy)
      clear hx hy
      go_wp2_with fail
      go_quiet (fail)
      go_wp2
      go_roundw
      case rel => exact ⟨k + 1, by omega, by go_num, below_drewN2 hbel _⟩
      case measure => simp [RowKit.intOf]; omega
    · obtain rfl : k = l.length := by omega
      go_wp2
      go_ret
      exact ⟨rfl, hbel⟩
end Go.Proofs.Ytmkgiaheeebbbaa
