/- Texts among texts; lists of names that are one; the folder of the chapter's example. Conditions: as each theorem says. -/
import Derived.Test.YtocofkccdfaaaaaGrWho
import Derived.Test.YtocofkccdfaaaaaFewP
namespace Go.Proofs.Ytocofkccdfaaaaa
open Go.RowKit Go.Deep

/-! Texts among texts. -/
theorem get_str {S S' : Nat → Prop} {w wr : World} {A : Option Addr} {l : List Nm} {k : Nat} (s : SlAt 1 rStr S w A l) (hk : k < l.length) (hb : Kept S S' w wr) :
    ∃ x b o, l[k]? = some x ∧ l.drop k = x :: l.drop (k + 1) ∧ x ∈ l ∧ A = some ⟨b, o, none⟩ ∧ wr.cell? ⟨b, o + k, none⟩ = some (.string x) := by
  obtain ⟨x, hx, hd, hm⟩ := at_k hk
  obtain ⟨b, o, ys, hA, hS, _, hc, rfl, _⟩ := s k _ hx
  have q := cell_kept (p := ⟨b, o + (k * 1 + 0), none⟩) hb hS (hc 0 _ rfl)
  rw [Nat.mul_one, Nat.add_zero] at q
  exact ⟨x, b, o, hx, hd, hm, hA, q⟩
def memB (l : List Nm) (s : Nm) : Bool := l.any fun x => decide (x = s)
theorem memB_iff {l : List Nm} {s : Nm} : memB l s = true ↔ s ∈ l := by simp [memB]
theorem index_any (l : List Nm) (v : Value) (s : Nm) (w : World) (S : Nat → Prop) (h : Sl 1 rStr S w v l) : Calls Try.prog 58 #[v, .string s] w fun e w' => (∃ i : Int, e = .returned (.int .i64 i) ∧ (decide (0 ≤ i)) = memB l s) ∧ w' = w := by
  obtain ⟨A, c, rfl, hl, hc, hn, hs⟩ := h
  unfold maxLen at hc
  go_enter Try.func58, Try.ntmps58
  go_wp2
  go_loop [8] (fun i => ∃ k : Nat, k ≤ l.length ∧ i = .int .i64 k ∧ Hid (s ∉ l.take k)) (fun i => l.length - (RowKit.intOf i).toNat)
  case atStart => exact ⟨0, by omega, by go_num, by simp [Hid]⟩
  case round =>
    obtain ⟨k, hk, rfl, HK⟩ := hrel
    by_cases hlt : k < l.length
    · obtain ⟨x, b, o, hx, _, hm, rfl, q⟩ := get_str hs hlt (Kept.refl w fun _ h => h)
      by_cases e : s = x
      · subst e
        have M := Lib.hid (memB_iff.2 hm)
        clear hx hm
        go_wp2
        go_ret
        exact ⟨⟨_, rfl, by rw [M.out]; simp⟩, rfl⟩
      · have e1 := eqS_ne e
        have HK2 := Lib.hid (show s ∉ l.take (k + 1) by rw [List.take_add_one, hx]; simp [e]; exact HK.out)
        clear hx hm
        go_wp2
        go_round
        case rel => exact ⟨k + 1, by omega, by go_num, HK2⟩
        case measure => simp [RowKit.intOf]; omega
    · obtain rfl : k = l.length := by omega
      have M := Lib.hid (show memB l s = false by rw [← Bool.not_eq_true, memB_iff]; have := HK.out; rwa [List.take_length] at this)
      go_wp2
      go_ret
      exact ⟨⟨_, rfl, by rw [M.out]; rfl⟩, rfl⟩
theorem contains_any (l : List Nm) (v : Value) (s : Nm) (w : World) (S : Nat → Prop) (h : Sl 1 rStr S w v l) : Calls Try.prog 43 #[v, .string s] w fun e w' => e = .returned (.bool (memB l s)) ∧ w' = w := by
  have hi := Lib.hid (index_any l v s w S h)
  obtain ⟨A, c, rfl, _⟩ := h
  go_enter Try.func43, Try.ntmps43
  go_wp2_with (go_at_call 58; refine Calls.mono hi.out ?_; rintro e w1 ⟨⟨i, rfl, hm⟩, rfl⟩; have HM := Lib.hid hm; clear hm)
  go_ret
  exact ⟨ret_bool HM.out, rfl⟩
theorem in_any (l : List Nm) (v : Value) (s : Nm) (w : World) (S : Nat → Prop) (h : Sl 1 rStr S w v l) : Calls Try.prog 44 #[v, .string s] w fun e w' => e = .returned (.bool (memB l s)) ∧ w' = w := by
  obtain ⟨A, c, rfl, hl, hc, hn, hs⟩ := h
  unfold maxLen at hc
  go_enter Try.func44, Try.ntmps44
  go_wp2
  go_loop [5] (fun i => ∃ k : Nat, k ≤ l.length ∧ i = .int .i64 k ∧ Hid (s ∉ l.take k)) (fun i => l.length - (RowKit.intOf i).toNat)
  case atStart => exact ⟨0, by omega, by go_num, by simp [Hid]⟩
  case round =>
    obtain ⟨k, hk, rfl, HK⟩ := hrel
    by_cases hlt : k < l.length
    · obtain ⟨x, b, o, hx, _, hm, rfl, q⟩ := get_str hs hlt (Kept.refl w fun _ h => h)
      by_cases e : x = s
      · subst e
        have M := Lib.hid (memB_iff.2 hm)
        clear hx hm
        go_wp2
        go_ret
        exact ⟨ret_bool M.out.symm, rfl⟩
      · have e1 := eqS_ne e
        have HK2 := Lib.hid (show s ∉ l.take (k + 1) by rw [List.take_add_one, hx]; simp [Ne.symm e]; exact HK.out)
        clear hx hm
        go_wp2
        go_round
        case rel => exact ⟨k + 1, by omega, by go_num, HK2⟩
        case measure => simp [RowKit.intOf]; omega
    · obtain rfl : k = l.length := by omega
      have M := Lib.hid (show memB l s = false by rw [← Bool.not_eq_true, memB_iff]; have := HK.out; rwa [List.take_length] at this)
      go_wp2
      go_ret
      exact ⟨ret_bool M.out.symm, rfl⟩
theorem same_any (l r : List Nm) (v u : Value) (w : World) (S S' : Nat → Prop) (h : Sl 1 rStr S w v l) (k : Sl 1 rStr S' w u r) (e : l = r) : Calls Try.prog 14 #[v, u] w fun e w' => e = .returned (.bool true) ∧ Below w.heap.size w w' := by
  subst e
  obtain ⟨A, c, rfl, hl, hc, hn, hs⟩ := h
  obtain ⟨A', c', rfl, hl', hc', hn', hs'⟩ := k
  unfold maxLen at hc hc'
  go_enter Try.func14, Try.ntmps14
  go_wp2
  go_loopw [13] (fun i wr => ∃ k : Nat, k ≤ l.length ∧ i = .int .i64 k ∧ Below w.heap.size w wr) (fun i _ => l.length - (RowKit.intOf i).toNat)
  case atStart => exact ⟨0, by omega, by go_num, by go_grown⟩
  case round =>
    obtain ⟨k, hk, rfl, hbel⟩ := hrel
    by_cases hlt : k < l.length
    · obtain ⟨x, b, o, hx, _, _, rfl, x0⟩ := get_str hs hlt (kept_of hbel)
      obtain ⟨y, b', o', hy, _, _, rfl, y0⟩ := get_str hs' hlt (kept_of hbel)
      obtain rfl : x = y := Option.some.inj (hx.symm.trans hy)
      clear hx hy
      go_wp2_with fail
      go_quiet (fail)
      go_wp2
      go_roundw
      case rel => exact ⟨k + 1, by omega, by go_num, belN hbel _⟩
      case measure => simp [RowKit.intOf]; omega
    · obtain rfl : k = l.length := by omega
      go_wp2
      go_ret
      exact ⟨rfl, hbel⟩
end Go.Proofs.Ytocofkccdfaaaaa
