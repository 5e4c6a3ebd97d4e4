/- Layer call: text, number. Conditions: as each theorem says. -/
import Derived.Test.YtalhilelbebfbaaDoorCaP
import Derived.Test.YtalhilelbebfbaaDoorName
import Derived.Lib.Strings
namespace Go.Proofs.YtalhilelbebfbaaDoor
open Go.RowKit Go.Deep

theorem eqE_iff {s : ByteArray} : emptyB s = true ↔ s = ⟨#[]⟩ := by unfold emptyB; exact decide_eq_true_iff
theorem empty_ne {s : ByteArray} (h : s ≠ ⟨#[]⟩) : s.toList.isEmpty = false := by
  cases hs : s.toList with
  | nil =>
    refine absurd ?_ h
    obtain ⟨⟨l⟩⟩ := s
    rw [Lib.toList_data] at hs
    have h2 : l = [] := hs
    subst h2
    rfl
  | cons a l => rfl
theorem text_any (s : ByteArray) (hs : s.size ≤ 140737488355328) (b : Bool) (w : World) : Calls Tryd.prog 32 #[.string s, .bool b] w fun e w' => e = .returned (.bool (txt nameOk s b)) ∧ w = w' := by
  cases b with
  | true =>
    have HN := Lib.hid (name_any s hs w)
    go_enter Tryd.func32, Tryd.ntmps32
    go_wp2_with (go_at_call 31; refine Calls.mono HN.out ?_; rintro e w1 ⟨rfl, rfl⟩)
    go_ret
    exact ⟨rfl, rfl⟩
  | false =>
    by_cases he : s = ⟨#[]⟩
    · subst he
      go_enter Tryd.func32, Tryd.ntmps32
      go_wp2
      go_ret
      exact ⟨rfl, rfl⟩
    · have HE := Lib.hid (show txt nameOk s false = false by unfold txt emptyB; simp [he])
      have hse : s.toList.isEmpty = false := empty_ne he
      clear he
      go_enter Tryd.func32, Tryd.ntmps32
      go_wp2
      go_ret
      exact ⟨by rw [HE.out]; rfl, rfl⟩
theorem number_any (n a b : Int) (h : Bool) (w : World) : Calls Tryd.prog 33 #[.int .i64 n, .int .i64 a, .int .i64 b, .bool h] w fun e w' => e = .returned (.bool (num n a b h)) ∧ w = w' := by
  cases h with
  | true =>
    by_cases h1 : a ≤ n
    · by_cases h2 : n ≤ b
      · have HE := Lib.hid (show num n a b true = true by unfold num; simp [h1, h2])
        have d1 : decide (a ≤ n) = true := decide_eq_true h1
        have d2 : decide (n ≤ b) = true := decide_eq_true h2
        clear h1 h2
        go_enter Tryd.func33, Tryd.ntmps33
        go_wp2
        go_ret
        exact ⟨by rw [HE.out]; rfl, rfl⟩
      · have HE := Lib.hid (show num n a b true = false by unfold num; simp [h1, h2])
        have d1 : decide (a ≤ n) = true := decide_eq_true h1
        have d2 : decide (n ≤ b) = false := decide_eq_false h2
        clear h1 h2
        go_enter Tryd.func33, Tryd.ntmps33
        go_wp2
        go_ret
        exact ⟨by rw [HE.out]; rfl, rfl⟩
    · have HE := Lib.hid (show num n a b true = false by unfold num; simp [h1])
      have d1 : decide (a ≤ n) = false := decide_eq_false h1
      clear h1
      go_enter Tryd.func33, Tryd.ntmps33
      go_wp2
      go_ret
      exact ⟨by rw [HE.out]; rfl, rfl⟩
  | false =>
    by_cases h1 : n = 0
    · subst h1
      go_enter Tryd.func33, Tryd.ntmps33
      go_wp2
      go_ret
      exact ⟨rfl, rfl⟩
    · have HE := Lib.hid (show num n a b false = false by unfold num; simp [h1])
      have d1 : (n == 0) = false := beq_eq_false_iff_ne.2 h1
      clear h1
      go_enter Tryd.func33, Tryd.ntmps33
      go_wp2
      go_ret
      exact ⟨by rw [HE.out]; rfl, rfl⟩
end Go.Proofs.YtalhilelbebfbaaDoor
