/- What a name is: tree.Name and the document's. Conditions: the text is no longer than a row's reach. -/
import Derived.Test.YtalhilelbebfbaaDoorApi
namespace Go.Proofs.YtalhilelbebfbaaDoor
open Go.RowKit Go.Deep

def okByte (c : Nat) : Bool := (decide (97 ≤ c) && decide (c ≤ 122)) || (decide (48 ≤ c) && decide (c ≤ 57))
def allOk : List UInt8 → Bool
  | [] => true
  | c :: l => if okByte c.toNat then allOk l else false
def nameOk (s : ByteArray) : Bool := if s.size < 1 then false else if 12 < s.size then false else allOk s.data.toList

theorem byte_at {s : ByteArray} {k : Nat} (h : k < s.size) : s.data.toList.drop k = s[k] :: s.data.toList.drop (k + 1) := by
  have h' : k < s.data.toList.length := by simpa using h
  rw [List.drop_eq_getElem_cons h']
  rfl
theorem allOk_step {s : ByteArray} {k : Nat} (h : k < s.size) : allOk (s.data.toList.drop k) = if okByte s[k].toNat then allOk (s.data.toList.drop (k + 1)) else false := by
  rw [byte_at h, allOk]
theorem byte_cases (c : Nat) : (c < 48 ∧ okByte c = false) ∨ ((48 ≤ c ∧ c ≤ 57) ∧ okByte c = true) ∨ ((57 < c ∧ c < 97) ∧ okByte c = false) ∨ ((97 ≤ c ∧ c ≤ 122) ∧ okByte c = true) ∨ (122 < c ∧ okByte c = false) := by
  simp only [okByte, Bool.or_eq_true, Bool.or_eq_false_iff, Bool.and_eq_true, Bool.and_eq_false_iff, decide_eq_true_eq, decide_eq_false_iff_not]
  omega
theorem drop_all (s : ByteArray) : s.data.toList.drop s.size = [] := List.drop_of_length_le (by simp)

set_option maxHeartbeats 1000000 in
theorem name_any (s : ByteArray) (hs : s.size ≤ 140737488355328) (w : World) : Calls Tryd.prog 31 #[.string s] w fun e w' => e = .returned (.bool (nameOk s)) ∧ w = w' := by
  have F : Hid (nameOk s = (decide (1 ≤ s.size) && (decide (s.size ≤ 12) && allOk s.data.toList))) := by
    unfold nameOk
    show _ = _
    by_cases h1 : s.size < 1
    · rw [if_pos h1, decide_eq_false (by omega)]; rfl
    · by_cases h2 : 12 < s.size
      · rw [if_neg h1, if_pos h2, decide_eq_true (show 1 ≤ s.size by omega), decide_eq_false (show ¬ s.size ≤ 12 by omega)]; rfl
      · rw [if_neg h1, if_neg h2, decide_eq_true (show 1 ≤ s.size by omega), decide_eq_true (show s.size ≤ 12 by omega)]; rfl
  go_enter Tryd.func31, Tryd.ntmps31
  go_wp2
  go_loop [7] (fun i => ∃ k : Nat, k ≤ s.size ∧ i = .int .i64 k ∧ allOk (s.data.toList.drop k) = allOk s.data.toList) (fun i => s.size - (intOf i).toNat)
  case atStart => exact ⟨0, by omega, by go_num, by simp⟩
  case round =>
    obtain ⟨k, hk, rfl, E⟩ := hrel
    by_cases hlt : k < s.size
    · rw [allOk_step hlt] at E
      rcases byte_cases s[k].toNat with ⟨h, o⟩ | ⟨h, o⟩ | ⟨h, o⟩ | ⟨h, o⟩ | ⟨h, o⟩
      all_goals
        rw [o] at E
        have EH := Lib.hid E
        clear E o
      · go_wp2
        go_ret
        exact ⟨ret_bool (by rw [F.out, ← EH.out]; simp), rfl⟩
      · go_wp2
        go_round
        case rel => exact ⟨k + 1, by omega, by go_num, EH.out⟩
        case measure => simp [intOf]; omega
      · go_wp2
        go_ret
        exact ⟨ret_bool (by rw [F.out, ← EH.out]; simp), rfl⟩
      · go_wp2
        go_round
        case rel => exact ⟨k + 1, by omega, by go_num, EH.out⟩
        case measure => simp [intOf]; omega
      · go_wp2
        go_ret
        exact ⟨ret_bool (by rw [F.out, ← EH.out]; simp), rfl⟩
    · obtain rfl : k = s.size := by omega
      rw [drop_all] at E
      have EH := Lib.hid E
      clear E
      go_wp2
      all_goals
        go_ret
        exact ⟨ret_bool (by rw [F.out, ← EH.out, Bool.eq_iff_iff]; simp [allOk]; omega), rfl⟩

set_option maxHeartbeats 1000000 in
theorem refname_any (s : ByteArray) (hs : s.size ≤ 140737488355328) (w : World) : Calls Tryd.prog 37 #[.string s] w fun e w' => e = .returned (.bool (nameOk s)) ∧ w = w' := by
  by_cases c1 : s.size < 1
  · have F := Lib.hid (show nameOk s = false by unfold nameOk; rw [if_pos c1])
    go_enter Tryd.func37, Tryd.ntmps37
    go_wp2
    go_ret
    exact ⟨ret_bool F.out.symm, rfl⟩
  by_cases c2 : 12 < s.size
  · have F := Lib.hid (show nameOk s = false by unfold nameOk; rw [if_neg c1, if_pos c2])
    go_enter Tryd.func37, Tryd.ntmps37
    go_wp2
    go_ret
    exact ⟨ret_bool F.out.symm, rfl⟩
  have F := Lib.hid (show nameOk s = allOk s.data.toList by unfold nameOk; rw [if_neg c1, if_neg c2])
  go_enter Tryd.func37, Tryd.ntmps37
  go_wp2
  go_loop [3] (fun i => ∃ k : Nat, k ≤ s.size ∧ i = .int .i64 k ∧ allOk (s.data.toList.drop k) = allOk s.data.toList) (fun i => s.size - (intOf i).toNat)
  case atStart => exact ⟨0, by omega, by go_num, by simp⟩
  case round =>
    obtain ⟨k, hk, rfl, E⟩ := hrel
    by_cases hlt : k < s.size
    · rw [allOk_step hlt] at E
      rcases byte_cases s[k].toNat with ⟨h, o⟩ | ⟨h, o⟩ | ⟨h, o⟩ | ⟨h, o⟩ | ⟨h, o⟩
      all_goals
        rw [o] at E
        have EH := Lib.hid E
        clear E o
      · have d0 : decide ((97 : Int) ≤ (s[k].toNat : Int)) = false := (decide_eq_false (by omega))
        have d1 : decide ((s[k].toNat : Int) ≤ 122) = true := (decide_eq_true (by omega))
        have d2 : decide ((48 : Int) ≤ (s[k].toNat : Int)) = false := (decide_eq_false (by omega))
        have d3 : decide ((s[k].toNat : Int) ≤ 57) = true := (decide_eq_true (by omega))
        go_wp2
        all_goals
          go_ret
          exact ⟨ret_bool (by rw [F.out, ← EH.out]; simp), rfl⟩
      · have d0 : decide ((97 : Int) ≤ (s[k].toNat : Int)) = false := (decide_eq_false (by omega))
        have d1 : decide ((s[k].toNat : Int) ≤ 122) = true := (decide_eq_true (by omega))
        have d2 : decide ((48 : Int) ≤ (s[k].toNat : Int)) = true := (decide_eq_true (by omega))
        have d3 : decide ((s[k].toNat : Int) ≤ 57) = true := (decide_eq_true (by omega))
        go_wp2
        all_goals
          go_round
          case rel => exact ⟨k + 1, by omega, by go_num, EH.out⟩
          case measure => simp [intOf]; omega
      · have d0 : decide ((97 : Int) ≤ (s[k].toNat : Int)) = false := (decide_eq_false (by omega))
        have d1 : decide ((s[k].toNat : Int) ≤ 122) = true := (decide_eq_true (by omega))
        have d2 : decide ((48 : Int) ≤ (s[k].toNat : Int)) = true := (decide_eq_true (by omega))
        have d3 : decide ((s[k].toNat : Int) ≤ 57) = false := (decide_eq_false (by omega))
        go_wp2
        all_goals
          go_ret
          exact ⟨ret_bool (by rw [F.out, ← EH.out]; simp), rfl⟩
      · have d0 : decide ((97 : Int) ≤ (s[k].toNat : Int)) = true := (decide_eq_true (by omega))
        have d1 : decide ((s[k].toNat : Int) ≤ 122) = true := (decide_eq_true (by omega))
        have d2 : decide ((48 : Int) ≤ (s[k].toNat : Int)) = true := (decide_eq_true (by omega))
        have d3 : decide ((s[k].toNat : Int) ≤ 57) = false := (decide_eq_false (by omega))
        go_wp2
        all_goals
          go_round
          case rel => exact ⟨k + 1, by omega, by go_num, EH.out⟩
          case measure => simp [intOf]; omega
      · have d0 : decide ((97 : Int) ≤ (s[k].toNat : Int)) = true := (decide_eq_true (by omega))
        have d1 : decide ((s[k].toNat : Int) ≤ 122) = false := (decide_eq_false (by omega))
        have d2 : decide ((48 : Int) ≤ (s[k].toNat : Int)) = true := (decide_eq_true (by omega))
        have d3 : decide ((s[k].toNat : Int) ≤ 57) = false := (decide_eq_false (by omega))
        go_wp2
        all_goals
          go_ret
          exact ⟨ret_bool (by rw [F.out, ← EH.out]; simp), rfl⟩
    · obtain rfl : k = s.size := by omega
      rw [drop_all] at E
      have EH := Lib.hid E
      clear E
      go_wp2
      go_ret
      exact ⟨ret_bool (by rw [F.out, ← EH.out]; rfl), rfl⟩
end Go.Proofs.YtalhilelbebfbaaDoor
