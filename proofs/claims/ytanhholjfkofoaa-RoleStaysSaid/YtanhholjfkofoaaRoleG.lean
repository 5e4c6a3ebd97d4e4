/- Layer role: Share, Change, Revoke answer as the document says. Conditions: none but that lists and texts are within a row's reach. -/
import Derived.Test.YtanhholjfkofoaaRoleF
import Derived.Test.YtanhholjfkofoaaRoleT
namespace Go.Proofs.Ytanhholjfkofoaa
open Go.RowKit Go.Deep

def shareD (l : List Member) (by_ name : ByteArray) (n : Int) : Int := if (rightOf l && (nameOk name && isOf n)) = false then 2 else shareE (ofOf l by_) (ofOf l name) n l.length
def shareL (l : List Member) (by_ name : ByteArray) (n : Int) : List Member := if shareD l by_ name n = 0 then withOf l name n else []
def changeD (l : List Member) (by_ name : ByteArray) (n : Int) : Int := if (rightOf l && (nameOk name && isOf n)) = false then 2 else changeE (ofOf l by_) (ofOf l name) n (own4 l)
def changeL (l : List Member) (by_ name : ByteArray) (n : Int) : List Member := if changeD l by_ name n = 0 then withOf l name n else []
def revokeD (l : List Member) (by_ name : ByteArray) : Int := if (rightOf l && nameOk name) = false then 2 else revokeE (eqS by_ name) (ofOf l by_) (ofOf l name) (own4 l)
def revokeL (l : List Member) (by_ name : ByteArray) : List Member := if revokeD l by_ name = 0 then withOf l name 0 else []

theorem tf : ¬ (true = false) := fun h => by cases h
theorem share_err (l : List Member) (by_ name : ByteArray) (n : Int) : shareErr (rightOf l && (nameOk name && isOf n)) (ofOf l by_) (atOf l name) n l.length = shareD l by_ name n := by
  unfold shareErr shareD
  cases h : rightOf l && (nameOk name && isOf n)
  · simp
  · simp only [Bool.and_eq_true] at h
    have hR := (right_iff l).1 h.1
    have h8 := hR.few
    rw [if_neg tf, if_neg tf]
    unfold shareE
    rcases of_pos (fun m hm => (hR.each m hm).2) name with ⟨a1, a2⟩ | ⟨a1, a2, a3⟩
    all_goals ((repeat' split) <;> omega)
theorem change_err (l : List Member) (by_ name : ByteArray) (n : Int) : changeP (rightOf l && (nameOk name && isOf n)) (ofOf l by_) (atOf l name) (ofOf l name) n (ownersOf l) = changeD l by_ name n := by
  unfold changeP changeD
  cases h : rightOf l && (nameOk name && isOf n)
  · simp
  · simp only [Bool.and_eq_true] at h
    have hR := (right_iff l).1 h.1
    rw [if_neg tf, if_neg tf, hR.owners]
    unfold changeE
    rcases of_pos (fun m hm => (hR.each m hm).2) name with ⟨a1, a2⟩ | ⟨a1, a2, a3⟩
    all_goals ((repeat' split) <;> omega)
theorem revoke_err (l : List Member) (by_ name : ByteArray) : revokeP (rightOf l && nameOk name) (eqS by_ name) (ofOf l by_) (atOf l name) (ofOf l name) (ownersOf l) = revokeD l by_ name := by
  unfold revokeP revokeD
  cases h : rightOf l && nameOk name
  · simp
  · simp only [Bool.and_eq_true] at h
    have hR := (right_iff l).1 h.1
    rw [if_neg tf, if_neg tf, hR.owners]
    unfold revokeE
    generalize eqS by_ name = sm
    rcases of_pos (fun m hm => (hR.each m hm).2) name with ⟨a1, a2⟩ | ⟨a1, a2, a3⟩
    all_goals
      cases sm
      · simp only [true_and]
        (repeat' split) <;> omega
      · simp only [Bool.true_eq_false, false_and, if_false]
        (repeat' split) <;> omega

theorem shareD_zero {l : List Member} {by_ name : ByteArray} {n : Int} (h : shareD l by_ name n = 0) : RightL l ∧ nameOk name = true ∧ isOf n = true ∧ ofOf l name ≤ 0 ∧ 3 ≤ ofOf l by_ ∧ (2 < n → 4 ≤ ofOf l by_) ∧ l.length ≠ 8 := by
  unfold shareD at h
  cases hr : rightOf l && (nameOk name && isOf n)
  · rw [hr] at h; simp at h
  · rw [hr, if_neg tf] at h
    simp only [Bool.and_eq_true] at hr
    unfold shareE at h
    refine ⟨(right_iff l).1 hr.1, hr.2.1, hr.2.2, ?_⟩
    split at h
    · cases h
    · split at h
      · cases h
      · split at h
        · cases h
        · split at h
          · cases h
          · exact ⟨by omega, by omega, by omega, by omega⟩
theorem changeD_zero {l : List Member} {by_ name : ByteArray} {n : Int} (h : changeD l by_ name n = 0) : RightL l ∧ nameOk name = true ∧ isOf n = true ∧ ofOf l name ≠ 0 ∧ 3 ≤ ofOf l by_ ∧ (2 < n ∨ 2 < ofOf l name → 4 ≤ ofOf l by_) ∧ ¬ (ofOf l name = 4 ∧ n < 4 ∧ own4 l = 1) := by
  unfold changeD at h
  cases hr : rightOf l && (nameOk name && isOf n)
  · rw [hr] at h; simp at h
  · rw [hr, if_neg tf] at h
    simp only [Bool.and_eq_true] at hr
    unfold changeE at h
    refine ⟨(right_iff l).1 hr.1, hr.2.1, hr.2.2, ?_⟩
    split at h
    · cases h
    · split at h
      · cases h
      · split at h
        · cases h
        · split at h
          · cases h
          · exact ⟨by omega, by omega, by omega, by assumption⟩
theorem revokeD_zero {l : List Member} {by_ name : ByteArray} (h : revokeD l by_ name = 0) : RightL l ∧ nameOk name = true ∧ ofOf l name ≠ 0 ∧ (eqS by_ name = false → 3 ≤ ofOf l by_ ∧ (2 < ofOf l name → 4 ≤ ofOf l by_)) ∧ ¬ (ofOf l name = 4 ∧ own4 l = 1) := by
  unfold revokeD at h
  cases hr : rightOf l && nameOk name
  · rw [hr] at h; simp at h
  · rw [hr, if_neg tf] at h
    simp only [Bool.and_eq_true] at hr
    unfold revokeE at h
    refine ⟨(right_iff l).1 hr.1, hr.2, ?_⟩
    split at h
    · cases h
    · rename_i c1
      split at h
      · cases h
      · split at h
        · cases h
        · rename_i c3
          split at h
          · cases h
          · refine ⟨by assumption, fun e => ⟨?_, fun h2 => ?_⟩, by assumption⟩
            · by_cases h : ofOf l by_ < 3
              · exact absurd ⟨e, h⟩ c1
              · omega
            · by_cases h : ofOf l by_ < 4
              · exact absurd ⟨e, h2, h⟩ c3
              · omega

/-- What each of the three calls gives, and where. -/
abbrev Gives (w : World) (l : List Member) (k : Int) (e : Ending) (w' : World) : Prop := (∃ A c, e = .returned (.tuple #[.slice A l.length c, .int .i64 k]) ∧ Sl 2 rMember (fun _ => True) w' (.slice A l.length c) l) ∧ Below w.heap.size w w'
theorem gives_of {w w' : World} {l : List Member} {k : Int} {v : Value} (h : Sl 2 rMember (fun _ => True) w' v l) (hb : Below w.heap.size w w') : Gives w l k (.returned (.tuple #[v, .int .i64 k])) w' := by
  obtain ⟨A, c, rfl, h'⟩ := h
  exact ⟨⟨A, c, rfl, A, c, rfl, h'⟩, hb⟩
theorem share_doc (l : List Member) (by_ name : ByteArray) (n : Int) (hname : name.size ≤ 140737488355328) (hn : I64 n) (v : Value) (w : World) (S : Nat → Prop) (h : Sl 2 rMember S w v l) (hl0 : l.length ≤ 100000) :
    Calls Try.prog 9 #[v, .string by_, .string name, .int .i64 n] w (Gives w (shareL l by_ name n) (shareD l by_ name n)) := by
  refine (share_any l by_ name n hname hn v w S h hl0).mono ?_
  rintro e w' ⟨⟨v', l', k, rfl, hk, hs, hc⟩, hb⟩
  rw [share_err] at hk
  have el : l' = shareL l by_ name n := by
    unfold shareL
    rw [← hk]
    rcases hc with ⟨h1, h2⟩ | ⟨h1, h2, h3⟩
    · rw [if_neg h1, h2]
    · rw [if_pos h1]
      obtain ⟨a1, a2, a3, a4, _⟩ := shareD_zero (hk.symm.trans h1)
      have hr := fun m hm => (a1.each m hm).2
      have := isOf_true a3
      refine share_with (by omega) a1.sorted (of_none hr ?_) h2 h3
      rcases of_pos hr name with ⟨_, b⟩ | ⟨_, b, _⟩ <;> omega
  subst el hk
  exact gives_of hs hb
theorem change_doc (l : List Member) (by_ name : ByteArray) (n : Int) (hname : name.size ≤ 140737488355328) (hn : I64 n) (v : Value) (w : World) (S : Nat → Prop) (h : Sl 2 rMember S w v l) (hl0 : l.length ≤ 100000) :
    Calls Try.prog 10 #[v, .string by_, .string name, .int .i64 n] w (Gives w (changeL l by_ name n) (changeD l by_ name n)) := by
  refine (change_any l by_ name n hname hn v w S h hl0).mono ?_
  rintro e w' ⟨⟨v', l', k, rfl, hk, hs, hc⟩, hb⟩
  rw [change_err] at hk
  have el : l' = changeL l by_ name n := by
    unfold changeL
    rw [← hk]
    rcases hc with ⟨h1, h2⟩ | ⟨h1, i, x, h2, h3, h4⟩
    · rw [if_neg h1, h2]
    · rw [if_pos h1, h4]
      obtain ⟨a1, a2, a3, a4, _⟩ := changeD_zero (hk.symm.trans h1)
      have := isOf_true a3
      exact set_with (by omega) a1.sorted h2 h3
  subst el hk
  exact gives_of hs hb
theorem revoke_doc (l : List Member) (by_ name : ByteArray) (hname : name.size ≤ 140737488355328) (v : Value) (w : World) (S : Nat → Prop) (h : Sl 2 rMember S w v l) (hl0 : l.length ≤ 100000) :
    Calls Try.prog 11 #[v, .string by_, .string name] w (Gives w (revokeL l by_ name) (revokeD l by_ name)) := by
  refine (revoke_any l by_ name hname v w S h hl0).mono ?_
  rintro e w' ⟨⟨v', l', k, rfl, hk, hs, hc⟩, hb⟩
  rw [revoke_err] at hk
  have el : l' = revokeL l by_ name := by
    unfold revokeL
    rw [← hk]
    rcases hc with ⟨h1, h2⟩ | ⟨h1, i, x, h2, h3, h4⟩
    · rw [if_neg h1, h2]
    · rw [if_pos h1, h4]
      obtain ⟨a1, _⟩ := revokeD_zero (hk.symm.trans h1)
      exact erase_with a1.sorted h2 h3
  subst el hk
  exact gives_of hs hb

/-! few: short lists of short names. -/
def fewAll : List Member → Bool
  | [] => true
  | m :: r => if decide (20 < m.name.size) then false else fewAll r
def fewOf (l : List Member) : Bool := fewAll l && decide (l.length ≤ 20)
theorem few_any (l : List Member) (v : Value) (w : World) (S : Nat → Prop) (h : Sl 2 rMember S w v l) :
    Calls Try.prog 7 #[v] w fun e w' => e = .returned (.bool (fewOf l)) ∧ Below w.heap.size w w' := by
  obtain ⟨A, c, rfl, hl, hc, hn, hs⟩ := h
  unfold maxLen at hc
  go_enter Try.func7, Try.ntmps7
  go_wp2
  go_loopw [7] (fun i wr => ∃ k : Nat, k ≤ l.length ∧ i = .int .i64 k ∧ fewAll (l.drop k) = fewAll l ∧ Below w.heap.size w wr) (fun i _ => l.length - (intOf i).toNat)
  case atStart => exact ⟨0, by omega, by go_num, by simp, by go_grown⟩
  case round =>
    obtain ⟨k, hk, rfl, E, hbel⟩ := hrel
    have hz := hbel.size
    by_cases hlt : k < l.length
    · obtain ⟨wo, rfl⟩ : ∃ wo : World, wo = wr := ⟨_, rfl⟩
      obtain ⟨x, x_b, x_o, x_k, x_d, x_m, rfl, x_l, x_S, x_0, x_1, x_R, x_name_le, x_role_ok⟩ := get_Member hs hlt (kept_of hbel)
      obtain ⟨y0, hy0, cy0, fzy0, By0, qy0⟩ := boxed wo #[.string x.name, .int .i64 x.role] 44
      have y0_0 := cy0 0 _ rfl
      have y0_1 := cy0 1 _ rfl
      clear cy0
      have zy0 := By0.size
      rw [x_d, fewAll] at E
      cases hx : decide (20 < x.name.size)
      · rw [hx] at E
        have EH := Lib.hid (show fewAll (l.drop (k + 1)) = fewAll l from E)
        have hx' := of_decide_eq_false hx
        clear E x_d x_k hx
        go_wp2
        go_roundw
        case rel => exact ⟨k + 1, by omega, by go_num, EH.out, bel_call hbel By0⟩
        case measure => simp [intOf]; omega
      · rw [hx] at E
        have EH := Lib.hid (show false = fewAll l from E)
        have hx' := of_decide_eq_true hx
        clear E x_d x_k hx
        go_wp2
        go_ret
        exact ⟨ret_bool (by rw [fewOf, ← EH.out]; rfl), bel_call hbel By0⟩
    · obtain rfl : k = l.length := by omega
      rw [List.drop_length] at E
      have EH := Lib.hid (show true = fewAll l from E)
      clear E
      go_wp2
      all_goals
        go_ret
        exact ⟨ret_bool (by rw [fewOf, ← EH.out]; first | (simp; omega) | simp), hbel⟩
theorem few_true {l : List Member} (h : fewOf l = true) : l.length ≤ 20 := by
  unfold fewOf at h
  simp at h
  exact h.2
end Go.Proofs.Ytanhholjfkofoaa
