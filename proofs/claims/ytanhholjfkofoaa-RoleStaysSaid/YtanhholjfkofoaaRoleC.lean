/- Layer role: the document's functions. Conditions: none but that lists and texts are within a row's reach. -/
import Derived.Test.YtanhholjfkofoaaRoleB
namespace Go.Proofs.Ytanhholjfkofoaa
open Go.RowKit Go.Deep

theorem refof_any (name : ByteArray) (l : List Member) (v : Value) (w : World) (S : Nat → Prop) (h : Sl 2 rMember S w v l) :
    Calls Try.prog 14 #[v, .string name] w fun e w' => e = .returned (.int .i64 (ofOf l name)) ∧ w = w' := by
  obtain ⟨A, c, rfl, hl, hc, hn, hs⟩ := h
  unfold maxLen at hc
  go_enter Try.func14, Try.ntmps14
  go_wp2
  go_loop [5] (fun i => ∃ k : Nat, k ≤ l.length ∧ i = .int .i64 k ∧ ofOf (l.drop k) name = ofOf l name) (fun i => l.length - (intOf i).toNat)
  case atStart => exact ⟨0, by omega, by go_num, by simp⟩
  case round =>
    obtain ⟨k, hk, rfl, E⟩ := hrel
    by_cases hlt : k < l.length
    · obtain ⟨x, x_b, x_o, x_k, x_d, x_m, rfl, x_l, x_S, x_0, x_1, x_R, x_name_le, x_role_ok⟩ := get_Member hs hlt (Kept.refl w fun _ h => h)
      rw [x_d, ofOf] at E
      cases hx : eqS x.name name
      · rw [hx] at E
        have EH := Lib.hid (show ofOf (l.drop (k + 1)) name = ofOf l name from E)
        have h2 : (x.name.toList == name.toList) = false := hx
        clear E x_k x_d hx
        go_wp2
        go_round
        case rel => exact ⟨k + 1, by omega, by go_num, EH.out⟩
        case measure => simp [intOf]; omega
      · rw [hx] at E
        have EH := Lib.hid (show x.role = ofOf l name from E)
        have h2 : (x.name.toList == name.toList) = true := hx
        clear E x_k x_d hx
        go_wp2
        go_ret
        exact ⟨by rw [← EH.out]; rfl, rfl⟩
    · obtain rfl : k = l.length := by omega
      rw [List.drop_length] at E
      have EH := Lib.hid E
      clear E
      go_wp2
      go_ret
      exact ⟨by rw [← EH.out]; rfl, rfl⟩

def own4 : List Member → Nat
  | [] => 0
  | m :: r => (if m.role == 4 then 1 else 0) + own4 r
theorem own4_le : ∀ l : List Member, own4 l ≤ l.length
  | [] => Nat.le_refl _
  | m :: r => by
    have := own4_le r
    rw [own4, List.length_cons]
    split <;> omega
theorem refowners_any (l : List Member) (v : Value) (w : World) (S : Nat → Prop) (h : Sl 2 rMember S w v l) :
    Calls Try.prog 24 #[v] w fun e w' => e = .returned (.int .i64 (own4 l : Nat)) ∧ w = w' := by
  have hle := own4_le l
  obtain ⟨A, c, rfl, hl, hc, hn, hs⟩ := h
  unfold maxLen at hc
  go_enter Try.func24, Try.ntmps24
  go_wp2
  go_loop [3, 4] (fun s i => ∃ n k : Nat, k ≤ l.length ∧ i = .int .i64 k ∧ s = .int .i64 n ∧ n + own4 (l.drop k) = own4 l) (fun _ i => l.length - (intOf i).toNat)
  case atStart => exact ⟨0, 0, by omega, by go_num, by go_num, by simp⟩
  case round =>
    obtain ⟨n, k, hk, rfl, rfl, E⟩ := hrel
    by_cases hlt : k < l.length
    · obtain ⟨x, x_b, x_o, x_k, x_d, x_m, rfl, x_l, x_S, x_0, x_1, x_R, x_name_le, x_role_ok⟩ := get_Member hs hlt (Kept.refl w fun _ h => h)
      rw [x_d, own4] at E
      cases hx : x.role == 4
      · rw [hx] at E
        have EH := Lib.hid (show n + own4 (l.drop (k + 1)) = own4 l by rw [← E]; simp)
        have hn9 : n ≤ own4 l := by omega
        clear E x_k x_d
        go_wp2
        go_round
        case rel => exact ⟨n, k + 1, by omega, by go_num, by go_num, EH.out⟩
        case measure => simp [intOf]; omega
      · rw [hx] at E
        have EH := Lib.hid (show n + 1 + own4 (l.drop (k + 1)) = own4 l by rw [← E]; simp [Nat.add_assoc])
        have hn9 : n + 1 ≤ own4 l := by simp only [if_true] at E; omega
        clear E x_k x_d
        go_wp2
        go_round
        case rel => exact ⟨n + 1, k + 1, by omega, by go_num, by go_num, EH.out⟩
        case measure => simp [intOf]; omega
    · obtain rfl : k = l.length := by omega
      rw [List.drop_length] at E
      have EH := Lib.hid (show n = own4 l from E)
      clear E
      go_wp2
      go_ret
      exact ⟨by rw [← EH.out]; rfl, rfl⟩

def shareE (mine its n : Int) (len : Nat) : Int := if mine < 3 then 40 else if 0 < its then 42 else if 2 < n ∧ mine < 4 then 40 else if len = 8 then 3 else 0
theorem refshare_any (by_ name : ByteArray) (n : Int) (l : List Member) (v : Value) (w : World) (S : Nat → Prop) (h : Sl 2 rMember S w v l) :
    Calls Try.prog 19 #[v, .string by_, .string name, .int .i64 n] w fun e w' => e = .returned (.int .i64 (shareE (ofOf l by_) (ofOf l name) n l.length)) ∧ w = w' := by
  have c1 := refof_any by_ l v w S h
  have c2 := refof_any name l v w S h
  generalize ofOf l by_ = m at c1 ⊢
  generalize ofOf l name = t at c2 ⊢
  obtain ⟨A, c, rfl, hl, hc, hn, hs⟩ := h
  unfold maxLen at hc
  clear hs
  go_enter Try.func19, Try.ntmps19
  go_wp2_with fail
  refine Calls.mono c1 ?_
  rintro e w1 ⟨rfl, rfl⟩
  go_wp2_with (go_at_call 14; refine Calls.mono c2 ?_; rintro e w1 ⟨rfl, rfl⟩)
  all_goals
    go_ret
    exact ⟨ret_int (by unfold shareE; simp_all; try omega), rfl⟩

def changeE (mine its n : Int) (own : Nat) : Int := if mine < 3 then 40 else if its = 0 then 35 else if mine < 4 ∧ (2 < n ∨ 2 < its) then 40 else if its = 4 ∧ n < 4 ∧ own = 1 then 46 else 0
theorem refchange_any (by_ name : ByteArray) (n : Int) (l : List Member) (v : Value) (w : World) (S : Nat → Prop) (h : Sl 2 rMember S w v l) :
    Calls Try.prog 20 #[v, .string by_, .string name, .int .i64 n] w fun e w' => e = .returned (.int .i64 (changeE (ofOf l by_) (ofOf l name) n (own4 l))) ∧ w = w' := by
  have c1 := refof_any by_ l v w S h
  have c2 := refof_any name l v w S h
  have c3 := refowners_any l v w S h
  have hle := own4_le l
  generalize ofOf l by_ = m at c1 ⊢
  generalize ofOf l name = t at c2 ⊢
  generalize own4 l = q at c3 hle ⊢
  obtain ⟨A, c, rfl, hl, hc, hn, hs⟩ := h
  unfold maxLen at hc
  clear hs
  go_enter Try.func20, Try.ntmps20
  go_wp2_with fail
  refine Calls.mono c1 ?_
  rintro e w1 ⟨rfl, rfl⟩
  go_wp2_with fail
  refine Calls.mono c2 ?_
  rintro e w1 ⟨rfl, rfl⟩
  go_wp2_with (go_at_call 24; refine Calls.mono c3 ?_; rintro e w1 ⟨rfl, rfl⟩)
  all_goals
    go_ret
    exact ⟨ret_int (by unfold changeE; simp_all; try omega), rfl⟩

def revokeE (same : Bool) (mine its : Int) (own : Nat) : Int := if same = false ∧ mine < 3 then 40 else if its = 0 then 35 else if same = false ∧ 2 < its ∧ mine < 4 then 40 else if its = 4 ∧ own = 1 then 46 else 0
theorem refrevoke_any (by_ name : ByteArray) (l : List Member) (v : Value) (w : World) (S : Nat → Prop) (h : Sl 2 rMember S w v l) :
    Calls Try.prog 16 #[v, .string by_, .string name] w fun e w' => e = .returned (.int .i64 (revokeE (eqS by_ name) (ofOf l by_) (ofOf l name) (own4 l))) ∧ w = w' := by
  have c1 := refof_any by_ l v w S h
  have c2 := refof_any name l v w S h
  have c3 := refowners_any l v w S h
  have hle := own4_le l
  generalize ofOf l by_ = m at c1 ⊢
  generalize ofOf l name = t at c2 ⊢
  generalize own4 l = q at c3 hle ⊢
  obtain ⟨A, c, rfl, hl, hc, hn, hs⟩ := h
  unfold maxLen at hc
  clear hs
  unfold eqS
  cases he : (by_.toList == name.toList)
  all_goals
    go_enter Try.func16, Try.ntmps16
    go_wp2_with fail
    refine Calls.mono c1 ?_
    rintro e w1 ⟨rfl, rfl⟩
    go_wp2_with fail
    refine Calls.mono c2 ?_
    rintro e w1 ⟨rfl, rfl⟩
    go_wp2_with (go_at_call 24; refine Calls.mono c3 ?_; rintro e w1 ⟨rfl, rfl⟩)
    all_goals
      go_ret
      exact ⟨ret_int (by unfold revokeE; simp_all; try omega), rfl⟩
end Go.Proofs.Ytanhholjfkofoaa
