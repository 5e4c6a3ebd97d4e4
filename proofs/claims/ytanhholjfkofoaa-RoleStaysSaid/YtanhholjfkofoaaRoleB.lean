/- Layer role: who has at least a role, the owners, and whether a list is right. Conditions: none but that lists and texts are within a row's reach. -/
import Derived.Test.YtanhholjfkofoaaRoleA
import Derived.Test.YtanhholjfkofoaaBlk
import Derived.Deep.RegionHeld3
import Derived.Deep.QuietTactic
import Derived.BigQuiet
import Derived.Lib.Strings
namespace Go.Proofs.Ytanhholjfkofoaa
open Go.RowKit Go.Deep

def withAt (l : List Member) (least : Int) : List ByteArray := (l.filter fun m => decide (least ≤ m.role)).map (·.name)
def ownersOf (l : List Member) : Nat := (withAt l 4).length
theorem withAt_cons (m : Member) (l : List Member) (least : Int) : withAt (m :: l) least = if least ≤ m.role then m.name :: withAt l least else withAt l least := by
  unfold withAt
  rw [List.filter_cons]
  by_cases h : least ≤ m.role <;> simp [h]
theorem withAt_take {l : List Member} {k : Nat} {m : Member} (h : l[k]? = some m) (least : Int) : withAt (l.take (k + 1)) least = withAt (l.take k) least ++ if least ≤ m.role then [m.name] else [] := by
  rw [List.take_add_one, h]
  unfold withAt
  rw [List.filter_append, List.map_append]
  congr 1
  by_cases h : least ≤ m.role <;> simp [h]
theorem withAt_len (l : List Member) (least : Int) : (withAt l least).length ≤ l.length := by
  unfold withAt
  rw [List.length_map]
  exact List.length_filter_le _ _

set_option maxHeartbeats 1000000 in
theorem with_any (l : List Member) (least : Int) (v : Value) (w : World) (S : Nat → Prop) (h : Sl 2 rMember S w v l) (hl0 : l.length ≤ 1000000) :
    Calls Try.prog 23 #[v, .int .i64 least] w fun e w' => (∃ v', e = .returned v' ∧ Sl 1 rStr (fun _ => True) w' v' (withAt l least)) ∧ Below w.heap.size w w' := by
  obtain ⟨istring, histring, hzstring, h1string, h2string⟩ := info_parts (show (Try.prog.info? 9).map (fun i => (i.zero, i.size, i.bytes)) = some (some (.string ⟨#[]⟩), 1, 16) from by kernel_rfl)
  obtain ⟨A, c, rfl, hl, hc, hn, hs⟩ := h
  unfold maxLen at hc
  go_enter Try.func23, Try.ntmps23
  go_wp2
  go_loopw [5, 10] (fun s i wr => ∃ (k : Nat) (v : Value), k ≤ l.length ∧ i = .int .i64 k ∧ v = s ∧ Grow 9 1 rStr (fun _ => False) wr w.heap.size v (withAt (l.take k) least) ∧ Below w.heap.size w wr) (fun _ i _ => l.length - (intOf i).toNat)
  case atStart => exact ⟨0, _, by omega, by go_num, rfl, Grow.nil, by go_grown⟩
  case round =>
    obtain ⟨k, v, hk, rfl, rfl, hg, hbel⟩ := hrel
    have hz := hbel.size
    have hgb := hg.base_le
    by_cases hlt : k < l.length
    · obtain ⟨wo, rfl⟩ : ∃ wo : World, wo = wr := ⟨_, rfl⟩
      obtain ⟨x, x_b, x_o, x_k, x_d, x_m, rfl, x_l, x_S, x_0, x_1, x_R, x_name_le, x_role_ok⟩ := get_Member hs hlt (kept_of hbel)
      obtain ⟨y0, hy0, cy0, fzy0, By0, qy0⟩ := boxed wo #[.string x.name, .int .i64 x.role] 44
      have y0_0 := cy0 0 _ rfl
      have y0_1 := cy0 1 _ rfl
      clear cy0
      have zy0 := By0.size
      have hlen : (withAt (l.take k) least).length ≤ k := Nat.le_trans (withAt_len _ _) (List.length_take_le _ _)
      by_cases hx : least ≤ x.role
      · have hxd : decide (x.role ≥ least) = true := decide_eq_true hx
        have hxd2 : decide (least ≤ x.role) = true := decide_eq_true hx
        have TK := Lib.hid (show withAt (l.take (k + 1)) least = withAt (l.take k) least ++ [x.name] by rw [withAt_take x_k, if_pos hx])
        clear x_k x_d hx
        go_wp2_with (at_builtin; go_loud (refine wpList_grow1 (R := rStr) _ _ rfl (.tmp 18) (.tmp 21) 47 rfl 9 istring _ 1 16 Try.underlying47 histring hzstring h1string h2string rfl (by decide) rStr_ok w.heap.size (by go_size) _ _ rfl (Grow.below rStr_ok hg By0) _ _ rfl (by simp only [World.size_alloc, World.size_setCell, World.size_drew]) _ (by intro b hb; exact hb.elim) ⟨rfl, x_name_le⟩ (by omega) (by decide) ?_); intro v1 w1 g1 gg1 go1; obtain ⟨A1, n1, c1, rfl, hn1⟩ := g1.shape'; clear hn1)
        go_roundw
        case rel =>
          refine ⟨k + 1, _, by omega, by go_num, rfl, by rw [TK.out]; exact g1, ?_⟩
          exact Below.grown (bel_call hbel By0) gg1 (by omega) fun b hb => (hgb b hb).1
        case measure => simp [intOf]; omega
      · have hxd : decide (x.role ≥ least) = false := decide_eq_false hx
        have hxd2 : decide (least ≤ x.role) = false := decide_eq_false hx
        have TK := Lib.hid (show withAt (l.take (k + 1)) least = withAt (l.take k) least by rw [withAt_take x_k, if_neg hx, List.append_nil])
        clear x_k x_d hx
        go_wp2
        go_roundw
        case rel => exact ⟨k + 1, v, by omega, by go_num, rfl, by rw [TK.out]; exact Grow.below rStr_ok hg By0, bel_call hbel By0⟩
        case measure => simp [intOf]; omega
    · obtain rfl : k = l.length := by omega
      rw [List.take_length] at hg
      go_wp2
      go_ret
      exact ⟨⟨_, rfl, hg.sl rStr_ok (fun _ _ _ => trivial) (fun _ _ => trivial)⟩, hbel⟩

theorem owners_any (l : List Member) (v : Value) (w : World) (S : Nat → Prop) (h : Sl 2 rMember S w v l) (hl0 : l.length ≤ 1000000) :
    Calls Try.prog 33 #[v] w fun e w' => e = .returned (.int .i64 (ownersOf l : Nat)) ∧ Below w.heap.size w w' := by
  have H := Lib.hid h
  clear h
  go_enter Try.func33, Try.ntmps33
  go_wp2_with fail
  refine Calls.mono (with_any l 4 v _ S H.out hl0) ?_
  rintro e w1 ⟨⟨v1, rfl, A1, c1, rfl, _⟩, hb1⟩
  go_wp2
  go_ret
  exact ⟨rfl, hb1⟩

def isOf (n : Int) : Bool := decide (1 ≤ n) && decide (n ≤ 4)
theorem is_any (n : Int) (w : World) : Calls Try.prog 26 #[.int .i64 n] w fun e w' => e = .returned (.bool (isOf n)) ∧ w = w' := by
  go_enter Try.func26, Try.ntmps26
  go_wp2
  all_goals
    go_ret
    exact ⟨ret_bool (by first | (simp_all [isOf]; done) | (simp_all [isOf]; omega)), rfl⟩

/-- A text is less than another one, as the run compares them. -/
def ltS (a b : ByteArray) : Bool := Op.bytesLess a.toList b.toList
def cmpOf (a b : ByteArray) : Int := if ltS a b then -1 else if ltS b a then 1 else 0
theorem less_irrefl : ∀ l : List UInt8, Op.bytesLess l l = false
  | [] => rfl
  | a :: l => by simp [Op.bytesLess, less_irrefl l]
theorem less_total : ∀ l r : List UInt8, Op.bytesLess l r = true ∨ l = r ∨ Op.bytesLess r l = true
  | [], [] => .inr (.inl rfl)
  | [], _ :: _ => .inl rfl
  | _ :: _, [] => .inr (.inr rfl)
  | a :: l, b :: r => by
    rcases Nat.lt_trichotomy a.toNat b.toNat with h | h | h
    · left; simp [Op.bytesLess, UInt8.lt_iff_toNat_lt, h]
    · obtain rfl : a = b := UInt8.toNat_inj.1 h
      rcases less_total l r with h1 | h1 | h1
      · left; simp [Op.bytesLess, h1]
      · right; left; rw [h1]
      · right; right; simp [Op.bytesLess, h1]
    · right; right; simp [Op.bytesLess, UInt8.lt_iff_toNat_lt, h]
theorem less_trans : ∀ l m r : List UInt8, Op.bytesLess l m = true → Op.bytesLess m r = true → Op.bytesLess l r = true
  | [], [], _, h, _ => by cases h
  | [], _ :: _, [], _, h => by cases h
  | [], _ :: _, _ :: _, _, _ => rfl
  | _ :: _, [], _, h, _ => by cases h
  | _ :: _, _ :: _, [], _, h => by cases h
  | a :: l, b :: m, c :: r, h, k => by
    simp only [Op.bytesLess, Bool.or_eq_true, Bool.and_eq_true, decide_eq_true_eq, beq_iff_eq, UInt8.lt_iff_toNat_lt] at h k ⊢
    rcases h with h | ⟨rfl, h⟩
    · rcases k with k | ⟨rfl, k⟩
      · left; omega
      · left; exact h
    · rcases k with k | ⟨rfl, k⟩
      · left; exact k
      · right; exact ⟨rfl, less_trans l m r h k⟩
theorem toList_inj {a b : ByteArray} (h : a.toList = b.toList) : a = b := by
  rw [Lib.toList_data, Lib.toList_data] at h
  exact ByteArray.ext (Array.toList_inj.1 h)
theorem eqS_iff {a b : ByteArray} : eqS a b = true ↔ a = b := by
  unfold eqS
  rw [beq_iff_eq]
  exact ⟨toList_inj, fun h => by rw [h]⟩
theorem eqS_false {a b : ByteArray} : eqS a b = false ↔ a ≠ b := by
  rw [← Bool.not_eq_true, eqS_iff]
theorem ltS_irrefl (a : ByteArray) : ltS a a = false := less_irrefl _
theorem ltS_trans {a b c : ByteArray} (h : ltS a b = true) (k : ltS b c = true) : ltS a c = true := less_trans _ _ _ h k
theorem ltS_total (a b : ByteArray) : ltS a b = true ∨ a = b ∨ ltS b a = true := (less_total a.toList b.toList).imp id fun h => h.imp toList_inj id
theorem ltS_asymm {a b : ByteArray} (h : ltS a b = true) : ltS b a = false := by
  cases k : ltS b a
  · rfl
  · have := ltS_trans h k
    rw [ltS_irrefl] at this
    cases this
theorem ltS_ne {a b : ByteArray} (h : ltS a b = true) : a ≠ b := fun e => by rw [e, ltS_irrefl] at h; cases h

theorem cmp_any (a b : ByteArray) (w : World) : Calls Try.prog 32 #[.string a, .string b] w fun e w' => e = .returned (.int .i64 (cmpOf a b)) ∧ w = w' := by
  rcases ltS_total a b with h | h | h
  · have F := Lib.hid (show cmpOf a b = -1 by rw [cmpOf, if_pos h])
    have h' : Op.bytesLess a.toList b.toList = true := h
    go_enter Try.func32, Try.ntmps32
    go_wp2
    all_goals
      go_ret
      exact ⟨by rw [F.out]; rfl, rfl⟩
  · subst h
    have F := Lib.hid (show cmpOf a a = 0 by rw [cmpOf, ltS_irrefl]; rfl)
    have h' : Op.bytesLess a.toList a.toList = false := less_irrefl _
    go_enter Try.func32, Try.ntmps32
    go_wp2
    all_goals
      go_ret
      exact ⟨by rw [F.out]; rfl, rfl⟩
  · have F := Lib.hid (show cmpOf a b = 1 by rw [cmpOf, ltS_asymm h, h]; rfl)
    have h' : Op.bytesLess a.toList b.toList = false := ltS_asymm h
    have h2 : (a.toList == b.toList) = false := eqS_false.2 fun e => ltS_ne h e.symm
    go_enter Try.func32, Try.ntmps32
    go_wp2
    all_goals
      go_ret
      exact ⟨by rw [F.out]; rfl, rfl⟩

/-! Is a list right? -/
def okAll : Option ByteArray → List Member → Bool
  | _, [] => true
  | p, m :: r => if nameOk m.name then (if isOf m.role then (if (match p with | none => true | some q => ltS q m.name) then okAll (some m.name) r else false) else false) else false
theorem okAll_cons (p : Option ByteArray) (m : Member) (r : List Member) : okAll p (m :: r) = if nameOk m.name then (if isOf m.role then (if (match p with | none => true | some q => ltS q m.name) then okAll (some m.name) r else false) else false) else false := by
  cases p <;> rfl
def prevOf (l : List Member) (k : Nat) : Option ByteArray := if k = 0 then none else (l[k - 1]?).map (·.name)
def rightOf (l : List Member) : Bool := okAll none l && (decide (l.length ≤ 8) && decide (0 < ownersOf l))
theorem prevOf_succ {l : List Member} {k : Nat} {x : Member} (h : l[k]? = some x) : prevOf l (k + 1) = some x.name := by
  unfold prevOf
  rw [if_neg (by omega), show k + 1 - 1 = k by omega, h]
  rfl
theorem name_b (s : ByteArray) (hs : s.size ≤ 140737488355328) (r : Bool) (h : nameOk s = r) (w : World) : Calls Try.prog 25 #[.string s] w fun e w' => e = .returned (.bool r) ∧ w' = w :=
  (name_any s hs w).mono fun e w' h' => ⟨by rw [h'.1, h], h'.2.symm⟩
theorem is_b (n : Int) (r : Bool) (h : isOf n = r) (w : World) : Calls Try.prog 26 #[.int .i64 n] w fun e w' => e = .returned (.bool r) ∧ w' = w :=
  (is_any n w).mono fun e w' h' => ⟨by rw [h'.1, h], h'.2.symm⟩

theorem below_drewN {n : Nat} {w w' : World} (h : Below n w w') : ∀ q, Below n w (w'.drewN q)
  | 0 => h
  | q + 1 => (below_drewN h q).drew
theorem held_cells {w0 : World} {b o : Nat} {v : Value} (h : w0.cell? ⟨b, o, none⟩ = some v) : ∀ W, Below w0.heap.size w0 W → W.cell? ⟨b, o, none⟩ = some v := fun _ hb => (hb.cell (p := ⟨b, o, none⟩) (cell_lt h)).trans h

set_option maxHeartbeats 2000000 in
theorem right_any (l : List Member) (v : Value) (w : World) (S : Nat → Prop) (h : Sl 2 rMember S w v l) (hl0 : l.length ≤ 1000000) :
    Calls Try.prog 12 #[v] w fun e w' => e = .returned (.bool (rightOf l)) ∧ Below w.heap.size w w' := by
  have H := Lib.hid h
  have co : ∀ W, Below w.heap.size w W → Calls Try.prog 33 #[v] W fun e w' => e = .returned (.int .i64 (ownersOf l : Nat)) ∧ Below W.heap.size W w' := fun W hb => owners_any l v W S (H.out.keep rMember_ok (by decide) (kept_of hb)) hl0
  obtain ⟨A, c, rfl, hl, hc, hn, hs⟩ := h
  unfold maxLen at hc
  go_enter Try.func12, Try.ntmps12
  go_wp2
  go_loopw [7] (fun i wr => ∃ (k : Nat), k ≤ l.length ∧ i = .int .i64 k ∧ okAll (prevOf l k) (l.drop k) = okAll none l ∧ Below w.heap.size w wr) (fun i _ => l.length - (intOf i).toNat)
  case atStart => exact ⟨0, by omega, by go_num, by simp [prevOf], by go_grown⟩
  case round =>
    obtain ⟨k, hk, rfl, E, hbel⟩ := hrel
    have hz := hbel.size
    by_cases hlt : k < l.length
    · obtain ⟨wo, rfl⟩ : ∃ wo : World, wo = wr := ⟨_, rfl⟩
      obtain ⟨x, x_b, x_o, x_k, x_d, x_m, rfl, x_l, x_S, x_0, x_1, x_R, x_name_le, x_role_ok⟩ := get_Member hs hlt (kept_of hbel)
      obtain ⟨y0, hy0, cy0, fzy0, By0, qy0⟩ := boxed wo #[.string x.name, .int .i64 x.role] 44
      have y0_0 := cy0 0 _ rfl
      have y0_1 := cy0 1 _ rfl
      clear cy0
      have zy0 := By0.size
      have k0 := held_cells y0_0
      have k1 := held_cells y0_1
      rw [x_d, okAll_cons] at E
      have E2 := Lib.hid E
      have PS := Lib.hid (prevOf_succ x_k)
      clear E x_d
      cases hnm : nameOk x.name
      · have EH := Lib.hid (show false = okAll none l by rw [← E2.out, hnm]; rfl)
        have cn := name_b x.name x_name_le false hnm
        clear E2 PS x_k hnm
        go_wp2_with fail
        go_quiet ((go_at_call 25; refine Calls.quiet_of_same (cn _)))
        go_wp2
        go_ret
        exact ⟨ret_bool (by rw [rightOf, ← EH.out]; rfl), below_drewN (bel_call hbel By0) _⟩
      · have cn := name_b x.name x_name_le true hnm
        cases his : isOf x.role
        · have EH := Lib.hid (show false = okAll none l by rw [← E2.out, hnm, his]; rfl)
          have ci := is_b x.role false his
          clear E2 PS x_k hnm his
          go_wp2_with fail
          go_quiet (first | (go_at_call 25; refine Calls.quiet_of_same (cn _)) | (go_at_call 26; refine Calls.quiet_of_same (ci _)))
          go_wp2
          go_ret
          exact ⟨ret_bool (by rw [rightOf, ← EH.out]; rfl), below_drewN (bel_call hbel By0) _⟩
        · have ci := is_b x.role true his
          rcases k with _ | j
          · have EH := Lib.hid (show okAll (prevOf l (0 + 1)) (l.drop (0 + 1)) = okAll none l by rw [← E2.out, hnm, his, PS.out]; rfl)
            clear E2 PS x_k hnm his
            simp only [Nat.zero_mul, Nat.add_zero] at x_0 x_1
            go_wp2_with fail
            go_quiet (first | (go_at_call 25; refine Calls.quiet_of_same (cn _)) | (go_at_call 26; refine Calls.quiet_of_same (ci _)))
            go_wp2
            go_roundw
            case rel => exact ⟨0 + 1, by omega, by go_num, EH.out, below_drewN (bel_call hbel By0) _⟩
            case measure => simp [intOf]; omega
          · have hjl : j < l.length := by omega
            obtain ⟨p, p_b, p_o, p_k, p_d, p_m, p_e, p_l, p_S, p_0, p_1, p_R, p_name_le, p_role_ok⟩ := get_Member hs hjl (kept_of (bel_call hbel By0))
            simp only [Option.some.injEq, Addr.mk.injEq, and_true] at p_e
            obtain ⟨rfl, rfl⟩ := p_e
            have k2 := held_cells p_0
            have PJ := prevOf_succ p_k
            have e1 : IntKind.i64.wrap (((j + 1 : Nat) : Int) - 1) = (j : Int) := by rw [IntWalk.i64_in _ (by omega)]; omega
            have e2 : IntKind.i64.wrap ((j : Int) + 1 - 1) = (j : Int) := by rw [IntWalk.i64_in _ (by omega)]; omega
            have hj0 : decide (0 < (j : Int) + 1) = true := decide_eq_true (by omega)
            cases hlt2 : ltS p.name x.name
            · have EH := Lib.hid (show false = okAll none l by rw [← E2.out, hnm, his, PJ]; simp [hlt2])
              have h2 : Op.bytesLess p.name.toList x.name.toList = false := hlt2
              clear E2 PS PJ x_k p_k p_d hnm his hlt2
              go_wp2_with fail
              go_quiet (first | (go_at_call 25; refine Calls.quiet_of_same (cn _)) | (go_at_call 26; refine Calls.quiet_of_same (ci _)))
              go_wp2
              go_ret
              exact ⟨ret_bool (by rw [rightOf, ← EH.out]; rfl), below_drewN (bel_call hbel By0) _⟩
            · have EH := Lib.hid (show okAll (prevOf l (j + 1 + 1)) (l.drop (j + 1 + 1)) = okAll none l by rw [← E2.out, hnm, his, PS.out, PJ]; simp [hlt2])
              have h2 : Op.bytesLess p.name.toList x.name.toList = true := hlt2
              clear E2 PS PJ x_k p_k p_d hnm his hlt2
              go_wp2_with fail
              go_quiet (first | (go_at_call 25; refine Calls.quiet_of_same (cn _)) | (go_at_call 26; refine Calls.quiet_of_same (ci _)))
              go_wp2
              go_roundw
              case rel => exact ⟨j + 1 + 1, by omega, by go_num, EH.out, below_drewN (bel_call hbel By0) _⟩
              case measure => simp [intOf]; omega
    · obtain rfl : k = l.length := by omega
      rw [List.drop_length] at E
      have EH := Lib.hid (show true = okAll none l by rw [← E]; rfl)
      clear E
      have co' := co _ hbel
      go_wp2_with (go_at_call 33; refine Calls.mono co' ?_; rintro e w1 ⟨rfl, hb1⟩)
      all_goals
        go_ret
        exact ⟨ret_bool (by rw [rightOf, ← EH.out]; simp; omega), by first | exact hbel | exact bel_call hbel hb1⟩
end Go.Proofs.Ytanhholjfkofoaa
