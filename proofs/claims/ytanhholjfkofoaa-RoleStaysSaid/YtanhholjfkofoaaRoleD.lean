/- Layer role: the document's Right, With and Same. Conditions: none but that lists and texts are within a row's reach. -/
import Derived.Test.YtanhholjfkofoaaRoleC
import Derived.Laws.StructEq
namespace Go.Proofs.Ytanhholjfkofoaa
open Go.RowKit Go.Deep

def lessAll (n : ByteArray) : List Member → Bool
  | [] => true
  | m :: r => if ltS m.name n then lessAll n r else false
def refAll : List Member → List Member → Bool
  | _, [] => true
  | b, m :: r => if nameOk m.name then (if isOf m.role then (if lessAll m.name b then refAll (b ++ [m]) r else false) else false) else false
def refRight (l : List Member) : Bool := decide (l.length ≤ 8) && (!(own4 l == 0) && refAll [] l)
theorem refname_b (s : ByteArray) (hs : s.size ≤ 140737488355328) (r : Bool) (h : nameOk s = r) (w : World) : Calls Try.prog 15 #[.string s] w fun e w' => e = .returned (.bool r) ∧ w' = w :=
  (refname_any s hs w).mono fun e w' h' => ⟨by rw [h'.1, h], h'.2.symm⟩
theorem isOf_false {n : Int} (h : isOf n = false) : n < 1 ∨ 4 < n := by
  simp only [isOf, Bool.and_eq_false_iff, decide_eq_false_iff_not] at h
  omega
theorem isOf_true {n : Int} (h : isOf n = true) : 1 ≤ n ∧ n ≤ 4 := by
  simpa [isOf] using h
theorem drop_take_at {l : List Member} {k j : Nat} {p : Member} (h : l[j]? = some p) (hj : j < k) : (l.take k).drop j = p :: (l.take k).drop (j + 1) := by
  have h' : (l.take k)[j]? = some p := by rw [List.getElem?_take, if_pos hj, h]
  obtain ⟨hl, he⟩ := List.getElem?_eq_some_iff.1 h'
  rw [List.drop_eq_getElem_cons hl, he]

set_option maxHeartbeats 2000000 in
theorem refright_any (l : List Member) (v : Value) (w : World) (S : Nat → Prop) (h : Sl 2 rMember S w v l) :
    Calls Try.prog 8 #[v] w fun e w' => e = .returned (.bool (refRight l)) ∧ Below w.heap.size w w' := by
  have c3 := refowners_any l v w S h
  have hle := own4_le l
  obtain ⟨A, c, rfl, hl, hc, hn, hs⟩ := h
  unfold maxLen at hc
  cases h8 : decide (l.length ≤ 8)
  · have F := Lib.hid (show refRight l = false by rw [refRight, h8]; rfl)
    have h8' : ¬ l.length ≤ 8 := of_decide_eq_false h8
    clear h8 hs
    go_enter Try.func8, Try.ntmps8
    go_wp2_with (go_at_call 24; refine Calls.mono c3 ?_; rintro e w1 ⟨rfl, rfl⟩)
    go_ret
    exact ⟨ret_bool F.out.symm, by go_grown⟩
  have h8' : l.length ≤ 8 := of_decide_eq_true h8
  cases h0 : own4 l == 0
  · have F := Lib.hid (show refRight l = refAll [] l by rw [refRight, h8, h0]; rfl)
    have h0' : ((own4 l : Int) == 0) = false := beq_eq_false_iff_ne.2 (by have := beq_eq_false_iff_ne.1 h0; omega)
    clear h8 h0
    go_enter Try.func8, Try.ntmps8
    go_wp2_with (go_at_call 24; refine Calls.mono c3 ?_; rintro e w1 ⟨rfl, rfl⟩)
    go_loopw [3] (fun i wr => ∃ k : Nat, k ≤ l.length ∧ i = .int .i64 k ∧ refAll (l.take k) (l.drop k) = refAll [] l ∧ Below w.heap.size w wr) (fun i _ => l.length - (intOf i).toNat)
    case atStart => exact ⟨0, by omega, by go_num, by simp, by go_grown⟩
    case round =>
      obtain ⟨k, hk, rfl, E, hbel⟩ := hrel
      have hz := hbel.size
      by_cases hlt : k < l.length
      · obtain ⟨wo, rfl⟩ : ∃ wo : World, wo = wr := ⟨_, rfl⟩
        obtain ⟨x, x_b, x_o, x_k, x_d, x_m, rfl, x_l, x_S, x_0, x_1, x_R, x_name_le, x_role_ok⟩ := get_Member hs hlt (kept_of hbel)
        rw [x_d, refAll] at E
        have TK : l.take (k + 1) = l.take k ++ [x] := by rw [List.take_add_one, x_k]; rfl
        rw [← TK] at E
        have E2 := Lib.hid E
        clear E x_d TK
        cases hnm : nameOk x.name
        · have EH := Lib.hid (show false = refAll [] l by rw [← E2.out, hnm]; rfl)
          have cn := refname_b x.name x_name_le false hnm
          clear E2 x_k hnm
          go_wp2_with (go_at_call 15; refine Calls.mono (cn _) ?_; rintro e w1 ⟨rfl, rfl⟩)
          go_ret
          exact ⟨ret_bool (by rw [F.out, ← EH.out]), hbel⟩
        · have cn := refname_b x.name x_name_le true hnm
          cases his : isOf x.role
          · have EH := Lib.hid (show false = refAll [] l by rw [← E2.out, hnm, his]; rfl)
            have hrole := isOf_false his
            clear E2 x_k hnm his
            go_wp2_with (go_at_call 15; refine Calls.mono (cn _) ?_; rintro e w1 ⟨rfl, rfl⟩)
            all_goals first
              | (exfalso; simp_all; omega)
              | (go_ret; exact ⟨ret_bool (by rw [F.out, ← EH.out]), hbel⟩)
          · obtain ⟨hr1, hr2⟩ := isOf_true his
            have hr1' : decide (x.role < 1) = false := decide_eq_false (by omega)
            have hr2' : decide (x.role > 4) = false := decide_eq_false (by omega)
            go_wp2_with (go_at_call 15; refine Calls.mono (cn _) ?_; rintro e w1 ⟨rfl, rfl⟩)
            go_loopw [4] (fun i wr => ∃ j : Nat, j ≤ k ∧ i = .int .i64 j ∧ lessAll x.name ((l.take k).drop j) = lessAll x.name (l.take k) ∧ Below w.heap.size w wr) (fun i _ => k - (intOf i).toNat)
            case atStart => exact ⟨0, by omega, by go_num, by simp, hbel⟩
            case round =>
              obtain ⟨j, hj, rfl, EI, hbel2⟩ := hrel
              have hz2 := hbel2.size
              clear x_0 x_1
              by_cases hlt2 : j < k
              · have hjl : j < l.length := by omega
                have x_0 : wr.cell? ⟨x_b, x_o + k * 2, none⟩ = some (.string x.name) := by
                  obtain ⟨b, o, ys, hA, _, _, hcc, hRR⟩ := hs k x x_k
                  obtain ⟨rfl, _⟩ := open_Member hRR
                  simp only [Option.some.injEq, Addr.mk.injEq, and_true] at hA
                  obtain ⟨rfl, rfl⟩ := hA
                  exact (hbel2.cell (p := ⟨x_b, x_o + k * 2, none⟩) x_l).trans (hcc 0 _ rfl)
                obtain ⟨p, p_b, p_o, p_k, p_d, p_m, p_e, p_l, p_S, p_0, p_1, p_R, p_name_le, p_role_ok⟩ := get_Member hs hjl (kept_of hbel2)
                simp only [Option.some.injEq, Addr.mk.injEq, and_true] at p_e
                obtain ⟨rfl, rfl⟩ := p_e
                rw [drop_take_at p_k hlt2, lessAll] at EI
                cases hlt3 : ltS p.name x.name
                · rw [hlt3] at EI
                  have EH := Lib.hid (show false = refAll [] l by rw [← E2.out, hnm, his, ← EI]; rfl)
                  have h2 : Op.bytesLess p.name.toList x.name.toList = false := hlt3
                  clear E2 EI x_k p_k p_d hnm his hlt3
                  go_wp2_with fail
                  go_quiet (fail)
                  go_wp2
                  go_ret
                  exact ⟨ret_bool (by rw [F.out, ← EH.out]), below_drewN hbel2 _⟩
                · rw [hlt3] at EI
                  have EH := Lib.hid (show lessAll x.name ((l.take k).drop (j + 1)) = lessAll x.name (l.take k) from EI)
                  have h2 : Op.bytesLess p.name.toList x.name.toList = true := hlt3
                  clear EI x_k p_k p_d hnm his hlt3
                  go_wp2_with fail
                  go_quiet (fail)
                  go_wp2
                  go_roundw
                  case rel => exact ⟨j + 1, by omega, by go_num, EH.out, below_drewN hbel2 _⟩
                  case measure => simp [intOf]; omega
              · obtain rfl : j = k := by omega
                rw [List.drop_of_length_le (by simp; omega)] at EI
                have EH := Lib.hid (show refAll (l.take (j + 1)) (l.drop (j + 1)) = refAll [] l by rw [← E2.out, hnm, his, ← EI]; rfl)
                clear EI E2 x_k hnm his
                go_wp2
                go_roundw
                case rel => exact ⟨j + 1, by omega, by go_num, EH.out, hbel2⟩
                case measure => simp [intOf]; omega
      · obtain rfl : k = l.length := by omega
        rw [List.drop_length] at E
        have EH := Lib.hid (show true = refAll [] l by rw [← E]; cases l.take l.length <;> rfl)
        clear E
        go_wp2
        go_ret
        exact ⟨ret_bool (by rw [F.out, ← EH.out]), hbel⟩
  · have F := Lib.hid (show refRight l = false by rw [refRight, h8, h0]; rfl)
    have h0' : own4 l = 0 := beq_iff_eq.1 h0
    rw [h0'] at c3
    clear h8 hs h0
    go_enter Try.func8, Try.ntmps8
    go_wp2_with (go_at_call 24; refine Calls.mono c3 ?_; rintro e w1 ⟨rfl, rfl⟩)
    go_ret
    exact ⟨ret_bool F.out.symm, by go_grown⟩

theorem rMember_mk {S : Nat → Prop} {w : World} {name : ByteArray} {role : Int} (h : name.size ≤ 140737488355328) (k : I64 role) : rMember S w [.string name, .int .i64 role] ⟨name, role⟩ := ⟨rfl, h, k⟩
/-! With: the list in which a name has a role. -/
def leS (a b : ByteArray) : Bool := ltS a b || eqS a b
def withR (name : ByteArray) (role : Int) : Bool → List Member → List Member
  | d, [] => if d then [] else [⟨name, role⟩]
  | d, m :: r => (if !d && leS name m.name then [⟨name, role⟩] else []) ++ ((if eqS m.name name then [] else [m]) ++ withR name role (d || leS name m.name) r)
def withOf (l : List Member) (name : ByteArray) (role : Int) : List Member := withR name role (role == 0) l

set_option maxHeartbeats 4000000 in
theorem refwith_any (l : List Member) (name : ByteArray) (role : Int) (hname : name.size ≤ 140737488355328) (hrole : I64 role) (v : Value) (w : World) (S : Nat → Prop) (h : Sl 2 rMember S w v l) (hl0 : l.length ≤ 1000000) :
    Calls Try.prog 18 #[v, .string name, .int .i64 role] w fun e w' => (∃ v', e = .returned v' ∧ Sl 2 rMember (fun _ => True) w' v' (withOf l name role)) ∧ Below w.heap.size w w' := by
  obtain ⟨iMember, hiMember, hzMember, h1Member, h2Member⟩ := info_parts (show (Try.prog.info? 44).map (fun i => (i.zero, i.size, i.bytes)) = some (some (.agg #[.string ⟨#[]⟩, .int .i64 0]), 2, 24) from by kernel_rfl)
  obtain ⟨A, c, rfl, hl, hc, hn, hs⟩ := h
  unfold maxLen at hc
  go_enter Try.func18, Try.ntmps18
  go_wp2
  go_loopw [7, 8, 9] (fun s d i wr => ∃ (k : Nat) (v : Value) (dn : Bool) (o : List Member), k ≤ l.length ∧ i = .int .i64 k ∧ v = s ∧ d = .bool dn ∧ o.length ≤ 2 * k ∧ o ++ withR name role dn (l.drop k) = withOf l name role ∧ Grow 44 2 rMember (fun _ => False) wr w.heap.size v o ∧ Below w.heap.size w wr) (fun _ _ i _ => l.length - (intOf i).toNat)
  case atStart => exact ⟨0, _, (role == 0), [], by omega, by go_num, rfl, rfl, by simp, by simp [withOf], Grow.nil, by go_grown⟩
  case round =>
    obtain ⟨k, v, dn, o, hk, rfl, rfl, rfl, hol, E, hg, hbel⟩ := hrel
    have hz := hbel.size
    have hgb := hg.base_le
    by_cases hlt : k < l.length
    · obtain ⟨wo, rfl⟩ : ∃ wo : World, wo = wr := ⟨_, rfl⟩
      obtain ⟨x, x_b, x_o, x_k, x_d, x_m, rfl, x_l, x_S, x_0, x_1, x_R, x_name_le, x_role_ok⟩ := get_Member hs hlt (kept_of hbel)
      rw [x_d, withR] at E
      have E2 := Lib.hid E
      clear x_k x_d E
      cases dn
      · cases hle : leS name x.name
        · have h2 : (Op.bytesLess name.toList x.name.toList || name.toList == x.name.toList) = false := hle
          cases heq : eqS x.name name
          · have h3 : (x.name.toList == name.toList) = false := heq
            have EH := Lib.hid (show (o ++ [x]) ++ withR name role false (l.drop (k + 1)) = withOf l name role by rw [← E2.out, hle, heq]; simp)
            clear E2 hle heq
            go_wp2_with (at_builtin; go_loud (refine wpList_grow1 (R := rMember) _ _ rfl (.tmp 42) (.tmp 47) 22 rfl 44 iMember _ 2 24 Try.underlying22 hiMember hzMember h1Member h2Member rfl (by decide) rMember_ok w.heap.size (by go_size) _ _ rfl hg _ _ rfl (by simp only [World.size_alloc, World.size_setCell, World.size_drew]) _ (by intro b hb; exact hb.elim) ⟨rfl, x_name_le, x_role_ok⟩ (by omega) (by decide) ?_); intro v1 w1 g1 gg1 go1; obtain ⟨A1, n1, c1, rfl, hn1⟩ := g1.shape'; clear hn1)
            go_roundw
            case rel => exact ⟨k + 1, _, false, _, by omega, by go_num, rfl, rfl, by simp; omega, EH.out, g1, Below.grown hbel gg1 (by omega) fun b hb => (hgb b hb).1⟩
            case measure => simp [intOf]; omega
          · have h3 : (x.name.toList == name.toList) = true := heq
            have EH := Lib.hid (show o ++ withR name role false (l.drop (k + 1)) = withOf l name role by rw [← E2.out, hle, heq]; simp)
            clear E2 hle heq
            go_wp2
            go_roundw
            case rel => exact ⟨k + 1, _, false, _, by omega, by go_num, rfl, rfl, by omega, EH.out, hg, hbel⟩
            case measure => simp [intOf]; omega
        · have h2 : (Op.bytesLess name.toList x.name.toList || name.toList == x.name.toList) = true := hle
          cases heq : eqS x.name name
          · have h3 : (x.name.toList == name.toList) = false := heq
            have EH := Lib.hid (show (o ++ [⟨name, role⟩] ++ [x]) ++ withR name role true (l.drop (k + 1)) = withOf l name role by rw [← E2.out, hle, heq]; simp)
            clear E2 hle heq
            go_wp2_with (first
              | (at_builtin; go_loud (refine wpList_grow1 (R := rMember) _ _ rfl (.tmp 29) (.tmp 33) 22 rfl 44 iMember _ 2 24 Try.underlying22 hiMember hzMember h1Member h2Member rfl (by decide) rMember_ok w.heap.size (by go_size) _ _ rfl hg _ _ rfl (by simp only [World.size_alloc, World.size_setCell, World.size_drew]) _ (by intro b hb; exact hb.elim) (rMember_mk hname hrole) (by omega) (by decide) ?_); intro v1 w1 g1 gg1 go1; obtain ⟨A1, n1, c1, rfl, hn1⟩ := g1.shape'; clear hn1; go_loud (have z1 := gg1.size; have hgb1 := g1.base_le; have B1 : Below w.heap.size w w1 := Below.grown hbel gg1 (by omega) fun b hb => (hgb b hb).1; obtain ⟨hc1, hf1⟩ : (∀ b o, b < w.heap.size → w1.cell? ⟨b, o, none⟩ = w.cell? ⟨b, o, none⟩) ∧ (∀ b o, b < w.heap.size → w1.frozen? ⟨b, o, none⟩ = w.frozen? ⟨b, o, none⟩) := bcell B1; obtain ⟨hc0, hf0⟩ := bcell hbel; have x_01 := (hc1 x_b (x_o + k * 2) x_l).trans ((hc0 x_b (x_o + k * 2) x_l).symm.trans x_0); have x_11 := (hc1 x_b (x_o + k * 2 + 1) x_l).trans ((hc0 x_b (x_o + k * 2 + 1) x_l).symm.trans x_1); clear hc1 hf1 hc0 hf0))
              | (at_builtin; go_loud (refine wpList_grow1 (R := rMember) _ _ rfl (.tmp 42) (.tmp 47) 22 rfl 44 iMember _ 2 24 Try.underlying22 hiMember hzMember h1Member h2Member rfl (by decide) rMember_ok w.heap.size (by omega) _ _ rfl g1 _ _ rfl (by simp only [World.size_alloc, World.size_setCell, World.size_drew]) _ (by intro b hb; exact hb.elim) ⟨rfl, x_name_le, x_role_ok⟩ (by simp; omega) (by decide) ?_); intro v2 w2 g2 gg2 go2; obtain ⟨A2, n2, c2, rfl, hn2⟩ := g2.shape'; clear hn2))
            go_roundw
            case rel => exact ⟨k + 1, _, true, _, by omega, by go_num, rfl, rfl, by simp; omega, EH.out, g2, Below.grown B1 gg2 (by omega) fun b hb => (hgb1 b hb).1⟩
            case measure => simp [intOf]; omega
          · have h3 : (x.name.toList == name.toList) = true := heq
            have EH := Lib.hid (show (o ++ [⟨name, role⟩]) ++ withR name role true (l.drop (k + 1)) = withOf l name role by rw [← E2.out, hle, heq]; simp)
            clear E2 hle heq
            go_wp2_with (first
              | (at_builtin; go_loud (refine wpList_grow1 (R := rMember) _ _ rfl (.tmp 29) (.tmp 33) 22 rfl 44 iMember _ 2 24 Try.underlying22 hiMember hzMember h1Member h2Member rfl (by decide) rMember_ok w.heap.size (by go_size) _ _ rfl hg _ _ rfl (by simp only [World.size_alloc, World.size_setCell, World.size_drew]) _ (by intro b hb; exact hb.elim) (rMember_mk hname hrole) (by omega) (by decide) ?_); intro v1 w1 g1 gg1 go1; obtain ⟨A1, n1, c1, rfl, hn1⟩ := g1.shape'; clear hn1; go_loud (have z1 := gg1.size; have hgb1 := g1.base_le; have B1 : Below w.heap.size w w1 := Below.grown hbel gg1 (by omega) fun b hb => (hgb b hb).1; obtain ⟨hc1, hf1⟩ : (∀ b o, b < w.heap.size → w1.cell? ⟨b, o, none⟩ = w.cell? ⟨b, o, none⟩) ∧ (∀ b o, b < w.heap.size → w1.frozen? ⟨b, o, none⟩ = w.frozen? ⟨b, o, none⟩) := bcell B1; obtain ⟨hc0, hf0⟩ := bcell hbel; have x_01 := (hc1 x_b (x_o + k * 2) x_l).trans ((hc0 x_b (x_o + k * 2) x_l).symm.trans x_0); have x_11 := (hc1 x_b (x_o + k * 2 + 1) x_l).trans ((hc0 x_b (x_o + k * 2 + 1) x_l).symm.trans x_1); clear hc1 hf1 hc0 hf0)))
            go_roundw
            case rel => exact ⟨k + 1, _, true, _, by omega, by go_num, rfl, rfl, by simp; omega, EH.out, g1, B1⟩
            case measure => simp [intOf]; omega
      · cases heq : eqS x.name name
        · have h3 : (x.name.toList == name.toList) = false := heq
          have EH := Lib.hid (show (o ++ [x]) ++ withR name role true (l.drop (k + 1)) = withOf l name role by rw [← E2.out, heq]; simp)
          clear E2 heq
          go_wp2_with (at_builtin; go_loud (refine wpList_grow1 (R := rMember) _ _ rfl (.tmp 42) (.tmp 47) 22 rfl 44 iMember _ 2 24 Try.underlying22 hiMember hzMember h1Member h2Member rfl (by decide) rMember_ok w.heap.size (by go_size) _ _ rfl hg _ _ rfl (by simp only [World.size_alloc, World.size_setCell, World.size_drew]) _ (by intro b hb; exact hb.elim) ⟨rfl, x_name_le, x_role_ok⟩ (by omega) (by decide) ?_); intro v1 w1 g1 gg1 go1; obtain ⟨A1, n1, c1, rfl, hn1⟩ := g1.shape'; clear hn1)
          go_roundw
          case rel => exact ⟨k + 1, _, true, _, by omega, by go_num, rfl, rfl, by simp; omega, EH.out, g1, Below.grown hbel gg1 (by omega) fun b hb => (hgb b hb).1⟩
          case measure => simp [intOf]; omega
        · have h3 : (x.name.toList == name.toList) = true := heq
          have EH := Lib.hid (show o ++ withR name role true (l.drop (k + 1)) = withOf l name role by rw [← E2.out, heq]; simp)
          clear E2 heq
          go_wp2
          go_roundw
          case rel => exact ⟨k + 1, _, true, _, by omega, by go_num, rfl, rfl, by omega, EH.out, hg, hbel⟩
          case measure => simp [intOf]; omega
    · obtain rfl : k = l.length := by omega
      rw [List.drop_length, withR] at E
      cases dn
      · have EH := Lib.hid (show o ++ [⟨name, role⟩] = withOf l name role from E)
        clear E
        go_wp2_with (at_builtin; go_loud (refine wpList_grow1 (R := rMember) _ _ rfl (.tmp 51) (.tmp 55) 22 rfl 44 iMember _ 2 24 Try.underlying22 hiMember hzMember h1Member h2Member rfl (by decide) rMember_ok w.heap.size (by go_size) _ _ rfl hg _ _ rfl (by simp only [World.size_alloc, World.size_setCell, World.size_drew]) _ (by intro b hb; exact hb.elim) (rMember_mk hname hrole) (by omega) (by decide) ?_); intro v1 w1 g1 gg1 go1; obtain ⟨A1, n1, c1, rfl, hn1⟩ := g1.shape'; clear hn1)
        go_ret
        exact ⟨⟨_, rfl, by rw [← EH.out]; exact g1.sl rMember_ok (fun _ _ _ => trivial) (fun _ _ => trivial)⟩, Below.grown hbel gg1 (by omega) fun b hb => (hgb b hb).1⟩
      · have EH := Lib.hid (show o = withOf l name role by rw [← E]; simp)
        clear E
        go_wp2
        go_ret
        exact ⟨⟨_, rfl, by rw [← EH.out]; exact hg.sl rMember_ok (fun _ _ _ => trivial) (fun _ _ => trivial)⟩, hbel⟩

/-! Same. -/
def eqM (a b : Member) : Bool := eqS a.name b.name && a.role == b.role
def sameAll : List Member → List Member → Bool
  | [], _ => true
  | _ :: _, [] => true
  | a :: l, b :: r => if eqM a b then sameAll l r else false
def sameOf (l r : List Member) : Bool := if l.length == r.length then sameAll l r else false
theorem refsame_any (l r : List Member) (v u : Value) (w : World) (S S' : Nat → Prop) (h : Sl 2 rMember S w v l) (k : Sl 2 rMember S' w u r) :
    Calls Try.prog 17 #[v, u] w fun e w' => e = .returned (.bool (sameOf l r)) ∧ Below w.heap.size w w' := by
  obtain ⟨A, c, rfl, hl, hc, hn, hs⟩ := h
  obtain ⟨A', c', rfl, hl', hc', hn', hs'⟩ := k
  unfold maxLen at hc hc'
  cases hlen : l.length == r.length
  · have F := Lib.hid (show sameOf l r = false by rw [sameOf, hlen]; rfl)
    have hlen' : ((l.length : Int) == (r.length : Int)) = false := beq_eq_false_iff_ne.2 (by have := beq_eq_false_iff_ne.1 hlen; omega)
    clear hs hs' hlen
    go_enter Try.func17, Try.ntmps17
    go_wp2
    go_ret
    exact ⟨ret_bool F.out.symm, by go_grown⟩
  · have F := Lib.hid (show sameOf l r = sameAll l r by rw [sameOf, hlen]; rfl)
    have hlen0 : l.length = r.length := beq_iff_eq.1 hlen
    have hlen' : ((l.length : Int) == (r.length : Int)) = true := beq_iff_eq.2 (by omega)
    clear hlen
    go_enter Try.func17, Try.ntmps17
    go_wp2
    go_loopw [5] (fun i wr => ∃ k : Nat, k ≤ l.length ∧ i = .int .i64 k ∧ sameAll (l.drop k) (r.drop k) = sameAll l r ∧ Below w.heap.size w wr) (fun i _ => l.length - (intOf i).toNat)
    case atStart => exact ⟨0, by omega, by go_num, by simp, by go_grown⟩
    case round =>
      obtain ⟨k, hk, rfl, E, hbel⟩ := hrel
      have hz := hbel.size
      by_cases hlt : k < l.length
      · obtain ⟨x, x_b, x_o, x_k, x_d, x_m, rfl, x_l, x_S, x_0, x_1, x_R, x_name_le, x_role_ok⟩ := get_Member hs hlt (kept_of hbel)
        obtain ⟨y, y_b, y_o, y_k, y_d, y_m, rfl, y_l, y_S, y_0, y_1, y_R, y_name_le, y_role_ok⟩ := get_Member hs' (show k < r.length by omega) (kept_of hbel)
        rw [x_d, y_d, sameAll] at E
        have E2 := Lib.hid E
        clear x_k x_d y_k y_d E
        have eg : Try.prog.eqGuardType Try.prog.depth 44 = false := by kernel_rfl
        have sh : Try.prog.stoodInHeld 44 = false := by kernel_rfl
        have uf := Try.underlying44
        cases hn2 : (x.name.toList == y.name.toList)
        · have EH := Lib.hid (show false = sameAll l r by rw [← E2.out]; unfold eqM eqS; rw [hn2]; rfl)
          clear E2
          go_wp2_with fail
          go_quiet (fail)
          go_wp2
          go_ret
          exact ⟨ret_bool (by rw [F.out, ← EH.out]), below_drewN hbel _⟩
        · cases hr2 : (x.role == y.role)
          · have EH := Lib.hid (show false = sameAll l r by rw [← E2.out]; unfold eqM eqS; rw [hn2, hr2]; rfl)
            clear E2
            go_wp2_with fail
            go_quiet (fail)
            go_wp2
            go_ret
            exact ⟨ret_bool (by rw [F.out, ← EH.out]), below_drewN hbel _⟩
          · have EH := Lib.hid (show sameAll (l.drop (k + 1)) (r.drop (k + 1)) = sameAll l r by rw [← E2.out]; unfold eqM eqS; rw [hn2, hr2]; rfl)
            clear E2
            go_wp2_with fail
            go_quiet (fail)
            go_wp2
            go_roundw
            case rel => exact ⟨k + 1, by omega, by go_num, EH.out, below_drewN hbel _⟩
            case measure => simp [intOf]; omega
      · obtain rfl : k = l.length := by omega
        rw [List.drop_length] at E
        have EH := Lib.hid (show true = sameAll l r by rw [← E]; rfl)
        clear E
        go_wp2
        go_ret
        exact ⟨ret_bool (by rw [F.out, ← EH.out]), hbel⟩
end Go.Proofs.Ytanhholjfkofoaa
