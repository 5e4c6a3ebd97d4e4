/- Layer mail: Len, Room, Move, First; Ints. Condition: the state. -/
import Derived.Test.YtgecoannpbghjaaOps
import Derived.LaidEql
namespace Go.Proofs.Ytgecoannpbghjaa
open Go.RowKit Go.Deep Go.Conc

theorem run_equalIn_ptr {P : Program} (w : World) (d : Nat) (t e : TypeId) (a b : Addr) (r : Bool) (n : Nat) (h : P.underlying t = some (.pointer e)) (hs : ∀ w, (Go.sizeOf e).run P w = .ok n w) (hn : n ≠ 0) (hr : (sameAddr a b).run P w = .ok r w) : (Op.equalIn (d + 1) t (.pointer (some a)) (.pointer (some b))).run P w = .ok r w := by
  simp [Op.equalIn, run_underlying h, hs, hn, hr]
theorem run_equal_ptr {P : Program} (w : World) (t e : TypeId) (a b : Addr) (r : Bool) (n : Nat) (h : P.underlying t = some (.pointer e)) (hs : ∀ w, (Go.sizeOf e).run P w = .ok n w) (hn : n ≠ 0) (hr : (sameAddr a b).run P w = .ok r w) : (Op.equal t (.pointer (some a)) (.pointer (some b))).run P w = .ok r w := run_equalIn_ptr w 9999 t e a b r n h hs hn hr
theorem run_eql_box (w : World) (a b : Addr) (r : Bool) (hr : (sameAddr a b).run Try.prog w = .ok r w) : (binOp .eql 39 (.pointer (some a)) (.pointer (some b))).run Try.prog w = .ok (.bool r) w := by
  simp only [binOp]
  simp [run_equal_ptr w _ _ a b r _ Try.underlying39 Try.sizeOf58 (by decide) hr]
section
variable {w0 w : World} {pb pw : Nat} {D : Option (Nat × Obj)} {ab : List Ab} {a b : Nat} {x y : Ab}
theorem st_len (h : St w0 pb pw D w ab) (hx : ab[a]? = some x) : Calls Try.prog 15 #[.pointer (some ⟨x.b, 0, none⟩)] w fun e w' => e = .returned (.int .i64 x.lm.length) ∧ w' = w := by
  obtain ⟨c, hb, _⟩ := h.box hx
  exact lenI_any hb
theorem st_room (h : St w0 pb pw D w ab) (hx : ab[a]? = some x) (h9 : x.room ≤ 9) : Calls Try.prog 14 #[.pointer (some ⟨x.b, 0, none⟩)] w fun e w' => e = .returned (.int .i64 ((x.room : Int) - (x.lm.length : Int))) ∧ St w0 pb pw D w' ab := by
  obtain ⟨c, hb, _⟩ := h.box hx
  refine (roomI_any hb (by omega)).mono ?_
  rintro e w' ⟨rfl, q, rfl⟩
  exact ⟨rfl, h.turn (below_drewN2 (Below.refl _ _) q)⟩
theorem St.le (h : St w0 pb pw D w ab) (hx : ab[a]? = some x) : x.lm.length ≤ x.room ∧ x.lr.length ≤ x.room ∧ x.room ≤ 9 := by
  obtain ⟨c, hb, v, hr, _⟩ := h.box hx
  exact ⟨hb.2.2.1, hr.2.2.2.1, hr.2.2.2.2⟩
theorem St.ne (h : St w0 pb pw D w ab) (hab : a ≠ b) (hx : ab[a]? = some x) (hy : ab[b]? = some y) : x.b ≠ y.b := by
  obtain ⟨xs, rfl, h⟩ := h
  rw [List.getElem?_map] at hx hy
  obtain ⟨x', hx', rfl⟩ := Option.map_eq_some_iff.1 hx
  obtain ⟨y', hy', rfl⟩ := Option.map_eq_some_iff.1 hy
  intro e
  exact h.apart a b x' y' hab hx' hy' x'.b (.inl rfl) (.inl e)
theorem St.r64 (h : St w0 pb pw D w ab) (hx : ab[a]? = some x) : (∀ n ∈ x.lm, I64 n) ∧ (∀ n ∈ x.lr, I64 n) := by
  obtain ⟨c, hb, v, hr, h1, h2, _⟩ := h.box hx
  exact ⟨h1, h2⟩

/-- k numbers moved from a to b. -/
def mvM (ab : List Ab) (a b : Nat) (x y : Ab) (k : Nat) : List Ab := (ab.set a { x with lm := x.lm.drop k }).set b { y with lm := y.lm ++ x.lm.take k }
def mvN (x y room : Nat) : Nat := min x (room - y)
theorem set_get {α : Type} {ab : List α} {a : Nat} {x z : α} (hx : ab[a]? = some x) : (ab.set a z)[a]? = some z := by
  rw [List.getElem?_set, if_pos rfl, if_pos (List.getElem?_eq_some_iff.1 hx).1]
theorem set_get_ne {α : Type} {ab : List α} {a b : Nat} {z : α} (h : a ≠ b) : (ab.set a z)[b]? = ab[b]? := by
  rw [List.getElem?_set, if_neg h]
theorem mvM_a (hab : a ≠ b) (hx : ab[a]? = some x) (k : Nat) : (mvM ab a b x y k)[a]? = some { x with lm := x.lm.drop k } := by
  unfold mvM
  rw [set_get_ne hab.symm, set_get hx]
theorem mvM_b (hab : a ≠ b) (hy : ab[b]? = some y) (k : Nat) : (mvM ab a b x y k)[b]? = some { y with lm := y.lm ++ x.lm.take k } := by
  unfold mvM
  rw [set_get (x := y)]
  rw [set_get_ne hab]
  exact hy
theorem mvM_step (hab : a ≠ b) (k : Nat) (l1 l2 : List Int) : ((mvM ab a b x y k).set a { x with lm := l1 }).set b { y with lm := l2 } = (ab.set a { x with lm := l1 }).set b { y with lm := l2 } := by
  unfold mvM
  apply List.ext_getElem?
  intro i
  simp only [List.getElem?_set, List.length_set]
  by_cases h1 : b = i
  · subst h1; simp
  · by_cases h2 : a = i
    · subst h2; simp [h1]
    · simp [h1, h2]

set_option maxHeartbeats 2000000 in
theorem st_move (h : St w0 pb pw D w ab) (hab : a ≠ b) (hx : ab[a]? = some x) (hy : ab[b]? = some y) :
    Calls Try.prog 26 #[.pointer (some ⟨x.b, 0, none⟩), .pointer (some ⟨y.b, 0, none⟩)] w fun e w' => e = .returned (.int .i64 (mvN x.lm.length y.lm.length y.room)) ∧ St w0 pb pw D w' (mvM ab a b x y (mvN x.lm.length y.lm.length y.room)) := by
  have hne := h.ne hab hx hy
  obtain ⟨c1, hb1, _⟩ := h.box hx
  obtain ⟨c2, hb2, _⟩ := h.box hy
  have hsm := run_eql_box w ⟨x.b, 0, none⟩ ⟨y.b, 0, none⟩ false (run_sameAddr_other _ (fun e => hne (congrArg Addr.block e)) hb1.2.1 hb2.2.1)
  clear hb1 hb2
  obtain ⟨hlx, _, hr9x⟩ := h.le hx
  obtain ⟨hly, _, hr9y⟩ := h.le hy
  obtain ⟨m64, _⟩ := h.r64 hx
  obtain ⟨n, hn⟩ : ∃ n, n = mvN x.lm.length y.lm.length y.room := ⟨_, rfl⟩
  have hn1 : n ≤ x.lm.length ∧ n + y.lm.length ≤ y.room ∧ (n = x.lm.length ∨ n + y.lm.length = y.room) := by rw [hn]; unfold mvN; omega
  rw [← hn]
  clear hn
  have H0 := Lib.hid (show St w0 pb pw D w (mvM ab a b x y 0) by
    have : mvM ab a b x y 0 = ab := by
      unfold mvM
      rw [List.drop_zero, List.take_zero, List.append_nil]
      rw [set_self hx, set_self hy]
    rw [this]; exact h)
  clear h
  go_enter Try.func26, Try.ntmps26
  go_wp2
  go_loopw [5] (fun s wr => ∃ (k : Nat), k ≤ n ∧ s = .int .i64 k ∧ Hid (St w0 pb pw D wr (mvM ab a b x y k))) (fun s _ => x.lm.length - (intOf s).toNat)
  case atStart => exact ⟨0, by omega, by go_num, H0⟩
  case round =>
    obtain ⟨k, hk, rfl, X⟩ := hrel
    have cr := st_room X.out (mvM_b hab hy k) hr9y
    dsimp only at cr
    rw [show ((y.lm ++ x.lm.take k).length : Int) = (y.lm.length : Int) + (k : Int) by rw [List.length_append, List.length_take, Nat.min_eq_left (by omega)]; omega] at cr
    by_cases hfull : k + y.lm.length = y.room
    · have hkn : k = n := by omega
      subst hkn
      have hd : decide (0 < (y.room : Int) - ((y.lm.length : Int) + (k : Int))) = false := decide_eq_false (by omega)
      go_wp2_with (go_at_call 14; refine Calls.mono cr ?_; rintro e w1 ⟨rfl, X1⟩; have XX := Lib.hid X1; clear X1)
      all_goals first
        | (go_ret; exact ⟨rfl, XX.out⟩)
        | (exfalso; simp_all; omega)
    · have hd : decide (0 < (y.room : Int) - ((y.lm.length : Int) + (k : Int))) = true := decide_eq_true (by omega)
      go_wp2_with (go_at_call 14; refine Calls.mono cr ?_; rintro e w1 ⟨rfl, X1⟩; have XX := Lib.hid X1; clear X1)
      have ct := st_take XX.out (mvM_a hab hx k)
      dsimp only at ct
      by_cases hkx : k = x.lm.length
      · have hkn : k = n := by omega
        have HK := Lib.hid hkn
        rw [List.drop_of_length_le (by omega), List.tail_nil] at ct
        have e1 : (mvM ab a b x y k).set a { x with lm := [] } = mvM ab a b x y k := by
          have := mvM_a (y := y) hab hx k
          rw [List.drop_of_length_le (by omega)] at this
          exact set_self this
        rw [e1] at ct
        subst hkn
        clear e1 cr hkx HK
        go_wp2_with (go_at_call 24; refine Calls.mono ct ?_; rintro e w2 ⟨rfl, X2⟩; have XY := Lib.hid X2; clear X2)
        go_ret
        exact ⟨rfl, XY.out⟩
      · obtain ⟨z, hz⟩ : ∃ z, x.lm[k]? = some z := ⟨_, List.getElem?_eq_getElem (by omega)⟩
        have hd2 : x.lm.drop k = z :: x.lm.drop (k + 1) := by
          obtain ⟨h1, h2⟩ := List.getElem?_eq_some_iff.1 hz
          rw [List.drop_eq_getElem_cons h1, h2]
        rw [hd2, List.tail_cons] at ct
        have hz64 := m64 z (List.mem_of_getElem? hz)
        have HT := Lib.hid (show x.lm.take (k + 1) = x.lm.take k ++ [z] by rw [List.take_add_one, hz]; rfl)
        clear hd2 hz cr
        go_wp2_with (go_at_call 24; refine Calls.mono ct ?_; rintro e w2 ⟨rfl, X2⟩; have XY := Lib.hid X2; clear X2)
        have hyb : ((mvM ab a b x y k).set a { x with lm := x.lm.drop (k + 1) })[b]? = some { y with lm := y.lm ++ x.lm.take k } := by
          rw [set_get_ne hab]
          exact mvM_b hab hy k
        have cp := st_put XY.out hyb z hz64
        dsimp only at cp
        have e2 : putL y.room (y.lm ++ x.lm.take k) z = y.lm ++ x.lm.take (k + 1) := by
          unfold putL
          rw [if_pos (by rw [List.length_append, List.length_take]; omega), HT.out, List.append_assoc]
        rw [e2, mvM_step hab] at cp
        clear ct e2 hyb
        go_wp2_with (go_at_call 19; refine Calls.mono cp ?_; rintro e w3 ⟨rfl, X3⟩; have XZ := Lib.hid X3; clear X3)
        go_roundw
        case rel => exact ⟨k + 1, by omega, by go_num, XZ⟩
        case measure => simp [intOf]; omega
theorem move_same (p : Nat) (w : World) : Calls Try.prog 26 #[.pointer (some ⟨p, 0, none⟩), .pointer (some ⟨p, 0, none⟩)] w fun e w' => e = .returned (.int .i64 0) ∧ w' = w := by
  have hsm := run_eql_box w ⟨p, 0, none⟩ ⟨p, 0, none⟩ true (run_sameAddr_same _ _)
  go_enter Try.func26, Try.ntmps26
  go_wp2
  go_ret
  exact ⟨rfl, rfl⟩
end
end Go.Proofs.Ytgecoannpbghjaa
