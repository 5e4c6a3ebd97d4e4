/- Layer mail: what is done to the boxes, to the document's too. Condition: the state. -/
import Derived.Test.YtgecoannpbghjaaFirst
import Derived.Test.YtgecoannpbghjaaIDo
import Derived.Deep.CutRange
import Derived.Deep.RegionHeld3
namespace Go.Proofs.Ytgecoannpbghjaa
open Go.RowKit Go.Deep Go.Conc

def Even (ab : List Ab) : Prop := ∀ (i : Nat) (x : Ab), ab[i]? = some x → x.lm = x.lr
theorem Even.set {ab : List Ab} (h : Even ab) {a : Nat} {z : Ab} (hz : z.lm = z.lr) : Even (ab.set a z) := by
  intro i x hx
  rw [List.getElem?_set] at hx
  split at hx
  · split at hx
    · cases hx; exact hz
    · cases hx
  · exact h i x hx
/-- What a call of 'one' leaves. -/
def After (w0 : World) (pb pw : Nat) (w : World) : Prop := ∃ ab, St w0 pb pw none w ab ∧ ab.length = 3 ∧ Even ab

section
variable {ab : List Ab} {a b : Nat} {x y : Ab}
def mvR (ab : List Ab) (a b : Nat) (x y : Ab) (k : Nat) : List Ab := (ab.set a { x with lr := x.lr.drop k }).set b { y with lr := y.lr ++ x.lr.take k }
theorem mvR_a (hab : a ≠ b) (hx : ab[a]? = some x) (k : Nat) : (mvR ab a b x y k)[a]? = some { x with lr := x.lr.drop k } := by
  unfold mvR
  rw [set_get_ne hab.symm, set_get hx]
theorem mvR_b (hab : a ≠ b) (hy : ab[b]? = some y) (k : Nat) : (mvR ab a b x y k)[b]? = some { y with lr := y.lr ++ x.lr.take k } := by
  unfold mvR
  rw [set_get (x := y)]
  rw [set_get_ne hab]
  exact hy
theorem mvR_step (hab : a ≠ b) (k : Nat) (l1 l2 : List Int) : ((mvR ab a b x y k).set a { x with lr := l1 }).set b { y with lr := l2 } = (ab.set a { x with lr := l1 }).set b { y with lr := l2 } := by
  unfold mvR
  apply List.ext_getElem?
  intro i
  simp only [List.getElem?_set, List.length_set]
  by_cases h1 : b = i
  · subst h1; simp
  · by_cases h2 : a = i
    · subst h2; simp [h1]
    · simp [h1, h2]

theorem even_move (he : Even ab) (hab : a ≠ b) {u v u' v' : Ab} (hu : u'.lm = u'.lr) (hv : v'.lm = v'.lr) : Even ((((ab.set a u).set b v).set a u').set b v') := by
  intro i z hz
  simp only [List.getElem?_set, List.length_set] at hz
  by_cases h1 : b = i
  · subst h1
    by_cases h3 : b < ab.length
    · simp [h3] at hz; subst hz; exact hv
    · simp [h3] at hz
  · by_cases h2 : a = i
    · subst h2
      by_cases h3 : a < ab.length
      · simp [h1, h3] at hz; subst hz; exact hu
      · simp [h1, h3] at hz
    · simp [h1, h2] at hz
      exact he i z hz
end
section
variable {w0 w : World} {pb pw : Nat} {ab : List Ab}
theorem place_q (n : Int) (w : World) (k : Nat) (hk : k = placeOf n) : Calls Try.prog 22 #[.int .i64 n] w fun e w' => e = .returned (.int .i64 (k : Nat)) ∧ w' = w := by
  subst hk; exact place_any n w

set_option maxRecDepth 100000 in
set_option maxHeartbeats 8000000 in
theorem one_put (h : St w0 pb pw none w ab) (h3 : ab.length = 3) (he : Even ab) (d : IDo) (hv : I64 d.v) (cb cw : Nat) (hcb : 3 ≤ cb) (hcw : 3 ≤ cw) (hk1 : (d.kind == 1) = true) :
    Calls Try.prog 16 #[.slice (some ⟨pb, 0, none⟩) 3 cb, .slice (some ⟨pw, 0, none⟩) 3 cw, .agg #[.int .i64 d.kind, .int .i64 d.a, .int .i64 d.b, .int .i64 d.v]] w fun e w' => e = .returned (.bool true) ∧ After w0 pb pw w' := by
  have HD := h.add (.cells #[.int .i64 d.kind, .int .i64 d.a, .int .i64 d.b, .int .i64 d.v] 47)
  obtain ⟨y0, hy0, cy0, fy0, By0, qy0⟩ := boxed w #[.int .i64 d.kind, .int .i64 d.a, .int .i64 d.b, .int .i64 d.v] 47
  rw [hy0] at HD
  have y0_0 := cy0 0 _ rfl
  have y0_1 := cy0 1 _ rfl
  have y0_2 := cy0 2 _ rfl
  have y0_3 := cy0 3 _ rfl
  obtain ⟨a, ha⟩ : ∃ a, a = placeOf d.a := ⟨_, rfl⟩
  obtain ⟨b, hb⟩ : ∃ b, b = placeOf d.b := ⟨_, rfl⟩
  have ha3 : a < 3 := by rw [ha]; exact placeOf_lt _
  have hb3 : b < 3 := by rw [hb]; exact placeOf_lt _
  have ia0 : (0 : Int) ≤ (a : Int) := by omega
  have ia3 : (a : Int) < 3 := by omega
  have ib0 : (0 : Int) ≤ (b : Int) := by omega
  have ib3 : (b : Int) < 3 := by omega
  have pa := fun W => place_q d.a W a ha
  have pb' := fun W => place_q d.b W b hb
  obtain ⟨x, hx⟩ : ∃ x, ab[a]? = some x := ⟨_, List.getElem?_eq_getElem (by omega)⟩
  have hxe := Lib.hid (he a x hx)
  clear cy0 h ha hb
  go_enter Try.func16, Try.ntmps16
  go_wp2_with fail
  go_quiet (first | (go_at_call_of 22 d.a; refine Calls.quiet_of_same (pa _)) | (go_at_call_of 22 d.b; refine Calls.quiet_of_same (pb' _)))
  have H1 := HD.turn (below_drewN2 (Below.refl _ y0) nq)
  obtain ⟨W1, hW1⟩ : ∃ W, W = y0.drewN nq := ⟨_, rfl⟩
  have q0 : W1.cell? ⟨w.heap.size, 0, none⟩ = some (.int .i64 d.kind) := by rw [hW1]; exact y0_0
  have q3 : W1.cell? ⟨w.heap.size, 3, none⟩ = some (.int .i64 d.v) := by rw [hW1]; exact y0_3
  rw [← hW1] at H1 ⊢
  obtain ⟨q1, q2⟩ := H1.at hx
  have K1 := Lib.hid H1
  clear hW1 y0_0 y0_1 y0_2 y0_3 HD H1
  have hbo : decide (x.lr.length < x.room) = decide (x.lm.length < x.room) := by rw [hxe.out]
  go_upto_region 4 with fail
  go_region_held3 (fun W => W.cell? ⟨pb, a, none⟩ = some (.pointer (some ⟨x.b, 0, none⟩)) ∧ W.cell? ⟨pw, a, none⟩ = some (.pointer (some ⟨x.r, 0, none⟩)) ∧ W.cell? ⟨w.heap.size, 3, none⟩ = some (.int .i64 d.v)) (first | exact ⟨s1, s2, s3⟩ | exact ⟨r1, r2, r3⟩ | exact ⟨q1, q2, q3⟩) (first
    | (go_at_call 19; refine Calls.mono (st_put (K1.out.turn ((Below.refl _ _).drew)) hx d.v hv) ?_; rintro e W2 ⟨rfl, X2⟩; have K2 := Lib.hid X2; obtain ⟨r1, r2⟩ := X2.at (set_get hx); have r3 : W2.cell? ⟨w.heap.size, 3, none⟩ = some (.int .i64 d.v) := (cell_of_row W2 w.heap.size 3 _ _ (0, 0) X2.fix).trans rfl; clear X2)
    | (go_at_call 23; have c2 := st_rput K2.out (set_get hx) d.v hv; dsimp only at c2; rw [hbo] at c2; refine Calls.mono c2 ?_; rintro e W3 ⟨rfl, X3⟩; have K3 := Lib.hid X3; obtain ⟨s1, s2⟩ := X3.at (set_get (set_get hx)); have s3 : W3.cell? ⟨w.heap.size, 3, none⟩ = some (.int .i64 d.v) := (cell_of_row W3 w.heap.size 3 _ _ (0, 0) X3.fix).trans rfl; clear X3))
  go_wp2
  go_ret
  refine ⟨by simp, _, K3.out.drop, by simp [h3], ?_⟩
  rw [List.set_set]
  exact he.set (by show putL x.room x.lm d.v = putL x.room x.lr d.v; rw [hxe.out])

set_option maxRecDepth 100000 in
set_option maxHeartbeats 8000000 in
theorem one_take (h : St w0 pb pw none w ab) (h3 : ab.length = 3) (he : Even ab) (d : IDo) (hv : I64 d.v) (cb cw : Nat) (hcb : 3 ≤ cb) (hcw : 3 ≤ cw) (hk1 : (d.kind == 1) = false) (hk2 : (d.kind == 2) = true) :
    Calls Try.prog 16 #[.slice (some ⟨pb, 0, none⟩) 3 cb, .slice (some ⟨pw, 0, none⟩) 3 cw, .agg #[.int .i64 d.kind, .int .i64 d.a, .int .i64 d.b, .int .i64 d.v]] w fun e w' => e = .returned (.bool true) ∧ After w0 pb pw w' := by
  have HD := h.add (.cells #[.int .i64 d.kind, .int .i64 d.a, .int .i64 d.b, .int .i64 d.v] 47)
  obtain ⟨y0, hy0, cy0, fy0, By0, qy0⟩ := boxed w #[.int .i64 d.kind, .int .i64 d.a, .int .i64 d.b, .int .i64 d.v] 47
  rw [hy0] at HD
  have y0_0 := cy0 0 _ rfl
  have y0_1 := cy0 1 _ rfl
  have y0_2 := cy0 2 _ rfl
  have y0_3 := cy0 3 _ rfl
  obtain ⟨a, ha⟩ : ∃ a, a = placeOf d.a := ⟨_, rfl⟩
  obtain ⟨b, hb⟩ : ∃ b, b = placeOf d.b := ⟨_, rfl⟩
  have ha3 : a < 3 := by rw [ha]; exact placeOf_lt _
  have hb3 : b < 3 := by rw [hb]; exact placeOf_lt _
  have ia0 : (0 : Int) ≤ (a : Int) := by omega
  have ia3 : (a : Int) < 3 := by omega
  have ib0 : (0 : Int) ≤ (b : Int) := by omega
  have ib3 : (b : Int) < 3 := by omega
  have pa := fun W => place_q d.a W a ha
  have pb' := fun W => place_q d.b W b hb
  obtain ⟨x, hx⟩ : ∃ x, ab[a]? = some x := ⟨_, List.getElem?_eq_getElem (by omega)⟩
  have hxe := Lib.hid (he a x hx)
  clear cy0 h ha hb
  go_enter Try.func16, Try.ntmps16
  go_wp2_with fail
  go_quiet (first | (go_at_call_of 22 d.a; refine Calls.quiet_of_same (pa _)) | (go_at_call_of 22 d.b; refine Calls.quiet_of_same (pb' _)))
  have H1 := HD.turn (below_drewN2 (Below.refl _ y0) nq)
  obtain ⟨W1, hW1⟩ : ∃ W, W = y0.drewN nq := ⟨_, rfl⟩
  have q0 : W1.cell? ⟨w.heap.size, 0, none⟩ = some (.int .i64 d.kind) := by rw [hW1]; exact y0_0
  have q3 : W1.cell? ⟨w.heap.size, 3, none⟩ = some (.int .i64 d.v) := by rw [hW1]; exact y0_3
  rw [← hW1] at H1 ⊢
  obtain ⟨q1, q2⟩ := H1.at hx
  have K1 := Lib.hid H1
  clear hW1 y0_0 y0_1 y0_2 y0_3 HD H1
  have c1 := st_take K1.out hx
  obtain ⟨hd, HH⟩ : ∃ q, Hid (q = x.lm.headD 0) := ⟨_, rfl⟩
  obtain ⟨bo, HB⟩ : ∃ q, Hid (q = !x.lm.isEmpty) := ⟨_, rfl⟩
  rw [← HH.out, ← HB.out] at c1
  go_wp2_with (first
    | (go_at_call 24; refine Calls.mono c1 ?_; rintro e W2 ⟨rfl, X2⟩; have K2 := Lib.hid X2; obtain ⟨r1, r2⟩ := X2.at (set_get hx); clear X2)
    | (go_at_call 25; have c2 := st_rtake K2.out (set_get hx); dsimp only at c2; rw [← hxe.out, ← HH.out, ← HB.out] at c2; refine Calls.mono c2 ?_; rintro e W3 ⟨rfl, X3⟩; have K3 := Lib.hid X3; clear X3))
  go_ret
  refine ⟨by simp, _, K3.out.drop, by simp [h3], ?_⟩
  rw [List.set_set]
  exact he.set rfl

set_option maxRecDepth 100000 in
set_option maxHeartbeats 8000000 in
theorem one_move (h : St w0 pb pw none w ab) (h3 : ab.length = 3) (he : Even ab) (d : IDo) (hv : I64 d.v) (cb cw : Nat) (hcb : 3 ≤ cb) (hcw : 3 ≤ cw) (hk1 : (d.kind == 1) = false) (hk2 : (d.kind == 2) = false) (hk3 : (d.kind == 3) = true) :
    Calls Try.prog 16 #[.slice (some ⟨pb, 0, none⟩) 3 cb, .slice (some ⟨pw, 0, none⟩) 3 cw, .agg #[.int .i64 d.kind, .int .i64 d.a, .int .i64 d.b, .int .i64 d.v]] w fun e w' => e = .returned (.bool true) ∧ After w0 pb pw w' := by
  have HD := h.add (.cells #[.int .i64 d.kind, .int .i64 d.a, .int .i64 d.b, .int .i64 d.v] 47)
  obtain ⟨y0, hy0, cy0, fy0, By0, qy0⟩ := boxed w #[.int .i64 d.kind, .int .i64 d.a, .int .i64 d.b, .int .i64 d.v] 47
  rw [hy0] at HD
  have y0_0 := cy0 0 _ rfl
  have y0_1 := cy0 1 _ rfl
  have y0_2 := cy0 2 _ rfl
  have y0_3 := cy0 3 _ rfl
  obtain ⟨a, ha⟩ : ∃ a, a = placeOf d.a := ⟨_, rfl⟩
  obtain ⟨b, hb⟩ : ∃ b, b = placeOf d.b := ⟨_, rfl⟩
  have ha3 : a < 3 := by rw [ha]; exact placeOf_lt _
  have hb3 : b < 3 := by rw [hb]; exact placeOf_lt _
  have ia0 : (0 : Int) ≤ (a : Int) := by omega
  have ia3 : (a : Int) < 3 := by omega
  have ib0 : (0 : Int) ≤ (b : Int) := by omega
  have ib3 : (b : Int) < 3 := by omega
  have pa := fun W => place_q d.a W a ha
  have pb' := fun W => place_q d.b W b hb
  obtain ⟨x, hx⟩ : ∃ x, ab[a]? = some x := ⟨_, List.getElem?_eq_getElem (by omega)⟩
  have hxe := Lib.hid (he a x hx)
  clear cy0 h ha hb
  go_enter Try.func16, Try.ntmps16
  go_wp2_with fail
  go_quiet (first | (go_at_call_of 22 d.a; refine Calls.quiet_of_same (pa _)) | (go_at_call_of 22 d.b; refine Calls.quiet_of_same (pb' _)))
  have H1 := HD.turn (below_drewN2 (Below.refl _ y0) nq)
  obtain ⟨W1, hW1⟩ : ∃ W, W = y0.drewN nq := ⟨_, rfl⟩
  have q0 : W1.cell? ⟨w.heap.size, 0, none⟩ = some (.int .i64 d.kind) := by rw [hW1]; exact y0_0
  have q3 : W1.cell? ⟨w.heap.size, 3, none⟩ = some (.int .i64 d.v) := by rw [hW1]; exact y0_3
  rw [← hW1] at H1 ⊢
  obtain ⟨q1, q2⟩ := H1.at hx
  have K1 := Lib.hid H1
  clear hW1 y0_0 y0_1 y0_2 y0_3 HD H1
  by_cases hab : a = b
  · subst hab
    have cm := fun W => move_same x.b W
    go_upto_region 10 with fail
    go_wp2_with fail
    refine wp_loop_rounds 1 ?_
    rw [rounds_succ]
    go_wp2_with fail
    go_quiet (fail)
    go_wp2_with fail
    have KM := Lib.hid (K1.out.turn (below_drewN2 (Below.refl _ _) nq))
    obtain ⟨W2, hW2⟩ : ∃ W, W = W1.drewN nq := ⟨_, rfl⟩
    have u1 : W2.cell? ⟨pb, a, none⟩ = some (.pointer (some ⟨x.b, 0, none⟩)) := by rw [hW2]; exact q1
    rw [← hW2] at KM ⊢
    clear hW2
    go_quiet (first | (go_at_call 26; refine Calls.quiet_of_same (cm _)))
    go_wp2
    go_ret
    exact ⟨rfl, _, (KM.out.turn (below_drewN2 (Below.refl _ _) _)).drop, h3, he⟩
  · obtain ⟨y, hy⟩ : ∃ y, ab[b]? = some y := ⟨_, List.getElem?_eq_getElem (by omega)⟩
    have hye := Lib.hid (he b y hy)
    have hab0 : ((a : Int) == (b : Int)) = false := beq_eq_false_iff_ne.2 (by omega)
    have hab1 : ((a : Int) != (b : Int)) = true := bne_iff_ne.2 (by omega)
    have hab2 : (a == b) = false := beq_eq_false_iff_ne.2 hab
    have hab3 : (a != b) = true := bne_iff_ne.2 hab
    obtain ⟨_, hlx, hx9⟩ := K1.out.le hx
    obtain ⟨_, hly, hy9⟩ := K1.out.le hy
    obtain ⟨_, r64⟩ := K1.out.r64 hx
    obtain ⟨n, hn⟩ : ∃ n, n = mvN x.lr.length y.lr.length y.room := ⟨_, rfl⟩
    have NN := Lib.hid (show n = mvN x.lm.length y.lm.length y.room by rw [hxe.out, hye.out]; exact hn)
    have hn1 : n ≤ x.lr.length ∧ n + y.lr.length ≤ y.room ∧ (n = x.lr.length ∨ n + y.lr.length = y.room) := by rw [hn]; unfold mvN; omega
    clear hn
    have H0 := Lib.hid (show St w0 pb pw _ W1 (mvR ab a b x y 0) by
      have : mvR ab a b x y 0 = ab := by
        unfold mvR
        rw [List.drop_zero, List.take_zero, List.append_nil]
        rw [set_self hx, set_self hy]
      rw [this]; exact K1.out)
    go_upto_region 10 with fail
    go_wp2_with fail
    go_loopw [13] (fun s wr => ∃ (k : Nat), k ≤ n ∧ s = .int .i64 k ∧ Hid (St w0 pb pw (some (w.heap.size, .cells #[.int .i64 d.kind, .int .i64 d.a, .int .i64 d.b, .int .i64 d.v] 47)) wr (mvR ab a b x y k))) (fun s _ => x.lr.length - (intOf s).toNat)
    case atStart => exact ⟨0, by omega, by go_num, H0⟩
    case round =>
      clear H0 q1 q2 q0 q3
      obtain ⟨k, hk, rfl, X⟩ := hrel
      obtain ⟨wz, rfl⟩ : ∃ wz : World, wz = wr := ⟨_, rfl⟩
      obtain ⟨ga1, ga2⟩ := X.out.at (mvR_a (y := y) hab hx k)
      obtain ⟨gb1, gb2⟩ := X.out.at (mvR_b (x := x) hab hy k)
      dsimp only at ga1 ga2 gb1 gb2
      obtain ⟨_, _, vv, hr, _⟩ := X.out.box (mvR_b (x := x) hab hy k)
      dsimp only at hr
      obtain ⟨Av, cv, hv'⟩ := hr.2.1.shape
      rw [show (y.lr ++ x.lr.take k).length = y.lr.length + k by rw [List.length_append, List.length_take, Nat.min_eq_left (by omega)]] at hv'
      subst hv'
      obtain ⟨cbb, _⟩ := blk_cells hr.1
      have gy0 := cbb 0 _ rfl
      have gy1 := cbb 1 _ rfl
      clear cbb hr
      by_cases hfull : k + y.lr.length = y.room
      · obtain rfl : k = n := by omega
        have hd : decide ((y.lr.length : Int) + (k : Int) < (y.room : Int)) = false := decide_eq_false (by omega)
        go_wp2_with fail
        go_quiet (fail)
        have XE := Lib.hid (X.out.turn (below_drewN2 (Below.refl _ wz) nq))
        obtain ⟨W2, hW2⟩ : ∃ W, W = wz.drewN nq := ⟨_, rfl⟩
        rw [← hW2] at XE ⊢
        clear hW2 ga1 ga2 gb1 gb2 gy0 gy1 X
        go_upto_region 16 with fail
        obtain ⟨e1, _⟩ := XE.out.at (mvR_a (y := y) hab hx k)
        obtain ⟨e2, _⟩ := XE.out.at (mvR_b (x := x) hab hy k)
        dsimp only at e1 e2
        go_region_held3 (fun W => W.cell? ⟨pb, a, none⟩ = some (.pointer (some ⟨x.b, 0, none⟩)) ∧ W.cell? ⟨pb, b, none⟩ = some (.pointer (some ⟨y.b, 0, none⟩))) (first | exact ⟨f1, f2⟩ | exact ⟨e1, e2⟩) (first
          | (go_at_call 26; have cm := st_move (XE.out.turn ((Below.refl _ _).drew)) hab (mvR_a (y := y) hab hx k) (mvR_b (x := x) hab hy k); dsimp only at cm; rw [← NN.out] at cm; refine Calls.mono cm ?_; rintro e W9 ⟨rfl, X9⟩; have KF := Lib.hid X9; obtain ⟨f1, _⟩ := X9.at (mvM_a hab (mvR_a (y := y) hab hx k) k); obtain ⟨f2, _⟩ := X9.at (mvM_b hab (mvR_b (x := x) hab hy k) k); dsimp only at f1 f2; clear X9))
        go_wp2
        go_ret
        refine ⟨by simp, _, KF.out.drop, by simp [mvM, mvR, h3], even_move he hab ?_ ?_⟩
        · show x.lm.drop k = x.lr.drop k
          rw [hxe.out]
        · show y.lm ++ x.lm.take k = y.lr ++ x.lr.take k
          rw [hxe.out, hye.out]
      · have hd : decide ((y.lr.length : Int) + (k : Int) < (y.room : Int)) = true := decide_eq_true (by omega)
        go_wp2_with fail
        go_quiet (fail)
        have XQ := Lib.hid (X.out.turn (below_drewN2 (Below.refl _ wz) nq))
        obtain ⟨W2, hW2⟩ : ∃ W, W = wz.drewN nq := ⟨_, rfl⟩
        have ha2 : W2.cell? ⟨pw, a, none⟩ = some (.pointer (some ⟨x.r, 0, none⟩)) := by rw [hW2]; exact ga2
        rw [← hW2] at XQ ⊢
        clear hW2 ga1 ga2 gb1 gb2 gy0 gy1 X
        have ct := st_rtake XQ.out (mvR_a (y := y) hab hx k)
        dsimp only at ct
        by_cases hkx : k = x.lr.length
        · obtain rfl : k = n := by omega
          rw [List.drop_of_length_le (by omega), List.tail_nil] at ct
          have e1 : (mvR ab a b x y k).set a { x with lr := [] } = mvR ab a b x y k := by
            have := mvR_a (y := y) hab hx k
            rw [List.drop_of_length_le (by omega)] at this
            exact set_self this
          rw [e1] at ct
          clear e1 hkx
          go_wp2_with (go_at_call 25; refine Calls.mono ct ?_; rintro e W3 ⟨rfl, X3⟩; have XE := Lib.hid X3; clear X3)
          obtain ⟨e1, _⟩ := XE.out.at (mvR_a (y := y) hab hx k)
          obtain ⟨e2, _⟩ := XE.out.at (mvR_b (x := x) hab hy k)
          dsimp only at e1 e2
          go_region_held3 (fun W => W.cell? ⟨pb, a, none⟩ = some (.pointer (some ⟨x.b, 0, none⟩)) ∧ W.cell? ⟨pb, b, none⟩ = some (.pointer (some ⟨y.b, 0, none⟩))) (first | exact ⟨f1, f2⟩ | exact ⟨e1, e2⟩) (first
            | (go_at_call 26; have cm := st_move (XE.out.turn ((Below.refl _ _).drew)) hab (mvR_a (y := y) hab hx k) (mvR_b (x := x) hab hy k); dsimp only at cm; rw [← NN.out] at cm; refine Calls.mono cm ?_; rintro e W9 ⟨rfl, X9⟩; have KF := Lib.hid X9; obtain ⟨f1, _⟩ := X9.at (mvM_a hab (mvR_a (y := y) hab hx k) k); obtain ⟨f2, _⟩ := X9.at (mvM_b hab (mvR_b (x := x) hab hy k) k); dsimp only at f1 f2; clear X9))
          go_wp2
          go_ret
          refine ⟨by simp, _, KF.out.drop, by simp [mvM, mvR, h3], even_move he hab ?_ ?_⟩
          · show x.lm.drop k = x.lr.drop k
            rw [hxe.out]
          · show y.lm ++ x.lm.take k = y.lr ++ x.lr.take k
            rw [hxe.out, hye.out]
        · obtain ⟨z, hz⟩ : ∃ z, x.lr[k]? = some z := ⟨_, List.getElem?_eq_getElem (by omega)⟩
          have hd2 : x.lr.drop k = z :: x.lr.drop (k + 1) := by
            obtain ⟨h1, h2⟩ := List.getElem?_eq_some_iff.1 hz
            rw [List.drop_eq_getElem_cons h1, h2]
          rw [hd2, List.tail_cons] at ct
          have hz64 := r64 z (List.mem_of_getElem? hz)
          have HT := Lib.hid (show x.lr.take (k + 1) = x.lr.take k ++ [z] by rw [List.take_add_one, hz]; rfl)
          clear hd2 hz
          have hyb : ((mvR ab a b x y k).set a { x with lr := x.lr.drop (k + 1) })[b]? = some { y with lr := y.lr ++ x.lr.take k } := by
            rw [set_get_ne hab]
            exact mvR_b hab hy k
          have e2 : putL y.room (y.lr ++ x.lr.take k) z = y.lr ++ x.lr.take (k + 1) := by
            unfold putL
            rw [if_pos (by rw [List.length_append, List.length_take]; omega), HT.out, List.append_assoc]
          go_wp2_with (first
            | (go_at_call 25; refine Calls.mono ct ?_; rintro e W3 ⟨rfl, X3⟩; have X4 := Lib.hid X3; obtain ⟨gc1, gc2⟩ := X3.at hyb; clear X3)
            | (go_at_call 23; have cp := st_rput X4.out hyb z hz64; dsimp only at cp; rw [e2, mvR_step hab] at cp; refine Calls.mono cp ?_; rintro e W4 ⟨rfl, X5⟩; have X6 := Lib.hid X5; clear X5))
          go_roundw
          case rel => exact ⟨k + 1, by omega, by go_num, X6⟩
          case measure => simp [intOf]; omega

end
end Go.Proofs.Ytgecoannpbghjaa
