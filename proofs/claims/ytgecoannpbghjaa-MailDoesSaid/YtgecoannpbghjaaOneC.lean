/- Layer mail: what is done to the boxes: First. Condition: the state. -/
import Derived.Test.YtgecoannpbghjaaOne
namespace Go.Proofs.Ytgecoannpbghjaa
open Go.RowKit Go.Deep Go.Conc

section
variable {w0 w : World} {pb pw : Nat} {ab : List Ab}
theorem st_rnone {D : Option (Nat × Obj)} {a : Nat} {x : Ab} (h : St w0 pb pw D w ab) (hx : ab[a]? = some x) (he : x.lr = []) : Calls Try.prog 25 #[.pointer (some ⟨x.r, 0, none⟩)] w fun e w' => e = .returned (.tuple #[.int .i64 0, .bool false]) ∧ St w0 pb pw D w' ab := by
  refine (st_rtake h hx).mono ?_
  rintro e w' ⟨rfl, h'⟩
  rw [he] at h' ⊢
  refine ⟨rfl, ?_⟩
  rw [show ({ x with lr := ([] : List Int).tail } : Ab) = x by cases x; simp at he; subst he; rfl, set_self hx] at h'
  exact h'
theorem st_rsome {D : Option (Nat × Obj)} {a : Nat} {x : Ab} (h : St w0 pb pw D w ab) (hx : ab[a]? = some x) (he : x.lr ≠ []) (v : Int) (hv : v = x.lr.headD 0) : Calls Try.prog 25 #[.pointer (some ⟨x.r, 0, none⟩)] w fun e w' => e = .returned (.tuple #[.int .i64 v, .bool true]) ∧ St w0 pb pw D w' (ab.set a { x with lr := x.lr.tail }) := by
  refine (st_rtake h hx).mono ?_
  rintro e w' ⟨rfl, h'⟩
  refine ⟨?_, h'⟩
  rw [hv]
  cases hl : x.lr with
  | nil => exact absurd hl he
  | cons => rfl
theorem at_set {D : Option (Nat × Obj)} {a b : Nat} {x x' y : Ab} (h : St w0 pb pw D w (ab.set a x')) (hx : ab[a]? = some x) (hb : x'.b = x.b) (hr : x'.r = x.r) (hy : ab[b]? = some y) : w.cell? ⟨pb, b, none⟩ = some (.pointer (some ⟨y.b, 0, none⟩)) ∧ w.cell? ⟨pw, b, none⟩ = some (.pointer (some ⟨y.r, 0, none⟩)) := by
  by_cases hab : a = b
  · subst hab
    obtain rfl : x = y := Option.some.inj (hx.symm.trans hy)
    have := h.at (set_get (z := x') hx)
    rw [hb, hr] at this
    exact this
  · exact h.at ((set_get_ne hab).trans hy)
set_option maxRecDepth 100000 in
set_option maxHeartbeats 8000000 in
theorem one_first (h : St w0 pb pw none w ab) (h3 : ab.length = 3) (he : Even ab) (d : IDo) (hv : I64 d.v) (cb cw : Nat) (hcb : 3 ≤ cb) (hcw : 3 ≤ cw) (hk1 : (d.kind == 1) = false) (hk2 : (d.kind == 2) = false) (hk3 : (d.kind == 3) = false) (hk4 : (d.kind == 4) = false) :
    Calls Try.prog 16 #[.slice (some ⟨pb, 0, none⟩) 3 cb, .slice (some ⟨pw, 0, none⟩) 3 cw, .agg #[.int .i64 d.kind, .int .i64 d.a, .int .i64 d.b, .int .i64 d.v]] w fun e w' => e = .returned (.bool true) ∧ After w0 pb pw w' := by
  have HD := h.add (.cells #[.int .i64 d.kind, .int .i64 d.a, .int .i64 d.b, .int .i64 d.v] 47)
  obtain ⟨y0, hy0, cy0, fy0, By0, qy0⟩ := boxed w #[.int .i64 d.kind, .int .i64 d.a, .int .i64 d.b, .int .i64 d.v] 47
  rw [hy0] at HD
  have y0_0 := cy0 0 _ rfl
  have y0_1 := cy0 1 _ rfl
  have y0_2 := cy0 2 _ rfl
  have y0_3 := cy0 3 _ rfl
  obtain ⟨a, ha⟩ : ∃ a, a = placeOf d.a := ⟨_, rfl⟩
  obtain ⟨b, hb⟩ : ∃ b, b = placeOf d.b := ⟨_, rfl⟩
  have ha3 : a < 3 := by rw [ha]; exact placeOf_lt _
  have hb3 : b < 3 := by rw [hb]; exact placeOf_lt _
  have ia0 : (0 : Int) ≤ (a : Int) := by omega
  have ia3 : (a : Int) < 3 := by omega
  have ib0 : (0 : Int) ≤ (b : Int) := by omega
  have ib3 : (b : Int) < 3 := by omega
  have pa := fun W => place_q d.a W a ha
  have pb' := fun W => place_q d.b W b hb
  obtain ⟨x, hx⟩ : ∃ x, ab[a]? = some x := ⟨_, List.getElem?_eq_getElem (by omega)⟩
  have hxe := Lib.hid (he a x hx)
  clear cy0 h ha hb
  go_enter Try.func16, Try.ntmps16
  go_wp2_with fail
  go_quiet (first | (go_at_call_of 22 d.a; refine Calls.quiet_of_same (pa _)) | (go_at_call_of 22 d.b; refine Calls.quiet_of_same (pb' _)))
  have H1 := HD.turn (below_drewN2 (Below.refl _ y0) nq)
  obtain ⟨W1, hW1⟩ : ∃ W, W = y0.drewN nq := ⟨_, rfl⟩
  have q0 : W1.cell? ⟨w.heap.size, 0, none⟩ = some (.int .i64 d.kind) := by rw [hW1]; exact y0_0
  have q3 : W1.cell? ⟨w.heap.size, 3, none⟩ = some (.int .i64 d.v) := by rw [hW1]; exact y0_3
  rw [← hW1] at H1 ⊢
  obtain ⟨q1, q2⟩ := H1.at hx
  have K1 := Lib.hid H1
  clear hW1 y0_0 y0_1 y0_2 y0_3 HD H1
  obtain ⟨y, hy⟩ : ∃ y, ab[b]? = some y := ⟨_, List.getElem?_eq_getElem (by omega)⟩
  obtain ⟨z, hz⟩ : ∃ z, ab[0]? = some z := ⟨_, List.getElem?_eq_getElem (by omega)⟩
  have hye := Lib.hid (he b y hy)
  have hze := Lib.hid (he 0 z hz)
  obtain ⟨t1, t2⟩ := K1.out.at hy
  obtain ⟨u1, u2⟩ := K1.out.at hz
  obtain ⟨WA, hWA, cA, fA, BA, qA⟩ := boxed W1 #[.pointer (some ⟨x.b, 0, none⟩), .pointer none, .pointer (some ⟨y.b, 0, none⟩), .pointer (some ⟨z.b, 0, none⟩)] 39
  have KA := K1.out.turn BA
  obtain ⟨v1, v2⟩ := KA.at hx
  obtain ⟨v3, v4⟩ := KA.at hy
  obtain ⟨v5, v6⟩ := KA.at hz
  have m0 := Lib.hid (cA 0 _ rfl)
  have m1 := Lib.hid (cA 1 _ rfl)
  have m2 := Lib.hid (cA 2 _ rfl)
  have m3 := Lib.hid (cA 3 _ rfl)
  replace BA := Lib.hid BA
  clear cA fA qA KA
  subst hWA
  by_cases e0 : x.lm ≠ []
  · have cf : ∀ W q, _ := fun W q h c0 c1 c2 c3 => (st_first (w := W) (w0 := w0) (pb := pb) (pw := pw) (D := some (w.heap.size, .cells #[.int .i64 d.kind, .int .i64 d.a, .int .i64 d.b, .int .i64 d.v] 47)) h hx hy hz q c0 c1 c2 c3).mono fun e w' hp => hp.1 e0
    obtain ⟨vv, HV⟩ : ∃ q, Hid (q = x.lm.headD 0) := ⟨_, rfl⟩
    rw [← HV.out] at cf
    have r0 : x.lr ≠ [] := by rw [← hxe.out]; exact e0
    have l0 : (ab.set a { x with lm := x.lm.tail })[a]? = some { x with lm := x.lm.tail } := set_get hx
    go_upto_region 21 with fail
    go_region_held3 (fun W => W.cell? ⟨pb, a, none⟩ = some (.pointer (some ⟨x.b, 0, none⟩)) ∧ W.cell? ⟨pb, b, none⟩ = some (.pointer (some ⟨y.b, 0, none⟩)) ∧ W.cell? ⟨pb, 0, none⟩ = some (.pointer (some ⟨z.b, 0, none⟩))) (first | exact ⟨g1, g3, g5⟩ | exact ⟨q1, t1, u1⟩ | exact ⟨v1, v3, v5⟩) (first | (go_at_call 27; refine Calls.mono (cf _ W1.heap.size (K1.out.turn BA.out.drew) m0.out m1.out m2.out m3.out) ?_; rintro e W9 ⟨rfl, X9⟩; have K9 := Lib.hid X9; obtain ⟨g1, g2⟩ := at_set X9 hx rfl rfl hx; obtain ⟨g3, g4⟩ := at_set X9 hx rfl rfl hy; obtain ⟨g5, g6⟩ := at_set X9 hx rfl rfl hz; clear X9))
    go_wp2_with fail
    go_loopw [172] (fun i wr => ∃ k : Nat, k ≤ 0 ∧ i = .int .i64 k ∧ Hid (St w0 pb pw (some (W9.heap.size, (.cells #[.int .i64 (a : Nat), .int .i64 0, .int .i64 (b : Nat), .int .i64 0] 3))) wr (ab.set a { x with lm := x.lm.tail }))) (fun i _ => 4 - (intOf i).toNat)
    case atStart => exact ⟨0, by omega, by go_num, Lib.hid (K9.out.drop.add _)⟩
    case round =>
      obtain ⟨k, hk, rfl, X⟩ := hrel
      have i0 : wr.cell? ⟨W9.heap.size, 0, none⟩ = some (.int .i64 (a : Nat)) := (cell_of_row wr W9.heap.size 0 _ _ (0, 0) X.out.fix).trans rfl
      have i1 : wr.cell? ⟨W9.heap.size, 1, none⟩ = some (.int .i64 0) := (cell_of_row wr W9.heap.size 1 _ _ (0, 0) X.out.fix).trans rfl
      have i2 : wr.cell? ⟨W9.heap.size, 2, none⟩ = some (.int .i64 (b : Nat)) := (cell_of_row wr W9.heap.size 2 _ _ (0, 0) X.out.fix).trans rfl
      have i3 : wr.cell? ⟨W9.heap.size, 3, none⟩ = some (.int .i64 0) := (cell_of_row wr W9.heap.size 3 _ _ (0, 0) X.out.fix).trans rfl
      clear g1 g2 g3 g4 g5 g6 q0 q1 q2 q3 t1 t2 u1 u2 v1 v2 v3 v4 v5 v6 K9 cf
      obtain rfl : k = 0 := by omega
      obtain ⟨s1, s2⟩ := X.out.at l0
      try dsimp only at s1 s2
      have ct := st_rsome X.out l0 r0 vv (by rw [HV.out, hxe.out])
      try dsimp only at ct
      go_wp2_with (go_at_call 25; refine Calls.mono ct ?_; rintro e w2 ⟨rfl, X2⟩; have XX := Lib.hid X2; clear X2)
      go_ret
      refine ⟨by simp, _, XX.out.drop, by simp [h3], ?_⟩
      rw [List.set_set]
      exact he.set (by show x.lm.tail = x.lr.tail; rw [hxe.out])
  · skip
    have e0 := Decidable.not_not.1 e0
    by_cases e1 : y.lm ≠ []
    · have cf : ∀ W q, _ := fun W q h c0 c1 c2 c3 => (st_first (w := W) (w0 := w0) (pb := pb) (pw := pw) (D := some (w.heap.size, .cells #[.int .i64 d.kind, .int .i64 d.a, .int .i64 d.b, .int .i64 d.v] 47)) h hx hy hz q c0 c1 c2 c3).mono fun e w' hp => hp.2.1 e0 e1
      obtain ⟨vv, HV⟩ : ∃ q, Hid (q = y.lm.headD 0) := ⟨_, rfl⟩
      rw [← HV.out] at cf
      have n0 : b ≠ a := by rintro rfl; obtain rfl := Option.some.inj (hy.symm.trans hx); exact e1 e0
      have r0 : x.lr = [] := by rw [← hxe.out]; exact e0
      have l0 : (ab.set b { y with lm := y.lm.tail })[a]? = some x := (set_get_ne n0).trans hx
      have r1 : y.lr ≠ [] := by rw [← hye.out]; exact e1
      have l1 : (ab.set b { y with lm := y.lm.tail })[b]? = some { y with lm := y.lm.tail } := set_get hy
      go_upto_region 21 with fail
      go_region_held3 (fun W => W.cell? ⟨pb, a, none⟩ = some (.pointer (some ⟨x.b, 0, none⟩)) ∧ W.cell? ⟨pb, b, none⟩ = some (.pointer (some ⟨y.b, 0, none⟩)) ∧ W.cell? ⟨pb, 0, none⟩ = some (.pointer (some ⟨z.b, 0, none⟩))) (first | exact ⟨g1, g3, g5⟩ | exact ⟨q1, t1, u1⟩ | exact ⟨v1, v3, v5⟩) (first | (go_at_call 27; refine Calls.mono (cf _ W1.heap.size (K1.out.turn BA.out.drew) m0.out m1.out m2.out m3.out) ?_; rintro e W9 ⟨rfl, X9⟩; have K9 := Lib.hid X9; obtain ⟨g1, g2⟩ := at_set X9 hy rfl rfl hx; obtain ⟨g3, g4⟩ := at_set X9 hy rfl rfl hy; obtain ⟨g5, g6⟩ := at_set X9 hy rfl rfl hz; clear X9))
      go_wp2_with fail
      go_loopw [172] (fun i wr => ∃ k : Nat, k ≤ 2 ∧ i = .int .i64 k ∧ Hid (St w0 pb pw (some (W9.heap.size, (.cells #[.int .i64 (a : Nat), .int .i64 0, .int .i64 (b : Nat), .int .i64 0] 3))) wr (ab.set b { y with lm := y.lm.tail }))) (fun i _ => 4 - (intOf i).toNat)
      case atStart => exact ⟨0, by omega, by go_num, Lib.hid (K9.out.drop.add _)⟩
      case round =>
        obtain ⟨k, hk, rfl, X⟩ := hrel
        have i0 : wr.cell? ⟨W9.heap.size, 0, none⟩ = some (.int .i64 (a : Nat)) := (cell_of_row wr W9.heap.size 0 _ _ (0, 0) X.out.fix).trans rfl
        have i1 : wr.cell? ⟨W9.heap.size, 1, none⟩ = some (.int .i64 0) := (cell_of_row wr W9.heap.size 1 _ _ (0, 0) X.out.fix).trans rfl
        have i2 : wr.cell? ⟨W9.heap.size, 2, none⟩ = some (.int .i64 (b : Nat)) := (cell_of_row wr W9.heap.size 2 _ _ (0, 0) X.out.fix).trans rfl
        have i3 : wr.cell? ⟨W9.heap.size, 3, none⟩ = some (.int .i64 0) := (cell_of_row wr W9.heap.size 3 _ _ (0, 0) X.out.fix).trans rfl
        clear g1 g2 g3 g4 g5 g6 q0 q1 q2 q3 t1 t2 u1 u2 v1 v2 v3 v4 v5 v6 K9 cf
        rcases (show k = 0 ∨ k = 1 ∨ k = 2 by omega) with rfl | rfl | rfl
        · obtain ⟨s1, s2⟩ := X.out.at l0
          try dsimp only at s1 s2
          have ct := st_rnone X.out l0 r0
          try dsimp only at ct
          go_wp2_with (go_at_call 25; refine Calls.mono ct ?_; rintro e w2 ⟨rfl, X2⟩; have XX := Lib.hid X2; clear X2)
          go_roundw
          case rel => exact ⟨1, by omega, by first | rfl | trivial | go_num, XX⟩
          case measure => simp [intOf]
        · go_wp2
          go_roundw
          case rel => exact ⟨2, by omega, by first | rfl | trivial | go_num, X⟩
          case measure => simp [intOf]
        · obtain ⟨s1, s2⟩ := X.out.at l1
          try dsimp only at s1 s2
          have ct := st_rsome X.out l1 r1 vv (by rw [HV.out, hye.out])
          try dsimp only at ct
          go_wp2_with (go_at_call 25; refine Calls.mono ct ?_; rintro e w2 ⟨rfl, X2⟩; have XX := Lib.hid X2; clear X2)
          go_ret
          refine ⟨by simp, _, XX.out.drop, by simp [h3], ?_⟩
          rw [List.set_set]
          exact he.set (by show y.lm.tail = y.lr.tail; rw [hye.out])
    · skip
      have e1 := Decidable.not_not.1 e1
      by_cases e2 : z.lm ≠ []
      · have cf : ∀ W q, _ := fun W q h c0 c1 c2 c3 => (st_first (w := W) (w0 := w0) (pb := pb) (pw := pw) (D := some (w.heap.size, .cells #[.int .i64 d.kind, .int .i64 d.a, .int .i64 d.b, .int .i64 d.v] 47)) h hx hy hz q c0 c1 c2 c3).mono fun e w' hp => hp.2.2.1 e0 e1 e2
        obtain ⟨vv, HV⟩ : ∃ q, Hid (q = z.lm.headD 0) := ⟨_, rfl⟩
        rw [← HV.out] at cf
        have n0 : 0 ≠ a := by rintro rfl; obtain rfl := Option.some.inj (hz.symm.trans hx); exact e2 e0
        have r0 : x.lr = [] := by rw [← hxe.out]; exact e0
        have l0 : (ab.set 0 { z with lm := z.lm.tail })[a]? = some x := (set_get_ne n0).trans hx
        have n1 : 0 ≠ b := by rintro rfl; obtain rfl := Option.some.inj (hz.symm.trans hy); exact e2 e1
        have r1 : y.lr = [] := by rw [← hye.out]; exact e1
        have l1 : (ab.set 0 { z with lm := z.lm.tail })[b]? = some y := (set_get_ne n1).trans hy
        have r2 : z.lr ≠ [] := by rw [← hze.out]; exact e2
        have l2 : (ab.set 0 { z with lm := z.lm.tail })[0]? = some { z with lm := z.lm.tail } := set_get hz
        go_upto_region 21 with fail
        go_region_held3 (fun W => W.cell? ⟨pb, a, none⟩ = some (.pointer (some ⟨x.b, 0, none⟩)) ∧ W.cell? ⟨pb, b, none⟩ = some (.pointer (some ⟨y.b, 0, none⟩)) ∧ W.cell? ⟨pb, 0, none⟩ = some (.pointer (some ⟨z.b, 0, none⟩))) (first | exact ⟨g1, g3, g5⟩ | exact ⟨q1, t1, u1⟩ | exact ⟨v1, v3, v5⟩) (first | (go_at_call 27; refine Calls.mono (cf _ W1.heap.size (K1.out.turn BA.out.drew) m0.out m1.out m2.out m3.out) ?_; rintro e W9 ⟨rfl, X9⟩; have K9 := Lib.hid X9; obtain ⟨g1, g2⟩ := at_set X9 hz rfl rfl hx; obtain ⟨g3, g4⟩ := at_set X9 hz rfl rfl hy; obtain ⟨g5, g6⟩ := at_set X9 hz rfl rfl hz; clear X9))
        go_wp2_with fail
        go_loopw [172] (fun i wr => ∃ k : Nat, k ≤ 3 ∧ i = .int .i64 k ∧ Hid (St w0 pb pw (some (W9.heap.size, (.cells #[.int .i64 (a : Nat), .int .i64 0, .int .i64 (b : Nat), .int .i64 0] 3))) wr (ab.set 0 { z with lm := z.lm.tail }))) (fun i _ => 4 - (intOf i).toNat)
        case atStart => exact ⟨0, by omega, by go_num, Lib.hid (K9.out.drop.add _)⟩
        case round =>
          obtain ⟨k, hk, rfl, X⟩ := hrel
          have i0 : wr.cell? ⟨W9.heap.size, 0, none⟩ = some (.int .i64 (a : Nat)) := (cell_of_row wr W9.heap.size 0 _ _ (0, 0) X.out.fix).trans rfl
          have i1 : wr.cell? ⟨W9.heap.size, 1, none⟩ = some (.int .i64 0) := (cell_of_row wr W9.heap.size 1 _ _ (0, 0) X.out.fix).trans rfl
          have i2 : wr.cell? ⟨W9.heap.size, 2, none⟩ = some (.int .i64 (b : Nat)) := (cell_of_row wr W9.heap.size 2 _ _ (0, 0) X.out.fix).trans rfl
          have i3 : wr.cell? ⟨W9.heap.size, 3, none⟩ = some (.int .i64 0) := (cell_of_row wr W9.heap.size 3 _ _ (0, 0) X.out.fix).trans rfl
          clear g1 g2 g3 g4 g5 g6 q0 q1 q2 q3 t1 t2 u1 u2 v1 v2 v3 v4 v5 v6 K9 cf
          rcases (show k = 0 ∨ k = 1 ∨ k = 2 ∨ k = 3 by omega) with rfl | rfl | rfl | rfl
          · obtain ⟨s1, s2⟩ := X.out.at l0
            try dsimp only at s1 s2
            have ct := st_rnone X.out l0 r0
            try dsimp only at ct
            go_wp2_with (go_at_call 25; refine Calls.mono ct ?_; rintro e w2 ⟨rfl, X2⟩; have XX := Lib.hid X2; clear X2)
            go_roundw
            case rel => exact ⟨1, by omega, by first | rfl | trivial | go_num, XX⟩
            case measure => simp [intOf]
          · go_wp2
            go_roundw
            case rel => exact ⟨2, by omega, by first | rfl | trivial | go_num, X⟩
            case measure => simp [intOf]
          · obtain ⟨s1, s2⟩ := X.out.at l1
            try dsimp only at s1 s2
            have ct := st_rnone X.out l1 r1
            try dsimp only at ct
            go_wp2_with (go_at_call 25; refine Calls.mono ct ?_; rintro e w2 ⟨rfl, X2⟩; have XX := Lib.hid X2; clear X2)
            go_roundw
            case rel => exact ⟨3, by omega, by first | rfl | trivial | go_num, XX⟩
            case measure => simp [intOf]
          · obtain ⟨s1, s2⟩ := X.out.at l2
            try dsimp only at s1 s2
            have ct := st_rsome X.out l2 r2 vv (by rw [HV.out, hze.out])
            try dsimp only at ct
            go_wp2_with (go_at_call 25; refine Calls.mono ct ?_; rintro e w2 ⟨rfl, X2⟩; have XX := Lib.hid X2; clear X2)
            go_ret
            refine ⟨by simp, _, XX.out.drop, by simp [h3], ?_⟩
            rw [List.set_set]
            exact he.set (by show z.lm.tail = z.lr.tail; rw [hze.out])
      · skip
        have e2 := Decidable.not_not.1 e2
        have cf : ∀ W q, _ := fun W q h c0 c1 c2 c3 => (st_first (w := W) (w0 := w0) (pb := pb) (pw := pw) (D := some (w.heap.size, .cells #[.int .i64 d.kind, .int .i64 d.a, .int .i64 d.b, .int .i64 d.v] 47)) h hx hy hz q c0 c1 c2 c3).mono fun e w' hp => hp.2.2.2 e0 e1 e2
        have r0 : x.lr = [] := by rw [← hxe.out]; exact e0
        have l0 : ab[a]? = some x := hx
        have r1 : y.lr = [] := by rw [← hye.out]; exact e1
        have l1 : ab[b]? = some y := hy
        have r2 : z.lr = [] := by rw [← hze.out]; exact e2
        have l2 : ab[0]? = some z := hz
        go_upto_region 21 with fail
        go_region_held3 (fun W => W.cell? ⟨pb, a, none⟩ = some (.pointer (some ⟨x.b, 0, none⟩)) ∧ W.cell? ⟨pb, b, none⟩ = some (.pointer (some ⟨y.b, 0, none⟩)) ∧ W.cell? ⟨pb, 0, none⟩ = some (.pointer (some ⟨z.b, 0, none⟩))) (first | exact ⟨g1, g3, g5⟩ | exact ⟨q1, t1, u1⟩ | exact ⟨v1, v3, v5⟩) (first | (go_at_call 27; refine Calls.mono (cf _ W1.heap.size (K1.out.turn BA.out.drew) m0.out m1.out m2.out m3.out) ?_; rintro e W9 ⟨rfl, X9⟩; have K9 := Lib.hid X9; obtain ⟨g1, g2⟩ := X9.at hx; obtain ⟨g3, g4⟩ := X9.at hy; obtain ⟨g5, g6⟩ := X9.at hz; clear X9))
        go_wp2_with fail
        go_loopw [172] (fun i wr => ∃ k : Nat, k ≤ 4 ∧ i = .int .i64 k ∧ Hid (St w0 pb pw (some (W9.heap.size, (.cells #[.int .i64 (a : Nat), .int .i64 0, .int .i64 (b : Nat), .int .i64 0] 3))) wr ab)) (fun i _ => 4 - (intOf i).toNat)
        case atStart => exact ⟨0, by omega, by go_num, Lib.hid (K9.out.drop.add _)⟩
        case round =>
          obtain ⟨k, hk, rfl, X⟩ := hrel
          have i0 : wr.cell? ⟨W9.heap.size, 0, none⟩ = some (.int .i64 (a : Nat)) := (cell_of_row wr W9.heap.size 0 _ _ (0, 0) X.out.fix).trans rfl
          have i1 : wr.cell? ⟨W9.heap.size, 1, none⟩ = some (.int .i64 0) := (cell_of_row wr W9.heap.size 1 _ _ (0, 0) X.out.fix).trans rfl
          have i2 : wr.cell? ⟨W9.heap.size, 2, none⟩ = some (.int .i64 (b : Nat)) := (cell_of_row wr W9.heap.size 2 _ _ (0, 0) X.out.fix).trans rfl
          have i3 : wr.cell? ⟨W9.heap.size, 3, none⟩ = some (.int .i64 0) := (cell_of_row wr W9.heap.size 3 _ _ (0, 0) X.out.fix).trans rfl
          clear g1 g2 g3 g4 g5 g6 q0 q1 q2 q3 t1 t2 u1 u2 v1 v2 v3 v4 v5 v6 K9 cf
          rcases (show k = 0 ∨ k = 1 ∨ k = 2 ∨ k = 3 ∨ k = 4 by omega) with rfl | rfl | rfl | rfl | rfl
          · obtain ⟨s1, s2⟩ := X.out.at l0
            try dsimp only at s1 s2
            have ct := st_rnone X.out l0 r0
            try dsimp only at ct
            go_wp2_with (go_at_call 25; refine Calls.mono ct ?_; rintro e w2 ⟨rfl, X2⟩; have XX := Lib.hid X2; clear X2)
            go_roundw
            case rel => exact ⟨1, by omega, by first | rfl | trivial | go_num, XX⟩
            case measure => simp [intOf]
          · go_wp2
            go_roundw
            case rel => exact ⟨2, by omega, by first | rfl | trivial | go_num, X⟩
            case measure => simp [intOf]
          · obtain ⟨s1, s2⟩ := X.out.at l1
            try dsimp only at s1 s2
            have ct := st_rnone X.out l1 r1
            try dsimp only at ct
            go_wp2_with (go_at_call 25; refine Calls.mono ct ?_; rintro e w2 ⟨rfl, X2⟩; have XX := Lib.hid X2; clear X2)
            go_roundw
            case rel => exact ⟨3, by omega, by first | rfl | trivial | go_num, XX⟩
            case measure => simp [intOf]
          · obtain ⟨s1, s2⟩ := X.out.at l2
            try dsimp only at s1 s2
            have ct := st_rnone X.out l2 r2
            try dsimp only at ct
            go_wp2_with (go_at_call 25; refine Calls.mono ct ?_; rintro e w2 ⟨rfl, X2⟩; have XX := Lib.hid X2; clear X2)
            go_roundw
            case rel => exact ⟨4, by omega, by first | rfl | trivial | go_num, XX⟩
            case measure => simp [intOf]
          · go_wp2
            go_ret
            exact ⟨rfl, _, X.out.drop, h3, he⟩

end
end Go.Proofs.Ytgecoannpbghjaa
