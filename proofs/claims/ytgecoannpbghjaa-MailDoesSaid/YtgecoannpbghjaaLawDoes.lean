/- MailDoes: for every input the law returns true and leaves its arguments as they were. No condition. -/
import Derived.Test.YtgecoannpbghjaaOneB
import Derived.Test.YtgecoannpbghjaaOneD
import Derived.Test.YtgecoannpbghjaaPre
import Derived.Test.YtgecoannpbghjaaArgs
import Derived.Test.YtgecoannpbghjaaLaw
import Derived.Deep.RegionHeld3
namespace Go.Proofs.Ytgecoannpbghjaa
open Go.ChangeShapes Go.WideShapes Go.ChangeAt Go.RowKit Go.Deep

section
variable {H : Type} {enc : TypeId × Value → H} {P : Program} {w : World} {base : Nat} {spare : Nat → Bool} {held : Bool} {fuel : Nat} {t : TypeId} {v : Value} {x : DataW H × List MemPlace} {r : Reach} {b0 : Nat}
theorem rd1_byte (ht : P.underlying t = some (.int .u8)) (h : DataW.trod enc P w base spare held fuel t [v] = some x) : ∃ a, v = .int .u8 a ∧ 0 ≤ a ∧ a ≤ 255 := by
  obtain ⟨n, hc, _, hw⟩ := DataW.trod_int ht h
  exact ⟨n, by simpa using hc, by simp [Lit.wf] at hw; exact hw⟩
theorem rdv_arr3 {e : TypeId} (ht : P.underlying t = some (.array 3 e)) (he : P.underlying e = some (.int .u8)) (hce : P.cellsOf e = 1) (hct : P.cellsOf t = 3) (hval : Value.okWide P w r b0 t v) (hf : DataW.trod enc P w base spare held fuel t v.cells.toList = some x) (hz : Sized P t x.1) :
    ∃ a b c, v = .agg #[.int .u8 a, .int .u8 b, .int .u8 c] ∧ (0 ≤ a ∧ a ≤ 255) ∧ (0 ≤ b ∧ b ≤ 255) ∧ (0 ≤ c ∧ c ≤ 255) := by
  obtain ⟨cs, rfl⟩ := okWide_array ht hval
  obtain ⟨l, rfl⟩ : ∃ l : List Value, cs = l.toArray := ⟨cs.toList, by simp⟩
  rw [show (Value.agg l.toArray).cells.toList = l from by simp [Value.cells]] at hf
  obtain ⟨xs, m, _, hx, hl, hxl, hall⟩ := DataW.trod_array ht hf
  rw [hct] at hl
  match l, hl with
  | [c0, c1, c2], _ =>
    have h0 := hall 0 (by omega)
    have h1 := hall 1 (by omega)
    have h2 := hall 2 (by omega)
    rw [hce] at h0 h1 h2
    rw [List.getElem?_eq_getElem (show 0 < xs.length by omega)] at h0
    rw [List.getElem?_eq_getElem (show 1 < xs.length by omega)] at h1
    rw [List.getElem?_eq_getElem (show 2 < xs.length by omega)] at h2
    obtain ⟨a, e0, s0⟩ := rd1_byte he (v := c0) h0
    obtain ⟨b, e1, s1⟩ := rd1_byte he (v := c1) h1
    obtain ⟨c, e2, s2⟩ := rd1_byte he (v := c2) h2
    exact ⟨a, b, c, by rw [e0, e1, e2], s0, s1, s2⟩
end
theorem awake_any (w : World) : Calls Try.prog 5 #[] w fun e w' => e = .returned (.bool true) ∧ Below w.heap.size w w' := by
  have hnew := newI_ok 1 (by decide) (by decide) w
  go_enter Try.func5, Try.ntmps5
  go_wp2_with fail
  refine Calls.mono hnew ?_
  rintro e w1 ⟨rfl, x1, b1⟩
  have c2 := putI_room x1 (by decide) 7
  go_wp2_with fail
  refine Calls.mono c2 ?_
  rintro e w2 ⟨rfl, x2, o2⟩
  have c3 := putI_full x2 (by decide) 8
  go_wp2_with fail
  refine Calls.mono c3 ?_
  rintro e w3 ⟨rfl, rfl⟩
  have c4 := lenI_any x2
  go_wp2_with fail
  refine Calls.mono c4 ?_
  rintro e w4 ⟨rfl, rfl⟩
  go_wp2
  go_ret
  exact ⟨rfl, below_only b1 o2 (Nat.le_refl _)⟩

theorem After.below {w0 w : World} {pb pw : Nat} (h : After w0 pb pw w) : Below w0.heap.size w0 w := by
  obtain ⟨ab, h, _⟩ := h
  exact h.below
theorem After.turn {w0 w w' : World} {pb pw : Nat} (h : After w0 pb pw w) (hb : Below w.heap.size w w') : After w0 pb pw w' := by
  obtain ⟨ab, h, h3, he⟩ := h
  exact ⟨ab, h.turn hb, h3, he⟩
/-- What the last loop leaves: from the box k on all is as in the document's. -/
def Left (w0 : World) (pb pw k : Nat) (w : World) : Prop := ∃ ab, St w0 pb pw none w ab ∧ ab.length = 3 ∧ ∀ (i : Nat) (x : Ab), k ≤ i → ab[i]? = some x → x.lm = x.lr
theorem Row.touch {w w' : World} {c : Nat} {v : Value} {l : List Int} (h : Row w v l) (t : Touch c none w w') (hne : ∀ j cs T q, w.heap[j]? = some (.cells cs T q) → j ≠ c) : Row w' v l := by
  rcases h with h | ⟨g, off, cap, cur, hv, hg, r⟩
  · exact .inl h
  · exact .inr ⟨g, off, cap, cur, hv, (t.block g (blk_lt hg) (hne _ _ _ _ hg) (by simp)).trans hg, r⟩
theorem run_ix (w : World) (n0 n1 n2 n : Int) (i : Int) (hi : (i = 0 ∧ n = n0) ∨ (i = 1 ∧ n = n1) ∨ (i = 2 ∧ n = n2)) : (Instr.index 35 (.agg #[.int .u8 n0, .int .u8 n1, .int .u8 n2]) (.int .i64 i)).run Try.prog w = .ok (.int .u8 n) w := by
  rcases hi with ⟨rfl, rfl⟩ | ⟨rfl, rfl⟩ | ⟨rfl, rfl⟩ <;> simp [Instr.index, run_underlying Try.underlying35, asIntOf, go_sem, Try.sizeOf5, Try.underlying5]

set_option maxRecDepth 100000 in
set_option maxHeartbeats 8000000 in
theorem walk_mailDoes (w : World) (n0 n1 n2 : Int) (k0 : 0 ≤ n0 ∧ n0 ≤ 255) (k1 : 0 ≤ n1 ∧ n1 ≤ 255) (k2 : 0 ≤ n2 ∧ n2 ≤ 255) (l : List IDo) (v : Value) (h : Sl 4 rIDo (fun _ => True) w v l) :
    Calls Try.prog 4 #[.agg #[.int .u8 n0, .int .u8 n1, .int .u8 n2], v] w fun e w' => e = .returned (.bool true) ∧ Below w.heap.size w w' := by
  obtain ⟨A, c, rfl, hl, hc, hn, hs⟩ := h
  unfold maxLen at hc
  obtain ⟨y0, hy0, cy0, fy0, By0, qy0⟩ := boxed w #[.int .u8 n0, .int .u8 n1, .int .u8 n2] 35
  have y0_0 := cy0 0 _ rfl
  have y0_1 := cy0 1 _ rfl
  have y0_2 := cy0 2 _ rfl
  clear cy0
  have aw := fun W => awake_any W
  by_cases h60 : 60 < l.length
  · have hd : decide (60 < (l.length : Int)) = true := decide_eq_true (by omega)
    go_enter Try.func4, Try.ntmps4
    go_wp2_with (go_at_call 5; refine Calls.mono (aw _) ?_; rintro e w1 ⟨rfl, B1⟩)
    go_ret
    exact ⟨rfl, bel_call By0 B1⟩
  have hd : decide (60 < (l.length : Int)) = false := decide_eq_false (by omega)
  obtain ⟨iB, hiB, hzB, h1B, h2B⟩ := info_parts (show (Try.prog.info? 39).map (fun i => (i.zero, i.size, i.bytes)) = some (some (.pointer none), 1, 8) from by kernel_rfl)
  obtain ⟨iR, hiR, hzR, h1R, h2R⟩ := info_parts (show (Try.prog.info? 42).map (fun i => (i.zero, i.size, i.bytes)) = some (some (.pointer none), 1, 8) from by kernel_rfl)
  go_enter Try.func4, Try.ntmps4
  go_wp2_with (go_at_call 5; refine Calls.mono (aw _) ?_; rintro e w1 ⟨rfl, B1⟩; have x0 := (B1.cell (p := ⟨w.heap.size, 0, none⟩) qy0).trans y0_0; have x1 := (B1.cell (p := ⟨w.heap.size, 1, none⟩) qy0).trans y0_1; have x2 := (B1.cell (p := ⟨w.heap.size, 2, none⟩) qy0).trans y0_2)
  have P0 : Pre 39 42 w w1 (.slice none 0 0) [] (.slice none 0 0) [] [] := .start (bel_call By0 B1)
  clear y0_0 y0_1 y0_2 By0 B1 x0 x1 x2 aw
  go_loopw [5, 6, 22] (fun v5 v6 i wr => ∃ (k : Nat) (xs : List Bx), k ≤ 3 ∧ i = .int .i64 k ∧ xs.length = k ∧ (∀ x ∈ xs, x.lm = [] ∧ x.lr = []) ∧ Hid (Pre 39 42 w wr v5 (xs.map Bx.b) v6 (xs.map Bx.r) xs)) (fun _ _ i _ => 3 - (intOf i).toNat)
  case atStart => exact ⟨0, [], by omega, by go_num, rfl, fun x hx => by simp at hx, P0⟩
  case round =>
    clear P0
    have ix0 := fun w => run_ix w n0 n1 n2 n0 0 (by simp)
    have ix1 := fun w => run_ix w n0 n1 n2 n1 1 (by simp)
    have ix2 := fun w => run_ix w n0 n1 n2 n2 2 (by simp)
    obtain ⟨k, xs, hk, rfl, hx, he, X⟩ := hrel
    rcases (show k = 0 ∨ k = 1 ∨ k = 2 ∨ k = 3 by omega) with rfl | rfl | rfl | rfl
    · obtain ⟨m, hm⟩ : ∃ m : Nat, n0 % 9 + 1 = (m : Int) := ⟨(n0 % 9 + 1).toNat, by omega⟩
      have hm1 : 1 ≤ m := by omega
      have hm9 : m ≤ 9 := by omega
      have HM := Lib.hid hm9
      have hnew := newI_ok m hm1 (by omega) wr
      obtain ⟨c', hc'⟩ : ∃ c', c' = wr.heap.size := ⟨_, rfl⟩
      obtain ⟨b', hb'⟩ : ∃ b', b' = wr.heap.size + 1 := ⟨_, rfl⟩
      rw [← hb', ← hc'] at hnew
      have HB := Lib.hid hb'
      have HC := Lib.hid hc'
      have FF := Lib.hid (X.out.fresh (b := b') (c := c') (by omega) (by omega))
      have WB := Lib.hid (show w.heap.size ≤ b' ∧ w.heap.size ≤ c' by have := X.out.below.size; omega)
      have H8 := Lib.hid (show ((xs.map Bx.b).length + 1) * 8 ≤ 140737488355328 ∧ ((xs.map Bx.r).length + 1) * 8 ≤ 140737488355328 by simp [hx])
      have HX := Lib.hid hx
      have HE := Lib.hid he
      clear hb' hc' hm1 hm9 hx he
      go_wp2_with (first
        | (go_at_call 13; refine Calls.mono hnew ?_; rintro e w2 ⟨rfl, X2, B2⟩; have X2 := Lib.hid X2; have P2 := Lib.hid (X.out.turn (HC.out ▸ B2)); have B2 := Lib.hid B2)
        | (go_at_call 14; refine Calls.mono (roomI_any X2.out (Nat.le_trans HM.out (by decide))) ?_; rintro e w3 ⟨rfl, q, hw3⟩; have P3 := Lib.hid (P2.out.turn (w' := w3) (by rw [hw3]; exact below_drewN2 (Below.refl _ _) q)); have X3 := Lib.hid (show BoxI w3 b' c' m [] by rw [hw3]; exact X2.out.drewN q); clear hw3)
        | (go_at_call 15; refine Calls.mono (lenI_any X3.out) ?_; rintro e w4 ⟨rfl, rfl⟩)
        | (at_builtin; (refine wpList_grow1 (R := rPtr) _ _ rfl (.tmp 47) (.tmp 49) 37 rfl 39 iB _ 1 8 Try.underlying37 hiB hzB h1B h2B rfl (by decide) rPtr_ok w.heap.size P3.out.below.size _ _ rfl P3.out.g5 _ _ rfl (by simp only [World.size_alloc, World.size_setCell, World.size_drew]) _ (fun _ h => h.elim) rfl H8.out.1 (by decide) ?_); intro v1 w5 g1 gg1 go1; have X5 := Lib.hid (box_grown X3.out gg1 FF.out.1.1 FF.out.1.2); have P5 := Lib.hid ((P3.out.app5 gg1 g1 (go1.imp id fun e => ⟨_, e, Nat.le_succ _⟩)).push X5.out HM.out WB.out.1 WB.out.2 (own_new X3.out FF.out.1 go1) FF.out.2.1 FF.out.2.2); clear g1 gg1 go1)
        | (at_builtin; (refine wpList_grow1 (R := rPtr) _ _ rfl (.tmp 51) (.tmp 55) 38 rfl 42 iR _ 1 8 Try.underlying38 hiR hzR h1R h2R rfl (by decide) rPtr_ok w.heap.size P5.out.below.size _ _ rfl P5.out.g6 _ _ rfl (by simp only [World.size_alloc, World.size_setCell, World.size_drew]) _ (fun _ h => h.elim) rfl H8.out.2 (by decide) ?_); intro v2 w6 g2 gg2 go2; have P6 := Lib.hid (P5.out.app6 gg2 g2 (go2.imp id fun e => ⟨_, e, Nat.le_succ _⟩)); clear g2 gg2 go2))
      go_roundw
      case rel => exact ⟨0 + 1, xs ++ [⟨b', c', w5.heap.size, .slice none 0 0, m, [], []⟩], by omega, by first | rfl | trivial | go_num, by rw [List.length_append, HX.out]; rfl, fun x hx => (List.mem_append.1 hx).elim (HE.out x) (fun h => by simp at h; subst h; exact ⟨rfl, rfl⟩), by rw [List.map_append, List.map_append]; exact P6⟩
      case measure => simp [intOf]
    · obtain ⟨m, hm⟩ : ∃ m : Nat, n1 % 9 + 1 = (m : Int) := ⟨(n1 % 9 + 1).toNat, by omega⟩
      have hm1 : 1 ≤ m := by omega
      have hm9 : m ≤ 9 := by omega
      have HM := Lib.hid hm9
      have hnew := newI_ok m hm1 (by omega) wr
      obtain ⟨c', hc'⟩ : ∃ c', c' = wr.heap.size := ⟨_, rfl⟩
      obtain ⟨b', hb'⟩ : ∃ b', b' = wr.heap.size + 1 := ⟨_, rfl⟩
      rw [← hb', ← hc'] at hnew
      have HB := Lib.hid hb'
      have HC := Lib.hid hc'
      have FF := Lib.hid (X.out.fresh (b := b') (c := c') (by omega) (by omega))
      have WB := Lib.hid (show w.heap.size ≤ b' ∧ w.heap.size ≤ c' by have := X.out.below.size; omega)
      have H8 := Lib.hid (show ((xs.map Bx.b).length + 1) * 8 ≤ 140737488355328 ∧ ((xs.map Bx.r).length + 1) * 8 ≤ 140737488355328 by simp [hx])
      have HX := Lib.hid hx
      have HE := Lib.hid he
      clear hb' hc' hm1 hm9 hx he
      go_wp2_with (first
        | (go_at_call 13; refine Calls.mono hnew ?_; rintro e w2 ⟨rfl, X2, B2⟩; have X2 := Lib.hid X2; have P2 := Lib.hid (X.out.turn (HC.out ▸ B2)); have B2 := Lib.hid B2)
        | (go_at_call 14; refine Calls.mono (roomI_any X2.out (Nat.le_trans HM.out (by decide))) ?_; rintro e w3 ⟨rfl, q, hw3⟩; have P3 := Lib.hid (P2.out.turn (w' := w3) (by rw [hw3]; exact below_drewN2 (Below.refl _ _) q)); have X3 := Lib.hid (show BoxI w3 b' c' m [] by rw [hw3]; exact X2.out.drewN q); clear hw3)
        | (go_at_call 15; refine Calls.mono (lenI_any X3.out) ?_; rintro e w4 ⟨rfl, rfl⟩)
        | (at_builtin; (refine wpList_grow1 (R := rPtr) _ _ rfl (.tmp 47) (.tmp 49) 37 rfl 39 iB _ 1 8 Try.underlying37 hiB hzB h1B h2B rfl (by decide) rPtr_ok w.heap.size P3.out.below.size _ _ rfl P3.out.g5 _ _ rfl (by simp only [World.size_alloc, World.size_setCell, World.size_drew]) _ (fun _ h => h.elim) rfl H8.out.1 (by decide) ?_); intro v1 w5 g1 gg1 go1; have X5 := Lib.hid (box_grown X3.out gg1 FF.out.1.1 FF.out.1.2); have P5 := Lib.hid ((P3.out.app5 gg1 g1 (go1.imp id fun e => ⟨_, e, Nat.le_succ _⟩)).push X5.out HM.out WB.out.1 WB.out.2 (own_new X3.out FF.out.1 go1) FF.out.2.1 FF.out.2.2); clear g1 gg1 go1)
        | (at_builtin; (refine wpList_grow1 (R := rPtr) _ _ rfl (.tmp 51) (.tmp 55) 38 rfl 42 iR _ 1 8 Try.underlying38 hiR hzR h1R h2R rfl (by decide) rPtr_ok w.heap.size P5.out.below.size _ _ rfl P5.out.g6 _ _ rfl (by simp only [World.size_alloc, World.size_setCell, World.size_drew]) _ (fun _ h => h.elim) rfl H8.out.2 (by decide) ?_); intro v2 w6 g2 gg2 go2; have P6 := Lib.hid (P5.out.app6 gg2 g2 (go2.imp id fun e => ⟨_, e, Nat.le_succ _⟩)); clear g2 gg2 go2))
      go_roundw
      case rel => exact ⟨1 + 1, xs ++ [⟨b', c', w5.heap.size, .slice none 0 0, m, [], []⟩], by omega, by first | rfl | trivial | go_num, by rw [List.length_append, HX.out]; rfl, fun x hx => (List.mem_append.1 hx).elim (HE.out x) (fun h => by simp at h; subst h; exact ⟨rfl, rfl⟩), by rw [List.map_append, List.map_append]; exact P6⟩
      case measure => simp [intOf]
    · obtain ⟨m, hm⟩ : ∃ m : Nat, n2 % 9 + 1 = (m : Int) := ⟨(n2 % 9 + 1).toNat, by omega⟩
      have hm1 : 1 ≤ m := by omega
      have hm9 : m ≤ 9 := by omega
      have HM := Lib.hid hm9
      have hnew := newI_ok m hm1 (by omega) wr
      obtain ⟨c', hc'⟩ : ∃ c', c' = wr.heap.size := ⟨_, rfl⟩
      obtain ⟨b', hb'⟩ : ∃ b', b' = wr.heap.size + 1 := ⟨_, rfl⟩
      rw [← hb', ← hc'] at hnew
      have HB := Lib.hid hb'
      have HC := Lib.hid hc'
      have FF := Lib.hid (X.out.fresh (b := b') (c := c') (by omega) (by omega))
      have WB := Lib.hid (show w.heap.size ≤ b' ∧ w.heap.size ≤ c' by have := X.out.below.size; omega)
      have H8 := Lib.hid (show ((xs.map Bx.b).length + 1) * 8 ≤ 140737488355328 ∧ ((xs.map Bx.r).length + 1) * 8 ≤ 140737488355328 by simp [hx])
      have HX := Lib.hid hx
      have HE := Lib.hid he
      clear hb' hc' hm1 hm9 hx he
      go_wp2_with (first
        | (go_at_call 13; refine Calls.mono hnew ?_; rintro e w2 ⟨rfl, X2, B2⟩; have X2 := Lib.hid X2; have P2 := Lib.hid (X.out.turn (HC.out ▸ B2)); have B2 := Lib.hid B2)
        | (go_at_call 14; refine Calls.mono (roomI_any X2.out (Nat.le_trans HM.out (by decide))) ?_; rintro e w3 ⟨rfl, q, hw3⟩; have P3 := Lib.hid (P2.out.turn (w' := w3) (by rw [hw3]; exact below_drewN2 (Below.refl _ _) q)); have X3 := Lib.hid (show BoxI w3 b' c' m [] by rw [hw3]; exact X2.out.drewN q); clear hw3)
        | (go_at_call 15; refine Calls.mono (lenI_any X3.out) ?_; rintro e w4 ⟨rfl, rfl⟩)
        | (at_builtin; (refine wpList_grow1 (R := rPtr) _ _ rfl (.tmp 47) (.tmp 49) 37 rfl 39 iB _ 1 8 Try.underlying37 hiB hzB h1B h2B rfl (by decide) rPtr_ok w.heap.size P3.out.below.size _ _ rfl P3.out.g5 _ _ rfl (by simp only [World.size_alloc, World.size_setCell, World.size_drew]) _ (fun _ h => h.elim) rfl H8.out.1 (by decide) ?_); intro v1 w5 g1 gg1 go1; have X5 := Lib.hid (box_grown X3.out gg1 FF.out.1.1 FF.out.1.2); have P5 := Lib.hid ((P3.out.app5 gg1 g1 (go1.imp id fun e => ⟨_, e, Nat.le_succ _⟩)).push X5.out HM.out WB.out.1 WB.out.2 (own_new X3.out FF.out.1 go1) FF.out.2.1 FF.out.2.2); clear g1 gg1 go1)
        | (at_builtin; (refine wpList_grow1 (R := rPtr) _ _ rfl (.tmp 51) (.tmp 55) 38 rfl 42 iR _ 1 8 Try.underlying38 hiR hzR h1R h2R rfl (by decide) rPtr_ok w.heap.size P5.out.below.size _ _ rfl P5.out.g6 _ _ rfl (by simp only [World.size_alloc, World.size_setCell, World.size_drew]) _ (fun _ h => h.elim) rfl H8.out.2 (by decide) ?_); intro v2 w6 g2 gg2 go2; have P6 := Lib.hid (P5.out.app6 gg2 g2 (go2.imp id fun e => ⟨_, e, Nat.le_succ _⟩)); clear g2 gg2 go2))
      go_roundw
      case rel => exact ⟨2 + 1, xs ++ [⟨b', c', w5.heap.size, .slice none 0 0, m, [], []⟩], by omega, by first | rfl | trivial | go_num, by rw [List.length_append, HX.out]; rfl, fun x hx => (List.mem_append.1 hx).elim (HE.out x) (fun h => by simp at h; subst h; exact ⟨rfl, rfl⟩), by rw [List.map_append, List.map_append]; exact P6⟩
      case measure => simp [intOf]
    · have hxx := he
      obtain ⟨pb, cb, pw, cw, e5, e6, hcb, hcw, S0⟩ := X.out.done (by intro e; rw [e] at hx; simp at hx)
      rw [hx] at e5 e6 hcb hcw
      have A0 : After w pb pw wr := ⟨_, S0, by rw [List.length_map, hx], fun i x hi => by
        rw [List.getElem?_map] at hi
        obtain ⟨y, hy, rfl⟩ := Option.map_eq_some_iff.1 hi
        have := hxx y (List.mem_of_getElem? hy)
        exact this.1.trans this.2.symm⟩
      replace A0 := Lib.hid A0
      subst e5 e6
      clear S0 X hxx he hx ix0 ix1 ix2
      rw [show ((3 : Nat) : Int) = 3 from rfl]
      go_wp2_with fail
      go_loopw [60] (fun i wr => ∃ (k : Nat), k ≤ l.length ∧ i = .int .i64 k ∧ Hid (After w pb pw wr)) (fun i _ => l.length - (intOf i).toNat)
      case atStart => exact ⟨0, by omega, by go_num, A0⟩
      case round =>
        clear A0
        obtain ⟨k, hk, rfl, X⟩ := hrel
        have hB := X.out.below
        by_cases hlt : k < l.length
        · obtain ⟨x, x_b, x_o, x_k, x_d, x_m, rfl, x_l, x_S, x_0, x_1, x_2, x_3, x_R, x_kind_ok, x_a_ok, x_b_ok, x_v_ok⟩ := get_IDo hs hlt (kept_of hB)
          have co := one_any (X.out.turn ((Below.refl _ _).alloc (Nat.le_refl _) (.cells #[.int .i64 x.kind, .int .i64 x.a, .int .i64 x.b, .int .i64 x.v] 47))) x x_v_ok cb cw hcb hcw
          have XX := Lib.hid X
          clear X hB
          go_wp2_with (go_at_call 16; refine Calls.mono co ?_; rintro e w9 ⟨rfl, X9⟩; have Y9 := Lib.hid X9; clear X9)
          go_roundw
          case rel => exact ⟨k + 1, by omega, by go_num, Y9⟩
          case measure => simp [intOf]; omega
        · obtain rfl : k = l.length := by omega
          have Z0 : Hid (Left w pb pw 0 wr) := by
            obtain ⟨ab, h, h3, he⟩ := X.out
            exact ⟨ab, h, h3, fun i x _ hx => he i x hx⟩
          clear X hB hs
          go_wp2_with fail
          go_loopw [72] (fun i wr => ∃ (k : Nat), k ≤ 3 ∧ i = .int .i64 k ∧ Hid (Left w pb pw k wr)) (fun i _ => 3 - (intOf i).toNat)
          case atStart => exact ⟨0, by omega, by go_num, Z0⟩
          case round =>
            clear Z0
            obtain ⟨k, hk, rfl, X⟩ := hrel
            by_cases hlt : k < 3
            · obtain ⟨ab, H, h3, he⟩ := X.out
              obtain ⟨x, hx⟩ : ∃ x, ab[k]? = some x := ⟨_, List.getElem?_eq_getElem (by omega)⟩
              have hxe := he k x (Nat.le_refl _) hx
              obtain ⟨c', hb, vv, hr, _⟩ := H.box hx
              obtain ⟨_, hl9, h9⟩ := H.le hx
              obtain ⟨_, r64⟩ := H.r64 hx
              rw [hxe] at hb
              have hrow := hr.2.1
              obtain ⟨Av, cv, hv'⟩ := hr.2.1.shape
              subst hv'
              obtain ⟨cbb, fbb⟩ := blk_cells hr.1
              have hrb := hr.1
              have gx0 := cbb 0 _ rfl
              have gx1 := cbb 1 _ rfl
              obtain ⟨q1, q2⟩ := H.at hx
              have cl := fun W (hw : W = wr.drew) => lenI_any (w := W) (b := x.b) (c := c') (room := x.room) (l := x.lr) (by rw [hw]; exact hb)
              have cr := fun W (hw : W = wr.drew) => roomI_any (w := W) (b := x.b) (c := c') (room := x.room) (l := x.lr) (by rw [hw]; exact hb) (Nat.le_trans h9 (by decide))
              have hwr : IntKind.i64.wrap ((x.room : Int) - (x.lr.length : Int)) = (x.room : Int) - (x.lr.length : Int) := IntWalk.i64_in _ (by omega)
              have K := Lib.hid H
              have E := Lib.hid hxe
              have R64 := Lib.hid r64
              have HR := Lib.hid hrow
              have HRB := Lib.hid hrb
              have H9 := Lib.hid h9
              have HL := Lib.hid (show x.lr.length ≤ 9 by omega)
              have H3 := Lib.hid h3
              have HEE := Lib.hid he
              have HXX := Lib.hid hx
              clear X H hb hr cbb fbb hrow hrb r64 hxe he h3 h9 hl9 hx
              go_upto_region 25 with fail
              go_region_held3 (fun W => W.cell? ⟨pw, k, none⟩ = some (.pointer (some ⟨x.r, 0, none⟩)) ∧ W.cell? ⟨x.r, 0, none⟩ = some (.slice Av x.lr.length cv) ∧ W.cell? ⟨x.r, 1, none⟩ = some (.int .i64 x.room)) (first | exact ⟨y2, y0, y1⟩ | exact ⟨z2, z0, z1⟩ | exact ⟨r2, r0, r1⟩ | exact ⟨q2, gx0, gx1⟩) (first
                | (go_at_call 15; refine Calls.mono (cl _ rfl) ?_; rintro e w2 ⟨rfl, rfl⟩)
                | (go_at_call 14; (refine Calls.mono (cr _ rfl) ?_; rintro e w3 ⟨rfl, q, hw3⟩; have K3 := Lib.hid (K.out.turn (w' := w3) (by subst hw3; exact below_drewN2 (Below.refl _ _).drew q)); have R3 := Lib.hid (show Row w3 (.slice Av x.lr.length cv) x.lr by subst hw3; exact HR.out); have RB3 := Lib.hid (show w3.heap[x.r]? = some (.cells #[.slice Av x.lr.length cv, .int .i64 x.room] 45 (0, 0)) by subst hw3; exact HRB.out); have r2 : w3.cell? ⟨pw, k, none⟩ = some (.pointer (some ⟨x.r, 0, none⟩)) := (by subst hw3; exact q2); have r0 := (blk_cells RB3.out).1 0 _ rfl; have r1 := (blk_cells RB3.out).1 1 _ rfl; clear hw3))
                | (go_at_call 18; refine Calls.mono (st_drain K3.out HXX.out H9.out) ?_; rintro e w4 ⟨⟨v3, rfl, S3⟩, X4, c9, T9, hc9, hne9⟩; have K4 := Lib.hid X4; have S4 := Lib.hid S3; have L4 := Lib.hid ((R3.out.touch T9 hne9).sl (Nat.le_trans HL.out (by decide)) R64.out); have RB4 := Lib.hid ((T9.block x.r (blk_lt RB3.out) (hne9 _ _ _ _ RB3.out) (by simp)).trans RB3.out); obtain ⟨z9, z2⟩ := X4.at (set_get HXX.out); have z0 := (blk_cells RB4.out).1 0 _ rfl; have z1 := (blk_cells RB4.out).1 1 _ rfl; clear X4 S3 T9 hc9 hne9 z9)
                | (go_at_call 17; refine Calls.mono (ints_any _ _ _ _ _ _ _ S4.out L4.out E.out) ?_; rintro e w5 ⟨rfl, b5⟩; have B5 := Lib.hid b5; have K5 := Lib.hid (K4.out.turn b5); have y2 := (b5.cell (p := ⟨pw, k, none⟩) (cell_lt z2)).trans z2; have y0 := (b5.cell (p := ⟨x.r, 0, none⟩) (cell_lt z0)).trans z0; have y1 := (b5.cell (p := ⟨x.r, 1, none⟩) (cell_lt z1)).trans z1; clear b5))
              go_wp2
              go_roundw
              case rel => exact ⟨k + 1, by omega, by go_num, _, K5.out, by rw [List.length_set]; exact H3.out, fun i y hi hy => HEE.out i y (by omega) (by rwa [set_get_ne (by omega)] at hy)⟩
              case measure => simp [intOf]; omega
            · obtain rfl : k = 3 := by omega
              have BF : Below w.heap.size w wr := by
                obtain ⟨ab, h, _⟩ := X.out
                exact h.below
              clear X
              go_wp2
              go_ret
              exact ⟨rfl, BF⟩

set_option maxRecDepth 100000 in
theorem lifted_mailDoes (os : Os) (started : os.Started) (H : Type) (enc : TypeId × Value → H) :
    ReturnsInHanded {} Try.checked os 4 .any (Rows.mailDoesSpec.pre6 enc Try.prog Try.f4 Rows.mailDoesRow.domain false) (Rows.mailDoesSpec.post enc Try.prog Try.f4 false true false false) := by
  refine returnsInHanded_of_change_sized (C := Try.checked) law_own started (by kernel_rfl) Try.func4
    (ChangeSpec.witness6 (enc := enc) (C := Try.checked) false ⟨#[], #[.agg #[.int .u8 0, .int .u8 0, .int .u8 0], .slice none 0 0], []⟩ 8 (by kernel_rfl) (by kernel_rfl) (by kernel_rfl) (by kernel_rfl)) ?_
  intro W base args ds gs before hval0 hW hcnd hsz0 _
  have hval : ∀ (j : Nat) t v, Try.f4.params[j]? = some t → args[j]? = some v → Value.okWide Try.prog W .any base t v := hval0
  have hW' := hW
  obtain ⟨p, q, hA0, hV, rfl, hfz, hnd⟩ := hW
  have hA : DataW.TrodAll enc Try.prog W 0 (fun _ => true) true Try.f4.params.toList args.toList ds p := hA0
  rw [Try.params4] at hA hval
  obtain ⟨v0, vs0, d0, ds0, p0, q0, hargs, rfl, rfl, h0, r0⟩ := trodAll_cons hA
  obtain ⟨v1, vs1, d1, ds1, p1, q1, rfl, rfl, rfl, h1, r1⟩ := trodAll_cons r0
  obtain ⟨rfl, rfl, rfl⟩ := trodAll_nil r1
  obtain rfl : args = #[v0, v1] := by cases args; simp_all
  obtain ⟨rfl, rfl⟩ := trodVars_none hV
  clear hargs
  obtain ⟨fu0, hf0⟩ := h0
  obtain ⟨a0, b0, c0, rfl, w0, u0, t0⟩ := rdv_arr3 Try.underlying35 Try.underlying5 (by kernel_rfl) (by kernel_rfl) (hval 0 35 v0 rfl rfl) hf0 (fun q hq => by simpa using List.all_eq_true.1 hsz0 q (DataW.weights_mem_each (j := 0) rfl rfl q hq))
  obtain ⟨fu1, hf1⟩ := h1
  obtain ⟨a1, hx1⟩ := rdv_sl Try.underlying36 (rd_slice Try.underlying36 (by kernel_rfl) (of_decide_eq_true (by kernel_rfl)) (by decide) rdIDo (rIDo_ok).len) (hval 1 36 v1 rfl rfl) hf1 (fun q hq => by simpa using List.all_eq_true.1 hsz0 q (DataW.weights_mem_each (j := 1) rfl rfl q hq))
  refine (walk_mailDoes W a0 b0 c0 w0 u0 t0 a1 _ hx1).mono fun e W' ⟨he, hg⟩ => ?_
  subst he
  exact ⟨_, rfl, law_post hW' rfl rfl rfl Try.underlying4 law_laid (by kernel_rfl) hg⟩

theorem mailDoes_holds : Rows.MailDoesSaid :=
  OpenClaim.holds_of_wide 4 Try.f4 rfl rfl rfl rfl rfl rfl rfl ⟨rfl, rfl, rfl, rfl, rfl⟩ rfl rfl rfl rfl rfl (by kernel_rfl) Try.func4 (by kernel_rfl)
    (of_decide_eq_true (by kernel_rfl)) (by unfold Func.isWrapper; first | (rw [if_pos (by decide +kernel)]; kernel_rfl) | (rw [if_neg (by decide +kernel)]; exact ⟨rfl, rfl⟩))
    (fun os started H enc _ => lifted_mailDoes os started H enc)
end Go.Proofs.Ytgecoannpbghjaa
