/- Layer mail: what is done to the boxes: Drain. Condition: the state. -/
import Derived.Test.YtgecoannpbghjaaOne
namespace Go.Proofs.Ytgecoannpbghjaa
open Go.RowKit Go.Deep Go.Conc

theorem Row.slat {S : Nat → Prop} {w : World} {A : Option Addr} {c : Nat} {l : List Int} (h : Row w (.slice A l.length c) l) (hS : ∀ g o, A = some ⟨g, o, none⟩ → S g) (h64 : ∀ n ∈ l, I64 n) : SlAt 1 rInt S w A l := by
  rcases h with ⟨_, rfl⟩ | ⟨g, off, cap, cur, hv, hg, h1, h2, h3, h4⟩
  · intro i x hx; simp at hx
  · simp only [Value.slice.injEq, true_and] at hv
    obtain ⟨rfl, rfl⟩ := hv
    intro i x hx
    refine ⟨g, off, [.int .i64 x], rfl, hS g off rfl, rfl, fun j y hj => ?_, rfl, h64 x (List.mem_of_getElem? hx)⟩
    have hj0 : j = 0 := by have := (List.getElem?_eq_some_iff.1 hj).1; simpa using this
    subst hj0
    simp at hj
    subst hj
    rw [cell_of_row w g _ cur _ (0, 0) hg, Nat.mul_one, Nat.add_zero]
    exact h4 i x hx
theorem St.pin {w0 W w1 : World} {pb pw : Nat} {D : Option (Nat × Obj)} {ab : List Ab} (h : St w0 pb pw D W ab) (hb : Below W.heap.size W w1) {k : Nat} {o : Obj} (hk : W.heap.size ≤ k) (ho : w1.heap[k]? = some o) : St w0 pb pw (some (k, o)) w1 ab := by
  obtain ⟨xs, e, h⟩ := h
  have h' := h.turn hb
  refine ⟨xs, e, h'.below, h'.each, h'.apart, h'.base, h'.rows, h'.cells, fun k' o' hD => ?_⟩
  cases hD
  exact ⟨ho, fun i x hx hu => by have := (h.each i x hx).lt hu; omega⟩
theorem St.want {w0 W w1 : World} {pb pw : Nat} {D : Option (Nat × Obj)} {ab : List Ab} {e : TypeId} {v : Value} {l : List Int} (h : St w0 pb pw D W ab) (hb : Below W.heap.size W w1) (g : Grow e 1 rInt (fun _ => False) w1 W.heap.size v l) : ∃ D', St w0 pb pw D' w1 ab ∧ ∀ W' ab', St w0 pb pw D' W' ab' → Sl 1 rInt (fun _ => True) W' v l := by
  have s := g.sl rInt_ok (S := fun _ => True) (fun _ _ _ => trivial) (fun _ _ => trivial)
  have hbl := g.base_le
  obtain ⟨A, c, rfl, h1, h2, h3, hs⟩ := s
  rcases hv : (Value.slice A l.length c).ownBlock with _ | k
  · refine ⟨none, (h.turn hb).drop, fun W' ab' _ => ⟨A, c, rfl, h1, h2, h3, fun i x hx => ?_⟩⟩
    obtain ⟨b, o, ys, rfl, _⟩ := hs i x hx
    simp [Value.ownBlock] at hv
  · obtain ⟨hk, hl⟩ := hbl k hv
    obtain ⟨o, ho⟩ : ∃ o, w1.heap[k]? = some o := ⟨_, Array.getElem?_eq_getElem hl⟩
    refine ⟨some (k, o), h.pin hb hk ho, fun W' ab' hW => ⟨A, c, rfl, h1, h2, h3, fun i x hx => ?_⟩⟩
    obtain ⟨b, o', ys, rfl, hS, hl', hc, hR⟩ := hs i x hx
    obtain rfl : b = k := by simpa [Value.ownBlock] using hv
    exact ⟨b, o', ys, rfl, hS, hl', fun j y hj => (World.cell?_of_block (hW.fix.trans ho.symm)).trans (hc j y hj), hR⟩
theorem St.nil {w0 w : World} {pb pw : Nat} {D : Option (Nat × Obj)} {ab : List Ab} {a : Nat} {x : Ab} (h : St w0 pb pw D w ab) (hx : ab[a]? = some x) : St w0 pb pw D (w.setCell ⟨x.r, 0, none⟩ (.slice none 0 0)) (ab.set a { x with lr := [] }) := by
  obtain ⟨c, hb, v, hr, m64, r64, hc0, hcl, k1, k2⟩ := h.box hx
  exact k2 _ (.slice none 0 0) [] none ⟨rfl, rfl, rfl, by simp, fun k _ hk _ => Below.heap_setCell _ _ _ _ hk⟩ (.inl rfl) ⟨blk_set_same _ hr.1 rfl, .inl ⟨rfl, rfl⟩, by simp [Value.ownBlock], by simp, hr.2.2.2.2⟩ (.inr (.inl rfl)) (by simp)
section
variable {w0 w : World} {pb pw : Nat} {ab : List Ab}
set_option maxRecDepth 100000 in
set_option maxHeartbeats 8000000 in
theorem one_drain (h : St w0 pb pw none w ab) (h3 : ab.length = 3) (he : Even ab) (d : IDo) (hv : I64 d.v) (cb cw : Nat) (hcb : 3 ≤ cb) (hcw : 3 ≤ cw) (hk1 : (d.kind == 1) = false) (hk2 : (d.kind == 2) = false) (hk3 : (d.kind == 3) = false) (hk4 : (d.kind == 4) = true) :
    Calls Try.prog 16 #[.slice (some ⟨pb, 0, none⟩) 3 cb, .slice (some ⟨pw, 0, none⟩) 3 cw, .agg #[.int .i64 d.kind, .int .i64 d.a, .int .i64 d.b, .int .i64 d.v]] w fun e w' => e = .returned (.bool true) ∧ After w0 pb pw w' := by
  have HD := h.add (.cells #[.int .i64 d.kind, .int .i64 d.a, .int .i64 d.b, .int .i64 d.v] 47)
  obtain ⟨y0, hy0, cy0, fy0, By0, qy0⟩ := boxed w #[.int .i64 d.kind, .int .i64 d.a, .int .i64 d.b, .int .i64 d.v] 47
  rw [hy0] at HD
  have y0_0 := cy0 0 _ rfl
  have y0_1 := cy0 1 _ rfl
  have y0_2 := cy0 2 _ rfl
  have y0_3 := cy0 3 _ rfl
  obtain ⟨a, ha⟩ : ∃ a, a = placeOf d.a := ⟨_, rfl⟩
  obtain ⟨b, hb⟩ : ∃ b, b = placeOf d.b := ⟨_, rfl⟩
  have ha3 : a < 3 := by rw [ha]; exact placeOf_lt _
  have hb3 : b < 3 := by rw [hb]; exact placeOf_lt _
  have ia0 : (0 : Int) ≤ (a : Int) := by omega
  have ia3 : (a : Int) < 3 := by omega
  have ib0 : (0 : Int) ≤ (b : Int) := by omega
  have ib3 : (b : Int) < 3 := by omega
  have pa := fun W => place_q d.a W a ha
  have pb' := fun W => place_q d.b W b hb
  obtain ⟨x, hx⟩ : ∃ x, ab[a]? = some x := ⟨_, List.getElem?_eq_getElem (by omega)⟩
  have hxe := Lib.hid (he a x hx)
  clear cy0 h ha hb
  go_enter Try.func16, Try.ntmps16
  go_wp2_with fail
  go_quiet (first | (go_at_call_of 22 d.a; refine Calls.quiet_of_same (pa _)) | (go_at_call_of 22 d.b; refine Calls.quiet_of_same (pb' _)))
  have H1 := HD.turn (below_drewN2 (Below.refl _ y0) nq)
  obtain ⟨W1, hW1⟩ : ∃ W, W = y0.drewN nq := ⟨_, rfl⟩
  have q0 : W1.cell? ⟨w.heap.size, 0, none⟩ = some (.int .i64 d.kind) := by rw [hW1]; exact y0_0
  have q3 : W1.cell? ⟨w.heap.size, 3, none⟩ = some (.int .i64 d.v) := by rw [hW1]; exact y0_3
  rw [← hW1] at H1 ⊢
  obtain ⟨q1, q2⟩ := H1.at hx
  have K1 := Lib.hid H1
  clear hW1 y0_0 y0_1 y0_2 y0_3 HD H1
  obtain ⟨iint, hiint, hzint, h1int, h2int⟩ := info_parts (show (Try.prog.info? 3).map (fun i => (i.zero, i.size, i.bytes)) = some (some (.int .i64 0), 1, 8) from by kernel_rfl)
  obtain ⟨_, _, vv, hr, _, r64, _⟩ := K1.out.box hx
  obtain ⟨_, hl9, h9⟩ := K1.out.le hx
  obtain ⟨Av, cv, hv'⟩ := hr.2.1.shape
  subst hv'
  obtain ⟨cbb, fbb⟩ := blk_cells hr.1
  have gx0 := cbb 0 _ rfl
  have gf0 := fbb 0
  have hrl := blk_lt hr.1
  have hal := hr.2.1.lt
  have hsl : SlAt 1 rInt (Free (fun _ => False) (W1.alloc (.cells #[] 3)) (.slice (some ⟨W1.heap.size, 0, none⟩) 0 0)) (W1.alloc (.cells #[] 3)) Av x.lr :=
    (hr.2.1.slat (S := fun g => g < W1.heap.size) (fun g o hA => hal g (by rw [hA]; rfl)) r64).keep rInt_ok (by decide) (fun b hb hl => ⟨⟨by simp; omega, fun h => h, fun hb' => by simp only [Value.ownBlock, Option.some.injEq] at hb'; omega⟩, heap_alloc_old _ _ hl⟩)
  have BA : Below W1.heap.size W1 (W1.alloc (.cells #[] 3)) := (Below.refl _ _).alloc (Nat.le_refl _) _
  have lw : pw < W1.heap.size := cell_lt q2
  have lb : pb < W1.heap.size := cell_lt q1
  have lr' : x.r < W1.heap.size := hrl
  have HL := Lib.hid (show x.lr.length ≤ 9 by omega)
  have HRL := Lib.hid hrl
  have H9 := Lib.hid h9
  have HBA := Lib.hid BA
  clear cbb fbb hr hal hrl BA q3
  have cg := set_get (z := ({ x with lr := [] } : Ab)) hx
  go_wp2_with (first
    | (at_builtin; go_loud (refine wpList_grow (R := rInt) _ rfl (.tmp 129) (.tmp 136) 43 rfl 3 iint _ 1 8 Try.underlying43 hiint hzint h1int h2int rfl (by decide) rInt_ok W1.heap.size (by go_size) _ _ rfl (Grow.empty (heap_alloc_new _ _) (Nat.le_refl _)) _ _ _ rfl _ rfl hsl (by have := HL.out; simp; omega) (by decide) ?_); intro v1 w1 g1 gg1 go1; rw [List.nil_append] at g1; have BW := Lib.hid (show Below W1.heap.size W1 w1 from Below.grown HBA.out gg1 (by simp) fun b hb => by have := Option.some.inj (show some W1.heap.size = some b from hb); omega); have x1 := (BW.out.cell (p := ⟨x.r, 0, none⟩) HRL.out).trans gx0; have x2 := (BW.out.frozen (p := ⟨x.r, 0, none⟩) HRL.out).trans gf0; obtain ⟨x3, x4⟩ := (K1.out.turn BW.out).at hx; obtain ⟨D1, XD, HW0⟩ := K1.out.want BW.out g1; have HW := Lib.hid HW0; have XN := Lib.hid (XD.nil hx); obtain ⟨x5, x6⟩ := XN.out.at cg; obtain ⟨A1, n1, c1, rfl, hn1⟩ := g1.shape'; have N1 := Lib.hid hn1; clear g1 gg1 go1 hn1 XD HW0))
  have cd := st_drain XN.out cg H9.out
  dsimp only at cd
  refine Calls.mono cd ?_
  rintro e w3 ⟨⟨v3, rfl, S3⟩, X3, T3⟩
  have X4 := Lib.hid X3
  have S4 := Lib.hid S3
  obtain ⟨A3, c3, rfl, S5⟩ := S3
  clear X3 S5 T3
  go_wp2_with (go_at_call 17; refine Calls.mono (ints_any _ _ _ _ _ _ _ S4.out (HW.out _ _ X4.out) hxe.out) ?_; rintro e w4 ⟨rfl, b4⟩; have B4 := Lib.hid b4; clear b4)
  go_ret
  refine ⟨rfl, _, (X4.out.turn B4.out).drop, by simp [h3], ?_⟩
  rw [List.set_set]
  exact he.set rfl

end
end Go.Proofs.Ytgecoannpbghjaa
