/- Layer mail: Put, Take, Drain, Move of one of the three boxes, and the document's. Condition: the state. -/
import Derived.Test.YtgecoannpbghjaaState
import Derived.Deep.RegionHeld3
namespace Go.Proofs.Ytgecoannpbghjaa
open Go.RowKit Go.Deep Go.Conc

theorem below_drewN2 {n : Nat} {w w' : World} (h : Below n w w') : ∀ q, Below n w (w'.drewN q)
  | 0 => h
  | q + 1 => (below_drewN2 h q).drew
def lenV : Value → Nat
  | .slice _ n _ => n
  | _ => 0
def putL (room : Nat) (l : List Int) (n : Int) : List Int := if l.length < room then l ++ [n] else l
theorem set_self {α : Type} {ab : List α} {a : Nat} {x : α} (hx : ab[a]? = some x) : ab.set a x = ab := by
  apply List.ext_getElem?
  intro i
  rw [List.getElem?_set]
  by_cases h : a = i
  · subst h
    rw [if_pos rfl, if_pos (List.getElem?_eq_some_iff.1 hx).1, hx]
  · rw [if_neg h]
theorem mem_put {room : Nat} {l : List Int} {n : Int} (h : ∀ m ∈ l, I64 m) (hn : I64 n) : ∀ m ∈ putL room l n, I64 m := by
  intro m hm
  unfold putL at hm
  split at hm
  · rcases List.mem_append.1 hm with hm | hm
    · exact h m hm
    · simp at hm; subst hm; exact hn
  · exact h m hm
section
variable {w0 w : World} {pb pw : Nat} {D : Option (Nat × Obj)} {ab : List Ab} {a : Nat} {x : Ab}
theorem st_put (h : St w0 pb pw D w ab) (hx : ab[a]? = some x) (n : Int) (hn : I64 n) :
    Calls Try.prog 19 #[.pointer (some ⟨x.b, 0, none⟩), .int .i64 n] w fun e w' => e = .returned (.bool (decide (x.lm.length < x.room))) ∧ St w0 pb pw D w' (ab.set a { x with lm := putL x.room x.lm n }) := by
  obtain ⟨c, hb, v, hr, m64, r64, _, _, k1, k2⟩ := h.box hx
  by_cases hlt : x.lm.length < x.room
  · refine (putI_room hb hlt n).mono ?_
    rintro e w' ⟨rfl, hb', ho⟩
    refine ⟨by rw [decide_eq_true hlt], ?_⟩
    have := k1 w' _ (touch_only ho) hb' (by have := mem_put (room := x.room) m64 hn; unfold putL at this; rwa [if_pos hlt] at this)
    unfold putL
    rw [if_pos hlt]
    exact this
  · refine (putI_full hb (by omega) n).mono ?_
    rintro e w' ⟨rfl, rfl⟩
    refine ⟨by rw [decide_eq_false hlt], ?_⟩
    unfold putL
    rw [if_neg hlt, set_self hx]
    exact h
theorem st_take (h : St w0 pb pw D w ab) (hx : ab[a]? = some x) :
    Calls Try.prog 24 #[.pointer (some ⟨x.b, 0, none⟩)] w fun e w' => e = .returned (.tuple #[.int .i64 (x.lm.headD 0), .bool (!x.lm.isEmpty)]) ∧ St w0 pb pw D w' (ab.set a { x with lm := x.lm.tail }) := by
  obtain ⟨c, hb, v, hr, m64, r64, _, _, k1, k2⟩ := h.box hx
  rcases hl : x.lm with _ | ⟨y, t⟩
  · rw [hl] at hb
    refine (takeI_none hb).mono ?_
    rintro e w' ⟨rfl, rfl⟩
    refine ⟨rfl, ?_⟩
    rw [show ({ x with lm := ([] : List Int).tail } : Ab) = x by cases x; simp at hl; subst hl; rfl, set_self hx]
    exact h
  · rw [hl] at hb
    refine (takeI_some hb).mono ?_
    rintro e w' ⟨rfl, hb', ho⟩
    exact ⟨rfl, k1 w' _ (touch_only ho) hb' fun m hm => m64 m (by rw [hl]; exact List.mem_cons_of_mem _ hm)⟩
theorem st_rput (h : St w0 pb pw D w ab) (hx : ab[a]? = some x) (n : Int) (hn : I64 n) :
    Calls Try.prog 23 #[.pointer (some ⟨x.r, 0, none⟩), .int .i64 n] w fun e w' => e = .returned (.bool (decide (x.lr.length < x.room))) ∧ St w0 pb pw D w' (ab.set a { x with lr := putL x.room x.lr n }) := by
  obtain ⟨c, hb, v, hr, m64, r64, _, _, k1, k2⟩ := h.box hx
  by_cases hlt : x.lr.length < x.room
  · refine (refput_room hr hlt n).mono ?_
    rintro e w' ⟨rfl, ht, v', hr', hv⟩
    refine ⟨by rw [decide_eq_true hlt], ?_⟩
    have := k2 w' v' _ _ ht (.inr rfl) hr' (hv.imp id .inr) (by have := mem_put (room := x.room) r64 hn; unfold putL at this; rwa [if_pos hlt] at this)
    unfold putL
    rw [if_pos hlt]
    exact this
  · refine (refput_full hr (by omega) n).mono ?_
    rintro e w' ⟨rfl, q, rfl⟩
    refine ⟨by rw [decide_eq_false hlt], ?_⟩
    unfold putL
    rw [if_neg hlt, set_self hx]
    exact h.turn (below_drewN2 (Below.refl _ _) q)
theorem st_rtake (h : St w0 pb pw D w ab) (hx : ab[a]? = some x) :
    Calls Try.prog 25 #[.pointer (some ⟨x.r, 0, none⟩)] w fun e w' => e = .returned (.tuple #[.int .i64 (x.lr.headD 0), .bool (!x.lr.isEmpty)]) ∧ St w0 pb pw D w' (ab.set a { x with lr := x.lr.tail }) := by
  obtain ⟨c, hb, v, hr, m64, r64, _, _, k1, k2⟩ := h.box hx
  rcases hl : x.lr with _ | ⟨y, t⟩
  · rw [hl] at hr
    refine (reftake_none hr).mono ?_
    rintro e w' ⟨rfl, rfl⟩
    refine ⟨rfl, ?_⟩
    rw [show ({ x with lr := ([] : List Int).tail } : Ab) = x by cases x; simp at hl; subst hl; rfl, set_self hx]
    exact h
  · rw [hl] at hr
    refine (reftake_some hr).mono ?_
    rintro e w' ⟨rfl, ht, v', hr', hv⟩
    exact ⟨rfl, k2 w' v' _ _ ht (.inl rfl) hr' (.inl hv) fun m hm => r64 m (by rw [hl]; exact List.mem_cons_of_mem _ hm)⟩

set_option maxHeartbeats 2000000 in
theorem st_drain (h : St w0 pb pw D w ab) (hx : ab[a]? = some x) (hr9 : x.room ≤ 9) :
    Calls Try.prog 18 #[.pointer (some ⟨x.b, 0, none⟩)] w fun e w' => (∃ v', e = .returned v' ∧ Sl 1 rInt (fun _ => True) w' v' x.lm) ∧ St w0 pb pw D w' (ab.set a { x with lm := [] }) ∧ ∃ c, Touch c none w w' ∧ w0.heap.size ≤ c ∧ ∀ j cs T q, w.heap[j]? = some (.cells cs T q) → j ≠ c := by
  obtain ⟨iint, hiint, hzint, h1int, h2int⟩ := info_parts (show (Try.prog.info? 3).map (fun i => (i.zero, i.size, i.bytes)) = some (some (.int .i64 0), 1, 8) from by kernel_rfl)
  obtain ⟨c, hb, v, hr, m64, r64, hc0, hcl, k1, k2⟩ := h.box hx
  have hll := hb.2.2.1
  have K1 := Lib.hid k1
  have HB := Lib.hid hb
  have HM := Lib.hid m64
  clear k1 k2 hr r64 hb h m64
  go_enter Try.func18, Try.ntmps18
  go_wp2
  go_loopw [3] (fun s wr => ∃ (k : Nat) (v : Value), k ≤ x.lm.length ∧ v = s ∧ Hid (BoxI wr x.b c x.room (x.lm.drop k)) ∧ Hid (Touch c none w wr) ∧ Hid (Grow 3 1 rInt (fun b => b = c) wr w.heap.size v (x.lm.take k))) (fun s _ => x.lm.length - lenV s)
  case atStart => exact ⟨0, _, by omega, rfl, by rw [List.drop_zero]; exact HB, ⟨rfl, rfl, rfl, Nat.le_refl _, fun _ _ _ _ => rfl⟩, Grow.nil⟩
  case round =>
    obtain ⟨k, v, hk, rfl, X, T, HG⟩ := hrel
    obtain ⟨A0, n0, c0, rfl, hn0⟩ := HG.out.shape'
    have hn0' : n0 = k := by rw [hn0, List.length_take]; omega
    subst hn0'
    clear hn0
    have hz := T.out.size
    by_cases hlt : n0 < x.lm.length
    · obtain ⟨y, hy⟩ : ∃ y, x.lm[n0]? = some y := ⟨_, List.getElem?_eq_getElem hlt⟩
      have hd : x.lm.drop n0 = y :: x.lm.drop (n0 + 1) := by
        obtain ⟨h1, h2⟩ := List.getElem?_eq_some_iff.1 hy
        rw [List.drop_eq_getElem_cons h1, h2]
      have X' := X.out
      rw [hd] at X'
      have ct := takeI_some X'
      have hy64 : I64 y := HM.out y (List.mem_of_getElem? hy)
      have HT := Lib.hid (show x.lm.take (n0 + 1) = x.lm.take n0 ++ [y] by rw [List.take_add_one, hy]; rfl)
      have HL := Lib.hid (show (x.lm.take n0).length ≤ 9 by rw [List.length_take]; omega)
      clear X X' hy hd
      go_wp2_with (first
        | (go_at_call 24; refine Calls.mono ct ?_; rintro e w9 ⟨rfl, X9, O9⟩; have Z9 := Lib.hid O9.size; have XX := Lib.hid X9; have OO := Lib.hid O9; have G9 := Lib.hid (Grow.keep (B' := fun b => b = c) rInt_ok HG.out (Nat.le_of_eq O9.size.symm) (fun _ _ h => h) (fun b hl hb => O9.block b hb) (fun b hv => O9.block b (by have := (HG.out.base_le b hv).1; omega))); clear X9 O9)
        | (at_builtin; go_loud (refine wpList_grow1 (R := rInt) _ _ rfl (.tmp 14) (.tmp 16) 43 rfl 3 iint _ 1 8 Try.underlying43 hiint hzint h1int h2int rfl (by decide) rInt_ok w.heap.size (by have := Z9.out; omega) _ _ rfl G9.out _ _ rfl (by simp only [World.size_alloc, World.size_setCell, World.size_drew]) _ (by intro b hb; have := Z9.out; omega) ⟨rfl, hy64⟩ (by have := HL.out; omega) (by decide) ?_); intro v1 w1 g1 gg1 go1; obtain ⟨A1, n1, c1, rfl, hn1⟩ := g1.shape'; have G1 := Lib.hid g1; have N1 := Lib.hid hn1; have GG := Lib.hid gg1; clear hn1 g1 gg1))
      have hb9 := (G9.out.base_le)
      have z9 := Z9.out
      have hn1' : n1 = n0 + 1 := by rw [N1.out, List.length_append, List.length_take]; simp; omega
      subst hn1'
      have hT : Touch c none w w1 := by
        have t := T.out
        have o := OO.out
        have g := GG.out
        refine ⟨g.os.trans (o.os.trans t.os), g.tape.trans (o.tape.trans t.tape), g.output.trans (o.output.trans t.output), Nat.le_trans hz (by rw [← z9]; exact g.size), fun j hj hjc hn => ?_⟩
        rw [g.block j (by omega) (fun e => by have := (hb9 j e.symm).1; omega), o.block j hjc]
        exact t.block j hj hjc hn
      have hX : BoxI w1 x.b c x.room (x.lm.drop (n0 + 1)) := by
        obtain ⟨hbc, hb, hl, s, r, hc⟩ := XX.out
        have g := GG.out
        have l1 := blk_lt hb
        have l2 := blk_lt hc
        refine ⟨hbc, (g.block _ l1 fun e => ?_).trans hb, hl, s, r, (g.block _ l2 fun e => ?_).trans hc⟩
        · have := (hb9 _ e.symm).1
          have hbw := blk_lt HB.out.2.1
          omega
        · have := (hb9 _ e.symm).1; omega
      go_roundw
      case rel => exact ⟨n0 + 1, _, by omega, rfl, hX, hT, by rw [HT.out]; exact G1⟩
      case measure => simp [lenV]; omega
    · have hk1 : n0 = x.lm.length := by omega
      subst hk1
      have X' := X.out
      rw [List.drop_of_length_le (by omega)] at X'
      have ct := takeI_none X'
      have XX := Lib.hid X'
      clear X X'
      go_wp2_with (go_at_call 24; refine Calls.mono ct ?_; rintro e w9 ⟨rfl, rfl⟩)
      go_ret
      have hg := HG.out
      rw [List.take_of_length_le (by omega)] at hg
      exact ⟨⟨_, rfl, hg.sl rInt_ok (fun _ _ _ => trivial) (fun _ _ => trivial)⟩, K1.out _ [] T.out XX.out (by simp), c, T.out, hc0, fun j cs T q hj e => by
        obtain ⟨_, _, _, s, r, hc⟩ := HB.out
        rw [e, hc] at hj
        cases hj⟩
end
end Go.Proofs.Ytgecoannpbghjaa
