/- Layer stat: Put. Condition: the pointer leads to a feed; it has counted less than a thousand answers. -/
import Derived.Test.YtmkgiaheeebbbaaFeedN
import Derived.StillTailTactics
import Derived.Maps.OwnOps
namespace Go.Proofs.Ytmkgiaheeebbbaa
open Go.RowKit Go.Conc Go.Maps

/-- Of the blocks of w none turned but those of B; new ones may lie behind. -/
structure ButB (B : Nat → Prop) (w w' : World) : Prop where
  os : w'.os = w.os
  tape : w'.tape = w.tape
  output : w'.output = w.output
  size : w.heap.size ≤ w'.heap.size
  block : ∀ k, k < w.heap.size → ¬ B k → w'.heap[k]? = w.heap[k]?
section
variable {B : Nat → Prop} {w w1 w' : World}
theorem ButB.refl (B : Nat → Prop) (w : World) : ButB B w w := ⟨rfl, rfl, rfl, Nat.le_refl _, fun _ _ _ => rfl⟩
theorem ButB.of (h : Below w.heap.size w w') : ButB B w w' := ⟨h.os, h.tape, h.output, h.size, fun k hk _ => h.block k hk⟩
theorem ButB.but {c : Nat} (h : But c w w') (hB : B c) : ButB B w w' := ⟨h.os, h.tape, h.output, h.size, fun k hk hb => h.block k hk fun e => hb (by rw [e]; exact hB)⟩
theorem ButB.grown {m : Nat} (h : w.grownBy w' (some m)) (hB : B m) : ButB B w w' := ⟨h.os, h.tape, h.output, h.size, fun k hk hb => h.block k hk fun e => hb (by cases e; exact hB)⟩
theorem ButB.set (h : ButB B w w') (a : Addr) (v : Value) (ha : B a.block) : ButB B w (w'.setCell a v) := have b := (Below.refl 0 w').setCell (p := a) (Nat.zero_le _) v
  ⟨b.os.trans h.os, b.tape.trans h.tape, b.output.trans h.output, by simpa using h.size, fun k hk hc => (Below.heap_setCell _ _ _ _ (fun e => hc (by rw [e]; exact ha))).trans (h.block k hk hc)⟩
theorem ButB.trans (h : ButB B w w1) (k : ButB B w1 w') : ButB B w w' := ⟨k.os.trans h.os, k.tape.trans h.tape, k.output.trans h.output, Nat.le_trans h.size k.size, fun b hb hc => (k.block b (Nat.lt_of_lt_of_le hb h.size) hc).trans (h.block b hb hc)⟩
theorem ButB.below {n : Nat} {w0 : World} (h : Below n w0 w) (hn : n ≤ w.heap.size) (hB : ∀ k, B k → n ≤ k) (k : ButB B w w') : Below n w0 w' :=
  ⟨k.os.trans h.os, k.tape.trans h.tape, k.output.trans h.output, Nat.le_trans h.size k.size, fun b hb => (k.block b (by omega) fun hb' => by have := hB b hb'; omega).trans (h.block b hb)⟩
end
theorem own_of {w w' : World} {b n : Nat} {D : DataW Unit} (h : w.ownsMap Try.prog 26 (plainElem Try.prog 3) b n D) (e : w'.heap[b]? = w.heap[b]?) : w'.ownsMap Try.prog 26 (plainElem Try.prog 3) b n D := by
  obtain ⟨es, clock, h1, h2⟩ := h
  exact ⟨es, clock, e.trans h1, h2⟩
theorem zeroI' (w : World) : (zeroValue 3).run Try.prog w = .ok (.int .i64 0) w := by kernel_rfl
/-- The blocks of a feed that its methods write. -/
def Fb (g c m : Nat) : Nat → Prop := fun k => k = g ∨ k = c ∨ k = m

/-- A feed: its cells, its box and its map. -/
structure FeedS (w : World) (g b c m room : Nat) (lost : Int) (Q : List Value) (n : Nat) (D : DataW Unit) : Prop where
  feed : FeedAt w g b m lost
  box : BoxA w b c room Q
  own : w.ownsMap Try.prog 26 (plainElem Try.prog 3) m n D
  gb : g ≠ b
  gc : g ≠ c
  gm : g ≠ m
  bm : b ≠ m
  cm : c ≠ m
theorem FeedS.of {w w' : World} {g b c m room : Nat} {lost : Int} {Q : List Value} {n : Nat} {D : DataW Unit} (h : FeedS w g b c m room lost Q n D) (k : ∀ x, x = g ∨ x = b ∨ x = c ∨ x = m → w'.heap[x]? = w.heap[x]?) : FeedS w' g b c m room lost Q n D :=
  ⟨(k g (.inl rfl)).trans h.feed, h.box.of (k b (.inr (.inl rfl))) (k c (.inr (.inr (.inl rfl)))), own_of h.own (k m (.inr (.inr (.inr rfl)))), h.gb, h.gc, h.gm, h.bm, h.cm⟩
theorem FeedS.lt {w : World} {g b c m room : Nat} {lost : Int} {Q : List Value} {n : Nat} {D : DataW Unit} (h : FeedS w g b c m room lost Q n D) : ∀ x, x = g ∨ x = b ∨ x = c ∨ x = m → x < w.heap.size := by
  rintro x (rfl | rfl | rfl | rfl)
  · exact blk_lt h.feed
  · exact blk_lt h.box.2.1
  · obtain ⟨_, _, _, _, _, q⟩ := h.box
    exact blk_lt q
  · exact h.own.lt
theorem FeedS.below {w w' : World} {g b c m room : Nat} {lost : Int} {Q : List Value} {n : Nat} {D : DataW Unit} (h : FeedS w g b c m room lost Q n D) (k : Below w.heap.size w w') : FeedS w' g b c m room lost Q n D :=
  h.of fun x hx => k.block x (h.lt x hx)

set_option maxHeartbeats 1000000 in
set_option maxRecDepth 100000 in
theorem feedput_room {w : World} {g b c m room : Nat} {lost : Int} {Q : List Value} {n : Nat} {D : DataW Unit} {f : Int → Int} {K : Int → Prop} (h : FeedS w g b c m room lost Q n D) (hm : MapIs D f K) (hn : n ≤ 1000) (hroom : Q.length < room) (e0 e1 : Int) (e2 : ByteArray) (A3 A4 A5 A6 : Option Addr) (n3 c3 n4 c4 n5 c5 n6 c6 : Nat) (he : I64 e0) (hfe : 0 ≤ f e0 ∧ f e0 ≤ 1000) :
    Calls Try.prog 10 #[.pointer (some ⟨g, 0, none⟩), .agg #[.int .i64 e0, .int .i64 e1, .string e2, .slice A3 n3 c3, .slice A4 n4 c4, .slice A5 n5 c5, .slice A6 n6 c6]] w fun e w' => e = .returned (.bool true) ∧ FeedS w' g b c m room lost (Q ++ [.agg #[.int .i64 e0, .int .i64 e1, .string e2, .slice A3 n3 c3, .slice A4 n4 c4, .slice A5 n5 c5, .slice A6 n6 c6]]) (n + 1) (D.put (.int .i64 e0) (.lit (.int .i64 (f e0 + 1)))) ∧ ButB (Fb g c m) w w' := by
  obtain ⟨W1, hW1, b1, f1, B1, q1⟩ := boxed w #[.int .i64 e0, .int .i64 e1, .string e2, .slice A3 n3 c3, .slice A4 n4 c4, .slice A5 n5 c5, .slice A6 n6 c6] 39
  have h1 := h.below B1
  have his := Lib.hid (feedis_any h1.feed)
  have hkey : keyOf Try.prog 26 (.int .i64 e0) = some (.int .i64 e0) := keyOf_int_mk Try.underlying26 (by simp [Lit.wf]; exact he)
  obtain ⟨cb, fb⟩ := blk_cells h1.feed
  have c0 := cb 0 _ rfl
  have c2 := cb 2 _ rfl
  have y0 := b1 0 _ rfl
  have HS := Lib.hid h1
  have HB1 := Lib.hid b1
  have HM := Lib.hid hm
  have HW := Lib.hid hW1
  have HL := h.lt
  have hgl := HL g (.inl rfl)
  have HLL := Lib.hid HL
  have HH := Lib.hid h
  clear h hm h1 cb fb b1 f1 HL hW1
  go_enter Try.func10, Try.ntmps10
  have hW1 := HW.out
  go_wp2_with fail
  refine Calls.mono his.out ?_
  rintro e w2 ⟨rfl, rfl⟩
  clear hW1
  go_wp2_with fail
  go_still_tail 6, (by kernel_rfl)
  change wpList _ _ _ _ _ (World.drew w2)
  have Bd : Below w.heap.size w w2.drew := B1.drew
  have HS2 := Lib.hid (HS.out.of (w' := w2.drew) fun x _ => rfl)
  have hbox2 := Lib.hid (show ∀ j v, (#[.int .i64 e0, .int .i64 e1, .string e2, .slice A3 n3 c3, .slice A4 n4 c4, .slice A5 n5 c5, .slice A6 n6 c6] : Array Value)[j]? = some v → w2.drew.cell? ⟨w.heap.size, j, none⟩ = some v from HB1.out)
  have hz : w.heap.size < w2.drew.heap.size := q1
  revert Bd HS2 hbox2 hz
  generalize w2.drew = w4
  intro Bd HS2 hbox2 hz
  go_wp2_with (first
    | (at_lookup; refine wpList_lookup_own_int _ rfl _ _ 49 rfl 26 3 .i64 keyE Try.underlying49 Try.underlying3 (zeroI' _) m n D rfl HS2.out.own _ _ rfl hkey ?_; intro cc hat hwc; have hcf := HM.out.at hat; have hcb : 0 ≤ cc ∧ cc ≤ 1000 := (by omega); have hwr : IntKind.i64.wrap (cc + 1) = cc + 1 := IntWalk.i64_in _ (by omega); have HCF := Lib.hid hcf; clear hat hwc hcf)
    | (at_mapUpdate; refine wpList_mapUpdate_own _ rfl _ _ _ 49 rfl 26 3 keyE Try.underlying49 _ m n D rfl HS2.out.own (by unfold maxLen; omega) _ (.int .i64 (cc + 1)) _ rfl rfl hkey _ [] (plainElem_int Try.underlying3 (by have h : I64 (cc + 1) := ⟨by omega, by omega⟩; simp [Lit.wf]; exact h)) ?_; intro w3 hown1 hgrow1; have HO1 := Lib.hid hown1; have GG := Lib.hid hgrow1; clear hown1 hgrow1))
  clear hwr c2 y0 his
  obtain rfl : cc = f e0 := HCF.out
  have S3 : FeedS w3 g b c m room lost Q (n + 1) (D.put (.int .i64 e0) (.lit (.int .i64 (f e0 + 1)))) :=
    ⟨(GG.out.block g (HS2.out.lt g (.inl rfl)) (by simp [HS2.out.gm])).trans HS2.out.feed, HS2.out.box.of (GG.out.block b (HS2.out.lt b (.inr (.inl rfl))) (by simp [HS2.out.bm])) (GG.out.block c (HS2.out.lt c (.inr (.inr (.inl rfl)))) (by simp [HS2.out.cm])), HO1.out, HS2.out.gb, HS2.out.gc, HS2.out.gm, HS2.out.bm, HS2.out.cm⟩
  have T3 : ButB (Fb g c m) w w3 := (ButB.of Bd).trans (ButB.grown GG.out (.inr (.inr rfl)))
  have hmb := HLL.out m (.inr (.inr (.inr rfl)))
  have hb3 : ∀ j v, (#[.int .i64 e0, .int .i64 e1, .string e2, .slice A3 n3 c3, .slice A4 n4 c4, .slice A5 n5 c5, .slice A6 n6 c6] : Array Value)[j]? = some v → w3.cell? ⟨w.heap.size, j, none⟩ = some v := fun j v hj =>
    (World.cell?_of_block (GG.out.block w.heap.size hz (by simp; omega))).trans (hbox2.out j v hj)
  have y0 := hb3 0 _ rfl
  have y1 := hb3 1 _ rfl
  have y2 := hb3 2 _ rfl
  have y3 := hb3 3 _ rfl
  have y4 := hb3 4 _ rfl
  have y5 := hb3 5 _ rfl
  have y6 := hb3 6 _ rfl
  clear c0
  have c0 := (blk_cells S3.feed).1 0 _ rfl
  have HS3 := Lib.hid S3
  have HT3 := Lib.hid T3
  clear S3 T3 hb3 hkey
  go_still_tail 5, (by kernel_rfl)
  change wpList _ _ _ _ _ (World.drew w3)
  have S5 := Lib.hid (HS3.out.of (w' := w3.drew) fun x _ => rfl)
  have T5 := Lib.hid (HT3.out.trans (ButB.of (Below.refl _ w3).drew))
  revert S5 T5
  clear HS3 HT3 y0 y1 y2 y3 y4 y5 y6 c0
  generalize w3.drew = w5
  intro S5 T5
  go_wp2_with fail
  refine Calls.mono (putA_room S5.out.box hroom e0 e1 e2 A3 A4 A5 A6 n3 c3 n4 c4 n5 c5 n6 c6) ?_
  rintro e w6 ⟨rfl, hbx, hoc⟩
  have hl5 := S5.out.lt
  have T6 := Lib.hid (T5.out.trans (ButB.but (B := Fb g c m) ((But.of c ((Below.refl _ w5).alloc (Nat.le_refl _) _)).turn hoc) (.inr (.inl rfl))))
  have hk : ∀ k, k < w5.heap.size → k ≠ c → w6.heap[k]? = w5.heap[k]? := fun k h1 h2 => (hoc.block k h2).trans (Below.heap_alloc _ _ k h1)
  have S6 := Lib.hid (show FeedS w6 g b c m room lost (Q ++ [.agg #[.int .i64 e0, .int .i64 e1, .string e2, .slice A3 n3 c3, .slice A4 n4 c4, .slice A5 n5 c5, .slice A6 n6 c6]]) (n + 1) (D.put (.int .i64 e0) (.lit (.int .i64 (f e0 + 1)))) from
    ⟨(hk g (hl5 g (.inl rfl)) S5.out.gc).trans S5.out.feed, hbx, own_of S5.out.own (hk m (hl5 m (.inr (.inr (.inr rfl)))) (Ne.symm S5.out.cm)), S5.out.gb, S5.out.gc, S5.out.gm, S5.out.bm, S5.out.cm⟩)
  clear hbx hoc hk hl5
  go_wp2
  go_ret
  exact ⟨rfl, S6.out, T6.out⟩
set_option maxHeartbeats 1000000 in
set_option maxRecDepth 100000 in
theorem feedput_full {w : World} {g b c m room : Nat} {lost : Int} {Q : List Value} {n : Nat} {D : DataW Unit} {f : Int → Int} {K : Int → Prop} (h : FeedS w g b c m room lost Q n D) (hm : MapIs D f K) (hn : n ≤ 1000) (hroom : room ≤ Q.length) (hlost : 0 ≤ lost ∧ lost ≤ 1000) (e0 e1 : Int) (e2 : ByteArray) (A3 A4 A5 A6 : Option Addr) (n3 c3 n4 c4 n5 c5 n6 c6 : Nat) (he : I64 e0) (hfe : 0 ≤ f e0 ∧ f e0 ≤ 1000) :
    Calls Try.prog 10 #[.pointer (some ⟨g, 0, none⟩), .agg #[.int .i64 e0, .int .i64 e1, .string e2, .slice A3 n3 c3, .slice A4 n4 c4, .slice A5 n5 c5, .slice A6 n6 c6]] w fun e w' => e = .returned (.bool false) ∧ FeedS w' g b c m room (lost + 1) Q (n + 1) (D.put (.int .i64 e0) (.lit (.int .i64 (f e0 + 1)))) ∧ ButB (Fb g c m) w w' := by
  obtain ⟨W1, hW1, b1, f1, B1, q1⟩ := boxed w #[.int .i64 e0, .int .i64 e1, .string e2, .slice A3 n3 c3, .slice A4 n4 c4, .slice A5 n5 c5, .slice A6 n6 c6] 39
  have h1 := h.below B1
  have his := Lib.hid (feedis_any h1.feed)
  have hkey : keyOf Try.prog 26 (.int .i64 e0) = some (.int .i64 e0) := keyOf_int_mk Try.underlying26 (by simp [Lit.wf]; exact he)
  obtain ⟨cb, fb⟩ := blk_cells h1.feed
  have c0 := cb 0 _ rfl
  have c2 := cb 2 _ rfl
  have y0 := b1 0 _ rfl
  have HS := Lib.hid h1
  have HB1 := Lib.hid b1
  have HM := Lib.hid hm
  have HW := Lib.hid hW1
  have HL := h.lt
  have hgl := HL g (.inl rfl)
  have HLL := Lib.hid HL
  have HH := Lib.hid h
  clear h hm h1 cb fb b1 f1 HL hW1
  go_enter Try.func10, Try.ntmps10
  have hW1 := HW.out
  go_wp2_with fail
  refine Calls.mono his.out ?_
  rintro e w2 ⟨rfl, rfl⟩
  clear hW1
  go_wp2_with fail
  go_still_tail 6, (by kernel_rfl)
  change wpList _ _ _ _ _ (World.drew w2)
  have Bd : Below w.heap.size w w2.drew := B1.drew
  have HS2 := Lib.hid (HS.out.of (w' := w2.drew) fun x _ => rfl)
  have hbox2 := Lib.hid (show ∀ j v, (#[.int .i64 e0, .int .i64 e1, .string e2, .slice A3 n3 c3, .slice A4 n4 c4, .slice A5 n5 c5, .slice A6 n6 c6] : Array Value)[j]? = some v → w2.drew.cell? ⟨w.heap.size, j, none⟩ = some v from HB1.out)
  have hz : w.heap.size < w2.drew.heap.size := q1
  revert Bd HS2 hbox2 hz
  generalize w2.drew = w4
  intro Bd HS2 hbox2 hz
  go_wp2_with (first
    | (at_lookup; refine wpList_lookup_own_int _ rfl _ _ 49 rfl 26 3 .i64 keyE Try.underlying49 Try.underlying3 (zeroI' _) m n D rfl HS2.out.own _ _ rfl hkey ?_; intro cc hat hwc; have hcf := HM.out.at hat; have hcb : 0 ≤ cc ∧ cc ≤ 1000 := (by omega); have hwr : IntKind.i64.wrap (cc + 1) = cc + 1 := IntWalk.i64_in _ (by omega); have HCF := Lib.hid hcf; clear hat hwc hcf)
    | (at_mapUpdate; refine wpList_mapUpdate_own _ rfl _ _ _ 49 rfl 26 3 keyE Try.underlying49 _ m n D rfl HS2.out.own (by unfold maxLen; omega) _ (.int .i64 (cc + 1)) _ rfl rfl hkey _ [] (plainElem_int Try.underlying3 (by have h : I64 (cc + 1) := ⟨by omega, by omega⟩; simp [Lit.wf]; exact h)) ?_; intro w3 hown1 hgrow1; have HO1 := Lib.hid hown1; have GG := Lib.hid hgrow1; clear hown1 hgrow1))
  clear hwr c2 y0 his
  obtain rfl : cc = f e0 := HCF.out
  have S3 : FeedS w3 g b c m room lost Q (n + 1) (D.put (.int .i64 e0) (.lit (.int .i64 (f e0 + 1)))) :=
    ⟨(GG.out.block g (HS2.out.lt g (.inl rfl)) (by simp [HS2.out.gm])).trans HS2.out.feed, HS2.out.box.of (GG.out.block b (HS2.out.lt b (.inr (.inl rfl))) (by simp [HS2.out.bm])) (GG.out.block c (HS2.out.lt c (.inr (.inr (.inl rfl)))) (by simp [HS2.out.cm])), HO1.out, HS2.out.gb, HS2.out.gc, HS2.out.gm, HS2.out.bm, HS2.out.cm⟩
  have T3 : ButB (Fb g c m) w w3 := (ButB.of Bd).trans (ButB.grown GG.out (.inr (.inr rfl)))
  have hmb := HLL.out m (.inr (.inr (.inr rfl)))
  have hb3 : ∀ j v, (#[.int .i64 e0, .int .i64 e1, .string e2, .slice A3 n3 c3, .slice A4 n4 c4, .slice A5 n5 c5, .slice A6 n6 c6] : Array Value)[j]? = some v → w3.cell? ⟨w.heap.size, j, none⟩ = some v := fun j v hj =>
    (World.cell?_of_block (GG.out.block w.heap.size hz (by simp; omega))).trans (hbox2.out j v hj)
  have y0 := hb3 0 _ rfl
  have y1 := hb3 1 _ rfl
  have y2 := hb3 2 _ rfl
  have y3 := hb3 3 _ rfl
  have y4 := hb3 4 _ rfl
  have y5 := hb3 5 _ rfl
  have y6 := hb3 6 _ rfl
  clear c0
  have c0 := (blk_cells S3.feed).1 0 _ rfl
  have HS3 := Lib.hid S3
  have HT3 := Lib.hid T3
  clear S3 T3 hb3 hkey
  go_still_tail 5, (by kernel_rfl)
  change wpList _ _ _ _ _ (World.drew w3)
  have S5 := Lib.hid (HS3.out.of (w' := w3.drew) fun x _ => rfl)
  have T5 := Lib.hid (HT3.out.trans (ButB.of (Below.refl _ w3).drew))
  revert S5 T5
  clear HS3 HT3 y0 y1 y2 y3 y4 y5 y6 c0
  generalize w3.drew = w5
  intro S5 T5
  go_wp2_with fail
  refine Calls.mono (putA_full S5.out.box hroom e0 e1 e2 A3 A4 A5 A6 n3 c3 n4 c4 n5 c5 n6 c6) ?_
  rintro e w6 ⟨rfl, hw6⟩
  have S6 := Lib.hid (show FeedS w6 g b c m room lost Q (n + 1) (D.put (.int .i64 e0) (.lit (.int .i64 (f e0 + 1)))) by rw [hw6]; exact S5.out.below ((Below.refl _ w5).alloc (Nat.le_refl _) _))
  have T6 := Lib.hid (show ButB (Fb g c m) w w6 by rw [hw6]; exact T5.out.trans (ButB.of ((Below.refl _ w5).alloc (Nat.le_refl _) _)))
  clear hw6
  obtain ⟨cb, fb⟩ := blk_cells S6.out.feed
  have c1 := cb 1 _ rfl
  have f1 := fb 1
  have hwl : IntKind.i64.wrap (lost + 1) = lost + 1 := IntWalk.i64_in _ (by omega)
  clear cb fb
  go_wp2
  go_ret
  exact ⟨rfl, ⟨blk_set_same _ S6.out.feed (by simp), S6.out.box.of (Below.heap_setCell _ _ _ _ (Ne.symm S6.out.gb)) (Below.heap_setCell _ _ _ _ (Ne.symm S6.out.gc)), own_of S6.out.own (Below.heap_setCell _ _ _ _ (Ne.symm S6.out.gm)), S6.out.gb, S6.out.gc, S6.out.gm, S6.out.bm, S6.out.cm⟩, T6.out.set _ _ (.inl rfl)⟩
end Go.Proofs.Ytmkgiaheeebbbaa
