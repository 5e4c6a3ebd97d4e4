/- Layer granted: the folder of the chapter's example. Conditions: as each theorem says. -/
import Derived.Test.YtocofkccdfaaaaaGrStr
namespace Go.Proofs.Ytocofkccdfaaaaa
open Go.RowKit Go.Deep

def exE (s : Nm) (p : Int) : Epoch := ⟨p, 0, 0, [⟨s, 1⟩], ⟨#[]⟩⟩
def exM (s : Nm) : Manifest := ⟨s, 1, [], ⟨#[]⟩, [], 0, false, ⟨#[]⟩⟩
def exF (s : Nm) (l : List Int) : Folder := ⟨s, 0, [exM s], l.map (exE s), [], [], []⟩
set_option maxHeartbeats 2000000 in
set_option maxRecDepth 100000 in
theorem folder_any (s : Nm) (l : List Int) (v : Value) (w : World) (S : Nat → Prop) (h : Sl 1 rInt S w v l) (hl : l.length ≤ 100) (hn : s.size ≤ 1000) : Calls Try.prog 30 #[.string s, v] w fun e w' => (∃ cs : List Value, e = .returned (.agg cs.toArray) ∧ rFolder (fun _ => True) w' cs (exF s l)) ∧ Below w.heap.size w w' := by
  obtain ⟨A, c, rfl, hl1, hc, hl2, hs⟩ := h
  unfold maxLen at hc
  obtain ⟨iEpoch, hiEpoch, hzEpoch, h1Epoch, h2Epoch⟩ := info_parts (show (Try.prog.info? 97).map (fun i => (i.zero, i.size, i.bytes)) = some (some (.agg #[.int .i64 0, .int .i64 0, .int .i64 0, .slice none 0 0, .string ⟨#[]⟩]), 5, 64) from by kernel_rfl)
  go_enter Try.func30, Try.ntmps30
  go_wp2
  go_loopw [15] (fun i wr => ∃ (k : Nat) (vo : Value), k ≤ l.length ∧ i = .int .i64 k ∧ Hid (Grow 97 5 rEpoch (fun z => z = w.heap.size ∨ z = w.heap.size + 1 ∨ z = w.heap.size + 1 + 1) wr (w.heap.size + 3) vo ((l.take k).map (exE s))) ∧ Hid (wr.heap[w.heap.size]? = some (.cells #[.string ⟨#[]⟩, .int .i64 0, .slice none 0 0, .slice none 0 0, .slice none 0 0, .slice none 0 0, .slice none 0 0] 43 (0, 0))) ∧ Hid (wr.heap[w.heap.size + 1]? = some (.cells #[.string s, .int .i64 1, .slice none 0 0, .string ⟨#[]⟩, .slice none 0 0, .int .i64 0, .bool false, .string ⟨#[]⟩] 72 (0, 0))) ∧ Hid (wr.heap[w.heap.size + 1 + 1]? = some (.cells #[.string s, .int .i64 0, .slice (some ⟨w.heap.size + 1, 0, none⟩) 1 1, vo, .slice none 0 0, .slice none 0 0, .slice none 0 0] 43 (0, 0))) ∧ Below w.heap.size w wr) (fun i _ => l.length - (RowKit.intOf i).toNat)
  case atStart => exact ⟨0, .slice none 0 0, by omega, by go_num, Grow.nil, (Lib.hid (by repeat' (first | (with_reducible assumption) | (with_reducible refine blk_set_other _ ?_ ?_; rotate_left; first | (with_reducible rfl) | ((try dsimp only); first | (with_reducible assumption) | omega | (simp only [World.size_alloc, World.size_setCell, World.size_drew]; done) | (simp only [World.size_alloc, World.size_setCell, World.size_drew]; omega))) | (with_reducible apply blk_set_same) | ((with_reducible apply blk_alloc_new); first | (with_reducible rfl) | ((try dsimp only); first | (with_reducible assumption) | omega | (simp only [World.size_alloc, World.size_setCell, World.size_drew]; done) | (simp only [World.size_alloc, World.size_setCell, World.size_drew]; omega))) | (with_reducible refine blk_alloc_old _ ?_) | (with_reducible refine blk_drew ?_) | (refine (rfl : (_ : Array Value) = _))))), (Lib.hid (by repeat' (first | (with_reducible assumption) | (with_reducible refine blk_set_other _ ?_ ?_; rotate_left; first | (with_reducible rfl) | ((try dsimp only); first | (with_reducible assumption) | omega | (simp only [World.size_alloc, World.size_setCell, World.size_drew]; done) | (simp only [World.size_alloc, World.size_setCell, World.size_drew]; omega))) | (with_reducible apply blk_set_same) | ((with_reducible apply blk_alloc_new); first | (with_reducible rfl) | ((try dsimp only); first | (with_reducible assumption) | omega | (simp only [World.size_alloc, World.size_setCell, World.size_drew]; done) | (simp only [World.size_alloc, World.size_setCell, World.size_drew]; omega))) | (with_reducible refine blk_alloc_old _ ?_) | (with_reducible refine blk_drew ?_) | (refine (rfl : (_ : Array Value) = _))))), (Lib.hid (by repeat' (first | (with_reducible assumption) | (with_reducible refine blk_set_other _ ?_ ?_; rotate_left; first | (with_reducible rfl) | ((try dsimp only); first | (with_reducible assumption) | omega | (simp only [World.size_alloc, World.size_setCell, World.size_drew]; done) | (simp only [World.size_alloc, World.size_setCell, World.size_drew]; omega))) | (with_reducible apply blk_set_same) | ((with_reducible apply blk_alloc_new); first | (with_reducible rfl) | ((try dsimp only); first | (with_reducible assumption) | omega | (simp only [World.size_alloc, World.size_setCell, World.size_drew]; done) | (simp only [World.size_alloc, World.size_setCell, World.size_drew]; omega))) | (with_reducible refine blk_alloc_old _ ?_) | (with_reducible refine blk_drew ?_) | (refine (rfl : (_ : Array Value) = _))))), by go_grown⟩
  case round =>
    obtain ⟨k, vo, hk, rfl, HG, H0, H1, H2, hbel⟩ := hrel
    have hz2 := blk_lt H2.out
    obtain ⟨c2, f2⟩ := blk_cells H2.out
    obtain ⟨A2, n2, c2', rfl, hn2⟩ := HG.out.shape'
    have b0 := c2 0 _ rfl
    have b1 := c2 1 _ rfl
    have b2 := c2 2 _ rfl
    have b3 := c2 3 _ rfl
    have b4 := c2 4 _ rfl
    have b5 := c2 5 _ rfl
    have b6 := c2 6 _ rfl
    clear c2 hn2
    by_cases hlt : k < l.length
    · obtain ⟨x, hx⟩ : ∃ x, l[k]? = some x := ⟨_, List.getElem?_eq_getElem hlt⟩
      obtain ⟨b, o, ys, hA, hbl, hR, hcz⟩ := SlAt.elem hs hx (by decide) hbel
      obtain ⟨rfl, hx64⟩ := hR
      have u0 := hcz 0 _ rfl
      rw [Nat.mul_one, Nat.add_zero] at u0
      subst hA
      have hki : (k : Int) < (l.length : Int) := by omega
      have HX := Lib.hid (show (l.take k).map (exE s) ++ [exE s x] = (l.take (k + 1)).map (exE s) by rw [List.take_add_one, hx, List.map_append]; rfl)
      have hln : ((l.take k).map (exE s)).length ≤ 100 := by rw [List.length_map, List.length_take]; omega
      obtain ⟨w1, hw1, cw1, fw1, Bw1, qw1⟩ := boxed wr #[.string s, .int .i64 1] 68
      have HR := Lib.hid (show rEpoch (Free (fun z => z = w.heap.size ∨ z = w.heap.size + 1 ∨ z = w.heap.size + 1 + 1) w1 (.slice A2 n2 c2')) w1 [.int .i64 x, .int .i64 0, .int .i64 0, .slice (some ⟨wr.heap.size, 0, none⟩) 1 1, .string ⟨#[]⟩] (exE s x) from ⟨_, rfl, hx64, (show I64 0 from ⟨by decide, by decide⟩), (show I64 0 from ⟨by decide, by decide⟩), Sl_one [.string s, .int .i64 1] (Nat.le_refl _) (by decide) ⟨qw1, by omega, fun e => by have := (HG.out.base_le _ e).2; omega⟩ rfl (fun j y hj => by rw [Nat.zero_add]; exact cw1 j y (by simpa using hj)) ⟨rfl, (by show s.size ≤ _; omega), (show I64 1 from ⟨by decide, by decide⟩)⟩, Nat.zero_le _⟩)
      have HB1 := Lib.hid Bw1
      have HQ1 := Lib.hid qw1
      have HG1 := Lib.hid (HG.out.below rEpoch_ok Bw1)
      clear hcz hx cw1 fw1 Bw1
      go_wp2_with (at_builtin; go_loud (refine wpList_grow1 (R := rEpoch) _ _ rfl (.tmp 20) (.tmp 26) 38 rfl 97 iEpoch _ 5 64 Try.underlying38 hiEpoch hzEpoch h1Epoch h2Epoch rfl (by decide) rEpoch_ok (w.heap.size + 3) (by have := HQ1.out; omega) _ _ rfl HG1.out _ _ rfl (by simp only [World.size_alloc, World.size_setCell, World.size_drew]) _ (by intro b hb; have := HQ1.out; omega) HR.out (by omega) (by decide) ?_); intro v5 w5 g5 gg5 go5; obtain ⟨A5, n5, c5, rfl, hn5⟩ := g5.shape'; have G5 := Lib.hid g5; have GG5 := Lib.hid gg5; have T2 := (gg5.block (w.heap.size + 1 + 1) (by have := HQ1.out; omega) (fun e => by have := (HG.out.base_le _ e.symm).1; omega)).trans ((HB1.out.block _ hz2).trans H2.out); have hf5 := (blk_cells T2).2; have hb5 := (blk_cells T2).1 3 _ rfl; have HT2 := Lib.hid T2; clear hn5 g5 gg5 go5 T2)
      have HZ1 := Lib.hid (show wr.heap.size ≤ w1.heap.size from HB1.out.size)
      go_roundw
      case rel =>
        have hbb := fun b hb => (G5.out.base_le b hb).1
        have hol : ∀ b, b < w.heap.size + 3 → w1.heap[b]? = wr.heap[b]? ∧ w5.heap[b]? = w1.heap[b]? := fun b hb => ⟨HB1.out.block b (by omega), GG5.out.block b (by have := HQ1.out; omega) fun e => by have := (HG.out.base_le _ e.symm).1; omega⟩
        have e0 := hol w.heap.size (by omega)
        have e1 := hol (w.heap.size + 1) (by omega)
        refine ⟨k + 1, _, by omega, by go_num, ?_, blk_set_other _ (e0.2.trans (e0.1.trans H0.out)) (by dsimp only; omega), blk_set_other _ (e1.2.trans (e1.1.trans H1.out)) (by dsimp only; omega), blk_set_same _ HT2.out rfl, ?_⟩
        · show Grow _ _ _ _ _ _ _ _
          have := G5.out.set rEpoch_ok (a := ⟨w.heap.size + 1 + 1, 3, none⟩) (.slice A5 n5 c5) (.inr (.inr rfl)) (fun e => by have := hbb _ e; dsimp only at this; omega)
          rwa [HX.out] at this
        · have h5 : Below w.heap.size w w5 := Below.grown (bel_call hbel HB1.out) GG5.out (by have := HZ1.out; omega) fun b hb => by have := (HG.out.base_le _ hb).1; omega
          exact h5.setCell (by dsimp only; omega) _
      case measure => simp [RowKit.intOf]; omega
    · obtain rfl : k = l.length := by omega
      rw [List.take_length] at HG
      obtain ⟨c0, f0⟩ := blk_cells H0.out
      have r0 := c0 0 _ rfl
      have r1 := c0 1 _ rfl
      have r2 := c0 2 _ rfl
      have r3 := c0 3 _ rfl
      have r4 := c0 4 _ rfl
      have r5 := c0 5 _ rfl
      have r6 := c0 6 _ rfl
      clear c0
      go_wp2
      try simp only [Exit.inBlock, Exit.then]
      have h0 := H0.out
      have i0 : I64 0 := ⟨by decide, by decide⟩
      refine bodyPost_ret (results_cell_row rfl _ _ w.heap.size 43 #[.string s, .int .i64 0, .slice (some ⟨w.heap.size + 1, 0, none⟩) 1 1, .slice A2 n2 c2', .slice none 0 0, .slice none 0 0, .slice none 0 0] (0, 0) _ rfl (by repeat' (first | (with_reducible assumption) | (with_reducible refine blk_set_other _ ?_ ?_; rotate_left; first | (with_reducible rfl) | ((try dsimp only); first | (with_reducible assumption) | omega | (simp only [World.size_alloc, World.size_setCell, World.size_drew]; done) | (simp only [World.size_alloc, World.size_setCell, World.size_drew]; omega))) | (with_reducible apply blk_set_same) | ((with_reducible apply blk_alloc_new); first | (with_reducible rfl) | ((try dsimp only); first | (with_reducible assumption) | omega | (simp only [World.size_alloc, World.size_setCell, World.size_drew]; done) | (simp only [World.size_alloc, World.size_setCell, World.size_drew]; omega))) | (with_reducible refine blk_alloc_old _ ?_) | (with_reducible refine blk_drew ?_) | (refine (rfl : (_ : Array Value) = _)))) Try.underlying43 rfl (by kernel_rfl)) rfl ?_
      refine ⟨⟨_, rfl, ?_⟩, by go_grown⟩
      refine rFolder_keep (S := fun z => z ≠ w.heap.size) (w := wr) ?_ (ButB.kept (B := fun z => z = w.heap.size) ?_ fun x hx => ⟨trivial, hx⟩)
      · refine ⟨_, _, _, _, _, rfl, (by show s.size ≤ _; omega), i0, ?_, HG.out.sl rEpoch_ok (fun b _ hb he => hb (.inl he)) (fun b hb => by have := (HG.out.base_le b hb).1; omega), Sl_nil _ _ _ _, Sl_nil _ _ _ _, Sl_nil _ _ _ _⟩
        exact Sl_one [.string s, .int .i64 1, .slice none 0 0, .string ⟨#[]⟩, .slice none 0 0, .int .i64 0, .bool false, .string ⟨#[]⟩] (Nat.le_refl _) (by decide) (by omega) rfl (fun j y hj => by rw [Nat.zero_add]; exact (blk_cells H1.out).1 j y (by simpa using hj)) ⟨_, _, rfl, (by show s.size ≤ _; omega), (show I64 1 from ⟨by decide, by decide⟩), Sl_nil _ _ _ _, Nat.zero_le _, Sl_nil _ _ _ _, i0, Nat.zero_le _⟩
      · repeat (refine ButB.set ?_ _ _ rfl)
        exact ButB.refl _ _
end Go.Proofs.Ytocofkccdfaaaaa
