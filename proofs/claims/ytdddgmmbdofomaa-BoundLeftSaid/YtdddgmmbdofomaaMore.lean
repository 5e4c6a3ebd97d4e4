/- BoundLeft: a state with so many versions more. Conditions: the state is small. -/
import Derived.Test.YtdddgmmbdofomaaBoundP
import Derived.Test.YtdddgmmbdofomaaBlk
namespace Go.Proofs.Ytdddgmmbdofomaa
open Go.RowKit Go.Deep

def ver0 : Version := ⟨0, false, ⟨#[]⟩, []⟩
def moreItem (x : Item) (n : Nat) : Item := { x with versions := x.versions ++ List.replicate n ver0 }
def moreItems : List Item → Nat → List Item
  | [], _ => []
  | x :: l, n => moreItem x n :: l
def moreFolder (f : Folder) (n : Nat) : Folder := { f with items := moreItems f.items n }
def moreFolders : List Folder → Nat → List Folder
  | [], _ => []
  | f :: l, n => moreFolder f n :: l
def moreOf (st : State) (n : Nat) : State := ⟨0, st.users, st.deposits, moreFolders st.folders n⟩

theorem take_more {α : Type} {l' : List α} {k : Nat} {x : α} (h : l'[k]? = some x) : l'.take (k + 1) = l'.take k ++ [x] := by
  rw [List.take_add_one, h]; rfl

theorem more_at {l : List Folder} {n k : Nat} {x : Folder} (hk : k ≠ 0) (h : l[k]? = some x) : (moreFolders l n)[k]? = some x := by
  rcases l with _ | ⟨y, l⟩
  · simp at h
  · rcases k with _ | k
    · exact absurd rfl hk
    · simpa [moreFolders] using h

theorem Sl.all {α : Type} {sz : Nat} {R : Rp α} {S : Nat → Prop} {w : World} {v : Value} {l : List α} (ok : RpOk sz R) (hsz : 0 < sz) (h : Sl sz R S w v l) : Sl sz R (fun _ => True) w v l := h.keep ok hsz (Kept.refl w fun _ _ => trivial)
theorem more_len (l : List Folder) (n : Nat) : (moreFolders l n).length ≤ l.length := by
  cases l <;> simp [moreFolders]
theorem more_elem {S S' : Nat → Prop} {w W : World} {a0 a1 v2 v3 v4 v5 v6 vi : Value} {x : Folder} {n : Nat} (h : rFolder S w [a0, a1, v2, v3, v4, v5, v6] x) (k : Kept S S' w W) (hi : Sl 2 rItem S' W vi (moreItems x.items n)) : rFolder S' W [a0, a1, v2, v3, vi, v5, v6] (moreFolder x n) := by
  obtain ⟨u2, u3, u4, u5, u6, e, h1, h2, h3, h4, h5, h6, h7⟩ := rFolder_keep h k
  simp only [List.cons.injEq, and_true] at e
  obtain ⟨rfl, rfl, rfl, rfl, rfl, rfl, rfl⟩ := e
  exact ⟨_, _, _, _, _, rfl, h1, h2, h3, h4, hi, h6, h7⟩
theorem more_head {l : List Folder} {n : Nat} {x : Folder} (h : l[0]? = some x) : (moreFolders l n).take 1 = [] ++ [moreFolder x n] := by
  rcases l with _ | ⟨y, l⟩
  · simp at h
  · simp at h
    subst h
    rfl
theorem moreI_at {l : List Item} {n k : Nat} {x : Item} (hk : k ≠ 0) (h : l[k]? = some x) : (moreItems l n)[k]? = some x := by
  rcases l with _ | ⟨y, l⟩
  · simp at h
  · rcases k with _ | k
    · exact absurd rfl hk
    · simpa [moreItems] using h
theorem moreI_head {l : List Item} {n : Nat} {x : Item} (h : l[0]? = some x) : (moreItems l n).take 1 = [] ++ [moreItem x n] := by
  rcases l with _ | ⟨y, l⟩
  · simp at h
  · simp at h
    subst h
    rfl
theorem more_elemI {S S' : Nat → Prop} {w W : World} {a0 v1 vi : Value} {x : Item} {n : Nat} (h : rItem S w [a0, v1] x) (k : Kept S S' w W) (hi : Sl 4 rVersion S' W vi (x.versions ++ List.replicate n ver0)) : rItem S' W [a0, vi] (moreItem x n) := by
  obtain ⟨u2, e, h1, h2⟩ := rItem_keep h k
  simp only [List.cons.injEq, and_true] at e
  obtain ⟨rfl, rfl⟩ := e
  exact ⟨_, rfl, h1, hi⟩
theorem moreI_len (l : List Item) (n : Nat) : (moreItems l n).length ≤ l.length := by
  cases l <;> simp [moreItems]
set_option maxHeartbeats 2000000 in
theorem more_any (st : State) (n : Nat) (cs : List Value) (w : World) (S : Nat → Prop) (h : rState S w cs st) (hfl : st.folders.length ≤ 1000) (hil : ∀ f ∈ st.folders, f.items.length ≤ 1000) (hvl : ∀ f ∈ st.folders, ∀ x ∈ f.items, x.versions.length ≤ 1000) (hn : n ≤ 3000) :
    Calls Try.prog 10 #[.agg cs.toArray, .int .i64 n] w fun e w' => (∃ cs', e = .returned (.agg cs'.toArray) ∧ rState (fun _ => True) w' cs' (moreOf st n)) ∧ Below w.heap.size w w' := by
  obtain ⟨iFolder, hiFolder, hzFolder, h1Folder, h2Folder⟩ := info_parts (show (Try.prog.info? 37).map (fun i => (i.zero, i.size, i.bytes)) = some (some (.agg #[.string ⟨#[]⟩, .int .i64 0, .slice none 0 0, .slice none 0 0, .slice none 0 0, .slice none 0 0, .slice none 0 0]), 7, 144) from by kernel_rfl)
  obtain ⟨iItem, hiItem, hzItem, h1Item, h2Item⟩ := info_parts (show (Try.prog.info? 57).map (fun i => (i.zero, i.size, i.bytes)) = some (some (.agg #[.string ⟨#[]⟩, .slice none 0 0]), 2, 40) from by kernel_rfl)
  obtain ⟨iVersion, hiVersion, hzVersion, h1Version, h2Version⟩ := info_parts (show (Try.prog.info? 101).map (fun i => (i.zero, i.size, i.bytes)) = some (some (.agg #[.int .i64 0, .bool false, .string ⟨#[]⟩, .slice none 0 0]), 4, 56) from by kernel_rfl)
  have hR := h
  obtain ⟨st_A1, st_c1, st_A2, st_c2, st_A3, st_c3, rfl, st_turn_ok, st_users_l, st_users_m, st_users_n, st_users_s, st_deposits_l, st_deposits_m, st_deposits_n, st_deposits_s, st_folders_l, st_folders_m, st_folders_n, st_folders_s⟩ := open_State h
  obtain ⟨w0, hw0, cw0, fzw0, Bw0, qw0⟩ := boxed w #[.int .i64 st.turn, .slice st_A1 st.users.length st_c1, .slice st_A2 st.deposits.length st_c2, .slice st_A3 st.folders.length st_c3] 26
  have w0_0 := cw0 0 _ rfl
  have w0_1 := cw0 1 _ rfl
  have w0_2 := cw0 2 _ rfl
  have w0_3 := cw0 3 _ rfl
  clear cw0
  have zw0 := Bw0.size
  go_enter Try.func10, Try.ntmps10
  go_wp2
  go_loopw [19] (fun i wr => ∃ (k : Nat) (v : Value), k ≤ st.folders.length ∧ i = .int .i64 k ∧ (k = 0 → v = .slice none 0 0) ∧ wr.heap[w0.heap.size + 1]? = some (.cells #[.int .i64 0, .slice st_A1 st.users.length st_c1, .slice st_A2 st.deposits.length st_c2, v] 26 (0, 0)) ∧ wr.heap[w0.heap.size]? = some (.cells #[.int .i64 0, .slice none 0 0, .slice none 0 0, .slice none 0 0] 26 (0, 0)) ∧
    Grow 37 7 rFolder (fun b => b = w0.heap.size ∨ b = w0.heap.size + 1) wr (w0.heap.size + 2) v ((moreFolders st.folders n).take k) ∧ Below w.heap.size w wr) (fun i _ => st.folders.length - (intOf i).toNat)
  case atStart =>
    exact ⟨0, _, by omega, by go_num, fun _ => rfl, by repeat' (first | (with_reducible assumption) | (with_reducible refine blk_set_other _ ?_ ?_; rotate_left; first | (with_reducible rfl) | ((try dsimp only); first | (with_reducible assumption) | omega | (simp only [World.size_alloc, World.size_setCell, World.size_drew]; done) | (simp only [World.size_alloc, World.size_setCell, World.size_drew]; omega))) | (with_reducible apply blk_set_same) | ((with_reducible apply blk_alloc_new); first | (with_reducible rfl) | ((try dsimp only); first | (with_reducible assumption) | omega | (simp only [World.size_alloc, World.size_setCell, World.size_drew]; done) | (simp only [World.size_alloc, World.size_setCell, World.size_drew]; omega))) | (with_reducible refine blk_alloc_old _ ?_) | (with_reducible refine blk_drew ?_) | (refine (rfl : (_ : Array Value) = _))), by repeat' (first | (with_reducible assumption) | (with_reducible refine blk_set_other _ ?_ ?_; rotate_left; first | (with_reducible rfl) | ((try dsimp only); first | (with_reducible assumption) | omega | (simp only [World.size_alloc, World.size_setCell, World.size_drew]; done) | (simp only [World.size_alloc, World.size_setCell, World.size_drew]; omega))) | (with_reducible apply blk_set_same) | ((with_reducible apply blk_alloc_new); first | (with_reducible rfl) | ((try dsimp only); first | (with_reducible assumption) | omega | (simp only [World.size_alloc, World.size_setCell, World.size_drew]; done) | (simp only [World.size_alloc, World.size_setCell, World.size_drew]; omega))) | (with_reducible refine blk_alloc_old _ ?_) | (with_reducible refine blk_drew ?_) | (refine (rfl : (_ : Array Value) = _))), Grow.nil, by go_grown⟩
  case round =>
    obtain ⟨k, v, hk, rfl, hv0, hout, hres, hg, hbel⟩ := hrel
    have hz := hbel.size
    by_cases hlt : k < st.folders.length
    · by_cases hk0 : k = 0
      · subst hk0
        obtain rfl := hv0 rfl
        obtain ⟨wo, rfl⟩ : ∃ wo : World, wo = wr := ⟨_, rfl⟩
        obtain ⟨x, x_b, x_o, x_A2, x_c2, x_A3, x_c3, x_A4, x_c4, x_A5, x_c5, x_A6, x_c6, x_k, x_d, x_m, rfl, x_l, x_S, x_0, x_1, x_2, x_3, x_4, x_5, x_6, x_R, x_name_le, x_turn_ok, x_manifests_l, x_manifests_m, x_manifests_n, x_manifests_s, x_epochs_l, x_epochs_m, x_epochs_n, x_epochs_s, x_items_l, x_items_m, x_items_n, x_items_s, x_wraps_l, x_wraps_m, x_wraps_n, x_wraps_s, x_links_l, x_links_m, x_links_n, x_links_s⟩ := get_Folder st_folders_s hlt (kept_free (B := fun b => b = w0.heap.size ∨ b = w0.heap.size + 1) (v := .slice none 0 0) hbel (by omega) (fun b hb => by cases hb))
        simp only [Nat.zero_mul, Nat.add_zero] at x_0 x_1 x_2 x_3 x_4 x_5 x_6
        have hkf : (((0 : Nat) : Int) == 0) = true := rfl
        have hb1 := blk_lt hout
        have hb2 := blk_lt hres
        have hxi := hil x x_m
        have hxv := hvl x x_m
        obtain ⟨y0, hy0, cy0, fzy0, By0, qy0⟩ := boxed wo #[.string x.name, .int .i64 x.turn, .slice x_A2 x.manifests.length x_c2, .slice x_A3 x.epochs.length x_c3, .slice x_A4 x.items.length x_c4, .slice x_A5 x.wraps.length x_c5, .slice x_A6 x.links.length x_c6] 37
        have y0_0 := cy0 0 _ rfl
        have y0_1 := cy0 1 _ rfl
        have y0_2 := cy0 2 _ rfl
        have y0_3 := cy0 3 _ rfl
        have y0_4 := cy0 4 _ rfl
        have y0_5 := cy0 5 _ rfl
        have y0_6 := cy0 6 _ rfl
        clear cy0
        have zy0 := By0.size
        have hbox : y0.heap[wo.heap.size]? = some (.cells #[.string x.name, .int .i64 x.turn, .slice x_A2 x.manifests.length x_c2, .slice x_A3 x.epochs.length x_c3, .slice x_A4 x.items.length x_c4, .slice x_A5 x.wraps.length x_c5, .slice x_A6 x.links.length x_c6] 37 (0, 0)) := by rw [← hy0]; exact heap_alloc_new _ _
        go_wp2
        go_loopw [8, 29] (fun s i wr => ∃ (k : Nat) (v : Value), k ≤ x.items.length ∧ i = .int .i64 k ∧ v = s ∧ (k = 0 → v = .slice none 0 0) ∧ Grow 57 2 rItem (fun b => b = w0.heap.size ∨ b = w0.heap.size + 1 ∨ b = wo.heap.size) wr y0.heap.size v ((moreItems x.items n).take k) ∧ Below y0.heap.size y0 wr) (fun _ i _ => x.items.length - (intOf i).toNat)
        case atStart =>
          exact ⟨0, _, by omega, by go_num, rfl, fun _ => rfl, Grow.nil, by go_grown⟩
        case round =>
          obtain ⟨k, v, hk, rfl, rfl, hn2, hg2, hbel2⟩ := hrel
          have hown2 := hg2.base_le
          have hz2 := hbel2.size
          by_cases hlt2 : k < x.items.length
          · by_cases hk0 : k = 0
            · subst hk0
              obtain rfl := hn2 rfl
              obtain ⟨y, y_b, y_o, y_A1, y_c1, y_k, y_d, y_m, rfl, y_l, y_S, y_0, y_1, y_R, y_name_le, y_versions_l, y_versions_m, y_versions_n, y_versions_s⟩ := get_Item x_items_s hlt2 (kept_in (B' := fun b => b = w0.heap.size ∨ b = w0.heap.size + 1 ∨ b = wo.heap.size) (v' := .slice none 0 0) (bel_call By0 hbel2) (by intro b hb h; omega) (fun b hb => absurd hb nil_own))
              simp only [Nat.zero_mul, Nat.add_zero] at y_0 y_1
              have hkf2 : (((0 : Nat) : Int) == 0) = true := rfl
              have hyv := hxv y y_m
              obtain ⟨b0, hb0, cb0, fzb0, Bb0, qb0⟩ := boxed wr #[.string y.name, .slice y_A1 y.versions.length y_c1] 57
              have b0_0 := cb0 0 _ rfl
              have b0_1 := cb0 1 _ rfl
              clear cb0
              have zb0 := Bb0.size
              have hboxb : b0.heap[wr.heap.size]? = some (.cells #[.string y.name, .slice y_A1 y.versions.length y_c1] 57 (0, 0)) := by rw [← hb0]; exact heap_alloc_new _ _
              have hsl : SlAt 4 rVersion (Free (fun b => b = w0.heap.size ∨ b = w0.heap.size + 1 ∨ b = wo.heap.size ∨ b = wr.heap.size) (b0.alloc (.cells #[] 101)) (.slice (some ⟨b0.heap.size, 0, none⟩) 0 0)) (b0.alloc (.cells #[] 101)) y_A1 y.versions :=
                y_versions_s.keep rVersion_ok (by decide) (kept_in (by go_grown) (by intro b hb h; omega) (fun b hb => by simp only [Value.ownBlock, Option.some.injEq] at hb; omega))
              go_wp2_with (first
                | (at_builtin; go_loud (refine wpList_grow (R := rVersion) _ rfl (.tmp 36) (.tmp 38) 55 rfl 101 iVersion _ 4 56 Try.underlying55 hiVersion hzVersion h1Version h2Version rfl (by decide) rVersion_ok b0.heap.size (by go_size) _ _ rfl (Grow.empty (heap_alloc_new _ _) (Nat.le_refl _)) _ _ _ rfl _ rfl hsl (by simp; omega) (by decide) ?_); intro v1 w1 g1 gg1 go1; rw [List.nil_append] at g1; obtain ⟨A1, n1, c1, rfl, hn1⟩ := g1.shape'; clear hn1; have hbox1 := blk_grown gg1 (blk_alloc_old _ hboxb) (show some b0.heap.size ≠ some wr.heap.size from fun e => by have := Option.some.inj e; omega))
                | (at_builtin; go_loud (refine wpList_grow_zeros (R := rVersion) _ rfl (.tmp 39) (.tmp 40) 55 3 rfl 101 iVersion _ 4 56 .i64 .i64 Try.underlying55 Try.underlying3 hiVersion hzVersion h1Version h2Version rfl (by decide) rVersion_ok ver0 (fun S w => ⟨_, rfl, (show I64 0 from ⟨by decide, by decide⟩), by decide, Sl_nil _ _ _ _⟩) b0.heap.size (by have := gg1.size; simp only [World.size_alloc] at this; omega) _ _ rfl g1 n rfl (by omega) (by decide) ?_); intro v2 w2 g2 gg2 go2; obtain ⟨A2, n2, c2, rfl, hn2'⟩ := g2.shape'; clear hn2'; have hbox2 := blk_grown gg2 hbox1 (fun e => by have := (g1.base_le _ e).1; omega); obtain ⟨cb2, fb2⟩ := blk_cells hbox2; have c20 := cb2 0 _ rfl; have c21 := cb2 1 _ rfl;
                    go_loud (have SL : Sl 4 rVersion (Free (fun b => b = w0.heap.size ∨ b = w0.heap.size + 1 ∨ b = wo.heap.size) (w2.setCell ⟨wr.heap.size, 1, none⟩ (.slice A2 n2 c2)) (.slice none 0 0)) (w2.setCell ⟨wr.heap.size, 1, none⟩ (.slice A2 n2 c2)) (.slice A2 n2 c2) (y.versions ++ List.replicate n ver0) := (g2.sl rVersion_ok (S := fun b => b < w2.heap.size ∧ b ≠ w0.heap.size ∧ b ≠ w0.heap.size + 1 ∧ b ≠ wo.heap.size ∧ b ≠ wr.heap.size) (fun b hb hn => by omega) (fun b hb => by have := g2.base_le b hb; omega)).keep rVersion_ok (by decide) (fun b hb _ => ⟨⟨by simpa using hb.1, by omega, nil_own⟩, Below.heap_setCell _ _ _ _ hb.2.2.2.2⟩); have hz1 := gg1.size; have hz2' := gg2.size; simp only [World.size_alloc] at hz1; have hbw : Below wr.heap.size wr (w2.setCell ⟨wr.heap.size, 1, none⟩ (.slice A2 n2 c2)) := Below.setCell (Below.grown (Below.grown (Below.alloc Bb0 (by omega) _) gg1 (by simp only [World.size_alloc]; omega) (fun b hb => by have : b0.heap.size = b := Option.some.inj hb; omega)) gg2 (by omega) (fun b hb => by have := (g1.base_le b hb).1; omega)) (Nat.le_refl _) _))
                | (at_builtin; go_loud (refine wpList_grow1 (R := rItem) _ _ rfl (.tmp 43) (.tmp 45) 33 rfl 57 iItem _ 2 40 Try.underlying33 hiItem hzItem h1Item h2Item rfl (by decide) rItem_ok y0.heap.size (by go_size) _ _ rfl Grow.nil _ _ rfl (by simp only [World.size_alloc, World.size_setCell, World.size_drew]) _ (by intro b hb; simp only [World.size_setCell]; omega) (more_elemI y_R (kept_from hbw) SL) (by simp) (by decide) ?_); intro v3 w3 g3 gg3 go3; obtain ⟨A3, n3, c3, rfl, hn3⟩ := g3.shape'; clear hn3))
              go_roundw
              case rel =>
                have hz3 := gg3.size
                simp only [World.size_setCell] at hz3
                refine ⟨1, _, by omega, rfl, rfl, fun h => absurd h (by omega), ?_, ?_⟩
                · rw [show (moreItems x.items n).take 1 = [] ++ [moreItem y n] from moreI_head y_k]
                  exact g3
                · exact Below.grown (bel_call hbel2 hbw) gg3 (by simp only [World.size_setCell]; omega) fun b hb => absurd hb (nil_own (n := 0) (c := 0))
              case measure => simp [intOf]; omega
            · obtain ⟨y, y_b, y_o, y_A1, y_c1, y_k, y_d, y_m, rfl, y_l, y_S, y_0, y_1, y_R, y_name_le, y_versions_l, y_versions_m, y_versions_n, y_versions_s⟩ := get_Item x_items_s hlt2 (kept_in (B' := fun b => b = w0.heap.size ∨ b = w0.heap.size + 1 ∨ b = wo.heap.size) (v' := v) (bel_call By0 hbel2) (by intro b hb h; omega) (fun b hb => by have := hown2 b hb; omega))
              have hkf2 : ((k : Int) == 0) = false := beq_eq_false_iff_ne.2 (by omega)
              have hlen : ((moreItems x.items n).take k).length ≤ k := List.length_take_le _ _
              go_wp2_with (at_builtin; go_loud (refine wpList_grow1 (R := rItem) _ _ rfl (.tmp 43) (.tmp 45) 33 rfl 57 iItem _ 2 40 Try.underlying33 hiItem hzItem h1Item h2Item rfl (by decide) rItem_ok y0.heap.size (by go_size) _ _ rfl (hg2.alloc rItem_ok _) _ _ rfl (by simp only [World.size_alloc, World.size_setCell, World.size_drew]) _ (by intro b hb; simp only [World.size_alloc]; omega) (rItem_keep y_R (kept_alloc _)) (by omega) (by decide) ?_); intro v1 w1 g1 gg1 go1; obtain ⟨A1, n1, c1, rfl, hn1⟩ := g1.shape'; clear hn1)
              go_roundw
              case rel =>
                have hz1 := gg1.size
                simp only [World.size_alloc] at hz1
                refine ⟨k + 1, _, by omega, by go_num, rfl, fun h => absurd h (by omega), ?_, ?_⟩
                · rw [show (moreItems x.items n).take (k + 1) = (moreItems x.items n).take k ++ [y] from take_more (moreI_at hk0 y_k)]
                  exact g1
                · exact Below.grown (hbel2.alloc (by omega) _) gg1 (by simp only [World.size_alloc]; omega) fun b hb => (hown2 b hb).1
              case measure => simp [intOf]; omega
          · obtain rfl : k = x.items.length := by omega
            rw [List.take_of_length_le (moreI_len _ _)] at hg2
            have hbox2 := blk_below hbel2 hbox (by omega)
            have hout2 := blk_below hbel2 (show y0.heap[w0.heap.size + 1]? = _ from by rw [← hy0]; exact blk_alloc_old _ hout) (by omega)
            have hres2 := blk_below hbel2 (show y0.heap[w0.heap.size]? = _ from by rw [← hy0]; exact blk_alloc_old _ hres) (by omega)
            obtain ⟨A2, n2, c2, rfl, hn2'⟩ := hg2.shape'
            clear hn2'
            obtain ⟨cb, fb⟩ := blk_cells hbox2
            have b0 := cb 0 _ rfl
            have b1 := cb 1 _ rfl
            have b2 := cb 2 _ rfl
            have b3 := cb 3 _ rfl
            have b4 := cb 4 _ rfl
            have b5 := cb 5 _ rfl
            have b6 := cb 6 _ rfl
            obtain ⟨cbo, fbo⟩ := blk_cells hout2
            have o3 := cbo 3 _ rfl
            have SL : Sl 2 rItem (Free (fun b => b = w0.heap.size ∨ b = w0.heap.size + 1) (wr.setCell ⟨wo.heap.size, 4, none⟩ (.slice A2 n2 c2)) (.slice none 0 0)) (wr.setCell ⟨wo.heap.size, 4, none⟩ (.slice A2 n2 c2)) (.slice A2 n2 c2) (moreItems x.items n) :=
              (hg2.sl rItem_ok (S := fun b => b < wr.heap.size ∧ b ≠ w0.heap.size ∧ b ≠ w0.heap.size + 1 ∧ b ≠ wo.heap.size) (fun b hb hn => by omega) (fun b hb => by have := hown2 b hb; omega)).keep rItem_ok (by decide)
                (fun b hb _ => ⟨⟨by simpa using hb.1, by omega, by simp [Value.ownBlock]⟩, Below.heap_setCell _ _ _ _ hb.2.2.2⟩)
            have hbw : Below wo.heap.size wo (wr.setCell ⟨wo.heap.size, 4, none⟩ (.slice A2 n2 c2)) := Below.setCell (bel_call By0 hbel2) (Nat.le_refl _) _
            go_wp2_with (at_builtin; go_loud (refine wpList_grow1 (R := rFolder) _ _ rfl (.tmp 51) (.tmp 53) 24 rfl 37 iFolder _ 7 144 Try.underlying24 hiFolder hzFolder h1Folder h2Folder rfl (by decide) rFolder_ok (w0.heap.size + 2) (by go_size) _ _ rfl Grow.nil _ _ rfl (by simp only [World.size_alloc, World.size_setCell, World.size_drew]) _ (by intro b hb; simp only [World.size_setCell]; omega) (more_elem x_R (kept_from hbw) SL) (by simp) (by decide) ?_); intro v1 w1 g1 gg1 go1; have hout1 := blk_grown gg1 (show (wr.setCell ⟨wo.heap.size, 4, none⟩ (.slice A2 n2 c2)).heap[_]? = _ from blk_set_other _ hout2 (by dsimp only; omega)) (nil_own (n := 0) (c := 0)); have hres1 := blk_grown gg1 (show (wr.setCell ⟨wo.heap.size, 4, none⟩ (.slice A2 n2 c2)).heap[_]? = _ from blk_set_other _ hres2 (by dsimp only; omega)) (nil_own (n := 0) (c := 0)); obtain ⟨cb1, fb1⟩ := blk_cells hout1; have o31 := cb1 3 _ rfl; obtain ⟨A1, n1, c1, rfl, hn1⟩ := g1.shape'; clear hn1)
            go_roundw
            case rel =>
              have hz1 := gg1.size
              simp only [World.size_setCell] at hz1
              simp only [Value.ownBlock] at go1
              refine ⟨1, .slice A1 n1 c1, by omega, rfl, fun h => absurd h (by omega), blk_set_same _ hout1 rfl, by repeat' (first | (with_reducible assumption) | (with_reducible refine blk_set_other _ ?_ ?_; rotate_left; first | (with_reducible rfl) | ((try dsimp only); first | (with_reducible assumption) | omega | (simp only [World.size_alloc, World.size_setCell, World.size_drew]; done) | (simp only [World.size_alloc, World.size_setCell, World.size_drew]; omega))) | (with_reducible apply blk_set_same) | ((with_reducible apply blk_alloc_new); first | (with_reducible rfl) | ((try dsimp only); first | (with_reducible assumption) | omega | (simp only [World.size_alloc, World.size_setCell, World.size_drew]; done) | (simp only [World.size_alloc, World.size_setCell, World.size_drew]; omega))) | (with_reducible refine blk_alloc_old _ ?_) | (with_reducible refine blk_drew ?_) | (refine (rfl : (_ : Array Value) = _))), ?_, ?_⟩
              · rw [show (moreFolders st.folders n).take 1 = [] ++ [moreFolder x n] from more_head x_k]
                refine g1.set rFolder_ok _ (.inr rfl) fun e => ?_
                have := (g1.base_le _ e).1
                dsimp only at this
                omega
              · refine Below.setCell (Below.grown (bel_call hbel hbw) gg1 (by simp only [World.size_setCell]; omega) fun b hb => absurd hb (nil_own (n := 0) (c := 0))) (by dsimp only; omega) _
            case measure => simp [intOf]; omega
      · obtain ⟨x, x_b, x_o, x_A2, x_c2, x_A3, x_c3, x_A4, x_c4, x_A5, x_c5, x_A6, x_c6, x_k, x_d, x_m, rfl, x_l, x_S, x_0, x_1, x_2, x_3, x_4, x_5, x_6, x_R, x_name_le, x_turn_ok, x_manifests_l, x_manifests_m, x_manifests_n, x_manifests_s, x_epochs_l, x_epochs_m, x_epochs_n, x_epochs_s, x_items_l, x_items_m, x_items_n, x_items_s, x_wraps_l, x_wraps_m, x_wraps_n, x_wraps_s, x_links_l, x_links_m, x_links_n, x_links_s⟩ := get_Folder st_folders_s hlt (kept_free (B := fun b => b = w0.heap.size ∨ b = w0.heap.size + 1) (v := v) hbel (by omega) (fun b hb => by have := (hg.base_le b hb).1; omega))
        have hkf : ((k : Int) == 0) = false := beq_eq_false_iff_ne.2 (by omega)
        have hb1 := blk_lt hout
        have hb2 := blk_lt hres
        have hown := hg.base_le
        have hno : v.ownBlock ≠ some (w0.heap.size + 1) := fun e => by have := (hown _ e).1; omega
        have hno2 : v.ownBlock ≠ some w0.heap.size := fun e => by have := (hown _ e).1; omega
        have hlen : ((moreFolders st.folders n).take k).length ≤ k := List.length_take_le _ _
        obtain ⟨cb, fb⟩ := blk_cells hout
        have o3 := cb 3 _ rfl
        go_wp2_with (at_builtin; go_loud (refine wpList_grow1 (R := rFolder) _ _ rfl (.tmp 51) (.tmp 53) 24 rfl 37 iFolder _ 7 144 Try.underlying24 hiFolder hzFolder h1Folder h2Folder rfl (by decide) rFolder_ok (w0.heap.size + 2) (by go_size) _ _ rfl (hg.alloc rFolder_ok _) _ _ rfl (by simp only [World.size_alloc, World.size_setCell, World.size_drew]) _ (by intro b hb; simp only [World.size_alloc]; omega) (rFolder_keep x_R (kept_alloc _)) (by omega) (by decide) ?_); intro v1 w1 g1 gg1 go1; have hout1 := blk_grown gg1 (blk_alloc_old _ hout) hno; have hres1 := blk_grown gg1 (blk_alloc_old _ hres) hno2; obtain ⟨cb1, fb1⟩ := blk_cells hout1; have o31 := cb1 3 _ rfl; obtain ⟨A1, n1, c1, rfl, hn1⟩ := g1.shape'; clear hn1)
        go_roundw
        case rel =>
          have hz1 := gg1.size
          simp only [World.size_alloc] at hz1 go1
          refine ⟨k + 1, .slice A1 n1 c1, by omega, by go_num, fun h => absurd h (by omega), blk_set_same _ hout1 rfl, by repeat' (first | (with_reducible assumption) | (with_reducible refine blk_set_other _ ?_ ?_; rotate_left; first | (with_reducible rfl) | ((try dsimp only); first | (with_reducible assumption) | omega | (simp only [World.size_alloc, World.size_setCell, World.size_drew]; done) | (simp only [World.size_alloc, World.size_setCell, World.size_drew]; omega))) | (with_reducible apply blk_set_same) | ((with_reducible apply blk_alloc_new); first | (with_reducible rfl) | ((try dsimp only); first | (with_reducible assumption) | omega | (simp only [World.size_alloc, World.size_setCell, World.size_drew]; done) | (simp only [World.size_alloc, World.size_setCell, World.size_drew]; omega))) | (with_reducible refine blk_alloc_old _ ?_) | (with_reducible refine blk_drew ?_) | (refine (rfl : (_ : Array Value) = _))), ?_, ?_⟩
          · rw [show (moreFolders st.folders n).take (k + 1) = (moreFolders st.folders n).take k ++ [x] from take_more (more_at hk0 x_k)]
            exact g1.set rFolder_ok _ (.inr rfl) (by rcases go1 with h | h <;> rw [h]; exact hno; simp only [ne_eq, Option.some.injEq]; omega)
          · refine Below.setCell (Below.grown (hbel.alloc (by omega) _) gg1 (by simp only [World.size_alloc]; omega) fun b hb => ?_) (by simp only; omega) _
            have := (hown b hb).1
            omega
        case measure => simp [intOf]; omega
    · obtain rfl : k = st.folders.length := by omega
      obtain ⟨A1, c1, hv1⟩ := hg.shape
      obtain ⟨A1, n1, c1, rfl, hn1⟩ := hg.shape'
      have HN := Lib.hid hn1
      clear hv1 hn1
      obtain ⟨cb, fb⟩ := blk_cells hout
      have o0 := cb 0 _ rfl
      have o1 := cb 1 _ rfl
      have o2 := cb 2 _ rfl
      have o3 := cb 3 _ rfl
      obtain ⟨cb', fb'⟩ := blk_cells hres
      have r0 := cb' 0 _ rfl
      have r1 := cb' 1 _ rfl
      have r2 := cb' 2 _ rfl
      have r3 := cb' 3 _ rfl
      go_wp2
      try simp only [Exit.inBlock, Exit.then]
      refine bodyPost_ret (results_cell_row rfl _ _ w0.heap.size 26 #[.int .i64 0, .slice st_A1 st.users.length st_c1, .slice st_A2 st.deposits.length st_c2, .slice A1 n1 c1] (0, 0) _ rfl (by repeat' (first | (with_reducible assumption) | (with_reducible refine blk_set_other _ ?_ ?_; rotate_left; first | (with_reducible rfl) | ((try dsimp only); first | (with_reducible assumption) | omega | (simp only [World.size_alloc, World.size_setCell, World.size_drew]; done) | (simp only [World.size_alloc, World.size_setCell, World.size_drew]; omega))) | (with_reducible apply blk_set_same) | ((with_reducible apply blk_alloc_new); first | (with_reducible rfl) | ((try dsimp only); first | (with_reducible assumption) | omega | (simp only [World.size_alloc, World.size_setCell, World.size_drew]; done) | (simp only [World.size_alloc, World.size_setCell, World.size_drew]; omega))) | (with_reducible refine blk_alloc_old _ ?_) | (with_reducible refine blk_drew ?_) | (refine (rfl : (_ : Array Value) = _)))) Try.underlying26 rfl (by kernel_rfl)) rfl ?_
      refine ⟨⟨_, rfl, ?_⟩, by go_grown⟩
      have hsl := hg.sl rFolder_ok (S := fun b => b ≠ w0.heap.size) (fun b _ h e => h (.inl e)) (fun b hb e => by have := (hg.base_le b hb).1; omega)
      obtain ⟨v1, v2, v3, e, _, h1, h2, _⟩ := hR
      simp only [List.cons.injEq, and_true] at e
      obtain ⟨_, rfl, rfl, _⟩ := e
      rw [List.take_of_length_le (more_len _ _)] at hsl
      refine ⟨_, _, _, rfl, (show I64 0 from ⟨by decide, by decide⟩), (h1.keep rUser_ok (by decide) (kept_of (S := S) (by go_grown))).all rUser_ok (by decide), (h2.keep rPair_ok (by decide) (kept_of (S := S) (by go_grown))).all rPair_ok (by decide), ?_⟩
      exact ((((hsl.keep rFolder_ok (by decide) (kept_set _ (by simp))).keep rFolder_ok (by decide) (kept_set _ (by simp))).keep rFolder_ok (by decide) (kept_set _ (by simp))).keep rFolder_ok (by decide) (kept_set _ (by simp))).all rFolder_ok (by decide)
end Go.Proofs.Ytdddgmmbdofomaa
