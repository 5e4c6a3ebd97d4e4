/- Layer granted: Find, Now. Conditions: as each theorem says. -/
import Derived.Test.YtkapaafbnbnpjaaGreatDoorGrPlain
import Derived.Test.YtkapaafbnbnpjaaGreatDoorArgs
import Derived.Test.YtkapaafbnbnpjaaGreatDoorBlk
import Derived.Laws.ResultCell
import Derived.BigQuiet
namespace Go.Proofs.YtkapaafbnbnpjaaGreatDoor
open Go.RowKit Go.Deep

/-- A struct and one more result. -/
theorem results_cell_row2 {P : Program} {fn : Func} {p u : Tmp} {ty : TypeId} (h : fn.results = #[.cell p ty, .tmp u]) (tmps : Array Value) (w : World) (g : Nat) (t : TypeId) (cs : Array Value) (fr : Nat × Nat) (d : TypeDesc)
    (hp : tmps.getD p undef = .pointer (some ⟨g, 0, none⟩)) (hg : w.heap[g]? = some (.cells cs t fr))
    (hu : P.underlying ty = some d) (hd : (match d with | .struct _ | .array _ _ => true | _ => false) = true) (hi : (P.info? ty).map (·.size) = some cs.size) :
    (results fn tmps).run P w = .ok (.tuple #[.agg cs, tmps.getD u undef]) w := by
  rw [results_cell_tmp h, hp]
  simp [asAddr, run_loadVar_row w g t ty cs fr d hg hu hd hi, Result.andThen]
theorem SlAt.elem {α : Type} {sz : Nat} {R : Rp α} {S : Nat → Prop} {w wr : World} {A : Option Addr} {l : List α} {k : Nat} {x : α} (s : SlAt sz R S w A l) (hk : l[k]? = some x) (hsz : 0 < sz) (hb : Below w.heap.size w wr) :
    ∃ b o ys, A = some ⟨b, o, none⟩ ∧ b < w.heap.size ∧ R S w ys x ∧ ∀ (j : Nat) (y : Value), ys[j]? = some y → wr.cell? ⟨b, o + k * sz + j, none⟩ = some y := by
  obtain ⟨b, o, ys, hA, _, hl, hc, hR⟩ := s k x hk
  have h0 := hc 0 _ (List.getElem?_eq_getElem (by omega))
  refine ⟨b, o, ys, hA, cell_lt h0, hR, fun j y hj => ?_⟩
  have h1 := hc j y hj
  rw [Nat.add_assoc]
  exact (hb.cell (p := ⟨b, o + (k * sz + j), none⟩) (cell_lt h1)).trans h1
theorem eqS_iff {a b : Nm} : (a.toList == b.toList) = decide (a = b) := by
  by_cases h : a = b
  · subst h
    simp
  · rw [decide_eq_false h, ← Bool.not_eq_true, beq_iff_eq]
    exact fun e => h (toList_inj e)
theorem eqS_ne {a b : Nm} (h : a ≠ b) : (a.toList == b.toList) = false := by
  rw [eqS_iff]
  exact decide_eq_false h
def zeroF : Folder := ⟨⟨#[]⟩, 0, [], [], [], [], []⟩
def zeroM : Manifest := ⟨⟨#[]⟩, 0, [], ⟨#[]⟩, [], 0, false, ⟨#[]⟩⟩
/-- Where something stands. -/
def AtI {α : Type} (p : α → Bool) (l : List α) (i : Int) : Prop := (∃ (k : Nat) (x : α), i = k ∧ l[k]? = some x ∧ l.find? p = some x) ∨ (i = -1 ∧ l.find? p = none)
theorem find_here {α : Type} {p : α → Bool} {l : List α} {k : Nat} {x : α} (h : ∀ y ∈ l.take k, p y = false) (hx : l[k]? = some x) (hp : p x = true) : l.find? p = some x := by
  have hk := List.getElem?_eq_some_iff.1 hx
  refine List.find?_eq_some_iff_append.2 ⟨hp, l.take k, l.drop (k + 1), ?_, fun y hy => by simp [h y hy]⟩
  rw [← hk.2, ← List.drop_eq_getElem_cons hk.1, List.take_append_drop]
theorem find_no {α : Type} {p : α → Bool} {l : List α} (h : ∀ y ∈ l, p y = false) : l.find? p = none := List.find?_eq_none.2 fun y hy => by simp [h y hy]
theorem none_step {α : Type} {p : α → Bool} {l : List α} {k : Nat} {x : α} (h : ∀ y ∈ l.take k, p y = false) (hx : l[k]? = some x) (hp : p x = false) : ∀ y ∈ l.take (k + 1), p y = false := by
  rw [List.take_add_one, hx]
  intro y hy
  rcases List.mem_append.1 hy with hy | hy
  · exact h y hy
  · obtain rfl : y = x := by simpa using hy
    exact hp
def isF (s : Nm) (f : Folder) : Bool := decide (f.name = s)
theorem closF_any (s : Nm) (B : Nat) (x : Folder) (cs : List Value) (w : World) (S : Nat → Prop) (h : rFolder S w cs x) (hB : w.cell? ⟨B, 0, none⟩ = some (.string s)) :
    Calls Tryz.prog 32 #[.agg cs.toArray, .pointer (some ⟨B, 0, none⟩)] w fun e w' => e = .returned (.bool (isF s x)) ∧ Below w.heap.size w w' := by
  obtain ⟨x_A2, x_c2, x_A3, x_c3, x_A4, x_c4, x_A5, x_c5, x_A6, x_c6, rfl, x_name_le, x_turn_ok, x_manifests_l, x_manifests_m, x_manifests_n, x_manifests_s, x_epochs_l, x_epochs_m, x_epochs_n, x_epochs_s, x_items_l, x_items_m, x_items_n, x_items_s, x_wraps_l, x_wraps_m, x_wraps_n, x_wraps_s, x_links_l, x_links_m, x_links_n, x_links_s⟩ := open_Folder h
  have hBl := cell_lt hB
  have E := Lib.hid (eqS_iff (a := x.name) (b := s))
  go_enter Tryz.func32, Tryz.ntmps32
  go_wp2
  go_ret
  exact ⟨ret_bool E.out, by go_grown⟩
theorem indexF_any (s : Nm) (B : Nat) (l : List Folder) (v : Value) (w : World) (S : Nat → Prop) (h : Sl 7 rFolder S w v l) (hB : w.cell? ⟨B, 0, none⟩ = some (.string s)) :
    Calls Tryz.prog 31 #[v, .func (.func 32) #[] #[.pointer (some ⟨B, 0, none⟩)]] w fun e w' => (∃ i : Int, e = .returned (.int .i64 i) ∧ AtI (isF s) l i) ∧ Below w.heap.size w w' := by
  have HB := Lib.hid hB
  clear hB
  obtain ⟨A, c, rfl, hl, hc, hn, hs⟩ := h
  unfold maxLen at hc
  go_enter Tryz.func31, Tryz.ntmps31
  go_wp2
  go_loopw [8] (fun i wr => ∃ (k : Nat), k ≤ l.length ∧ i = .int .i64 k ∧ Hid (∀ y ∈ l.take k, isF s y = false) ∧ Below w.heap.size w wr) (fun i _ => l.length - (RowKit.intOf i).toNat)
  case atStart => exact ⟨0, by omega, by go_num, (fun y hy => by simp at hy), by go_grown⟩
  case round =>
    obtain ⟨k, hk, rfl, HN, hbel⟩ := hrel
    have hz := hbel.size
    by_cases hlt : k < l.length
    · obtain ⟨x, x_b, x_o, x_A2, x_c2, x_A3, x_c3, x_A4, x_c4, x_A5, x_c5, x_A6, x_c6, x_k, x_d, x_m, rfl, x_l, x_S, x_0, x_1, x_2, x_3, x_4, x_5, x_6, x_R, x_name_le, x_turn_ok, x_manifests_l, x_manifests_m, x_manifests_n, x_manifests_s, x_epochs_l, x_epochs_m, x_epochs_n, x_epochs_s, x_items_l, x_items_m, x_items_n, x_items_s, x_wraps_l, x_wraps_m, x_wraps_n, x_wraps_s, x_links_l, x_links_m, x_links_n, x_links_s⟩ := get_Folder hs hlt (kept_of hbel)
      have HX := Lib.hid x_k
      clear x_k x_d
      go_wp2_with fail
      refine Calls.mono (closF_any s B x _ _ S x_R ((hbel.cell (p := ⟨B, 0, none⟩) (cell_lt HB.out)).trans HB.out)) ?_
      rintro e w1 ⟨rfl, hb1⟩
      cases hpx : isF s x
      · have EH := Lib.hid (none_step HN.out HX.out hpx)
        go_wp2
        go_roundw
        case rel => exact ⟨k + 1, by omega, by go_num, EH, bel_call hbel hb1⟩
        case measure => simp [RowKit.intOf]; omega
      · have EH := Lib.hid (find_here HN.out HX.out hpx)
        go_wp2
        go_ret
        exact ⟨⟨_, rfl, .inl ⟨k, x, rfl, HX.out, EH.out⟩⟩, bel_call hbel hb1⟩
    · obtain rfl : k = l.length := by omega
      have EH := Lib.hid (find_no (p := isF s) (l := l) (by have := HN.out; rwa [List.take_length] at this))
      go_wp2
      go_ret
      exact ⟨⟨_, rfl, .inr ⟨rfl, EH.out⟩⟩, hbel⟩
theorem find_isF (st : State) (s : Nm) : st.folders.find? (isF s) = findF st s := rfl
theorem find_any (st : State) (s : Nm) (cs : List Value) (w : World) (S : Nat → Prop) (h : rState S w cs st) : Calls Tryz.prog 20 #[.agg cs.toArray, .string s] w fun e w' => (∃ cf : List Value, e = .returned (.tuple #[.agg cf.toArray, .bool (findF st s).isSome]) ∧ rFolder S w' cf ((findF st s).getD zeroF)) ∧ Below w.heap.size w w' := by
  have hR := h
  obtain ⟨st_A1, st_c1, st_A2, st_c2, st_A3, st_c3, rfl, st_turn_ok, st_users_l, st_users_m, st_users_n, st_users_s, st_deposits_l, st_deposits_m, st_deposits_n, st_deposits_s, st_folders_l, st_folders_m, st_folders_n, st_folders_s⟩ := open_State h
  have hSl : Sl 7 rFolder S w (.slice st_A3 st.folders.length st_c3) st.folders := ⟨_, _, rfl, st_folders_l, (by unfold maxLen; exact st_folders_m), st_folders_n, st_folders_s⟩
  obtain ⟨w0, hw0, cw0, fw0, Bw0, qw0⟩ := boxed w #[.int .i64 st.turn, .slice st_A1 st.users.length st_c1, .slice st_A2 st.deposits.length st_c2, .slice st_A3 st.folders.length st_c3] 26
  obtain ⟨w1, hw1, cw1, fw1, Bw1, qw1⟩ := boxed w0 #[.string s] 9
  obtain ⟨w2, hw2, cw2, fw2, Bw2, qw2⟩ := boxed w1 #[.string ⟨#[]⟩, .int .i64 0, .slice none 0 0, .slice none 0 0, .slice none 0 0, .slice none 0 0, .slice none 0 0] 35
  have B2 : Below w.heap.size w w2 := bel_call (bel_call Bw0 Bw1) Bw2
  have B02 : Below w0.heap.size w0 w2 := bel_call Bw1 Bw2
  have x3 := (B02.cell (p := ⟨w.heap.size, 3, none⟩) qw0).trans (cw0 3 _ rfl)
  have y0 := (Bw2.cell (p := ⟨w0.heap.size, 0, none⟩) qw1).trans (cw1 0 _ rfl)
  have HI := Lib.hid (indexF_any s w0.heap.size st.folders _ w2 S (hSl.keep rFolder_ok (by decide) (kept_of B2)) y0)
  have HX3 := Lib.hid x3
  have HC2 := Lib.hid cw2
  have HF2 := Lib.hid fw2
  have HB2 := Lib.hid B2
  have HW0 := Lib.hid hw0
  have HW1 := Lib.hid hw1
  have HW2 := Lib.hid hw2
  have HB02 := Lib.hid B02
  clear cw0 cw1 cw2 fw0 fw1 fw2 hw0 hw1 hw2 Bw0 Bw1 Bw2 B2 B02 hSl hR
  go_enter Tryz.func20, Tryz.ntmps20
  have hw0 := HW0.out
  have hw1 := HW1.out
  have hw2 := HW2.out
  go_wp2_with fail
  refine Calls.mono HI.out ?_
  rintro e w3 ⟨⟨i, rfl, hi⟩, B3⟩
  have HB3 := Lib.hid (bel_call HB2.out B3)
  have hc3 := (B3.cell (p := ⟨w.heap.size, 3, none⟩) (Nat.lt_of_lt_of_le qw0 HB02.out.size)).trans HX3.out
  have HC3 := Lib.hid (fun j v (hj : (#[.string ⟨#[]⟩, .int .i64 0, .slice none 0 0, .slice none 0 0, .slice none 0 0, .slice none 0 0, .slice none 0 0] : Array Value)[j]? = some v) => (B3.cell (p := ⟨w1.heap.size, j, none⟩) qw2).trans (HC2.out j v hj))
  have f3 := fun j => (B3.frozen (p := ⟨w1.heap.size, j, none⟩) qw2).trans (HF2.out j)
  have o0 := HC3.out 0 _ rfl
  have o1 := HC3.out 1 _ rfl
  have o2 := HC3.out 2 _ rfl
  have o3 := HC3.out 3 _ rfl
  have o4 := HC3.out 4 _ rfl
  have o5 := HC3.out 5 _ rfl
  have o6 := HC3.out 6 _ rfl
  have hz3 : w1.heap.size < w3.heap.size := Nat.lt_of_lt_of_le qw2 B3.size
  have hblk : w3.heap[w1.heap.size]? = some (.cells #[.string ⟨#[]⟩, .int .i64 0, .slice none 0 0, .slice none 0 0, .slice none 0 0, .slice none 0 0, .slice none 0 0] 35 (0, 0)) := (B3.block _ qw2).trans (by rw [← HW2.out]; exact blk_alloc_new _ rfl)
  have HBLK := Lib.hid hblk
  have hwl : w.heap.size ≤ w1.heap.size := by have := HB02.out.size; omega
  clear hblk
  rcases hi with ⟨k, f, rfl, hk, hf⟩ | ⟨rfl, hf⟩
  · have HF := Lib.hid hf
    have hlt := (List.getElem?_eq_some_iff.1 hk).1
    obtain ⟨b, o, ys, rfl, hbl, hR, hcz⟩ := SlAt.elem st_folders_s hk (by decide) HB3.out
    have HR := Lib.hid hR
    obtain ⟨f_A2, f_c2, f_A3, f_c3, f_A4, f_c4, f_A5, f_c5, f_A6, f_c6, rfl, f_name_le, f_turn_ok, f_manifests_l, f_manifests_m, f_manifests_n, f_manifests_s, f_epochs_l, f_epochs_m, f_epochs_n, f_epochs_s, f_items_l, f_items_m, f_items_n, f_items_s, f_wraps_l, f_wraps_m, f_wraps_n, f_wraps_s, f_links_l, f_links_m, f_links_n, f_links_s⟩ := open_Folder hR
    have u0 := hcz 0 _ rfl
    have u1 := hcz 1 _ rfl
    have u2 := hcz 2 _ rfl
    have u3 := hcz 3 _ rfl
    have u4 := hcz 4 _ rfl
    have u5 := hcz 5 _ rfl
    have u6 := hcz 6 _ rfl
    rw [Nat.add_zero] at u0
    have hki : (k : Int) < (st.folders.length : Int) := by omega
    clear hf hk hw0 hw1 hw2 hcz f_manifests_s f_epochs_s f_items_s f_wraps_s f_links_s
    go_wp2
    try simp only [Exit.inBlock, Exit.then]
    have hblk := HBLK.out
    refine bodyPost_ret (results_cell_row2 rfl _ _ w1.heap.size 35 #[.string f.name, .int .i64 f.turn, .slice f_A2 f.manifests.length f_c2, .slice f_A3 f.epochs.length f_c3, .slice f_A4 f.items.length f_c4, .slice f_A5 f.wraps.length f_c5, .slice f_A6 f.links.length f_c6] (0, 0) _ rfl (by repeat' (first | (with_reducible assumption) | (with_reducible refine blk_set_other _ ?_ ?_; rotate_left; first | (with_reducible rfl) | ((try dsimp only); first | (with_reducible assumption) | omega | (simp only [World.size_alloc, World.size_setCell, World.size_drew]; done) | (simp only [World.size_alloc, World.size_setCell, World.size_drew]; omega))) | (with_reducible apply blk_set_same) | ((with_reducible apply blk_alloc_new); first | (with_reducible rfl) | ((try dsimp only); first | (with_reducible assumption) | omega | (simp only [World.size_alloc, World.size_setCell, World.size_drew]; done) | (simp only [World.size_alloc, World.size_setCell, World.size_drew]; omega))) | (with_reducible refine blk_alloc_old _ ?_) | (with_reducible refine blk_drew ?_) | (refine (rfl : (_ : Array Value) = _)))) Tryz.underlying35 rfl (by kernel_rfl)) rfl ?_
    have hbb := HB3.out
    refine ⟨⟨_, by rw [show (findF st s).isSome = true by rw [← find_isF, HF.out]; rfl]; rfl, ?_⟩, by go_grown⟩
    rw [show (findF st s).getD zeroF = f by rw [← find_isF, HF.out]; rfl]
    exact rFolder_keep HR.out (kept_of (by go_grown))
  · have HF := Lib.hid hf
    clear hf hw0 hw1 hw2
    go_wp2
    try simp only [Exit.inBlock, Exit.then]
    have hblk := HBLK.out
    refine bodyPost_ret (results_cell_row2 rfl _ _ w1.heap.size 35 #[.string ⟨#[]⟩, .int .i64 0, .slice none 0 0, .slice none 0 0, .slice none 0 0, .slice none 0 0, .slice none 0 0] (0, 0) _ rfl (by repeat' (first | (with_reducible assumption) | (with_reducible refine blk_set_other _ ?_ ?_; rotate_left; first | (with_reducible rfl) | ((try dsimp only); first | (with_reducible assumption) | omega | (simp only [World.size_alloc, World.size_setCell, World.size_drew]; done) | (simp only [World.size_alloc, World.size_setCell, World.size_drew]; omega))) | (with_reducible apply blk_set_same) | ((with_reducible apply blk_alloc_new); first | (with_reducible rfl) | ((try dsimp only); first | (with_reducible assumption) | omega | (simp only [World.size_alloc, World.size_setCell, World.size_drew]; done) | (simp only [World.size_alloc, World.size_setCell, World.size_drew]; omega))) | (with_reducible refine blk_alloc_old _ ?_) | (with_reducible refine blk_drew ?_) | (refine (rfl : (_ : Array Value) = _)))) Tryz.underlying35 rfl (by kernel_rfl)) rfl ?_
    have hbb := HB3.out
    refine ⟨⟨_, by rw [show (findF st s).isSome = false by rw [← find_isF, HF.out]; rfl]; rfl, ?_⟩, by go_grown⟩
    rw [show (findF st s).getD zeroF = zeroF by rw [← find_isF, HF.out]; rfl]
    exact ⟨_, _, _, _, _, rfl, Nat.zero_le _, (show I64 0 from ⟨by decide, by decide⟩), Sl_nil _ _ _ _, Sl_nil _ _ _ _, Sl_nil _ _ _ _, Sl_nil _ _ _ _, Sl_nil _ _ _ _⟩

def nowM (f : Folder) : Manifest := f.manifests.getLast?.getD zeroM
set_option maxHeartbeats 2000000 in
theorem now_any (f : Folder) (cs : List Value) (w : World) (S : Nat → Prop) (h : rFolder S w cs f) : Calls Tryz.prog 28 #[.agg cs.toArray] w fun e w' => (∃ cm : List Value, e = .returned (.agg cm.toArray) ∧ rManifest S w' cm (nowM f)) ∧ Below w.heap.size w w' := by
  obtain ⟨f_A2, f_c2, f_A3, f_c3, f_A4, f_c4, f_A5, f_c5, f_A6, f_c6, rfl, f_name_le, f_turn_ok, f_manifests_l, f_manifests_m, f_manifests_n, f_manifests_s, f_epochs_l, f_epochs_m, f_epochs_n, f_epochs_s, f_items_l, f_items_m, f_items_n, f_items_s, f_wraps_l, f_wraps_m, f_wraps_n, f_wraps_s, f_links_l, f_links_m, f_links_n, f_links_s⟩ := open_Folder h
  obtain ⟨w0, hw0, cw0, fw0, Bw0, qw0⟩ := boxed w #[.string f.name, .int .i64 f.turn, .slice f_A2 f.manifests.length f_c2, .slice f_A3 f.epochs.length f_c3, .slice f_A4 f.items.length f_c4, .slice f_A5 f.wraps.length f_c5, .slice f_A6 f.links.length f_c6] 35
  obtain ⟨w1, hw1, cw1, fw1, Bw1, qw1⟩ := boxed w0 #[.string ⟨#[]⟩, .int .i64 0, .slice none 0 0, .string ⟨#[]⟩, .slice none 0 0, .int .i64 0, .bool false, .string ⟨#[]⟩] 43
  have B1 : Below w.heap.size w w1 := bel_call Bw0 Bw1
  have x2 := (Bw1.cell (p := ⟨w.heap.size, 2, none⟩) qw0).trans (cw0 2 _ rfl)
  have HB1 := Lib.hid B1
  have HW1 := Lib.hid hw1
  have hblk : w1.heap[w0.heap.size]? = some (.cells #[.string ⟨#[]⟩, .int .i64 0, .slice none 0 0, .string ⟨#[]⟩, .slice none 0 0, .int .i64 0, .bool false, .string ⟨#[]⟩] 43 (0, 0)) := by rw [← hw1]; exact blk_alloc_new _ rfl
  have o0 := cw1 0 _ rfl
  have o1 := cw1 1 _ rfl
  have o2 := cw1 2 _ rfl
  have o3 := cw1 3 _ rfl
  have o4 := cw1 4 _ rfl
  have o5 := cw1 5 _ rfl
  have o6 := cw1 6 _ rfl
  have o7 := cw1 7 _ rfl
  have hwl : w.heap.size ≤ w0.heap.size := Nat.le_of_lt qw0
  rcases Nat.eq_zero_or_pos f.manifests.length with h0 | h0
  · have HE := Lib.hid (show nowM f = zeroM by
      have : f.manifests = [] := List.eq_nil_of_length_eq_zero h0
      unfold nowM
      rw [this]
      rfl)
    rw [h0] at x2 hw0 ⊢
    clear h0 cw0 cw1 Bw0 Bw1 B1 f_manifests_s f_epochs_s f_items_s f_wraps_s f_links_s
    go_enter Tryz.func28, Tryz.ntmps28
    go_wp2
    try simp only [Exit.inBlock, Exit.then]
    refine bodyPost_ret (results_cell_row rfl _ _ w0.heap.size 43 #[.string ⟨#[]⟩, .int .i64 0, .slice none 0 0, .string ⟨#[]⟩, .slice none 0 0, .int .i64 0, .bool false, .string ⟨#[]⟩] (0, 0) _ rfl (by repeat' (first | (with_reducible assumption) | (with_reducible refine blk_set_other _ ?_ ?_; rotate_left; first | (with_reducible rfl) | ((try dsimp only); first | (with_reducible assumption) | omega | (simp only [World.size_alloc, World.size_setCell, World.size_drew]; done) | (simp only [World.size_alloc, World.size_setCell, World.size_drew]; omega))) | (with_reducible apply blk_set_same) | ((with_reducible apply blk_alloc_new); first | (with_reducible rfl) | ((try dsimp only); first | (with_reducible assumption) | omega | (simp only [World.size_alloc, World.size_setCell, World.size_drew]; done) | (simp only [World.size_alloc, World.size_setCell, World.size_drew]; omega))) | (with_reducible refine blk_alloc_old _ ?_) | (with_reducible refine blk_drew ?_) | (refine (rfl : (_ : Array Value) = _)))) Tryz.underlying43 rfl (by kernel_rfl)) rfl ?_
    have hbb := HB1.out
    refine ⟨⟨_, rfl, ?_⟩, by go_grown⟩
    rw [HE.out]
    exact ⟨_, _, rfl, Nat.zero_le _, (show I64 0 from ⟨by decide, by decide⟩), Sl_nil _ _ _ _, Nat.zero_le _, Sl_nil _ _ _ _, (show I64 0 from ⟨by decide, by decide⟩), Nat.zero_le _⟩
  · obtain ⟨n, hn⟩ : ∃ n, f.manifests.length = n + 1 := ⟨f.manifests.length - 1, by omega⟩
    obtain ⟨m, hm⟩ : ∃ m, f.manifests[n]? = some m := ⟨_, List.getElem?_eq_getElem (by omega)⟩
    have HE := Lib.hid (show nowM f = m by
      unfold nowM
      rw [List.getLast?_eq_getElem?, hn, Nat.add_sub_cancel, hm]
      rfl)
    obtain ⟨b, o, ys, hA, hbl, hR, hcz⟩ := SlAt.elem f_manifests_s hm (by decide) B1
    have HR := Lib.hid hR
    obtain ⟨m_A2, m_c2, m_A4, m_c4, rfl, m_folder_le, m_seq_ok, m_prev_l, m_prev_m, m_prev_n, m_prev_s, m_parent_le, m_members_l, m_members_m, m_members_n, m_members_s, m_cut_ok, m_who_le⟩ := open_Manifest hR
    have u0 := hcz 0 _ rfl
    have u1 := hcz 1 _ rfl
    have u2 := hcz 2 _ rfl
    have u3 := hcz 3 _ rfl
    have u4 := hcz 4 _ rfl
    have u5 := hcz 5 _ rfl
    have u6 := hcz 6 _ rfl
    have u7 := hcz 7 _ rfl
    rw [Nat.add_zero] at u0
    rw [hn] at x2 hw0 f_manifests_l f_manifests_n ⊢
    subst hA
    clear h0 hn hm hcz cw0 cw1 Bw0 Bw1 B1 f_manifests_s f_epochs_s f_items_s f_wraps_s f_links_s m_prev_s m_members_s
    go_enter Tryz.func28, Tryz.ntmps28
    go_wp2
    try simp only [Exit.inBlock, Exit.then]
    refine bodyPost_ret (results_cell_row rfl _ _ w0.heap.size 43 #[.string m.folder, .int .i64 m.seq, .slice m_A2 m.prev.length m_c2, .string m.parent, .slice m_A4 m.members.length m_c4, .int .i64 m.cut, .bool m.gone, .string m.who] (0, 0) _ rfl (by repeat' (first | (with_reducible assumption) | (with_reducible refine blk_set_other _ ?_ ?_; rotate_left; first | (with_reducible rfl) | ((try dsimp only); first | (with_reducible assumption) | omega | (simp only [World.size_alloc, World.size_setCell, World.size_drew]; done) | (simp only [World.size_alloc, World.size_setCell, World.size_drew]; omega))) | (with_reducible apply blk_set_same) | ((with_reducible apply blk_alloc_new); first | (with_reducible rfl) | ((try dsimp only); first | (with_reducible assumption) | omega | (simp only [World.size_alloc, World.size_setCell, World.size_drew]; done) | (simp only [World.size_alloc, World.size_setCell, World.size_drew]; omega))) | (with_reducible refine blk_alloc_old _ ?_) | (with_reducible refine blk_drew ?_) | (refine (rfl : (_ : Array Value) = _)))) Tryz.underlying43 rfl (by kernel_rfl)) rfl ?_
    have hbb := HB1.out
    refine ⟨⟨_, rfl, ?_⟩, by go_grown⟩
    rw [HE.out]
    exact rManifest_keep HR.out (kept_of (by go_grown))
end Go.Proofs.YtkapaafbnbnpjaaGreatDoor
