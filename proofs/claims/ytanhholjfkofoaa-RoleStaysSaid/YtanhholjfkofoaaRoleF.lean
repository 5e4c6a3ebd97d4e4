/- Layer role: Share, Change, Revoke. Conditions: none but that lists and texts are within a row's reach. -/
import Derived.Test.YtanhholjfkofoaaDel
namespace Go.Proofs.Ytanhholjfkofoaa
open Go.RowKit Go.Deep

theorem sort_grow {B : Nat → Prop} {base : Nat} {v : Value} {l : List Member} {w : World} (h : Grow 44 2 rMember B w base v l) (h0 : 0 < l.length) (h12 : l.length ≤ 12) :
    Calls Try.prog 30 #[v, .func (.func 31) #[] #[]] w fun e w' =>
      e = .returned (.tuple #[]) ∧ Below base w w' ∧ ∃ l', l'.Perm l ∧ (∀ (i j : Nat) (x y : Member), i < j → l'[i]? = some x → l'[j]? = some y → ltS y.name x.name = false) ∧ Sl 2 rMember (fun _ => True) w' v l' := by
  obtain ⟨h1, h2, xs, ⟨h3, h4⟩, h5⟩ := h
  rcases h4 with ⟨rfl, h0⟩ | ⟨g, cap, cur, rfl, hbg, hg, hnc, hcm, hcs, htk⟩
  · omega
  have hc : ∀ k x, l[k]? = some x → (∀ j y, (encM x)[j]? = some y → cur[k * 2 + j]? = some y) ∧ x.name.size ≤ 140737488355328 ∧ I64 x.role := by
    intro k x hx
    obtain ⟨ys, y1, y2, y3⟩ := h5 k x hx
    obtain ⟨rfl, y4⟩ := open_Member y3
    refine ⟨fun j y hj => ?_, y4⟩
    have hx' := y2 j y hj
    rw [← htk, List.getElem?_take] at hx'
    split at hx'
    · simpa using hx'
    · cases hx'
  exact sort_any l g cap base w cur _ hg hbg h12 hnc hcm (fun x hx => by obtain ⟨k, hk⟩ := List.getElem?_of_mem hx; exact (hc k x hk).2) fun i x hx => (hc i x hx).1

/-- The contracts of the functions that each of the three calls, from the world of the call on. -/
structure Cs (l : List Member) (v : Value) (w : World) : Prop where
  right : ∀ W, Below w.heap.size w W → Calls Try.prog 12 #[v] W fun e w' => e = .returned (.bool (rightOf l)) ∧ Below w.heap.size w w'
  of : ∀ name W, Below w.heap.size w W → Calls Try.prog 13 #[v, .string name] W fun e w' => e = .returned (.int .i64 (ofOf l name)) ∧ Below w.heap.size w w'
  at_ : ∀ name W, Below w.heap.size w W → Calls Try.prog 27 #[v, .string name] W fun e w' => e = .returned (.int .i64 (atOf l name)) ∧ Below w.heap.size w w'
  owners : ∀ W, Below w.heap.size w W → Calls Try.prog 33 #[v] W fun e w' => e = .returned (.int .i64 (ownersOf l : Nat)) ∧ Below w.heap.size w w'
  high1 : ∀ by_ n W T, I64 n → Below w.heap.size w W → Calls Try.prog 28 #[v, .string by_, .slice (some ⟨W.heap.size, 0, none⟩) 1 1] (W.alloc (.cells #[.int .i64 n] T)) fun e w' => e = .returned (.bool (decide (3 ≤ n) && decide (ofOf l by_ < 4))) ∧ Below w.heap.size w w'
  high2 : ∀ by_ n m W T, I64 n → I64 m → Below w.heap.size w W → Calls Try.prog 28 #[v, .string by_, .slice (some ⟨W.heap.size, 0, none⟩) 2 2] (W.alloc (.cells #[.int .i64 n, .int .i64 m] T)) fun e w' => e = .returned (.bool (decide (3 ≤ max n m) && decide (ofOf l by_ < 4))) ∧ Below w.heap.size w w'
  clone : 0 < l.length → ∀ W, Below w.heap.size w W → Calls Try.prog 29 #[v] W fun e w' => (∃ v', e = .returned v' ∧ Grow 44 2 rMember (fun _ => False) w' w.heap.size v' l) ∧ Below w.heap.size w w'

theorem Grow.base_mono {α : Type} {e : TypeId} {sz : Nat} {R : Rp α} {B : Nat → Prop} {w : World} {base base' : Nat} {v : Value} {l : List α} (h : Grow e sz R B w base v l) (hb : base' ≤ base) : Grow e sz R B w base' v l := by
  obtain ⟨h1, h2, xs, ⟨h3, h4⟩, h5⟩ := h
  refine ⟨h1, h2, xs, ⟨h3, ?_⟩, h5⟩
  rcases h4 with h4 | ⟨g, cap, cur, a1, a2, a3⟩
  · exact .inl h4
  · exact .inr ⟨g, cap, cur, a1, by omega, a3⟩
theorem slat_new {W : World} {T : TypeId} (ns : List Int) (h : ∀ n ∈ ns, I64 n) : SlAt 1 rInt (fun _ => True) (W.alloc (.cells (ns.map (Value.int .i64)).toArray T)) (some ⟨W.heap.size, 0, none⟩) ns := by
  intro i x hi
  refine ⟨W.heap.size, 0, [.int .i64 x], rfl, trivial, rfl, fun j y hj => ?_, rfl, h x (List.mem_of_getElem? hi)⟩
  have hj0 : j = 0 := by have := (List.getElem?_eq_some_iff.1 hj).1; simpa using this
  subst hj0
  simp at hj
  subst hj
  rw [cell_of_row _ W.heap.size _ _ T (0, 0) (heap_alloc_new W _)]
  simp [hi]
theorem cs_any {l : List Member} {v : Value} {w : World} {S : Nat → Prop} (h : Sl 2 rMember S w v l) (hl0 : l.length ≤ 100000) : Cs l v w where
  right W hb := (right_any l v W S (h.keep rMember_ok (by decide) (kept_of hb)) (by omega)).mono fun _ _ hh => ⟨hh.1, bel_call hb hh.2⟩
  of name W hb := (of_any name l v W S (h.keep rMember_ok (by decide) (kept_of hb))).mono fun _ _ hh => ⟨hh.1, bel_call hb hh.2⟩
  at_ name W hb := (at_any name l v W S (h.keep rMember_ok (by decide) (kept_of hb))).mono fun _ _ hh => ⟨hh.1, bel_call hb hh.2⟩
  owners W hb := (owners_any l v W S (h.keep rMember_ok (by decide) (kept_of hb)) (by omega)).mono fun _ _ hh => ⟨hh.1, bel_call hb hh.2⟩
  high1 by_ n W T hn hb := (high_any l by_ n [] v _ _ S _ (h.keep rMember_ok (by decide) (kept_of (hb.alloc hb.size _))) ⟨_, 1, rfl, by simp, by decide, by simp, slat_new [n] (by simpa using hn)⟩).mono fun _ _ hh => ⟨hh.1, bel_call (hb.alloc hb.size _) hh.2⟩
  high2 by_ n m W T hn hm hb := (high_any l by_ n [m] v _ _ S _ (h.keep rMember_ok (by decide) (kept_of (hb.alloc hb.size _))) ⟨_, 2, rfl, by simp, by decide, by simp, slat_new [n, m] (by simpa using ⟨hn, hm⟩)⟩).mono fun _ _ hh => ⟨hh.1, bel_call (hb.alloc hb.size _) hh.2⟩
  clone h0 W hb := (clone_any l v W S (h.keep rMember_ok (by decide) (kept_of hb)) h0 (by omega)).mono fun _ _ ⟨⟨v', h1, h2⟩, h3⟩ => ⟨⟨v', h1, h2.base_mono hb.size⟩, bel_call hb h3⟩

def shareErr (r : Bool) (m a n : Int) (len : Nat) : Int := if r = false then 2 else if m < 3 then 40 else if 0 ≤ a then 42 else if 3 ≤ n ∧ m < 4 then 40 else if 8 ≤ len then 3 else 0
theorem owners_pos {l : List Member} (h : rightOf l = true) : 0 < l.length := by
  unfold rightOf at h
  simp only [Bool.and_eq_true, decide_eq_true_eq] at h
  have h1 := h.2.2
  unfold ownersOf at h1
  have := withAt_len l 4
  omega

set_option maxHeartbeats 4000000 in
theorem share_any (l : List Member) (by_ name : ByteArray) (n : Int) (hname : name.size ≤ 140737488355328) (hn : I64 n) (v : Value) (w : World) (S : Nat → Prop) (h : Sl 2 rMember S w v l) (hl0 : l.length ≤ 100000) :
    Calls Try.prog 9 #[v, .string by_, .string name, .int .i64 n] w fun e w' =>
      (∃ v' l' k, e = .returned (.tuple #[v', .int .i64 k]) ∧ k = shareErr (rightOf l && (nameOk name && isOf n)) (ofOf l by_) (atOf l name) n l.length ∧ Sl 2 rMember (fun _ => True) w' v' l' ∧
        ((k ≠ 0 ∧ l' = []) ∨ (k = 0 ∧ l'.Perm (l ++ [⟨name, n⟩]) ∧ ∀ (i j : Nat) (x y : Member), i < j → l'[i]? = some x → l'[j]? = some y → ltS y.name x.name = false))) ∧ Below w.heap.size w w' := by
  obtain ⟨iMember, hiMember, hzMember, h1Member, h2Member⟩ := info_parts (show (Try.prog.info? 44).map (fun i => (i.zero, i.size, i.bytes)) = some (some (.agg #[.string ⟨#[]⟩, .int .i64 0]), 2, 24) from by kernel_rfl)
  have cs := cs_any h hl0
  obtain ⟨r, hr⟩ : ∃ r, r = rightOf l := ⟨_, rfl⟩
  have hpos : r = true → 0 < l.length := fun e => owners_pos (by rw [← hr, e])
  have cR := cs.right
  have cn : ∀ W, Calls Try.prog 25 #[.string name] W fun e w' => e = .returned (.bool (nameOk name)) ∧ w' = W := fun W => name_b name hname _ rfl W
  have ci : ∀ W, Calls Try.prog 26 #[.int .i64 n] W fun e w' => e = .returned (.bool (isOf n)) ∧ w' = W := fun W => is_b n _ rfl W
  have co := cs.of by_
  have ca := cs.at_ name
  have ch := fun W T => cs.high1 by_ n W T hn
  have cc := cs.clone
  rw [← hr] at cR ⊢
  generalize nameOk name = nk at cn ⊢
  generalize isOf n = ik at ci ⊢
  generalize ofOf l by_ = m at co ch ⊢
  generalize atOf l name = a at ca ⊢
  obtain ⟨A, c, rfl, hl, hc, hnn, hs⟩ := h
  unfold maxLen at hc
  have B0 : Below w.heap.size w w := Below.refl _ _
  clear hs cs hr
  go_enter Try.func9, Try.ntmps9
  go_wp2_with (first
    | (go_at_call 12; refine Calls.mono (cR _ (by assumption)) ?_; rintro e w1 ⟨rfl, B1⟩)
    | (go_at_call 25; refine Calls.mono (cn _) ?_; rintro e w2 ⟨rfl, rfl⟩)
    | (go_at_call 26; refine Calls.mono (ci _) ?_; rintro e w3 ⟨rfl, rfl⟩)
    | (go_at_call 13; refine Calls.mono (co _ (by assumption)) ?_; rintro e w4 ⟨rfl, B4⟩)
    | (go_at_call 27; refine Calls.mono (ca _ (by assumption)) ?_; rintro e w5 ⟨rfl, B5⟩)
    | (go_at_call 28; refine Calls.mono (ch _ _ (by assumption)) ?_; rintro e w6 ⟨rfl, B6⟩)
    | (go_at_call 29; refine Calls.mono (cc (hpos (by assumption)) _ (by assumption)) ?_; rintro e w7 ⟨⟨v7, rfl, g7⟩, B7⟩; obtain ⟨A7, n7, c7, rfl, hn7⟩ := g7.shape'; clear hn7; have z7 := B7.size; have hb7 := g7.base_le)
    | (at_builtin; go_loud (refine wpList_grow1 (R := rMember) _ _ rfl (.tmp 46) (.tmp 50) 22 rfl 44 iMember _ 2 24 Try.underlying22 hiMember hzMember h1Member h2Member rfl (by decide) rMember_ok w.heap.size (by omega) _ _ rfl g7 _ _ rfl (by simp only [World.size_alloc, World.size_setCell, World.size_drew]) _ (by intro b hb; exact hb.elim) (rMember_mk hname hn) (by omega) (by decide) ?_); intro v8 w8 g8 gg8 go8; obtain ⟨A8, n8, c8, rfl, hn8⟩ := g8.shape'; clear hn8; go_loud (have B8 : Below w.heap.size w w8 := Below.grown B7 gg8 (by omega) fun b hb => (hb7 b hb).1))
    | (go_at_call 30; refine Calls.mono (sort_grow g8 (by simp) (by simp; omega)) ?_; rintro e w9 ⟨rfl, B9, l9, P9, S9, sl9⟩))
  all_goals go_ret2
  all_goals first
    | exact ⟨⟨_, l9, 0, rfl, by unfold shareErr; first | (simp_all; done) | (simp_all; omega), sl9, .inr ⟨rfl, P9, S9⟩⟩, B8.trans B9⟩
    | exact ⟨⟨_, [], _, rfl, by unfold shareErr; first | (simp_all; done) | (simp_all; omega), Sl_nil _ _ _ _, .inl ⟨by decide, rfl⟩⟩, by assumption⟩

theorem grow_row {B : Nat → Prop} {base : Nat} {v : Value} {l : List Member} {w : World} (h : Grow 44 2 rMember B w base v l) (h0 : 0 < l.length) :
    ∃ g cap cur, v = .slice (some ⟨g, 0, none⟩) l.length cap ∧ base ≤ g ∧ w.heap[g]? = some (.cells cur 44 (0, 0)) ∧ l.length ≤ cap ∧ cap ≤ maxLen ∧ cur.size = cap * 2 ∧
      ∀ k x, l[k]? = some x → (∀ j y, (encM x)[j]? = some y → cur[k * 2 + j]? = some y) ∧ x.name.size ≤ 140737488355328 ∧ I64 x.role := by
  obtain ⟨h1, h2, xs, ⟨h3, h4⟩, h5⟩ := h
  rcases h4 with ⟨rfl, h0⟩ | ⟨g, cap, cur, rfl, hbg, hg, hnc, hcm, hcs, htk⟩
  · omega
  refine ⟨g, cap, cur, rfl, hbg, hg, hnc, hcm, hcs, fun k x hx => ?_⟩
  obtain ⟨ys, y1, y2, y3⟩ := h5 k x hx
  obtain ⟨rfl, y4⟩ := open_Member y3
  refine ⟨fun j y hj => ?_, y4⟩
  have hx' := y2 j y hj
  rw [← htk, List.getElem?_take] at hx'
  split at hx'
  · simpa using hx'
  · cases hx'
theorem set_role {g cap : Nat} {cur : Array Value} {l : List Member} {w : World} {T : TypeId} {i : Nat} {x : Member} {n : Int} (hg : w.heap[g]? = some (.cells cur T (0, 0))) (h1 : l.length ≤ cap) (h2 : cap ≤ maxLen) (h3 : l.length ≤ 100000) (hs : cur.size = cap * 2) (hi : l[i]? = some x) (hn : I64 n)
    (hc : ∀ k x, l[k]? = some x → (∀ j y, (encM x)[j]? = some y → cur[k * 2 + j]? = some y) ∧ x.name.size ≤ 140737488355328 ∧ I64 x.role) :
    Sl 2 rMember (fun _ => True) (w.setCell ⟨g, i * 2 + 1, none⟩ (.int .i64 n)) (.slice (some ⟨g, 0, none⟩) l.length cap) (l.set i ⟨x.name, n⟩) := by
  have hil := (List.getElem?_eq_some_iff.1 hi).1
  have hg' := blk_set_same (.int .i64 n) hg (i := i * 2 + 1) rfl
  refine ⟨some ⟨g, 0, none⟩, cap, by simp, by simpa using h1, h2, by simp; omega, fun k y hy => ?_⟩
  have hkl : k < l.length := by have := (List.getElem?_eq_some_iff.1 hy).1; simpa using this
  rw [List.getElem?_set] at hy
  by_cases hki : i = k
  · subst hki
    rw [if_pos rfl, if_pos hil] at hy
    cases hy
    obtain ⟨c1, c2, c3⟩ := hc i x hi
    refine ⟨g, 0, [.string x.name, .int .i64 n], rfl, trivial, rfl, fun j y hj => ?_, rfl, c2, hn⟩
    rw [cell_of_row _ g _ _ _ (0, 0) hg', Array.getElem?_setIfInBounds]
    have hj2 : j < 2 := (List.getElem?_eq_some_iff.1 hj).1
    rcases (show j = 0 ∨ j = 1 by omega) with h | h <;> subst h
    · rw [if_neg (by omega), Nat.zero_add]
      exact c1 0 y hj
    · rw [if_pos (by omega), if_pos (by omega)]
      simpa using hj
  · rw [if_neg hki] at hy
    obtain ⟨c1, c2⟩ := hc k y hy
    refine ⟨g, 0, encM y, rfl, trivial, rfl, fun j u hj => ?_, rfl, c2⟩
    have hj2 : j < 2 := (List.getElem?_eq_some_iff.1 hj).1
    rw [cell_of_row _ g _ _ _ (0, 0) hg', Array.getElem?_setIfInBounds, if_neg (by omega), Nat.zero_add]
    exact c1 j u hj

def changeP (r : Bool) (m a its n : Int) (own : Nat) : Int := if r = false then 2 else if m < 3 then 40 else if a < 0 then 35 else if 3 ≤ max n its ∧ m < 4 then 40 else if its = 4 ∧ n < 4 ∧ own = 1 then 46 else 0
set_option maxHeartbeats 4000000 in
theorem change_any (l : List Member) (by_ name : ByteArray) (n : Int) (hname : name.size ≤ 140737488355328) (hn : I64 n) (v : Value) (w : World) (S : Nat → Prop) (h : Sl 2 rMember S w v l) (hl0 : l.length ≤ 100000) :
    Calls Try.prog 10 #[v, .string by_, .string name, .int .i64 n] w fun e w' =>
      (∃ v' l' k, e = .returned (.tuple #[v', .int .i64 k]) ∧ k = changeP (rightOf l && (nameOk name && isOf n)) (ofOf l by_) (atOf l name) (ofOf l name) n (ownersOf l) ∧ Sl 2 rMember (fun _ => True) w' v' l' ∧
        ((k ≠ 0 ∧ l' = []) ∨ (k = 0 ∧ ∃ (i : Nat) (x : Member), l[i]? = some x ∧ eqS x.name name = true ∧ l' = l.set i ⟨x.name, n⟩))) ∧ Below w.heap.size w w' := by
  have cs := cs_any h hl0
  obtain ⟨r, hr⟩ : ∃ r, r = rightOf l := ⟨_, rfl⟩
  have hpos : r = true → 0 < l.length := fun e => owners_pos (by rw [← hr, e])
  have cR := cs.right
  have cn : ∀ W, Calls Try.prog 25 #[.string name] W fun e w' => e = .returned (.bool (nameOk name)) ∧ w' = W := fun W => name_b name hname _ rfl W
  have ci : ∀ W, Calls Try.prog 26 #[.int .i64 n] W fun e w' => e = .returned (.bool (isOf n)) ∧ w' = W := fun W => is_b n _ rfl W
  have co := cs.of by_
  have ca := cs.at_ name
  have cw := cs.owners
  have hle := withAt_len l 4
  change ownersOf l ≤ _ at hle
  have ch := fun m W T hm => cs.high2 by_ n m W T hn hm
  have cc := cs.clone
  rw [← hr] at cR ⊢
  generalize nameOk name = nk at cn ⊢
  generalize isOf n = ik at ci ⊢
  generalize ofOf l by_ = m at co ch ⊢
  generalize ownersOf l = q at cw hle ⊢
  have B0 : Below w.heap.size w w := Below.refl _ _
  rcases atOf_cases name l 0 with ⟨h1, h2⟩ | ⟨i, x, h1, h2, h3, h4⟩
  · rw [show atOf l name = -1 from h1] at ca ⊢
    rw [h2]
    obtain ⟨A, c, rfl, hl, hc, hnn, hs⟩ := h
    unfold maxLen at hc
    clear hs cs hr h1 h2
    go_enter Try.func10, Try.ntmps10
    go_wp2_with (first
      | (go_at_call 12; refine Calls.mono (cR _ (by assumption)) ?_; rintro e w1 ⟨rfl, B1⟩)
      | (go_at_call 25; refine Calls.mono (cn _) ?_; rintro e w2 ⟨rfl, rfl⟩)
      | (go_at_call 26; refine Calls.mono (ci _) ?_; rintro e w3 ⟨rfl, rfl⟩)
      | (go_at_call 13; refine Calls.mono (co _ (by assumption)) ?_; rintro e w4 ⟨rfl, B4⟩)
      | (go_at_call 27; refine Calls.mono (ca _ (by assumption)) ?_; rintro e w5 ⟨rfl, B5⟩))
    all_goals go_ret2
    all_goals exact ⟨⟨_, [], _, rfl, by unfold changeP; first | (simp_all; done) | (simp_all; omega), Sl_nil _ _ _ _, .inl ⟨by decide, rfl⟩⟩, by assumption⟩
  · rw [show atOf l name = (i : Int) by rw [atOf, h1]; simp] at ca ⊢
    rw [h3]
    obtain ⟨A, c, rfl, hl, hc, hnn, hs⟩ := h
    unfold maxLen at hc
    have hil : i < l.length := (List.getElem?_eq_some_iff.1 h2).1
    obtain ⟨x', x_b, x_o, x_k, x_d, x_m, rfl, x_l, x_S, x_0, x_1, x_R, x_name_le, x_role_ok⟩ := get_Member hs hil (Kept.refl w fun _ h => h)
    have ex : x' = x := Option.some.inj (x_k.symm.trans h2)
    subst ex
    have H2 := Lib.hid h2
    have k1 : ∀ W, Below w.heap.size w W → W.cell? ⟨x_b, x_o + i * 2 + 1, none⟩ = some (.int .i64 x'.role) := held_cells x_1
    have ch' := fun W T => ch x'.role W T x_role_ok
    clear hs cs hr h1 h2 h3 x_k x_d x_m x_R x_0 ch
    go_enter Try.func10, Try.ntmps10
    go_wp2_with (first
      | (go_at_call 12; refine Calls.mono (cR _ (by assumption)) ?_; rintro e w1 ⟨rfl, B1⟩)
      | (go_at_call 25; refine Calls.mono (cn _) ?_; rintro e w2 ⟨rfl, rfl⟩)
      | (go_at_call 26; refine Calls.mono (ci _) ?_; rintro e w3 ⟨rfl, rfl⟩)
      | (go_at_call 13; refine Calls.mono (co _ (by assumption)) ?_; rintro e w4 ⟨rfl, B4⟩; have x4 := k1 w4 B4)
      | (go_at_call 27; refine Calls.mono (ca _ (by assumption)) ?_; rintro e w5 ⟨rfl, B5⟩)
      | (go_at_call 28; refine Calls.mono (ch' _ _ (by assumption)) ?_; rintro e w6 ⟨rfl, B6⟩; have x6 := k1 w6 B6)
      | (go_at_call 33; refine Calls.mono (cw _ (by assumption)) ?_; rintro e w8 ⟨rfl, B8⟩)
      | (go_at_call 29; refine Calls.mono (cc (hpos (by assumption)) _ (by assumption)) ?_; rintro e w7 ⟨⟨v7, rfl, g7⟩, B7⟩; obtain ⟨gr, cap7, cur7, rfl, b7, hg7, l7, m7, s7, c7⟩ := grow_row g7 (by omega); have y7 := (blk_cells hg7).1 _ _ ((c7 i _ H2.out).1 1 _ rfl); have f7 := (blk_cells hg7).2 (i * 2 + 1)))
    all_goals go_ret2
    all_goals first
      | exact ⟨⟨_, l.set i ⟨x'.name, n⟩, 0, rfl, by unfold changeP; first | (simp_all; done) | (simp_all; omega), set_role hg7 l7 m7 hl0 s7 H2.out hn c7, .inr ⟨rfl, i, x', H2.out, h4, rfl⟩⟩, Below.setCell B7 b7 _⟩
      | exact ⟨⟨_, [], _, rfl, by unfold changeP; first | (simp_all; done) | (simp_all; omega), Sl_nil _ _ _ _, .inl ⟨by decide, rfl⟩⟩, by assumption⟩

def revokeP (r same : Bool) (m a its : Int) (own : Nat) : Int := if r = false then 2 else if same = false ∧ m < 3 then 40 else if a < 0 then 35 else if same = false ∧ 3 ≤ its ∧ m < 4 then 40 else if its = 4 ∧ own = 1 then 46 else 0
set_option maxHeartbeats 4000000 in
theorem revoke_any (l : List Member) (by_ name : ByteArray) (hname : name.size ≤ 140737488355328) (v : Value) (w : World) (S : Nat → Prop) (h : Sl 2 rMember S w v l) (hl0 : l.length ≤ 100000) :
    Calls Try.prog 11 #[v, .string by_, .string name] w fun e w' =>
      (∃ v' l' k, e = .returned (.tuple #[v', .int .i64 k]) ∧ k = revokeP (rightOf l && nameOk name) (eqS by_ name) (ofOf l by_) (atOf l name) (ofOf l name) (ownersOf l) ∧ Sl 2 rMember (fun _ => True) w' v' l' ∧
        ((k ≠ 0 ∧ l' = []) ∨ (k = 0 ∧ ∃ (i : Nat) (x : Member), l[i]? = some x ∧ eqS x.name name = true ∧ l' = l.eraseIdx i))) ∧ Below w.heap.size w w' := by
  have cs := cs_any h hl0
  obtain ⟨r, hr⟩ : ∃ r, r = rightOf l := ⟨_, rfl⟩
  have hpos : r = true → 0 < l.length := fun e => owners_pos (by rw [← hr, e])
  have cR := cs.right
  have cn : ∀ W, Calls Try.prog 25 #[.string name] W fun e w' => e = .returned (.bool (nameOk name)) ∧ w' = W := fun W => name_b name hname _ rfl W
  have co := cs.of by_
  have ca := cs.at_ name
  have cw := cs.owners
  have hle := withAt_len l 4
  change ownersOf l ≤ _ at hle
  have ch := fun m W T hm => cs.high1 by_ m W T hm
  have cc := cs.clone
  rw [← hr] at cR ⊢
  generalize nameOk name = nk at cn ⊢
  generalize ofOf l by_ = m at co ch ⊢
  generalize ownersOf l = q at cw hle ⊢
  have B0 : Below w.heap.size w w := Below.refl _ _
  rcases atOf_cases name l 0 with ⟨h1, h2⟩ | ⟨i, x, h1, h2, h3, h4⟩
  · rw [show atOf l name = -1 from h1] at ca ⊢
    rw [h2]
    obtain ⟨A, c, rfl, hl, hc, hnn, hs⟩ := h
    unfold maxLen at hc
    clear hs cs hr h1 h2
    unfold eqS
    cases he : (by_.toList == name.toList)
    all_goals
      go_enter Try.func11, Try.ntmps11
      go_wp2_with (first
        | (go_at_call 12; refine Calls.mono (cR _ (by assumption)) ?_; rintro e w1 ⟨rfl, B1⟩)
        | (go_at_call 25; refine Calls.mono (cn _) ?_; rintro e w2 ⟨rfl, rfl⟩)
        | (go_at_call 13; refine Calls.mono (co _ (by assumption)) ?_; rintro e w4 ⟨rfl, B4⟩)
        | (go_at_call 27; refine Calls.mono (ca _ (by assumption)) ?_; rintro e w5 ⟨rfl, B5⟩))
      all_goals go_ret2
      all_goals exact ⟨⟨_, [], _, rfl, by unfold revokeP; first | (simp_all; done) | (simp_all; omega), Sl_nil _ _ _ _, .inl ⟨by decide, rfl⟩⟩, by assumption⟩
  · rw [show atOf l name = (i : Int) by rw [atOf, h1]; simp] at ca ⊢
    rw [h3]
    obtain ⟨A, c, rfl, hl, hc, hnn, hs⟩ := h
    unfold maxLen at hc
    have hil : i < l.length := (List.getElem?_eq_some_iff.1 h2).1
    obtain ⟨x', x_b, x_o, x_k, x_d, x_m, rfl, x_l, x_S, x_0, x_1, x_R, x_name_le, x_role_ok⟩ := get_Member hs hil (Kept.refl w fun _ h => h)
    have ex : x' = x := Option.some.inj (x_k.symm.trans h2)
    subst ex
    have H2 := Lib.hid h2
    have H4 := Lib.hid h4
    have k1 : ∀ W, Below w.heap.size w W → W.cell? ⟨x_b, x_o + i * 2 + 1, none⟩ = some (.int .i64 x'.role) := held_cells x_1
    have ch' := fun W T => ch x'.role W T x_role_ok
    clear hs cs hr h1 h2 h3 h4 x_k x_d x_m x_R x_0 ch
    obtain ⟨sm, hsm⟩ : ∃ sm, sm = eqS by_ name := ⟨_, rfl⟩
    rw [← hsm]
    have hsm2 : (by_.toList == name.toList) = sm := by rw [hsm]; rfl
    clear hsm
    cases sm
    all_goals
      go_enter Try.func11, Try.ntmps11
      go_wp2_with (first
        | (go_at_call 12; refine Calls.mono (cR _ (by assumption)) ?_; rintro e w1 ⟨rfl, B1⟩; have x1 := k1 w1 B1)
        | (go_at_call 25; refine Calls.mono (cn _) ?_; rintro e w2 ⟨rfl, rfl⟩)
        | (go_at_call 13; refine Calls.mono (co _ (by assumption)) ?_; rintro e w4 ⟨rfl, B4⟩; have x4 := k1 w4 B4)
        | (go_at_call 27; refine Calls.mono (ca _ (by assumption)) ?_; rintro e w5 ⟨rfl, B5⟩)
        | (go_at_call 28; refine Calls.mono (ch' _ _ (by assumption)) ?_; rintro e w6 ⟨rfl, B6⟩; have x6 := k1 w6 B6)
        | (go_at_call 33; refine Calls.mono (cw _ (by assumption)) ?_; rintro e w8 ⟨rfl, B8⟩)
        | (go_at_call 29; refine Calls.mono (cc (hpos (by assumption)) _ (by assumption)) ?_; rintro e w7 ⟨⟨v7, rfl, g7⟩, B7⟩)
        | (go_at_call 34; refine Calls.mono (delete_any l i hil (by omega) v7 _ _ _ g7) ?_; rintro e w9 ⟨⟨v9, rfl, s9⟩, B9⟩))
      all_goals go_ret2
      all_goals first
        | exact ⟨⟨_, l.eraseIdx i, 0, rfl, by unfold revokeP; first | (simp_all; done) | (simp_all; omega), s9, .inr ⟨rfl, i, x', H2.out, H4.out, rfl⟩⟩, B7.trans B9⟩
        | exact ⟨⟨_, [], _, rfl, by unfold revokeP; first | (simp_all; done) | (simp_all; omega), Sl_nil _ _ _ _, .inl ⟨by decide, rfl⟩⟩, by assumption⟩
end Go.Proofs.Ytanhholjfkofoaa
