/- The document's Put: a name among rising ones, once. Conditions: as each theorem says. -/
import Derived.Test.YtalhilelbebfbaaDoorTrList
import Derived.Test.YtalhilelbebfbaaDoorRowD
import Derived.Test.YtalhilelbebfbaaDoorArgs
import Derived.BigQuiet
namespace Go.Proofs.YtalhilelbebfbaaDoor
open Go.RowKit Go.Deep

theorem RowC.shape3 {e : TypeId} {sz : Nat} {w : World} {v : Value} {l : List (List Value)} (h : RowC e sz w v l) : ∃ A n c, v = .slice A n c := by
  obtain ⟨A, c, h, _⟩ := h.shape
  exact ⟨A, _, c, h⟩
theorem eqS_iff {a b : Nm} : (a.toList == b.toList) = decide (a = b) := by
  by_cases h : a = b
  · subst h
    simp
  · rw [decide_eq_false h, ← Bool.not_eq_true, beq_iff_eq]
    exact fun e => h (toList_inj e)
theorem eqS_ne {a b : Nm} (h : a ≠ b) : (a.toList == b.toList) = false := by
  rw [eqS_iff]
  exact decide_eq_false h
/-! Texts among texts. -/
theorem get_str {S S' : Nat → Prop} {w wr : World} {A : Option Addr} {l : List Nm} {k : Nat} (s : SlAt 1 rStr S w A l) (hk : k < l.length) (hb : Kept S S' w wr) :
    ∃ x b o, l[k]? = some x ∧ l.drop k = x :: l.drop (k + 1) ∧ x ∈ l ∧ A = some ⟨b, o, none⟩ ∧ wr.cell? ⟨b, o + k, none⟩ = some (.string x) := by
  obtain ⟨x, hx, hd, hm⟩ := at_k hk
  obtain ⟨b, o, ys, hA, hS, _, hc, rfl, _⟩ := s k _ hx
  have q := cell_kept (p := ⟨b, o + (k * 1 + 0), none⟩) hb hS (hc 0 _ rfl)
  rw [Nat.mul_one, Nat.add_zero] at q
  exact ⟨x, b, o, hx, hd, hm, hA, q⟩
def memB (l : List Nm) (s : Nm) : Bool := l.any fun x => decide (x = s)
theorem memB_iff {l : List Nm} {s : Nm} : memB l s = true ↔ s ∈ l := by simp [memB]
theorem in_any (l : List Nm) (v : Value) (s : Nm) (w : World) (S : Nat → Prop) (h : Sl 1 rStr S w v l) : Calls Tryd.prog 38 #[v, .string s] w fun e w' => e = .returned (.bool (memB l s)) ∧ w' = w := by
  obtain ⟨A, c, rfl, hl, hc, hn, hs⟩ := h
  unfold maxLen at hc
  go_enter Tryd.func38, Tryd.ntmps38
  go_wp2
  go_loop [5] (fun i => ∃ k : Nat, k ≤ l.length ∧ i = .int .i64 k ∧ Hid (s ∉ l.take k)) (fun i => l.length - (RowKit.intOf i).toNat)
  case atStart => exact ⟨0, by omega, by go_num, by simp [Hid]⟩
  case round =>
    obtain ⟨k, hk, rfl, HK⟩ := hrel
    by_cases hlt : k < l.length
    · obtain ⟨x, b, o, hx, _, hm, rfl, q⟩ := get_str hs hlt (Kept.refl w fun _ h => h)
      by_cases e : x = s
      · subst e
        have M := Lib.hid (memB_iff.2 hm)
        clear hx hm
        go_wp2
        go_ret
        exact ⟨ret_bool M.out.symm, rfl⟩
      · have e1 := eqS_ne e
        have HK2 := Lib.hid (show s ∉ l.take (k + 1) by rw [List.take_add_one, hx]; simp [Ne.symm e]; exact HK.out)
        clear hx hm
        go_wp2
        go_round
        case rel => exact ⟨k + 1, by omega, by go_num, HK2⟩
        case measure => simp [RowKit.intOf]; omega
    · obtain rfl : k = l.length := by omega
      have M := Lib.hid (show memB l s = false by rw [← Bool.not_eq_true, memB_iff]; have := HK.out; rwa [List.take_length] at this)
      go_wp2
      go_ret
      exact ⟨ret_bool M.out.symm, rfl⟩
def strs (l : List Nm) : List (List Value) := l.map fun s => [.string s]
theorem strs_len (l : List Nm) : (strs l).length = l.length := List.length_map _
theorem strs_get {l : List Nm} {i : Nat} {x : Nm} (h : l[i]? = some x) : (strs l)[i]? = some [.string x] := by unfold strs; rw [List.getElem?_map, h]; rfl
theorem insS_split {s : Nm} : ∀ {a b : List Nm}, (∀ x ∈ a, ltS s x = false) → (∀ x ∈ b, ltS s x = true) → insS s (a ++ b) = a ++ s :: b
  | [], [], _, _ => rfl
  | [], x :: b, _, h => by rw [List.nil_append, insS, if_pos (h x (List.mem_cons_self ..))]; rfl
  | x :: a, b, h, k => by
    have hx := h x (List.mem_cons_self ..)
    rw [List.cons_append, insS, hx]
    rw [insS_split (fun y hy => h y (List.mem_cons_of_mem _ hy)) k]
    rfl
theorem below_last {s : Nm} {l : List Nm} (hp : l.Pairwise (fun a b => ltS a b = true)) {k : Nat} {y : Nm} (hy : l[k]? = some y) (h : ltS s y = false) : ∀ x ∈ l.take (k + 1), ltS s x = false := by
  intro x hx
  obtain ⟨i, hi⟩ := List.getElem?_of_mem hx
  have hik : i < k + 1 := by
    have := (List.getElem?_eq_some_iff.1 hi).1
    rw [List.length_take] at this
    omega
  rw [List.getElem?_take, if_pos hik] at hi
  by_cases e : i = k
  · subst e
    rw [hy] at hi
    rw [← Option.some.inj hi]
    exact h
  · have hi' := (List.getElem?_eq_some_iff.1 hi)
    have hy' := (List.getElem?_eq_some_iff.1 hy)
    have h1 : ltS x y = true := by
      have := List.pairwise_iff_getElem.1 hp i k hi'.1 hy'.1 (by omega)
      rw [hi'.2, hy'.2] at this
      exact this
    rw [← Bool.not_eq_true]
    intro h2
    rw [ltS_trans h2 h1] at h
    cases h
theorem shift_set {l : List Nm} {k : Nat} {x y : Nm} (hx : l[k]? = some x) : (l.take (k + 1) ++ y :: l.drop (k + 1)).set (k + 1) x = l.take k ++ x :: l.drop k := by
  have hk := (List.getElem?_eq_some_iff.1 hx).1
  have h1 : l.take (k + 1) = l.take k ++ [x] := by rw [List.take_add_one, hx]; rfl
  have h2 : l.drop k = x :: l.drop (k + 1) := by
    have := List.drop_eq_getElem_cons hk
    rw [(List.getElem?_eq_some_iff.1 hx).2] at this
    exact this
  rw [List.set_append_right _ _ (by rw [List.length_take]; omega)]
  rw [show k + 1 - (l.take (k + 1)).length = 0 by rw [List.length_take]; omega]
  rw [List.set_cons_zero, h1, h2]
  simp
theorem last_set {l : List Nm} {k : Nat} {s y : Nm} (hk : k ≤ l.length) : (l.take k ++ y :: l.drop k).set k s = l.take k ++ s :: l.drop k := by
  rw [List.set_append_right _ _ (by rw [List.length_take]; omega)]
  rw [show k - (l.take k).length = 0 by rw [List.length_take]; omega]
  rfl
theorem strs_set (l : List Nm) (k : Nat) (x : Nm) : (strs l).set k [.string x] = strs (l.set k x) := by unfold strs; rw [List.map_set]
theorem grownBy_set (w : World) (g o : Nat) (u : Value) : w.grownBy (w.setCell ⟨g, o, none⟩ u) (some g) := by
  have b := (Below.refl 0 w).setCell (p := ⟨g, o, none⟩) (Nat.zero_le _) u
  exact ⟨b.os, b.tape, b.output, by simp, fun k _ hk => Below.heap_setCell _ _ _ _ fun e => hk (by rw [e])⟩
theorem grownBy_any {w w1 w' : World} {row : Option Nat} {g : Nat} (h : w.grownBy w1 row) (k : w1.grownBy w' (some g)) (o : some g = row ∨ ∃ q, some g = some q ∧ w.heap.size ≤ q) : w.grownBy w' row := by
  refine ⟨k.os.trans h.os, k.tape.trans h.tape, k.output.trans h.output, Nat.le_trans h.size k.size, fun b hb hne => (k.block b (Nat.lt_of_lt_of_le hb h.size) fun e => ?_).trans (h.block b hb hne)⟩
  rcases o with o | ⟨q, hq, hl⟩
  · exact hne (e.trans o)
  · have := Option.some.inj (e.trans hq)
    omega
theorem get_take {l : List Nm} {k i : Nat} {x y : Nm} (hi : i < k) (hk : k ≤ l.length) (hx : l[i]? = some x) : (l.take k ++ y :: l.drop k)[i]? = some x := by
  rw [List.getElem?_append_left (by rw [List.length_take]; omega), List.getElem?_take, if_pos hi]
  exact hx

set_option maxHeartbeats 2000000 in
theorem refsorted_any {w : World} {v : Value} {l : List Nm} (h : RowC 9 1 w v (strs l)) (hl : l.length ≤ 300) (hp : l.Pairwise (fun a b => ltS a b = true)) (s : Nm) (hsl : s ∉ l) : Calls Tryd.prog 39 #[v, .string s] w fun e w' => ∃ v', e = .returned v' ∧ RowC 9 1 w' v' (strs (insS s l)) ∧ w.grownBy w' v.ownBlock ∧ (v'.ownBlock = v.ownBlock ∨ ∃ k, v'.ownBlock = some k ∧ w.heap.size ≤ k) := by
  obtain ⟨A, c, rfl, _⟩ := h.shape
  rw [strs_len] at h ⊢
  have HR := Lib.hid h
  obtain ⟨istring, histring, hzstring, h1string, h2string⟩ := info_parts (show (Tryd.prog.info? 9).map (fun i => (i.zero, i.size, i.bytes)) = some (some (.string ⟨#[]⟩), 1, 16) from by kernel_rfl)
  clear h
  go_enter Tryd.func39, Tryd.ntmps39
  go_wp2_with (at_builtin; (refine wpList_rowC w [.string s] rfl (.tmp 8) (.tmp 10) 30 rfl istring _ 16 Tryd.underlying30 histring hzstring h1string h2string rfl (by decide) (by decide) _ _ rfl HR.out (by rw [strs_len]; omega) rfl (by intro u hu; simp at hu; subst hu; rfl) _ _ rfl rfl ?_); intro v1 w1 r1 g1 o1; have HG1 := Lib.hid g1; have HO1 := Lib.hid o1; have HR1 := Lib.hid (show RowC 9 1 w1 v1 (strs (l ++ [s])) by rw [show strs (l ++ [s]) = strs l ++ [[.string s]] by simp [strs]]; exact r1); clear r1 g1 o1)
  obtain ⟨A1, c1, hv1, hA1⟩ := HR1.out.shape
  obtain ⟨g, o, rfl⟩ := hA1 (by simp [strs])
  rw [strs_len, List.length_append, List.length_singleton] at hv1
  subst hv1
  clear hA1
  go_loopw [5] (fun i wr => ∃ (k : Nat) (y : Nm), k ≤ l.length ∧ i = .int .i64 k ∧ Hid (RowC 9 1 wr (.slice (some ⟨g, o, none⟩) (l.length + 1) c1) (strs (l.take k ++ y :: l.drop k))) ∧ Hid (∀ x ∈ l.drop k, ltS s x = true) ∧ Hid (w1.grownBy wr (some g))) (fun i _ => (RowKit.intOf i).toNat)
  case atStart =>
    refine ⟨l.length, s, Nat.le_refl _, by go_num, ?_, fun x hx => by simp at hx, World.grownBy.refl _ _⟩
    show RowC _ _ _ _ _
    rw [List.take_length, List.drop_length]
    exact HR1.out
  case round =>
    obtain ⟨k, y, hk, rfl, HW, HD, HG⟩ := hrel
    by_cases h0 : k = 0
    · subst h0
      have HF := Lib.hid (show RowC 9 1 (wr.setCell ⟨g, o, none⟩ (.string s)) (.slice (some ⟨g, o, none⟩) (l.length + 1) c1) (strs (insS s l)) by
        have := HW.out.write (i := 0) (j := 0) (x := [.string y]) (by decide) rfl (by decide) (.string s) rfl
        rw [show o + 0 * 1 + 0 = o by omega] at this
        have e : insS s l = s :: l := by have := insS_split (s := s) (a := []) (b := l) (fun x hx => by simp at hx) (fun x hx => HD.out x hx); simpa using this
        rw [e]
        exact this)
      obtain ⟨-, hnc, hcm, hc, hf⟩ := HW.out.here (i := 0) (x := [.string y]) rfl
      have x0 := hc 0 _ rfl
      rw [show o + 0 * 1 + 0 = o by omega] at x0
      have hi0 : (0 : Int) < (l.length : Int) + 1 := by omega
      clear hc
      go_wp2
      go_ret
      refine ⟨.slice (some ⟨g, o, none⟩) (l.length + 1) c1, ?_, HF.out, grownBy_any HG1.out (grown_trans HG.out (grownBy_set wr g o _)) HO1.out, HO1.out⟩
      rfl
    · obtain ⟨k, rfl⟩ : ∃ q, k = q + 1 := ⟨k - 1, by omega⟩
      obtain ⟨x, hx⟩ : ∃ x, l[k]? = some x := ⟨_, List.getElem?_eq_getElem (by omega)⟩
      have hgx := get_take (y := y) (show k < k + 1 by omega) hk hx
      have hgy : (l.take (k + 1) ++ y :: l.drop (k + 1))[k + 1]? = some y := by
        rw [List.getElem?_append_right (by rw [List.length_take]; omega), show k + 1 - (l.take (k + 1)).length = 0 by rw [List.length_take]; omega]
        rfl
      obtain ⟨-, hnc, hcm, hcx, hf⟩ := HW.out.here (strs_get hgx)
      obtain ⟨-, -, -, hcy, -⟩ := HW.out.here (strs_get hgy)
      have x0 := hcx 0 _ rfl
      have y0 := hcy 0 _ rfl
      rw [show o + k * 1 + 0 = o + k by omega] at x0
      rw [show o + (k + 1) * 1 + 0 = o + (k + 1) by omega] at y0
      have hi1 : (k : Int) < (l.length : Int) + 1 := by omega
      have hi2 : (k : Int) + 1 < (l.length : Int) + 1 := by omega
      have hk0 : (0 : Int) < (k : Int) + 1 := by omega
      have hwk : IntKind.i64.wrap ((k : Int) + 1 - 1) = (k : Int) := by rw [show (k : Int) + 1 - 1 = k by omega]; exact IntWalk.i64_in _ (by omega)
      clear hcx hcy hgx hgy h0
      simp only [Int.natCast_add, Int.natCast_one]
      cases hls : ltS s x with
      | true =>
        have hb : Op.bytesLess x.toList s.toList = false := ltS_asymm hls
        have he := eqS_ne (Ne.symm (ltS_ne hls))
        have HW2 := Lib.hid (show RowC 9 1 (wr.setCell ⟨g, o + (k + 1), none⟩ (.string x)) (.slice (some ⟨g, o, none⟩) (l.length + 1) c1) (strs (l.take k ++ x :: l.drop k)) by
          have := HW.out.write (i := k + 1) (j := 0) (x := [.string y]) (by decide) (strs_get (by rw [List.getElem?_append_right (by rw [List.length_take]; omega), show k + 1 - (l.take (k + 1)).length = 0 by rw [List.length_take]; omega]; rfl)) (by decide) (.string x) rfl
          rw [show o + (k + 1) * 1 + 0 = o + (k + 1) by omega] at this
          rw [show [Value.string y].set 0 (.string x) = [.string x] from rfl, strs_set, shift_set hx] at this
          exact this)
        have HD2 := Lib.hid (show ∀ z ∈ l.drop k, ltS s z = true by
          have h2 : l.drop k = x :: l.drop (k + 1) := by
            have hk' := (List.getElem?_eq_some_iff.1 hx)
            have := List.drop_eq_getElem_cons hk'.1
            rw [hk'.2] at this
            exact this
          rw [h2]
          intro z hz
          rcases List.mem_cons.1 hz with rfl | hz
          · exact hls
          · exact HD.out z hz)
        clear hls hx
        go_wp2
        go_roundw
        case rel => exact ⟨k, x, by omega, by go_num, HW2, HD2, grown_trans HG.out (grownBy_set wr g _ _)⟩
        case measure => simp [RowKit.intOf]
      | false =>
        have hb : Op.bytesLess x.toList s.toList = true := by
          rcases ltS_total s x with h9 | h9 | h9
          · rw [hls] at h9; cases h9
          · exact absurd (List.mem_of_getElem? (h9 ▸ hx)) hsl
          · exact h9
        have HF := Lib.hid (show RowC 9 1 (wr.setCell ⟨g, o + (k + 1), none⟩ (.string s)) (.slice (some ⟨g, o, none⟩) (l.length + 1) c1) (strs (insS s l)) by
          have := HW.out.write (i := k + 1) (j := 0) (x := [.string y]) (by decide) (strs_get (by rw [List.getElem?_append_right (by rw [List.length_take]; omega), show k + 1 - (l.take (k + 1)).length = 0 by rw [List.length_take]; omega]; rfl)) (by decide) (.string s) rfl
          rw [show o + (k + 1) * 1 + 0 = o + (k + 1) by omega] at this
          rw [show [Value.string y].set 0 (.string s) = [.string s] from rfl, strs_set, last_set hk] at this
          have e : insS s l = l.take (k + 1) ++ s :: l.drop (k + 1) := by
            have := insS_split (s := s) (a := l.take (k + 1)) (b := l.drop (k + 1)) (below_last hp hx hls) HD.out
            rwa [List.take_append_drop] at this
          rw [e]
          exact this)
        clear hls hx
        go_wp2
        go_ret
        exact ⟨.slice (some ⟨g, o, none⟩) (l.length + 1) c1, rfl, HF.out, grownBy_any HG1.out (grown_trans HG.out (grownBy_set wr g _ _)) HO1.out, HO1.out⟩
theorem strs_sl {w : World} {v : Value} {R : List Nm} (h : RowC 9 1 w v (strs R)) (hl : R.length ≤ 1000) (hs : ∀ s ∈ R, s.size ≤ 1000) : Sl 1 rStr (fun _ => True) w v R := by
  rcases h.2 with ⟨rfl, h0⟩ | ⟨g, off, cap, cur, hv, hg, h1, h2, h3, h4⟩
  · have : R = [] := by cases R with
      | nil => rfl
      | cons x R => simp [strs] at h0
    subst this
    exact Sl_nil _ _ _ _
  · rw [strs_len] at hv h1
    subst hv
    refine Sl_of rfl h1 h2 (by omega) trivial fun i x hx => ⟨[.string x], rfl, fun j y hj => ?_, rfl, by have := hs x (List.mem_of_getElem? hx); omega⟩
    obtain ⟨-, -, -, hc, -⟩ := (show RowC 9 1 w (.slice (some ⟨g, off, none⟩) R.length cap) (strs R) from h).here (strs_get hx)
    have := hc j y hj
    rwa [Nat.add_assoc] at this
def putS (l : List Nm) (s : Nm) : List Nm := if memB l s = true then l else insS s l
theorem putS_is {P : Nm → Prop} {R : List Nm} (h : IsNames P R) (s : Nm) : IsNames (fun x => x = s ∨ P x) (putS R s) := by
  unfold putS
  by_cases hs : s ∈ R
  · rw [if_pos (memB_iff.2 hs)]
    refine ⟨h.1, fun x => (h.2 x).trans ⟨.inr, ?_⟩⟩
    rintro (rfl | k)
    · exact (h.2 x).1 hs
    · exact k
  · rw [if_neg fun k => hs (memB_iff.1 k)]
    exact h.put fun k => hs ((h.2 s).2 k)
theorem putS_len (l : List Nm) (s : Nm) : (putS l s).length ≤ l.length + 1 := by
  unfold putS
  split
  · omega
  · have : ∀ l : List Nm, (insS s l).length = l.length + 1 := by
      intro l
      induction l with
      | nil => rfl
      | cons x l ih =>
        rw [insS]
        split
        · rfl
        · rw [List.length_cons, ih, List.length_cons]
    rw [this]; exact Nat.le_refl _
theorem put_any {w : World} {v : Value} {l : List Nm} (h : RowC 9 1 w v (strs l)) (hl : l.length ≤ 300) (hz : ∀ x ∈ l, x.size ≤ 1000) (hp : l.Pairwise (fun a b => ltS a b = true)) (s : Nm) : Calls Tryd.prog 25 #[v, .string s] w fun e w' => ∃ v', e = .returned v' ∧ RowC 9 1 w' v' (strs (putS l s)) ∧ w.grownBy w' v.ownBlock ∧ (v'.ownBlock = v.ownBlock ∨ ∃ k, v'.ownBlock = some k ∧ w.heap.size ≤ k) := by
  have HI := Lib.hid (in_any l v s w _ (strs_sl h (by omega) hz))
  have HR := Lib.hid h
  obtain ⟨A, n, c, rfl⟩ := h.shape3
  cases hm : memB l s with
  | true =>
    have HE := Lib.hid (show putS l s = l by unfold putS; rw [if_pos hm])
    rw [hm] at HI
    clear hm h
    go_enter Tryd.func25, Tryd.ntmps25
    go_wp2_with (go_at_call 38; refine Calls.mono HI.out ?_; rintro e w1 ⟨rfl, hw⟩; obtain rfl := hw.symm; clear hw)
    go_ret
    exact ⟨_, rfl, by rw [HE.out]; exact HR.out, World.grownBy.refl _ _, .inl rfl⟩
  | false =>
    have hs : s ∉ l := fun k => by rw [memB_iff.2 k] at hm; cases hm
    have HE := Lib.hid (show putS l s = insS s l by unfold putS; rw [if_neg fun k => hs (memB_iff.1 k)])
    have HSO := Lib.hid (refsorted_any HR.out hl hp s hs)
    rw [hm] at HI
    clear hm h hs
    go_enter Tryd.func25, Tryd.ntmps25
    go_wp2_with (first
      | (go_at_call 38; refine Calls.mono HI.out ?_; rintro e w1 ⟨rfl, hw⟩; obtain rfl := hw.symm; clear hw)
      | (go_at_call 39; refine Calls.mono HSO.out ?_; rintro e w2 ⟨v2, rfl, h2⟩; have H2 := Lib.hid h2; clear h2))
    go_ret
    exact ⟨_, rfl, by rw [HE.out]; exact H2.out.1, H2.out.2.1, H2.out.2.2⟩
theorem belN {n : Nat} {w w' : World} (h : Below n w w') : ∀ q, Below n w (w'.drewN q)
  | 0 => h
  | q + 1 => (belN h q).drew
theorem sameT_any (l r : List Nm) (v u : Value) (w : World) (S S' : Nat → Prop) (h : Sl 1 rStr S w v l) (k : Sl 1 rStr S' w u r) (e : l = r) : Calls Tryd.prog 13 #[v, u] w fun e w' => e = .returned (.bool true) ∧ Below w.heap.size w w' := by
  subst e
  obtain ⟨A, c, rfl, hl, hc, hn, hs⟩ := h
  obtain ⟨A', c', rfl, hl', hc', hn', hs'⟩ := k
  unfold maxLen at hc hc'
  go_enter Tryd.func13, Tryd.ntmps13
  go_wp2
  go_loopw [13] (fun i wr => ∃ k : Nat, k ≤ l.length ∧ i = .int .i64 k ∧ Below w.heap.size w wr) (fun i _ => l.length - (RowKit.intOf i).toNat)
  case atStart => exact ⟨0, by omega, by go_num, by go_grown⟩
  case round =>
    obtain ⟨k, hk, rfl, hbel⟩ := hrel
    by_cases hlt : k < l.length
    · obtain ⟨x, b, o, hx, _, _, rfl, x0⟩ := get_str hs hlt (kept_of hbel)
      obtain ⟨y, b', o', hy, _, _, rfl, y0⟩ := get_str hs' hlt (kept_of hbel)
      obtain rfl : x = y := Option.some.inj (hx.symm.trans hy)
      clear hx hy
      go_wp2_with fail
      go_quiet (fail)
      go_wp2
      go_roundw
      case rel => exact ⟨k + 1, by omega, by go_num, belN hbel _⟩
      case measure => simp [RowKit.intOf]; omega
    · obtain rfl : k = l.length := by omega
      go_wp2
      go_ret
      exact ⟨rfl, hbel⟩
end Go.Proofs.YtalhilelbebfbaaDoor
