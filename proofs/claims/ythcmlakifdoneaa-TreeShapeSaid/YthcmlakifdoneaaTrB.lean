/- Layer tree: New, Chain; the document's In; slices.Contains. Conditions: as each theorem says. -/
import Derived.Test.YthcmlakifdoneaaTrA
import Derived.Carry
import Derived.Test.YthcmlakifdoneaaApi
namespace Go.Proofs.Ythcmlakifdoneaa
open Go.RowKit Go.Deep Go.Maps

theorem new_any (w : World) : Calls Try.prog 7 #[] w fun e w' => (∃ t m, e = .returned (.pointer (some ⟨t, 0, none⟩)) ∧ TreeS w' t m 0 (.map []) (fun _ => none) ∧ w.heap.size ≤ t ∧ w.heap.size ≤ m ∧ t < w'.heap.size ∧ m < w'.heap.size) ∧ Below w.heap.size w w' := by
  have hmm := @run_makeMap Try.prog
  go_enter Try.func7, Try.ntmps7
  go_wp2
  go_ret
  refine ⟨⟨_, w.heap.size, rfl, ⟨blk_alloc_new _ (by simp), (World.ownsMap_made _ _ _ _).alloc _, TIs.start, by simp⟩, by simp, Nat.le_refl _, by simp, by simp; omega⟩, by go_grown⟩

/-- What a chain begins with, and what is left of it. -/
theorem ch_left {F : Fs} (hI : Inv F) (s : Nm) {out : List Nm} {c : Nm} (h : out ++ ch F c = ch F s) (hc : liveB F c = true) : (out ++ [c]) ++ ch F (parF F c) = ch F s := by
  rw [← h, ch_on hI hc, List.append_assoc]
  rfl
def Short (F : Fs) : Prop := ∀ s, (parF F s).size ≤ 1000
set_option maxHeartbeats 1000000 in
theorem chain_any {w : World} {t m n : Nat} {D : DataW Unit} {F : Fs} (h : TreeS w t m n D F) (hI : Inv F) (hF : Short F) (s : Nm) (hs : s.size ≤ 1000) : Calls Try.prog 20 #[.pointer (some ⟨t, 0, none⟩), .string s] w fun e w' => (∃ u, e = .returned u ∧ Sl 1 rStr (fun _ => True) w' u (ch F s)) ∧ Below w.heap.size w w' := by
  have HS := Lib.hid h
  obtain ⟨istring, histring, hzstring, h1string, h2string⟩ := info_parts (show (Try.prog.info? 9).map (fun i => (i.zero, i.size, i.bytes)) = some (some (.string ⟨#[]⟩), 1, 16) from by kernel_rfl)
  have hfd := field_node
  clear h
  go_enter Try.func20, Try.ntmps20
  go_wp2
  go_loopw [1, 5] (fun s1 s5 wr => ∃ (c : Nm) (out : List Nm), c.size ≤ 1000 ∧ s1 = .string c ∧ out.length ≤ 4 ∧ Hid (out ++ ch F c = ch F s) ∧ Hid (Grow 9 1 rStr (fun _ => False) wr w.heap.size s5 out) ∧ Below w.heap.size w wr) (fun s1 _ _ => match s1 with | .string c => (ch F c).length | _ => 0)
  case atStart => exact ⟨s, [], hs, rfl, by simp, by show _ = _; rfl, Grow.nil, by go_grown⟩
  case round =>
    obtain ⟨c, out, hc, rfl, hol, HE, HG, hbel⟩ := hrel
    obtain ⟨A0, n0, c0, rfl, hn1⟩ := HG.out.shape'
    clear hn1
    have hzb := hbel.size
    have HS1 := Lib.hid (HS.out.below hbel)
    have hh := Lib.hid (has_any HS1.out c hc)
    have hkey := key_mk hc
    cases hl : liveB F c with
    | true =>
      have hl' := Lib.hid hl
      rw [hl] at hh
      have HE2 := Lib.hid (ch_left hI s HE.out hl)
      have hlen := Lib.hid (ch_len hI hl)
      have hol2 : out.length ≤ 3 := by
        have h1 := congrArg List.length HE.out
        have h2 := hI.deep s
        have h3 := hlen.out
        rw [List.length_append] at h1
        omega
      have hpar := Lib.hid (hF c)
      clear hl
      go_wp2_with fail
      refine Calls.mono hh.out ?_
      rintro e w1 ⟨rfl, B1⟩
      have B1' := bel_call hbel B1
      have HG1 := Lib.hid (HG.out.below rStr_ok B1)
      have HS2 := Lib.hid (HS1.out.below B1)
      have hz1 := B1.size
      go_wp2_with (first
        | (at_builtin; go_loud (refine wpList_grow1 (R := rStr) _ _ rfl (.tmp 9) (.tmp 11) 31 rfl 9 istring _ 1 16 Try.underlying31 histring hzstring h1string h2string rfl (by decide) rStr_ok w.heap.size (by omega) _ _ rfl HG1.out _ _ rfl (by simp only [World.size_alloc, World.size_setCell, World.size_drew]) _ (by intro b hb; exact hb.elim) (show rStr _ _ _ c from ⟨rfl, by omega⟩) (by omega) (by decide) ?_); intro v1 w5 g1 gg1 go1; obtain ⟨A5, n5, c5, rfl, hn5⟩ := g1.shape'; have G5 := Lib.hid g1; have B5 := Lib.hid (Below.grown B1' gg1 (by omega) fun b hb => (HG1.out.base_le b hb).1); have HS5 := Lib.hid (HS.out.below B5.out); obtain ⟨cb, fb⟩ := blk_cells HS5.out.cell; have c0 := cb 0 _ rfl; clear hn5 g1 gg1 go1 cb)
        | (at_lookup; refine wpList_look_node _ rfl _ _ 47 rfl 9 51 keyN Try.underlying47 (zeroN _) m n D rfl HS5.out.own _ _ rfl hkey ?_; intro cc g hcc; obtain rfl := (HS5.out.rel.look c hcc).2 hl'.out; clear hcc))
      go_roundw
      case rel => exact ⟨parF F c, out ++ [c], hpar.out, rfl, by simp; omega, HE2, G5, B5.out⟩
      case measure =>
        have := hlen.out
        show (ch F (parF F c)).length < (ch F c).length
        omega
    | false =>
      have HE2 := Lib.hid (show out = ch F s by have := HE.out; rw [ch_off hI hl, List.append_nil] at this; exact this)
      rw [hl] at hh
      clear hl
      go_wp2_with (go_at_call 18; refine Calls.mono hh.out ?_; rintro e w1 ⟨rfl, B1⟩)
      go_ret
      exact ⟨⟨_, rfl, by rw [← HE2.out]; exact Own.sl rStr_ok (HG.out.below rStr_ok B1)⟩, bel_call hbel B1⟩
theorem chain_nil (s : Nm) (w : World) : Calls Try.prog 20 #[.pointer none, .string s] w fun e w' => e = .returned (.slice none 0 0) ∧ w' = w := by
  go_enter Try.func20, Try.ntmps20
  go_wp2
  go_loop [1, 5] (fun s1 s5 => s1 = .string s ∧ s5 = .slice none 0 0) (fun _ _ => 0)
  case atStart => exact ⟨rfl, rfl⟩
  case round =>
    obtain ⟨rfl, rfl⟩ := hrel
    go_wp2_with (go_at_call 18; refine Calls.mono (has_nil _ _) ?_; rintro e w1 ⟨rfl, rfl⟩)
    go_ret
    exact ⟨rfl, rfl⟩

/-! Texts among texts. -/
theorem get_str {S S' : Nat → Prop} {w wr : World} {A : Option Addr} {l : List Nm} {k : Nat} (s : SlAt 1 rStr S w A l) (hk : k < l.length) (hb : Kept S S' w wr) :
    ∃ x b o, l[k]? = some x ∧ l.drop k = x :: l.drop (k + 1) ∧ x ∈ l ∧ A = some ⟨b, o, none⟩ ∧ wr.cell? ⟨b, o + k, none⟩ = some (.string x) := by
  obtain ⟨x, hx, hd, hm⟩ := at_k hk
  obtain ⟨b, o, ys, hA, hS, _, hc, rfl, _⟩ := s k _ hx
  have q := cell_kept (p := ⟨b, o + (k * 1 + 0), none⟩) hb hS (hc 0 _ rfl)
  rw [Nat.mul_one, Nat.add_zero] at q
  exact ⟨x, b, o, hx, hd, hm, hA, q⟩
def memB (l : List Nm) (s : Nm) : Bool := l.any fun x => decide (x = s)
theorem memB_iff {l : List Nm} {s : Nm} : memB l s = true ↔ s ∈ l := by simp [memB]
theorem eqS_ne {a b : Nm} (h : a ≠ b) : (a.toList == b.toList) = false := by
  rw [← Bool.not_eq_true, beq_iff_eq]
  exact fun e => h (toList_inj e)
theorem index_any (l : List Nm) (v : Value) (s : Nm) (w : World) (S : Nat → Prop) (h : Sl 1 rStr S w v l) : Calls Try.prog 37 #[v, .string s] w fun e w' => (∃ i : Int, e = .returned (.int .i64 i) ∧ (decide (0 ≤ i)) = memB l s) ∧ w' = w := by
  obtain ⟨A, c, rfl, hl, hc, hn, hs⟩ := h
  unfold maxLen at hc
  go_enter Try.func37, Try.ntmps37
  go_wp2
  go_loop [8] (fun i => ∃ k : Nat, k ≤ l.length ∧ i = .int .i64 k ∧ Hid (s ∉ l.take k)) (fun i => l.length - (RowKit.intOf i).toNat)
  case atStart => exact ⟨0, by omega, by go_num, by simp [Hid]⟩
  case round =>
    obtain ⟨k, hk, rfl, HK⟩ := hrel
    by_cases hlt : k < l.length
    · obtain ⟨x, b, o, hx, _, hm, rfl, q⟩ := get_str hs hlt (Kept.refl w fun _ h => h)
      by_cases e : s = x
      · subst e
        have M := Lib.hid (memB_iff.2 hm)
        clear hx hm
        go_wp2
        go_ret
        exact ⟨⟨_, rfl, by rw [M.out]; simp⟩, rfl⟩
      · have e1 := eqS_ne e
        have HK2 := Lib.hid (show s ∉ l.take (k + 1) by rw [List.take_add_one, hx]; simp [e]; exact HK.out)
        clear hx hm
        go_wp2
        go_round
        case rel => exact ⟨k + 1, by omega, by go_num, HK2⟩
        case measure => simp [RowKit.intOf]; omega
    · obtain rfl : k = l.length := by omega
      have M := Lib.hid (show memB l s = false by rw [← Bool.not_eq_true, memB_iff]; have := HK.out; rwa [List.take_length] at this)
      go_wp2
      go_ret
      exact ⟨⟨_, rfl, by rw [M.out]; rfl⟩, rfl⟩
theorem contains_any (l : List Nm) (v : Value) (s : Nm) (w : World) (S : Nat → Prop) (h : Sl 1 rStr S w v l) : Calls Try.prog 31 #[v, .string s] w fun e w' => e = .returned (.bool (memB l s)) ∧ w' = w := by
  have hi := Lib.hid (index_any l v s w S h)
  obtain ⟨A, c, rfl, _⟩ := h
  go_enter Try.func31, Try.ntmps31
  go_wp2_with (go_at_call 37; refine Calls.mono hi.out ?_; rintro e w1 ⟨⟨i, rfl, hm⟩, rfl⟩; have HM := Lib.hid hm; clear hm)
  go_ret
  exact ⟨ret_bool HM.out, rfl⟩
theorem in_any (l : List Nm) (v : Value) (s : Nm) (w : World) (S : Nat → Prop) (h : Sl 1 rStr S w v l) : Calls Try.prog 32 #[v, .string s] w fun e w' => e = .returned (.bool (memB l s)) ∧ w' = w := by
  obtain ⟨A, c, rfl, hl, hc, hn, hs⟩ := h
  unfold maxLen at hc
  go_enter Try.func32, Try.ntmps32
  go_wp2
  go_loop [5] (fun i => ∃ k : Nat, k ≤ l.length ∧ i = .int .i64 k ∧ Hid (s ∉ l.take k)) (fun i => l.length - (RowKit.intOf i).toNat)
  case atStart => exact ⟨0, by omega, by go_num, by simp [Hid]⟩
  case round =>
    obtain ⟨k, hk, rfl, HK⟩ := hrel
    by_cases hlt : k < l.length
    · obtain ⟨x, b, o, hx, _, hm, rfl, q⟩ := get_str hs hlt (Kept.refl w fun _ h => h)
      by_cases e : x = s
      · subst e
        have M := Lib.hid (memB_iff.2 hm)
        clear hx hm
        go_wp2
        go_ret
        exact ⟨ret_bool M.out.symm, rfl⟩
      · have e1 := eqS_ne e
        have HK2 := Lib.hid (show s ∉ l.take (k + 1) by rw [List.take_add_one, hx]; simp [Ne.symm e]; exact HK.out)
        clear hx hm
        go_wp2
        go_round
        case rel => exact ⟨k + 1, by omega, by go_num, HK2⟩
        case measure => simp [RowKit.intOf]; omega
    · obtain rfl : k = l.length := by omega
      have M := Lib.hid (show memB l s = false by rw [← Bool.not_eq_true, memB_iff]; have := HK.out; rwa [List.take_length] at this)
      go_wp2
      go_ret
      exact ⟨ret_bool M.out.symm, rfl⟩
theorem below_drewN {n : Nat} {w w' : World} (h : Below n w w') : ∀ q, Below n w (w'.drewN q)
  | 0 => h
  | q + 1 => (below_drewN h q).drew
theorem same_any (l r : List Nm) (v u : Value) (w : World) (S S' : Nat → Prop) (h : Sl 1 rStr S w v l) (k : Sl 1 rStr S' w u r) (e : l = r) : Calls Try.prog 19 #[v, u] w fun e w' => e = .returned (.bool true) ∧ Below w.heap.size w w' := by
  subst e
  obtain ⟨A, c, rfl, hl, hc, hn, hs⟩ := h
  obtain ⟨A', c', rfl, hl', hc', hn', hs'⟩ := k
  unfold maxLen at hc hc'
  go_enter Try.func19, Try.ntmps19
  go_wp2
  go_loopw [13] (fun i wr => ∃ k : Nat, k ≤ l.length ∧ i = .int .i64 k ∧ Below w.heap.size w wr) (fun i _ => l.length - (RowKit.intOf i).toNat)
  case atStart => exact ⟨0, by omega, by go_num, by go_grown⟩
  case round =>
    obtain ⟨k, hk, rfl, hbel⟩ := hrel
    by_cases hlt : k < l.length
    · obtain ⟨x, b, o, hx, _, _, rfl, x0⟩ := get_str hs hlt (kept_of hbel)
      obtain ⟨y, b', o', hy, _, _, rfl, y0⟩ := get_str hs' hlt (kept_of hbel)
      obtain rfl : x = y := Option.some.inj (hx.symm.trans hy)
      clear hx hy
      go_wp2_with fail
      go_quiet (fail)
      go_wp2
      go_roundw
      case rel => exact ⟨k + 1, by omega, by go_num, below_drewN hbel _⟩
      case measure => simp [RowKit.intOf]; omega
    · obtain rfl : k = l.length := by omega
      go_wp2
      go_ret
      exact ⟨rfl, hbel⟩
end Go.Proofs.Ythcmlakifdoneaa
