/- Layer tree: the document's list of folders: At, Chain. Conditions: the pointer leads to such a list, of at most sixty folders whose chains end. -/
import Derived.Test.YthcmlakifdoneaaTrAct
import Derived.Test.YthcmlakifdoneaaRowD
namespace Go.Proofs.Ythcmlakifdoneaa
open Go.RowKit Go.Deep

def cellsN (n : Node) : List Value := [.string n.name, .string n.parent, .bool n.gone]
structure RTreeS (w : World) (r : Nat) (v : Value) (N : List Node) : Prop where
  cell : w.heap[r]? = some (.cells #[v] 30 (0, 0))
  row : RowC 43 3 w v (N.map cellsN)
  ne : v.ownBlock ≠ some r
  uniq : Uniq N
  len : N.length ≤ 60
  small : ∀ n ∈ N, n.name.size ≤ 1000 ∧ n.parent.size ≤ 1000
theorem RTreeS.of {w w' : World} {r : Nat} {v : Value} {N : List Node} (h : RTreeS w r v N) (k : ∀ x, x = r ∨ v.ownBlock = some x → w'.heap[x]? = w.heap[x]?) : RTreeS w' r v N :=
  ⟨(k r (.inl rfl)).trans h.cell, h.row.keep fun b hb => k b (.inr hb), h.ne, h.uniq, h.len, h.small⟩
theorem RTreeS.below {w w' : World} {r : Nat} {v : Value} {N : List Node} (h : RTreeS w r v N) (k : Below w.heap.size w w') : RTreeS w' r v N := h.of fun x hx => k.block x (by
  rcases hx with rfl | hx
  · exact blk_lt h.cell
  · exact h.row.lt x hx)
theorem RTreeS.smallF {w : World} {r : Nat} {v : Value} {N : List Node} (h : RTreeS w r v N) : Small (fN N) := by
  refine ⟨fun s => ?_, fun s hs => ?_⟩
  · unfold parF
    cases hf : fN N s with
    | none => show Top.size ≤ 1000; decide
    | some p =>
      obtain ⟨n, h1, rfl, h3, _⟩ := fN_some hf
      show p.1.size ≤ 1000
      rw [← h3]
      exact (h.small n h1).2
  · cases hf : fN N s with
    | none => rw [hf] at hs; cases hs
    | some p =>
      obtain ⟨n, h1, rfl, _⟩ := fN_some hf
      exact (h.small n h1).1
/-- The slice's shape, and one node's cells. -/
theorem RTreeS.shape {w : World} {r : Nat} {v : Value} {N : List Node} (h : RTreeS w r v N) : ∃ A c, v = .slice A N.length c ∧ c ≤ 9223372036854775807 := by
  obtain ⟨A, c, hv, _⟩ := h.row.shape
  rw [List.length_map] at hv
  refine ⟨A, c, hv, ?_⟩
  rcases h.row.2 with ⟨h1, _⟩ | ⟨g, off, cap, cur, h1, _, _, h2, _⟩
  · rw [h1] at hv
    simp only [Value.slice.injEq] at hv
    omega
  · rw [h1] at hv
    simp only [Value.slice.injEq] at hv
    unfold maxLen at h2
    omega
theorem RTreeS.node {w : World} {r : Nat} {A : Option Addr} {c : Nat} {N : List Node} (h : RTreeS w r (.slice A N.length c) N) {k : Nat} {n : Node} (hk : N[k]? = some n) : ∃ g o, A = some ⟨g, o, none⟩ ∧ w.cell? ⟨g, o + k * 3, none⟩ = some (.string n.name) ∧ w.cell? ⟨g, o + k * 3 + 1, none⟩ = some (.string n.parent) ∧ w.cell? ⟨g, o + k * 3 + 2, none⟩ = some (.bool n.gone) ∧ ∀ o, w.frozen? ⟨g, o, none⟩ = false := by
  obtain ⟨g, off, cap, hv, _, _, _, hc, hf⟩ := h.row.at (i := k) (x := cellsN n) (by rw [List.getElem?_map, hk]; rfl)
  simp only [Value.slice.injEq] at hv
  exact ⟨g, off, hv.1, hc 0 _ rfl, hc 1 _ rfl, hc 2 _ rfl, hf⟩

/-- Where a folder stands. -/
def AtIs (N : List Node) (s : Nm) (i : Int) : Prop := (liveB (fN N) s = true ∧ ∃ (k : Nat) (n : Node), i = k ∧ N[k]? = some n ∧ n.name = s ∧ n.gone = false) ∨ (liveB (fN N) s = false ∧ i = -1)
set_option maxHeartbeats 1000000 in
theorem refat_any {w : World} {r : Nat} {v : Value} {N : List Node} (h : RTreeS w r v N) (s : Nm) : Calls Try.prog 17 #[.pointer (some ⟨r, 0, none⟩), .string s] w fun e w' => (∃ i : Int, e = .returned (.int .i64 i) ∧ AtIs N s i) ∧ w' = w := by
  obtain ⟨A, c, rfl, hcm⟩ := h.shape
  have HR := Lib.hid h
  have hc := (blk_cells h.cell).1 0 _ rfl
  have hl60 := h.len
  clear h
  go_enter Try.func17, Try.ntmps17
  go_wp2
  go_loop [5] (fun i => ∃ k : Nat, k ≤ N.length ∧ i = .int .i64 k ∧ Hid (∀ n ∈ N.take k, ¬ (n.name = s ∧ n.gone = false))) (fun i => N.length - (RowKit.intOf i).toNat)
  case atStart => exact ⟨0, by omega, by go_num, fun n hn => by simp at hn⟩
  case round =>
    obtain ⟨k, hk, rfl, HK⟩ := hrel
    by_cases hlt : k < N.length
    · obtain ⟨n, hn⟩ : ∃ n, N[k]? = some n := ⟨_, List.getElem?_eq_getElem hlt⟩
      obtain ⟨g, o, rfl, x0, x1, x2, _⟩ := HR.out.node hn
      by_cases e : n.name = s
      · subst e
        cases hg : n.gone with
        | true =>
          rw [hg] at x2
          have HK2 := Lib.hid (show ∀ m ∈ N.take (k + 1), ¬ (m.name = n.name ∧ m.gone = false) by
            rw [List.take_add_one, hn]
            intro m hm
            rcases List.mem_append.1 hm with hm | hm
            · exact HK.out m hm
            · obtain rfl : m = n := by simpa using hm
              rw [hg]
              simp)
          clear hn hg
          go_wp2
          go_round
          case rel => exact ⟨k + 1, by omega, by go_num, HK2⟩
          case measure => simp [RowKit.intOf]; omega
        | false =>
          rw [hg] at x2
          have HA := Lib.hid (show AtIs N n.name k from .inl ⟨(live_iff HR.out.uniq).2 ⟨n, List.mem_of_getElem? hn, rfl, hg⟩, k, n, rfl, hn, rfl, hg⟩)
          clear hn hg
          go_wp2
          go_ret
          exact ⟨⟨_, rfl, HA.out⟩, rfl⟩
      · have e1 := eqS_ne e
        have HK2 := Lib.hid (show ∀ m ∈ N.take (k + 1), ¬ (m.name = s ∧ m.gone = false) by
          rw [List.take_add_one, hn]
          intro m hm
          rcases List.mem_append.1 hm with hm | hm
          · exact HK.out m hm
          · obtain rfl : m = n := by simpa using hm
            exact fun h9 => e h9.1)
        clear hn
        go_wp2
        go_round
        case rel => exact ⟨k + 1, by omega, by go_num, HK2⟩
        case measure => simp [RowKit.intOf]; omega
    · obtain rfl : k = N.length := by omega
      have HA := Lib.hid (show AtIs N s (-1) from .inr ⟨by
        rw [← Bool.not_eq_true, live_iff HR.out.uniq]
        rintro ⟨n, h1, h2, h3⟩
        have := HK.out n (by rw [List.take_length]; exact h1)
        exact this ⟨h2, h3⟩, rfl⟩)
      go_wp2
      go_ret
      exact ⟨⟨_, rfl, HA.out⟩, rfl⟩
theorem AtIs.neg {N : List Node} {s : Nm} {i : Int} (h : AtIs N s i) : decide (0 ≤ i) = liveB (fN N) s := by
  rcases h with ⟨h1, k, n, rfl, _⟩ | ⟨h1, rfl⟩
  · rw [h1]; simp
  · rw [h1]; rfl
set_option maxHeartbeats 1000000 in
theorem refchain_any {w : World} {r : Nat} {v : Value} {N : List Node} (h : RTreeS w r v N) (hI : Inv (fN N)) (s : Nm) : Calls Try.prog 21 #[.pointer (some ⟨r, 0, none⟩), .string s] w fun e w' => (∃ u, e = .returned u ∧ Sl 1 rStr (fun _ => True) w' u (ch (fN N) s)) ∧ Below w.heap.size w w' := by
  obtain ⟨A, c, rfl, hcm⟩ := h.shape
  have HR := Lib.hid h
  have hat := Lib.hid (refat_any h s)
  have hl60 := h.len
  obtain ⟨istring, histring, hzstring, h1string, h2string⟩ := info_parts (show (Try.prog.info? 9).map (fun i => (i.zero, i.size, i.bytes)) = some (some (.string ⟨#[]⟩), 1, 16) from by kernel_rfl)
  clear h
  go_enter Try.func21, Try.ntmps21
  go_wp2_with (go_at_call 17; refine Calls.mono hat.out ?_; rintro e w1 ⟨⟨i0, rfl, ha⟩, hw⟩; obtain rfl : w = w1 := hw.symm; have HA := Lib.hid ha; clear hw ha)
  clear hat
  go_loopw [5, 6] (fun s5 i wr => ∃ (x : Nm) (j : Int) (out : List Nm), i = .int .i64 j ∧ out.length ≤ 4 ∧ Hid (AtIs N x j) ∧ Hid (out ++ ch (fN N) x = ch (fN N) s) ∧ Hid (Grow 9 1 rStr (fun _ => False) wr w.heap.size s5 out) ∧ Below w.heap.size w wr) (fun s5 _ _ => match s5 with | .slice _ q _ => 5 - q | _ => 0)
  case atStart => exact ⟨s, i0, [], rfl, by simp, HA, by show _ = _; rfl, Grow.nil, by go_grown⟩
  case round =>
    clear HA
    obtain ⟨x, j, out, rfl, hol, HA, HE, HG, hbel⟩ := hrel
    obtain ⟨A0, n0, c0, rfl, hn1⟩ := HG.out.shape'
    have HN1 := Lib.hid hn1
    clear hn1
    have hzb := hbel.size
    rcases HA.out with ⟨hl, k, n, rfl, hn, hnm, hgn⟩ | ⟨hl, rfl⟩
    · subst hnm
      have hkl := (List.getElem?_eq_some_iff.1 hn).1
      have HR1 := Lib.hid (HR.out.below hbel)
      obtain ⟨g, o, rfl, x0, x1, x2, _⟩ := HR1.out.node hn
      have hc := (blk_cells HR1.out.cell).1 0 _ rfl
      have hpar := par_mem HR.out.uniq (List.mem_of_getElem? hn)
      have HE2 := Lib.hid (show (out ++ [n.name]) ++ ch (fN N) n.parent = ch (fN N) s by rw [← hpar]; exact ch_left hI s HE.out hl)
      have hlen := Lib.hid (show (ch (fN N) n.name).length = (ch (fN N) n.parent).length + 1 by rw [← hpar]; exact ch_len hI hl)
      have hol2 : out.length ≤ 3 := by
        have h1 := congrArg List.length HE.out
        have h2 := hI.deep s
        have h3 := hlen.out
        rw [List.length_append] at h1
        omega
      have hns := (HR.out.small n (List.mem_of_getElem? hn)).1
      have HN := Lib.hid hn
      clear hn hl hpar
      go_wp2_with (first
        | (at_builtin; go_loud (refine wpList_grow1 (R := rStr) _ _ rfl (.tmp 12) (.tmp 21) 31 rfl 9 istring _ 1 16 Try.underlying31 histring hzstring h1string h2string rfl (by decide) rStr_ok w.heap.size (by omega) _ _ rfl HG.out _ _ rfl (by simp only [World.size_alloc, World.size_setCell, World.size_drew]) _ (by intro b hb; exact hb.elim) (show rStr _ _ _ n.name from ⟨rfl, by omega⟩) (by omega) (by decide) ?_); intro v1 w5 g1 gg1 go1; obtain ⟨A5, n5, c5, rfl, hn5⟩ := g1.shape'; have G5 := Lib.hid g1; have B5 := Lib.hid (Below.grown hbel gg1 (by omega) fun b hb => (HG.out.base_le b hb).1); have HR5 := Lib.hid (HR.out.below B5.out); have hc := (blk_cells HR5.out.cell).1 0 _ rfl; obtain ⟨g', o', he, x0, x1, x2, _⟩ := HR5.out.node HN.out; simp only [Option.some.injEq, Addr.mk.injEq, and_true] at he; obtain ⟨rfl, rfl⟩ := he; have HN5 := Lib.hid hn5; clear hn5 g1 gg1 go1)
        | (go_at_call 17; refine Calls.mono (refat_any HR5.out n.parent) ?_; rintro e w6 ⟨⟨i6, rfl, ha⟩, hw⟩; obtain rfl := hw.symm; have HA6 := Lib.hid ha; clear hw ha))
      go_roundw
      case rel => exact ⟨n.parent, i6, out ++ [n.name], rfl, by simp; omega, HA6, HE2, G5, B5.out⟩
      case measure =>
        have h1 := HN1.out
        have h5 := HN5.out
        rw [List.length_append, List.length_singleton] at h5
        show 5 - n5 < 5 - n0
        omega
    · have HE2 := Lib.hid (show out = ch (fN N) s by have := HE.out; rw [ch_off hI hl, List.append_nil] at this; exact this)
      clear hl
      go_wp2
      go_ret
      exact ⟨⟨_, rfl, by rw [← HE2.out]; exact Own.sl rStr_ok HG.out⟩, hbel⟩
end Go.Proofs.Ythcmlakifdoneaa
