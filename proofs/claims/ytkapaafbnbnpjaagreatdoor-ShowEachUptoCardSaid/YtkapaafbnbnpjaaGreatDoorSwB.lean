/- Layer show: widths of columns; the document's Blanks and wide. Conditions: rows of at most twelve texts of at most forty bytes. -/
import Derived.Test.YtkapaafbnbnpjaaGreatDoorSwA
import Derived.Test.YtkapaafbnbnpjaaGreatDoorBlk
namespace Go.Proofs.YtkapaafbnbnpjaaGreatDoor
open Go.RowKit Go.Deep

def blankS (k : Nat) : ByteArray := ⟨(List.replicate k 32).toArray⟩
theorem blankS_size (k : Nat) : (blankS k).size = k := by simp [blankS, ByteArray.size]
theorem blankS_succ (k : Nat) : blankS k ++ ⟨#[32]⟩ = blankS (k + 1) := by
  apply Go.WideShapes.bytes_inj
  simp [blankS, ByteArray.data_append, List.replicate_succ']

theorem blanks_any (n : Nat) (hn : n ≤ 1000000) (w : World) : Calls Tryz.prog 12 #[.int .i64 n] w fun e w' => e = .returned (.string (blankS n)) ∧ w = w' := by
  go_enter Tryz.func12, Tryz.ntmps12
  go_wp2
  go_loop [3, 4] (fun s i => ∃ k : Nat, k ≤ n ∧ i = .int .i64 k ∧ s = .string (blankS k)) (fun _ i => n - (intOf i).toNat)
  case atStart => exact ⟨0, by omega, by go_num, rfl⟩
  case round =>
    obtain ⟨k, hk, rfl, rfl⟩ := hrel
    have hz := blankS_size k
    have hs := blankS_succ k
    by_cases hlt : k < n
    · go_wp2
      go_round
      case rel => exact ⟨k + 1, by omega, by go_num, rfl⟩
      case measure => simp [intOf]; omega
    · obtain rfl : k = n := by omega
      go_wp2
      go_ret
      exact ⟨rfl, rfl⟩

/-- How long a row's text at a column is. -/
def szAt (r : List ByteArray) (c : Nat) : Nat := match r[c]? with
  | some s => s.size
  | none => 0
def wideGo : List (List ByteArray) → Nat → Nat → Nat
  | [], _, n => n
  | r :: l, c, n => wideGo l c (max n (szAt r c))

/-! widths -/
def updW (out : List Int) (i : Nat) (s : ByteArray) : List Int := out.set i (max (out.getD i 0) (s.size : Int))
def growW (out : List Int) (i : Nat) : List Int := if i = out.length then out ++ [0] else out
def rowGo : List ByteArray → Nat → List Int → List Int
  | [], _, out => out
  | s :: r, i, out => rowGo r (i + 1) (updW (growW out i) i s)
def widGo : List (List ByteArray) → List Int → List Int
  | [], out => out
  | r :: l, out => widGo l (rowGo r 0 out)

section
variable {e : TypeId} {B : Nat → Prop} {w : World} {base : Nat} {v : Value} {l : List Int}
theorem Grow.open (h : Grow e 1 rInt B w base v l) (h0 : 0 < l.length) :
    ∃ g c n, v = .slice (some ⟨g, 0, none⟩) n c ∧ n = l.length ∧ base ≤ g ∧ l.length ≤ c ∧ c ≤ maxLen ∧ (∀ j x, l[j]? = some x → w.cell? ⟨g, j, none⟩ = some (.int .i64 x)) ∧ (∀ j, w.frozen? ⟨g, j, none⟩ = false) ∧
      (∀ i x, i < l.length → I64 x → Grow e 1 rInt B (w.setCell ⟨g, i, none⟩ (.int .i64 x)) base v (l.set i x)) := by
  obtain ⟨h1, h2, xs, ⟨h3, h4⟩, h5⟩ := h
  rcases h4 with ⟨_, hn⟩ | ⟨g, cap, cur, rfl, hb, hg, hnc, hcm, hcs, htk⟩
  · omega
  · have hcell : ∀ j x, l[j]? = some x → cur[j]? = some (Value.int .i64 x) := fun j x hx => by
      obtain ⟨ys, y1, y2, y3, _⟩ := h5 j x hx
      subst y3
      have h6 := y2 0 _ rfl
      rw [← htk, List.getElem?_take] at h6
      split at h6
      · simpa using h6
      · cases h6
    refine ⟨g, cap, _, rfl, rfl, hb, hnc, hcm, fun j x hx => ?_, fun j => ?_, fun i x hi hx => ?_⟩
    · rw [cell_of_row w g _ cur e (0, 0) hg]
      exact hcell j x hx
    · unfold World.frozen?
      rw [hg]
      simp
    · have hg' : (w.setCell ⟨g, i, none⟩ (.int .i64 x)).heap[g]? = some (.cells (cur.setIfInBounds i (.int .i64 x)) e (0, 0)) := blk_set_same _ hg rfl
      have hlen : (cur.setIfInBounds i (.int .i64 x)).size = cur.size := by simp
      refine ⟨by simpa using h1, fun b hb' => ⟨hb'.1, hb'.2.2⟩, (cur.setIfInBounds i (.int .i64 x)).toList.take (l.length * 1), ⟨?_, .inr ⟨g, cap, _, by rw [List.length_set], hb, hg', by simpa using hnc, hcm, by rw [hlen]; exact hcs, by rw [List.length_set]⟩⟩, ?_⟩
      · have hq : (cur.setIfInBounds i (.int .i64 x)).toList.length = cap * 1 := by rw [← hcs]; simp
        rw [List.length_take, hq, List.length_set]; omega
      · intro j y hy
        have hj : j < l.length := by have := (List.getElem?_eq_some_iff.1 hy).1; simpa using this
        refine ⟨[.int .i64 y], rfl, fun q u hq => ?_, rfl, ?_⟩
        · rcases q with _ | q
          · obtain rfl : Value.int .i64 y = u := by simpa using hq
            rw [List.getElem?_take, if_pos (by omega)]
            simp only [Nat.mul_one, Nat.add_zero, Array.getElem?_toList]
            by_cases hij : i = j
            · subst hij
              rw [List.getElem?_set_self hi] at hy
              obtain rfl := Option.some.inj hy
              rw [Array.getElem?_setIfInBounds_self]
              rw [if_pos (by omega)]
            · rw [List.getElem?_set_ne hij] at hy
              rw [Array.getElem?_setIfInBounds_ne (by omega)]
              exact hcell j y hy
          · simp at hq
        · by_cases hij : i = j
          · subst hij
            rw [List.getElem?_set_self hi] at hy
            obtain rfl := Option.some.inj hy
            exact hx
          · rw [List.getElem?_set_ne hij] at hy
            obtain ⟨ys, _, _, _, h7⟩ := h5 j y hy
            exact h7
end
/-- What a row adds to the widths, bounds: at most 12 columns of at most 40. -/
def OkW (l : List Int) : Prop := l.length ≤ 12 ∧ ∀ x ∈ l, 0 ≤ x ∧ x ≤ 40
theorem OkW.set {l : List Int} (h : OkW l) {i : Nat} {x : Int} (hx : 0 ≤ x ∧ x ≤ 40) : OkW (l.set i x) :=
  ⟨by rw [List.length_set]; exact h.1, fun y hy => by
    rcases List.mem_or_eq_of_mem_set hy with h' | rfl
    · exact h.2 y h'
    · exact hx⟩
theorem OkW.push {l : List Int} (h : OkW l) (hl : l.length < 12) : OkW (l ++ [0]) :=
  ⟨by rw [List.length_append]; simp; omega, fun y hy => by
    rcases List.mem_append.1 hy with h' | h'
    · exact h.2 y h'
    · simp at h'; subst h'; omega⟩
def OkRow (r : List ByteArray) : Prop := r.length ≤ 12 ∧ ∀ s ∈ r, s.size ≤ 40
def OkRows (l : List (List ByteArray)) : Prop := l.length ≤ 40 ∧ ∀ r ∈ l, OkRow r

set_option maxHeartbeats 2000000 in
set_option maxRecDepth 100000 in
theorem widths_any (rows : List (List ByteArray)) (hok : OkRows rows) (v : Value) (w : World) (S : Nat → Prop) (h : Sl 1 rRow S w v rows) :
    Calls Tryz.prog 25 #[v] w fun e w' => (∃ u, e = .returned u ∧ Grow 3 1 rInt (fun _ => False) w' w.heap.size u (widGo rows [])) ∧ OkW (widGo rows []) ∧ Below w.heap.size w w' := by
  obtain ⟨A, cp, rfl, hl, hcp, hn, hs⟩ := h
  unfold maxLen at hcp
  obtain ⟨iint, hiint, hzint, h1int, h2int⟩ := info_parts (show (Tryz.prog.info? 3).map (fun i => (i.zero, i.size, i.bytes)) = some (some (.int .i64 0), 1, 8) from by kernel_rfl)
  have H20 := Lib.hid hok
  have hn20 := hok.1
  clear hok
  go_enter Tryz.func25, Tryz.ntmps25
  go_wp2
  go_loopw [3, 10] (fun v3 i wr => ∃ (k : Nat) (cur : List Int), k ≤ rows.length ∧ i = .int .i64 k ∧ Hid (widGo (rows.drop k) cur = widGo rows []) ∧ Hid (OkW cur) ∧ Hid (Grow 3 1 rInt (fun _ => False) wr w.heap.size v3 cur) ∧ Below w.heap.size w wr) (fun _ i _ => rows.length - (intOf i).toNat)
  case atStart => exact ⟨0, [], by omega, by go_num, by simp [Hid], ⟨by simp, fun x hx => by simp at hx⟩, Grow.nil, by go_grown⟩
  case round =>
    obtain ⟨k, cur, hk, rfl, E, HW, HG, hbel⟩ := hrel
    obtain ⟨A0, n0, c0, rfl, hn0⟩ := HG.out.shape'
    have HN := Lib.hid hn0
    clear hn0
    have hzb := hbel.size
    by_cases hlt : k < rows.length
    · obtain ⟨r, hr, hd, hmem⟩ := get_at hlt
      obtain ⟨b, o, A', c', rfl, q1, hl', hc', hn', hs'⟩ := row_at hs hr
      have x1 : wr.cell? ⟨b, o + k, none⟩ = some (.slice A' r.length c') := (hbel.cell (p := ⟨b, o + k, none⟩) (cell_lt q1)).trans q1
      have E1 := E.out
      rw [hd, widGo] at E1
      have E2 := Lib.hid E1
      have HR := Lib.hid (H20.out.2 r hmem)
      have hr12 := HR.out.1
      clear hr hd hmem q1 E1 E
      go_wp2
      obtain ⟨wo, rfl⟩ : ∃ wo : World, wo = wr := ⟨_, rfl⟩
      go_loopw [3, 16] (fun v3 i wr => ∃ (j : Nat) (cu : List Int), j ≤ r.length ∧ i = .int .i64 j ∧ Hid (rowGo (r.drop j) j cu = rowGo r 0 cur) ∧ Hid (j ≤ cu.length) ∧ Hid (OkW cu) ∧ Hid (Grow 3 1 rInt (fun _ => False) wr w.heap.size v3 cu) ∧ Below w.heap.size w wr) (fun _ i _ => r.length - (intOf i).toNat)
      case atStart => exact ⟨0, cur, by omega, by go_num, by simp [Hid], by simp [Hid], HW, HG, hbel⟩
      case round =>
        obtain ⟨j, cu, hj, rfl, EE, HJ, HV, HH, hbel'⟩ := hrel
        obtain ⟨A1, n1, c1, rfl, hn1⟩ := HH.out.shape'
        have HN1 := Lib.hid hn1
        have hzb' := hbel'.size
        by_cases hltj : j < r.length
        · obtain ⟨s, hsj, hds, hms⟩ := get_at hltj
          obtain ⟨b', o', rfl, q2, hz⟩ := str_at hs' hsj
          have x2 : wr.cell? ⟨b', o' + j, none⟩ = some (.string s) := (hbel'.cell (p := ⟨b', o' + j, none⟩) (cell_lt q2)).trans q2
          have hs40 := HR.out.2 s hms
          have E3 := EE.out
          rw [hds, rowGo] at E3
          have E4 := Lib.hid E3
          clear hsj hds hms q2 E3 EE
          have hjc := HJ.out
          have hc12 := HV.out.1
          have hbase := HH.out.base_le
          by_cases hjn : j = cu.length
          · have HA := Lib.hid (show growW cu j = cu ++ [0] by rw [growW, if_pos hjn])
            have hget := Lib.hid (show (cu ++ [0])[j]? = some (0 : Int) by rw [hjn]; simp)
            have hlen := Lib.hid (show (cu ++ [0]).length = j + 1 by rw [hjn]; simp)
            have HV2 := Lib.hid (HV.out.push (by omega))
            have hj1 : n1 = j := by omega
            subst hj1
            clear hn1 hjn
            go_wp2_with (at_builtin; go_loud (refine wpList_grow1 (R := rInt) _ _ rfl (.tmp 25) (.tmp 26) 74 rfl 3 iint _ 1 8 Tryz.underlying74 hiint hzint h1int h2int rfl (by decide) rInt_ok w.heap.size (by omega) _ _ rfl HH.out _ _ rfl (by simp only [World.size_alloc, World.size_setCell, World.size_drew]) _ (by intro b hb; exact hb.elim) ⟨rfl, (by unfold I64; omega)⟩ (by have := HV.out.1; omega) (by decide) ?_); intro v1 w1 g1 gg1 go1; obtain ⟨g, cg, m1, rfl, hm1, hbg, hlc, hcm, cells, frz, put⟩ := g1.open (by have := hlen.out; omega); have hq := cells _ _ hget.out; have hf := frz n1; have hm2 : m1 = n1 + 1 := hm1.trans hlen.out; subst hm2; have PUT := Lib.hid put; have GG := Lib.hid gg1; clear hm1 cells frz put gg1 go1 hlc hcm g1)
            have hbel1 := Below.grown hbel' GG.out (by omega) fun b hb => (hbase b hb).1
            go_roundw
            case rel =>
              refine ⟨n1 + 1, (cu ++ [0]).set n1 (s.size : Int), by omega, by go_num, ?_, ?_, Lib.hid (HV2.out.set ⟨by omega, by omega⟩), Lib.hid (PUT.out n1 (s.size : Int) (by have := hlen.out; omega) ⟨by omega, by omega⟩), ?_⟩
              · show _ = _
                rw [← E4.out, HA.out, updW, List.getD, hget.out, Option.getD_some, Int.max_eq_right (by omega)]
              · show _ ≤ _
                rw [List.length_set, hlen.out]
                omega
              · exact Below.setCell hbel1 (by dsimp only; omega) _
            case measure => simp [intOf]; omega
          · have HA := Lib.hid (show growW cu j = cu by rw [growW, if_neg hjn])
            obtain ⟨x, hx, _, hxm⟩ := get_at (show j < cu.length by omega)
            have hxb := HV.out.2 x hxm
            obtain ⟨g, cg, m1, hv, hm1, hbg, hlc, hcm, cells, frz, put⟩ := HH.out.open (by omega)
            simp only [Value.slice.injEq] at hv
            obtain ⟨rfl, rfl, rfl⟩ := hv
            have hq := cells _ _ hx
            have hf := frz j
            have PUT := Lib.hid put
            have HX := Lib.hid hx
            have hjn1 : ¬ j = n1 := by omega
            have hjlt : j < n1 := by omega
            clear cells frz put hx hjn hm1 hlc hcm hxm
            go_wp2
            go_roundw
            case rel =>
              refine ⟨j + 1, cu.set j (max x (s.size : Int)), by omega, by go_num, ?_, ?_, Lib.hid (HV.out.set ⟨by omega, by omega⟩), Lib.hid (PUT.out j (max x (s.size : Int)) (by omega) ⟨by omega, by omega⟩), ?_⟩
              · show _ = _
                rw [← E4.out, HA.out, updW, List.getD, HX.out]
                rfl
              · show _ ≤ _
                rw [List.length_set]
                omega
              · exact Below.setCell hbel' (by dsimp only; omega) _
            case measure => simp [intOf]; omega
        · obtain rfl : j = r.length := by omega
          have E3 := EE.out
          rw [List.drop_length, rowGo] at E3
          have E4 := Lib.hid E3
          clear E3 EE
          go_wp2
          go_roundw
          case rel => exact ⟨k + 1, cu, by omega, by go_num, by show _ = _; rw [E4.out]; exact E2.out, HV, HH, hbel'⟩
          case measure => simp [intOf]; omega
    · obtain rfl : k = rows.length := by omega
      have E1 := E.out
      rw [List.drop_length, widGo] at E1
      subst E1
      go_wp2
      go_ret
      exact ⟨⟨_, rfl, HG.out⟩, HW.out, hbel⟩
end Go.Proofs.YtkapaafbnbnpjaaGreatDoor
