/- Layer granted: the document's Secrets; an epoch among epochs. Conditions: as each theorem says. -/
import Derived.Test.YtocofkccdfaaaaaGrRr
namespace Go.Proofs.Ytocofkccdfaaaaa
open Go.RowKit Go.Deep

theorem deps_take2 {l : List Pair} {q : Nat} {p : Pair} (hp : l[q]? = some p) {y : Nm} {P : Nm → Prop} (h : ∀ r ∈ l.take q, r.to = y → P r.frm) (k : p.to = y → P p.frm) : ∀ r ∈ l.take (q + 1), r.to = y → P r.frm := by
  rw [List.take_add_one, hp]
  intro r hr e
  rcases List.mem_append.1 hr with hr | hr
  · exact h r hr e
  · obtain rfl : r = p := by simpa using hr
    exact k e
def hadB (l : List At) (s : Nm) (n : Int) : Bool := l.any fun x => decide (x.name = s) && decide (x.seq = n)
theorem hadB_iff {l : List At} {s : Nm} {n : Int} : hadB l s n = true ↔ (⟨s, n⟩ : At) ∈ l := by
  unfold hadB
  rw [List.any_eq_true]
  constructor
  · rintro ⟨x, hx, h⟩
    obtain ⟨a, b⟩ := x
    simp only [Bool.and_eq_true, decide_eq_true_eq] at h
    obtain ⟨rfl, rfl⟩ := h
    exact hx
  · intro h
    exact ⟨_, h, by simp⟩
set_option maxHeartbeats 2000000 in
theorem had_any (l : List At) (v : Value) (s : Nm) (n : Int) (w : World) (S : Nat → Prop) (h : Sl 2 rAt S w v l) : Calls Try.prog 57 #[v, .string s, .int .i64 n] w fun e w' => e = .returned (.bool (hadB l s n)) ∧ w' = w := by
  obtain ⟨A, c, rfl, hl, hc, hn, hs⟩ := h
  unfold maxLen at hc
  go_enter Try.func57, Try.ntmps57
  go_wp2
  go_loop [7] (fun i => ∃ k : Nat, k ≤ l.length ∧ i = .int .i64 k ∧ Hid ((⟨s, n⟩ : At) ∉ l.take k)) (fun i => l.length - (RowKit.intOf i).toNat)
  case atStart => exact ⟨0, by omega, by go_num, by simp [Hid]⟩
  case round =>
    obtain ⟨k, hk, rfl, HK⟩ := hrel
    by_cases hlt : k < l.length
    · obtain ⟨x, hx⟩ : ∃ x, l[k]? = some x := ⟨_, List.getElem?_eq_getElem hlt⟩
      obtain ⟨b, o, ys, hA, hbl, hRx, hcz⟩ := SlAt.elem hs hx (by decide) (Below.refl _ _)
      obtain ⟨rfl, x_name_le, x_seq_ok⟩ := open_At hRx
      have u0 := hcz 0 _ rfl
      have u1 := hcz 1 _ rfl
      rw [Nat.add_zero] at u0
      subst hA
      have hki : (k : Int) < (l.length : Int) := by omega
      have HX := Lib.hid hx
      have HNEXT : (⟨s, n⟩ : At) ≠ x → Hid ((⟨s, n⟩ : At) ∉ l.take (k + 1)) := fun hne => by
        show _ ∉ _
        rw [List.take_add_one, hx, List.mem_append]
        rintro (h | h)
        · exact HK.out h
        · exact hne (by simpa using h)
      clear hx hcz
      by_cases e1 : x.name = s
      · have hse : (x.name.toList == s.toList) = true := by rw [e1]; simp
        by_cases e2 : x.seq = n
        · have hne : (x.seq == n) = true := by rw [e2]; simp
          have M := Lib.hid (show hadB l s n = true from hadB_iff.2 (by have := List.mem_of_getElem? HX.out; obtain ⟨a, b⟩ := x; dsimp only at e1 e2; rw [← e1, ← e2]; exact this))
          clear e1 e2 HNEXT
          go_wp2
          go_ret
          exact ⟨ret_bool M.out.symm, rfl⟩
        · have hne : (x.seq == n) = false := beq_eq_false_iff_ne.2 e2
          have HK2 := HNEXT fun e => e2 (by rw [← e])
          clear e1 e2 HNEXT
          go_wp2
          go_round
          case rel => exact ⟨k + 1, by omega, by go_num, HK2⟩
          case measure => simp [RowKit.intOf]; omega
      · have hse : (x.name.toList == s.toList) = false := eqS_ne e1
        have HK2 := HNEXT fun e => e1 (by rw [← e])
        clear e1 HNEXT
        go_wp2
        go_round
        case rel => exact ⟨k + 1, by omega, by go_num, HK2⟩
        case measure => simp [RowKit.intOf]; omega
    · obtain rfl : k = l.length := by omega
      have M := Lib.hid (show hadB l s n = false by rw [← Bool.not_eq_true, hadB_iff]; have := HK.out; rwa [List.take_length] at this)
      go_wp2
      go_ret
      exact ⟨ret_bool M.out.symm, rfl⟩
set_option maxHeartbeats 8000000 in
set_option maxRecDepth 100000 in
theorem secrets_any (st : State) (hsm : Small st) (u : Nm) (hu : u.size ≤ 1000) (cs : List Value) (w : World) (S : Nat → Prop) (h : rState S w cs st) : Calls Try.prog 56 #[.agg cs.toArray, .string u] w fun e w' => (∃ (v : Value) (L : List Nm), e = .returned v ∧ Sl 1 rStr (fun _ => True) w' v L ∧ (∀ x, x ∈ L ↔ ClR (depR st.deposits) [u] x) ∧ L.length ≤ 101) ∧ Below w.heap.size w w' := by
  have HSM := Lib.hid hsm
  clear hsm
  obtain ⟨st_A1, st_c1, st_A2, st_c2, st_A3, st_c3, rfl, st_turn_ok, st_users_l, st_users_m, st_users_n, st_users_s, st_deposits_l, st_deposits_m, st_deposits_n, st_deposits_s, st_folders_l, st_folders_m, st_folders_n, st_folders_s⟩ := open_State h
  obtain ⟨w0, hw0, cw0, fw0, Bw0, qw0⟩ := boxed w #[.int .i64 st.turn, .slice st_A1 st.users.length st_c1, .slice st_A2 st.deposits.length st_c2, .slice st_A3 st.folders.length st_c3] 26
  obtain ⟨w1, hw1, cw1, fw1, Bw1, qw1⟩ := boxed w0 #[.string u] 9
  have HB0 := Lib.hid Bw0
  have HC0 := Lib.hid cw0
  have HBW := Lib.hid Bw1
  have hb1 : w1.heap[w0.heap.size]? = some (.cells #[.string u] 9 (0, 0)) := by rw [← hw1]; exact blk_alloc_new _ rfl
  have HG := Lib.hid (show Grow 9 1 rStr (fun _ => False) w1 w0.heap.size (.slice (some ⟨w0.heap.size, 0, none⟩) 1 1) [u] from Grow.one rStr_ok hb1 (Nat.le_refl _) rfl ⟨rfl, by omega⟩)
  have hd100 : st.deposits.length ≤ 100 := by have := HSM.out.all; omega
  have HCL := Lib.hid (Cl.start (depR st.deposits) [u])
  have hS80 : [u].length ≤ 80 := by simp
  have hbel : Below w0.heap.size w0 w1 := Bw1
  have HUB := Lib.hid (Below.refl w0.heap.size w0)
  clear cw0 fw0 Bw0 cw1 fw1 Bw1 hb1 st_users_s st_folders_s
  obtain ⟨istring, histring, hzstring, h1string, h2string⟩ := info_parts (show (Try.prog.info? 9).map (fun i => (i.zero, i.size, i.bytes)) = some (some (.string ⟨#[]⟩), 1, 16) from by kernel_rfl)
  go_enter Try.func56, Try.ntmps56
  go_wp2
  clear hw0 hw1
  go_loopw [5, 6] (fun vo i wr => ∃ (q : Nat) (L : List Nm), q ≤ L.length ∧ i = .int .i64 q ∧ Hid (Grow 9 1 rStr (fun _ => False) wr w0.heap.size vo L) ∧ Hid (Cl (depR st.deposits) [u] L q) ∧ Below w0.heap.size w0 wr) (fun _ i _ => 200 - (RowKit.intOf i).toNat)
  case atStart => exact ⟨0, _, by omega, by go_num, HG, HCL, hbel⟩
  case round =>
    clear HG HCL hbel
    obtain ⟨wr3, rfl⟩ : ∃ q, q = wr := ⟨_, rfl⟩
    obtain ⟨q, L, hq, rfl, HG, HCL, hbel⟩ := hrel
    have B0 := Lib.hid (hbel)
    obtain ⟨A6, n6, c6, rfl, hn6⟩ := HG.out.shape'
    have hLL : L.length ≤ 180 := by have := HCL.out.len; rw [depR_len] at this; omega
    have hz1 := hbel.size
    subst hn6
    by_cases hlt : q < L.length
    · obtain ⟨y, hy⟩ : ∃ y, L[q]? = some y := ⟨_, List.getElem?_eq_getElem hlt⟩
      have HQ := Lib.hid (show ∀ r ∈ st.deposits.take 0, r.to = y → r.frm ∈ L from fun r hr => by simp at hr)
      have HY := Lib.hid hy
      clear hy
      go_wp2
      go_loopw [5, 7] (fun vo i wr => ∃ (d : Nat) (L' : List Nm), d ≤ st.deposits.length ∧ i = .int .i64 d ∧ q < L'.length ∧ Hid (L'[q]? = some y) ∧ Hid (Grow 9 1 rStr (fun _ => False) wr w0.heap.size vo L') ∧ Hid (Cl (depR st.deposits) [u] L' q) ∧ Hid (∀ r ∈ st.deposits.take d, r.to = y → r.frm ∈ L') ∧ Below w0.heap.size w0 wr) (fun _ i _ => st.deposits.length - (RowKit.intOf i).toNat)
      case atStart => exact ⟨0, L, by omega, by go_num, hlt, HY, HG, HCL, HQ, hbel⟩
      case round =>
        clear HQ HG HCL hbel hLL hlt hz1 B0 hq HY
        obtain ⟨wr4, rfl⟩ : ∃ q, q = wr := ⟨_, rfl⟩
        obtain ⟨d, L', hd, rfl, hqL, HY, HG, HCL, HQ, hbel⟩ := hrel
        have B0 := Lib.hid (hbel)
        have hLL : L'.length ≤ 180 := by have := HCL.out.len; rw [depR_len] at this; omega
        have hz1 := hbel.size
        have s2 := (B0.out.cell (p := ⟨w.heap.size, 2, none⟩) qw0).trans (HC0.out 2 _ rfl)
        obtain ⟨A7, c7, hv7, hl7, hc7, hn7, hs7⟩ := Own.sl rStr_ok HG.out
        subst hv7
        unfold maxLen at hc7
        by_cases hld : d < st.deposits.length
        · obtain ⟨p, hp⟩ : ∃ p, st.deposits[d]? = some p := ⟨_, List.getElem?_eq_getElem hld⟩
          obtain ⟨b, o, ys, hA, hbl, hRp, hcz⟩ := SlAt.elem st_deposits_s hp (by decide) (bel_call HB0.out B0.out)
          obtain ⟨y', by_, oy, hy', _, _, hA7, q0⟩ := get_str hs7 hqL (Kept.refl wr4 fun _ h => h)
          obtain rfl : y = y' := Option.some.inj (HY.out.symm.trans hy')
          obtain ⟨rfl, p_frm_le, p_to_le⟩ := open_Pair hRp
          have u0 := hcz 0 _ rfl
          have u1 := hcz 1 _ rfl
          rw [Nat.add_zero] at u0
          subst hA
          subst hA7
          have hdi : (d : Int) < (st.deposits.length : Int) := by omega
          have hqi : (q : Int) < (L'.length : Int) := by omega
          have HPL := Lib.hid p_frm_le
          have HP := Lib.hid hp
          have HSL := Lib.hid (Own.sl rStr_ok HG.out)
          clear hp hy' hcz
          by_cases hfr : p.to = y
          · have hse : (p.to.toList == y.toList) = true := by rw [hfr]; simp
            have HCN := Lib.hid (fun nq => in_any L' _ p.frm (wr4.drewN nq) _ (HSL.out.keep rStr_ok (by decide) (kept_of (belN (Below.refl _ _) nq))))
            have HFR := Lib.hid hfr
            clear hfr
            cases hmem : memB L' p.frm with
            | true =>
              have HQ2 := Lib.hid (deps_take2 HP.out (P := fun x => x ∈ L') HQ.out fun _ => memB_iff.1 hmem)
              rw [hmem] at HCN
              clear hmem
              go_wp2_with fail
              go_quiet ((go_at_call 44; refine Calls.quiet_of_same (HCN.out _)))
              go_wp2
              go_roundw
              case rel => exact ⟨d + 1, L', by omega, by go_num, hqL, HY, (HG.out.below rStr_ok (belN (Below.refl _ _) _)), HCL, HQ2, belN hbel _⟩
              case measure => simp [RowKit.intOf]; omega
            | false =>
              have HNM := Lib.hid (show p.frm ∉ L' from fun hm => by rw [memB_iff.2 hm] at hmem; cases hmem)
              have HED := Lib.hid (show (y, p.frm) ∈ depR st.deposits from mem_depR.2 ⟨p, List.mem_of_getElem? HP.out, HFR.out, rfl⟩)
              rw [hmem] at HCN
              clear hmem
              go_wp2_with fail
              go_quiet ((go_at_call 44; refine Calls.quiet_of_same (HCN.out _)))
              generalize hw7 : wr4.drewN nq = w7
              have B67 : Below wr4.heap.size wr4 w7 := by rw [← hw7]; exact belN (Below.refl _ _) _
              have HG7 := Lib.hid (HG.out.below rStr_ok B67)
              have u0' := (B67.cell (p := ⟨b, o + d * 2, none⟩) (cell_lt u0)).trans u0
              have s2' := (B67.cell (p := ⟨w.heap.size, 2, none⟩) (cell_lt s2)).trans s2
              have HB7 := Lib.hid (bel_call hbel B67)
              have hz7 : w0.heap.size ≤ w7.heap.size := HB7.out.size
              clear hw7 B67 u0 u1 s2 q0
              go_wp2_with (at_builtin; go_loud (refine wpList_grow1 (R := rStr) _ _ rfl (.tmp 45) (.tmp 52) 47 rfl 9 istring _ 1 16 Try.underlying47 histring hzstring h1string h2string rfl (by decide) rStr_ok w0.heap.size hz7 _ _ rfl HG7.out _ _ rfl (by simp only [World.size_alloc, World.size_setCell, World.size_drew]) _ (by intro b hb; exact hb.elim) ⟨rfl, HPL.out⟩ (by omega) (by decide) ?_); intro v8 w8 g8 gg8 go8; obtain ⟨A8, n8, c8, rfl, hn8⟩ := g8.shape'; have G8 := Lib.hid g8; have GG8 := Lib.hid gg8; clear hn8 g8 gg8 go8)
              go_roundw
              case rel => exact ⟨d + 1, L' ++ [p.frm], by omega, by go_num, by rw [List.length_append]; omega, (Lib.hid (by rw [List.getElem?_append_left hqL]; exact HY.out)), G8, (Lib.hid (HCL.out.add (List.mem_of_getElem? HY.out) HED.out HNM.out (by omega))), (Lib.hid (deps_take2 HP.out (P := fun x => x ∈ L' ++ [p.frm]) (fun r hr e => List.mem_append_left _ (HQ.out r hr e)) fun _ => List.mem_append_right _ (by simp))), Below.grown HB7.out GG8.out hz7 fun b hb => (HG7.out.base_le b hb).1⟩
              case measure => simp [RowKit.intOf]; omega
          · have hse : (p.to.toList == y.toList) = false := eqS_ne hfr
            have HQ2 := Lib.hid (deps_take2 HP.out (P := fun x => x ∈ L') HQ.out fun e => absurd e hfr)
            clear hfr
            go_wp2_with fail
            go_quiet (fail)
            go_wp2
            go_roundw
            case rel => exact ⟨d + 1, L', by omega, by go_num, hqL, HY, (HG.out.below rStr_ok (belN (Below.refl _ _) _)), HCL, HQ2, belN hbel _⟩
            case measure => simp [RowKit.intOf]; omega
        · obtain rfl : d = st.deposits.length := by omega
          have HN := Lib.hid (HCL.out.next HY.out fun z hz => by
            obtain ⟨p, hp, e1, e2⟩ := mem_depR.1 hz
            subst e2
            exact HQ.out p (by rw [List.take_length]; exact hp) e1)
          go_wp2
          go_roundw
          case rel => exact ⟨q + 1, L', by omega, by go_num, HG, HN, hbel⟩
          case measure => simp [RowKit.intOf]; omega
    · obtain rfl : q = L.length := by omega
      have HALL := Lib.hid (HCL.out.all (Nat.le_refl _))
      have HLEN := Lib.hid (show L.length ≤ 101 by have := HCL.out.len; rw [depR_len, List.length_singleton] at this; omega)
      have HSL := Lib.hid (Own.sl rStr_ok HG.out)
      have HBF := Lib.hid (bel_call HB0.out B0.out)
      clear HG
      go_wp2
      go_ret
      exact ⟨⟨_, L, rfl, HSL.out, HALL.out, HLEN.out⟩, HBF.out⟩
end Go.Proofs.Ytocofkccdfaaaaa
