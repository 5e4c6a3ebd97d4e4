/- slices.SortStableFunc of a call's own list of items: the merge. Condition: the list is at most a thousand long. -/
import Derived.Test.YtkapaafbnbnpjaaGreatDoorSbC
import Derived.Deep.CutRange
namespace Go.Proofs.YtkapaafbnbnpjaaGreatDoor
open Go.RowKit Go.Deep Go.Shelf Go.Sort Go.Proofs

section
variable {w0 W : World} {blk : Nat} {d0 dk : Array RawI}
/-- An exchange: what is read, what is between, what is behind it. -/
theorem SWK.ex (h : SWK encI 2 w0 blk 0 dk W) (R : RowK encI 2 w0 blk 0 d0) (hs : dk.size = d0.size) (i j : Nat) (hi : i < dk.size) (hj : j < dk.size) (hne : i ≠ j) :
    ∃ (si sj : ByteArray) (Ai Aj : Option Addr) (ni ci nj cj : Nat) (dn : Array RawI), Among dk dn ∧
      W.cell? ⟨blk, i * 2, none⟩ = some (.string si) ∧ W.cell? ⟨blk, i * 2 + 1, none⟩ = some (.slice Ai ni ci) ∧ W.frozen? ⟨blk, i * 2, none⟩ = false ∧ W.frozen? ⟨blk, i * 2 + 1, none⟩ = false ∧
      W.cell? ⟨blk, j * 2, none⟩ = some (.string sj) ∧ W.cell? ⟨blk, j * 2 + 1, none⟩ = some (.slice Aj nj cj) ∧ W.frozen? ⟨blk, j * 2, none⟩ = false ∧ W.frozen? ⟨blk, j * 2 + 1, none⟩ = false ∧
      ((W.setCell ⟨blk, i * 2, none⟩ (.string sj)).setCell ⟨blk, i * 2 + 1, none⟩ (.slice Aj nj cj)).cell? ⟨blk, j * 2, none⟩ = some (.string sj) ∧ ((W.setCell ⟨blk, i * 2, none⟩ (.string sj)).setCell ⟨blk, i * 2 + 1, none⟩ (.slice Aj nj cj)).cell? ⟨blk, j * 2 + 1, none⟩ = some (.slice Aj nj cj) ∧
      SWK encI 2 w0 blk 0 dn ((((W.setCell ⟨blk, i * 2, none⟩ (.string sj)).setCell ⟨blk, i * 2 + 1, none⟩ (.slice Aj nj cj)).setCell ⟨blk, j * 2, none⟩ (.string si)).setCell ⟨blk, j * 2 + 1, none⟩ (.slice Ai ni ci)) := by
  obtain ⟨p0, p1, p2, p3⟩ := SWK.at h R hs i hi
  obtain ⟨q0, q1, q2, q3⟩ := SWK.at h R hs j hj
  obtain ⟨m0, m1⟩ := SWK.mid h R hs i j hj hne (.string dk[j]!.1) (.slice dk[j]!.2.1 dk[j]!.2.2.1 dk[j]!.2.2.2)
  exact ⟨_, _, _, _, _, _, _, _, _, Among.swp dk hi hj, p0, p1, p2, p3, q0, q1, q2, q3, m0, m1, SWK.exch h R i j hi hj⟩
/-- A comparison: what is read of one element, in every world of the class. -/
theorem SWK.rd (h : SWK encI 2 w0 blk 0 dk W) (R : RowK encI 2 w0 blk 0 d0) (hs : dk.size = d0.size) (i : Nat) (hi : i < dk.size) :
    ∃ (s : ByteArray) (A : Option Addr) (n c : Nat), ∀ (m : Nat) (os : Array Obj), (grow (W.drewN m) os).cell? ⟨blk, i * 2, none⟩ = some (.string s) ∧ (grow (W.drewN m) os).cell? ⟨blk, i * 2 + 1, none⟩ = some (.slice A n c) :=
  ⟨_, _, _, _, fun m os => ⟨(SWK.at (h.grown m os) R hs i hi).1, (SWK.at (h.grown m os) R hs i hi).2.1⟩⟩
end

set_option maxHeartbeats 4000000 in
set_option maxRecDepth 100000 in
theorem symMerge_any (blk cap n : Nat) (d0 : Array RawI) (w0 : World) (R : RowK encI 2 w0 blk 0 d0) (hn : d0.size = n) (hsz : n ≤ 1000) : ∀ (k a m b : Nat) (d : Array RawI) (w : World), b - a ≤ k → Among d0 d → SWK encI 2 w0 blk 0 d w → a < m → m < b → b ≤ n →
    Calls Tryz.prog 75 #[.slice (some ⟨blk, 0, none⟩) n cap, .int .i64 a, .int .i64 m, .int .i64 b, .func (.func 37) #[] #[]] w fun e w' => e = .returned (.tuple #[]) ∧ ∃ d', Among d0 d' ∧ SWK encI 2 w0 blk 0 d' w' := by
  intro k
  induction k with
  | zero => intro a m b d w hk _ _ h1 h2; omega
  | succ k ih =>
    intro a m b d w hk hA S ham hmb hb
    have mixed : Tryz.prog.follows .mixedOrders = true := by kernel_rfl
    have HS := Lib.hid S
    have HA := Lib.hid hA
    have HN := Lib.hid hn
    have IH := Lib.hid ih
    have SZ : ∀ {x : Array RawI}, Among d0 x → x.size = n := fun h => h.1.trans HN.out
    have HZ : Hid (∀ {x : Array RawI}, Among d0 x → x.size = n) := SZ
    clear S hA hn ih SZ
    by_cases h1 : m - a = 1
    · have e2 : ((m : Int) - a) = 1 := by omega
      have hma : m ≤ a + 1 ∧ a + 1 ≤ m := by omega
      clear h1
      go_enter Tryz.func75, Tryz.ntmps75
      go_wp2
      clear e2
      go_loopw [10, 11] (fun vi vj wr => ∃ (i j : Nat), vi = .int .i64 i ∧ vj = .int .i64 j ∧ m ≤ i ∧ i ≤ j ∧ j ≤ b ∧ Hid (SWK encI 2 w0 blk 0 d wr)) (fun vi vj _ => (RowKit.intOf vj).toNat - (RowKit.intOf vi).toNat)
      case atStart => exact ⟨m, b, by go_num, by go_num, by omega, by omega, by omega, HS⟩
      case round =>
        clear HS
        obtain ⟨i, j, rfl, rfl, hai, hij, hjb, HW⟩ := hrel
        by_cases hlt : i < j
        · have hlti : (i : Int) < (j : Int) := by omega
          obtain ⟨h, hh⟩ : ∃ h, (i + j) / 2 = h := ⟨_, rfl⟩
          have hhi : ((i : Int) + (j : Int)) / 2 = (h : Int) := by omega
          have hib : i ≤ h ∧ h < j := by omega
          have hxd : h < d.size := by have := HZ.out HA.out; omega
          have hyd : a < d.size := by have := HZ.out HA.out; omega
          obtain ⟨sx, Ax, nx, cx, lx⟩ := SWK.rd HW.out R (by have := HZ.out HA.out; have := HN.out; omega) h hxd
          obtain ⟨sy, Ay, ny, cy, ly⟩ := SWK.rd HW.out R (by have := HZ.out HA.out; have := HN.out; omega) a hyd
          have lx0 := fun m os => (lx m os).1
          have lx1 := fun m os => (lx m os).2
          have ly0 := fun m os => (ly m os).1
          have ly1 := fun m os => (ly m os).2
          have hxn : (h : Int) < (n : Int) := by have := HZ.out HA.out; omega
          have hyn : (a : Int) < (n : Int) := by have := HZ.out HA.out; omega
          clear lx ly hxd hyd
          obtain ⟨cr, hcr⟩ : ∃ cr : Int, cfI (sx, Ax, nx, cx) (sy, Ay, ny, cy) = cr := ⟨_, rfl⟩
          have hcg : ∀ n' os', Calls Tryz.prog 37 #[.agg #[.string sx, .slice Ax nx cx], .agg #[.string sy, .slice Ay ny cy]] (grow (wr.drewN n') os') fun e w' => e = .returned (.int .i64 cr) ∧ ∃ q os'', w' = grow ((grow (wr.drewN n') os').drewN q) os'' := fun n' os' => by rw [← hcr]; exact sbclosure_any (sx, Ax, nx, cx) (sy, Ay, ny, cy) _
          clear hcr
          clear hh
          by_cases hlv : cr < 0
          · go_wp2_with fail
            go_quiet_grown (first | (go_at_call 37; refine Calls.grown_of (hcg _ _)))
            have HW2 := Lib.hid (HW.out.grown nq osq)
            generalize grow (wr.drewN nq) osq = w2 at HW2 ⊢
            clear lx0 lx1 ly0 ly1 hcg
            go_wp2
            go_roundw
            case rel => exact ⟨h + 1, j, by go_num, by go_num, by omega, by omega, by omega, HW2⟩
            case measure => simp [RowKit.intOf]; omega
          · go_wp2_with fail
            go_quiet_grown (first | (go_at_call 37; refine Calls.grown_of (hcg _ _)))
            have HW2 := Lib.hid (HW.out.grown nq osq)
            generalize grow (wr.drewN nq) osq = w2 at HW2 ⊢
            clear lx0 lx1 ly0 ly1 hcg
            go_wp2
            go_roundw
            case rel => exact ⟨i, h, by go_num, by go_num, by omega, by omega, by omega, HW2⟩
            case measure => simp [RowKit.intOf]; omega
        · obtain rfl : i = j := by omega
          have hlti : ¬ (i : Int) < (i : Int) := by omega
          obtain ⟨i1, hi1⟩ : ∃ i1, i - 1 = i1 := ⟨_, rfl⟩
          have wi1 : IntKind.i64.wrap ((i : Int) - 1) = (i1 : Int) := by rw [show (i : Int) - 1 = i1 by omega]; exact IntWalk.i64_in _ (by omega)
          go_wp2
          clear hlti
          go_loopw [13] (fun vk wr => ∃ (q : Nat) (dk : Array RawI), vk = .int .i64 q ∧ a ≤ q ∧ q ≤ i1 ∧ Hid (Among d0 dk) ∧ Hid (SWK encI 2 w0 blk 0 dk wr)) (fun vk _ => i1 - (RowKit.intOf vk).toNat)
          case atStart => exact ⟨a, d, by go_num, by omega, by omega, HA, HW⟩
          case round =>
            clear HW
            obtain ⟨q, dk, rfl, haq, hqi, HAK, HW⟩ := hrel
            by_cases hlt : q < i1
            · have hlt1 : (q : Int) < (i1 : Int) := by omega
              obtain ⟨q', hq'⟩ : ∃ q', q + 1 = q' := ⟨_, rfl⟩
              have hqq : (q : Int) + 1 = (q' : Int) := by omega
              have hqw : IntKind.i64.wrap (q' : Int) = (q' : Int) := IntWalk.i64_in _ (by omega)
              have hpd : q < dk.size := by have := HZ.out HAK.out; omega
              have hqd : q' < dk.size := by have := HZ.out HAK.out; omega
              obtain ⟨sp, sq, Ap, Aq, np, cp, nq, cq, dn, hdn, p0, p1, p2, p3, q0, q1, q2, q3, m0, m1, nxt⟩ := SWK.ex HW.out R (by have := HZ.out HAK.out; have := HN.out; omega) q q' hpd hqd (by omega)
              have HAN := Lib.hid (HAK.out.trans hdn)
              have NEXT := Lib.hid nxt
              have hpn : (q : Int) < (n : Int) := by have := HZ.out HAK.out; omega
              have hqn : (q' : Int) < (n : Int) := by have := HZ.out HAK.out; omega
              clear hpd hqd hdn nxt HW HAK
              go_wp2_with fail
              go_big_region
              go_wp2
              go_roundw
              case rel => exact ⟨q', dn, by go_num, by omega, by omega, HAN, NEXT.out.drew⟩
              case measure => simp [RowKit.intOf]; omega
            · have hlt1 : ¬ (q : Int) < (i1 : Int) := by omega
              go_wp2
              try simp only [Exit.inBlock, Exit.then]
              refine bodyPost_ret (results_none rfl _ _ _) rfl ?_
              exact ⟨rfl, dk, HAK.out, HW.out⟩
    have f1 : (((m : Int) - a) == 1) = false := beq_eq_false_iff_ne.2 (by omega)
    have f1' : ¬ ((m : Int) - a) = 1 := by omega
    by_cases h2 : b - m = 1
    · have e1 : ((b : Int) - m) = 1 := by omega
      have hma : b ≤ m + 1 ∧ m + 1 ≤ b := by omega
      clear h2
      go_enter Tryz.func75, Tryz.ntmps75
      go_wp2
      clear e1
      go_loopw [14, 15] (fun vi vj wr => ∃ (i j : Nat), vi = .int .i64 i ∧ vj = .int .i64 j ∧ a ≤ i ∧ i ≤ j ∧ j ≤ m ∧ Hid (SWK encI 2 w0 blk 0 d wr)) (fun vi vj _ => (RowKit.intOf vj).toNat - (RowKit.intOf vi).toNat)
      case atStart => exact ⟨a, m, by go_num, by go_num, by omega, by omega, by omega, HS⟩
      case round =>
        clear HS
        obtain ⟨i, j, rfl, rfl, hai, hij, hjb, HW⟩ := hrel
        by_cases hlt : i < j
        · have hlti : (i : Int) < (j : Int) := by omega
          obtain ⟨h, hh⟩ : ∃ h, (i + j) / 2 = h := ⟨_, rfl⟩
          have hhi : ((i : Int) + (j : Int)) / 2 = (h : Int) := by omega
          have hib : i ≤ h ∧ h < j := by omega
          have hxd : m < d.size := by have := HZ.out HA.out; omega
          have hyd : h < d.size := by have := HZ.out HA.out; omega
          obtain ⟨sx, Ax, nx, cx, lx⟩ := SWK.rd HW.out R (by have := HZ.out HA.out; have := HN.out; omega) m hxd
          obtain ⟨sy, Ay, ny, cy, ly⟩ := SWK.rd HW.out R (by have := HZ.out HA.out; have := HN.out; omega) h hyd
          have lx0 := fun m os => (lx m os).1
          have lx1 := fun m os => (lx m os).2
          have ly0 := fun m os => (ly m os).1
          have ly1 := fun m os => (ly m os).2
          have hxn : (m : Int) < (n : Int) := by have := HZ.out HA.out; omega
          have hyn : (h : Int) < (n : Int) := by have := HZ.out HA.out; omega
          clear lx ly hxd hyd
          obtain ⟨cr, hcr⟩ : ∃ cr : Int, cfI (sx, Ax, nx, cx) (sy, Ay, ny, cy) = cr := ⟨_, rfl⟩
          have hcg : ∀ n' os', Calls Tryz.prog 37 #[.agg #[.string sx, .slice Ax nx cx], .agg #[.string sy, .slice Ay ny cy]] (grow (wr.drewN n') os') fun e w' => e = .returned (.int .i64 cr) ∧ ∃ q os'', w' = grow ((grow (wr.drewN n') os').drewN q) os'' := fun n' os' => by rw [← hcr]; exact sbclosure_any (sx, Ax, nx, cx) (sy, Ay, ny, cy) _
          clear hcr
          clear hh
          by_cases hlv : cr < 0
          · have hnb : (!decide (cr < 0)) = false := by simp [hlv]
            go_wp2_with fail
            go_quiet_grown (first | (go_at_call 37; refine Calls.grown_of (hcg _ _)))
            have HW2 := Lib.hid (HW.out.grown nq osq)
            generalize grow (wr.drewN nq) osq = w2 at HW2 ⊢
            clear lx0 lx1 ly0 ly1 hcg
            go_wp2
            go_roundw
            case rel => exact ⟨i, h, by go_num, by go_num, by omega, by omega, by omega, HW2⟩
            case measure => simp [RowKit.intOf]; omega
          · have hnb : (!decide (cr < 0)) = true := by simp; omega
            go_wp2_with fail
            go_quiet_grown (first | (go_at_call 37; refine Calls.grown_of (hcg _ _)))
            have HW2 := Lib.hid (HW.out.grown nq osq)
            generalize grow (wr.drewN nq) osq = w2 at HW2 ⊢
            clear lx0 lx1 ly0 ly1 hcg
            go_wp2
            go_roundw
            case rel => exact ⟨h + 1, j, by go_num, by go_num, by omega, by omega, by omega, HW2⟩
            case measure => simp [RowKit.intOf]; omega
        · obtain rfl : i = j := by omega
          have hlti : ¬ (i : Int) < (i : Int) := by omega
          go_wp2
          clear hlti
          go_loopw [17] (fun vk wr => ∃ (q : Nat) (dk : Array RawI), vk = .int .i64 q ∧ i ≤ q ∧ q ≤ m ∧ Hid (Among d0 dk) ∧ Hid (SWK encI 2 w0 blk 0 dk wr)) (fun vk _ => (RowKit.intOf vk).toNat)
          case atStart => exact ⟨m, d, by go_num, by omega, by omega, HA, HW⟩
          case round =>
            clear HW
            obtain ⟨q, dk, rfl, haq, hqi, HAK, HW⟩ := hrel
            by_cases hlt : i < q
            · have hlt1 : (i : Int) < (q : Int) := by omega
              obtain ⟨q', hq'⟩ : ∃ q', q - 1 = q' := ⟨_, rfl⟩
              have hqq : (q : Int) - 1 = (q' : Int) := by omega
              have hqw : IntKind.i64.wrap (q' : Int) = (q' : Int) := IntWalk.i64_in _ (by omega)
              have hpd : q < dk.size := by have := HZ.out HAK.out; omega
              have hqd : q' < dk.size := by have := HZ.out HAK.out; omega
              obtain ⟨sp, sq, Ap, Aq, np, cp, nq, cq, dn, hdn, p0, p1, p2, p3, q0, q1, q2, q3, m0, m1, nxt⟩ := SWK.ex HW.out R (by have := HZ.out HAK.out; have := HN.out; omega) q q' hpd hqd (by omega)
              have HAN := Lib.hid (HAK.out.trans hdn)
              have NEXT := Lib.hid nxt
              have hpn : (q : Int) < (n : Int) := by have := HZ.out HAK.out; omega
              have hqn : (q' : Int) < (n : Int) := by have := HZ.out HAK.out; omega
              clear hpd hqd hdn nxt HW HAK
              go_wp2_with fail
              go_big_region
              go_wp2
              go_roundw
              case rel => exact ⟨q', dn, by go_num, by omega, by omega, HAN, NEXT.out.drew⟩
              case measure => simp [RowKit.intOf]; omega
            · have hlt1 : ¬ (i : Int) < (q : Int) := by omega
              go_wp2
              try simp only [Exit.inBlock, Exit.then]
              refine bodyPost_ret (results_none rfl _ _ _) rfl ?_
              exact ⟨rfl, dk, HAK.out, HW.out⟩
    have f2 : (((b : Int) - m) == 1) = false := beq_eq_false_iff_ne.2 (by omega)
    have f2' : ¬ ((b : Int) - m) = 1 := by omega
    obtain ⟨mid, hmid⟩ : ∃ mid, (a + b) / 2 = mid := ⟨_, rfl⟩
    have hmi : ((a : Int) + (b : Int)) / 2 = (mid : Int) := by omega
    obtain ⟨nn, hnn⟩ : ∃ nn, mid + m = nn := ⟨_, rfl⟩
    have hnni : (mid : Int) + (m : Int) = (nn : Int) := by omega
    have hnw : IntKind.i64.wrap (nn : Int) = (nn : Int) := IntWalk.i64_in _ (by omega)
    obtain ⟨p, hp⟩ : ∃ p, nn - 1 = p := ⟨_, rfl⟩
    have hpi : (nn : Int) - 1 = (p : Int) := by omega
    obtain ⟨st0, r0, hst0, hr0⟩ : ∃ st0 r0 : Nat, (st0 = if mid < m then nn - b else a) ∧ (r0 = if mid < m then mid else m) := ⟨_, _, rfl, rfl⟩
    have hmb2 : a < mid ∧ mid < b := by omega
    -- the loop's bounds
    have hB : a ≤ st0 ∧ st0 ≤ r0 ∧ r0 ≤ mid ∧ r0 ≤ m ∧ nn ≤ b + st0 ∧ (∀ c, st0 ≤ c → c < r0 → c ≤ p ∧ p - c < b) := by
      rw [hst0, hr0]
      split
      · exact ⟨by omega, by omega, by omega, by omega, by omega, fun c _ _ => ⟨by omega, by omega⟩⟩
      · exact ⟨by omega, by omega, by omega, by omega, by omega, fun c _ _ => ⟨by omega, by omega⟩⟩
    obtain ⟨hB1, hB2, hB3, hB4, hB5, hB6⟩ := hB
    have HB6 := Lib.hid hB6
    clear hB6
    by_cases hm : mid < m
    · rw [if_pos hm] at hst0 hr0
      have hmI : (mid : Int) < (m : Int) := by omega
      have hsI : (nn : Int) - (b : Int) = (st0 : Int) := by omega
      have hsW : IntKind.i64.wrap ((nn : Int) - (b : Int)) = (st0 : Int) := by rw [hsI]; exact IntWalk.i64_in _ (by omega)
      subst r0
      go_enter Tryz.func75, Tryz.ntmps75
      go_wp2
      clear hmI hsI hsW hnw hnni
      go_loopw [20, 21] (fun vs vr wr => ∃ (s r : Nat), vs = .int .i64 s ∧ vr = .int .i64 r ∧ st0 ≤ s ∧ s ≤ r ∧ r ≤ mid ∧ Hid (SWK encI 2 w0 blk 0 d wr)) (fun vs vr _ => (RowKit.intOf vr).toNat - (RowKit.intOf vs).toNat)
      case atStart => exact ⟨st0, mid, by go_num, by go_num, by omega, by omega, by omega, HS⟩
      case round =>
        clear HS
        obtain ⟨s, r, rfl, rfl, hs0, hsr, hr0, HW⟩ := hrel
        by_cases hlt : s < r
        · have hlti : (s : Int) < (r : Int) := by omega
          obtain ⟨c, hc⟩ : ∃ c, (s + r) / 2 = c := ⟨_, rfl⟩
          have hci : ((s : Int) + (r : Int)) / 2 = (c : Int) := by omega
          have hcb : s ≤ c ∧ c < r := by omega
          have hpcb := HB6.out c (by omega) (by omega)
          obtain ⟨pc, hpc⟩ : ∃ pc, p - c = pc := ⟨_, rfl⟩
          have hpcI : (p : Int) - (c : Int) = (pc : Int) := by omega
          have hpcW : IntKind.i64.wrap (pc : Int) = (pc : Int) := IntWalk.i64_in _ (by omega)
          have hxd : pc < d.size := by have := HZ.out HA.out; omega
          have hyd : c < d.size := by have := HZ.out HA.out; omega
          obtain ⟨sx, Ax, nx, cx, lx⟩ := SWK.rd HW.out R (by have := HZ.out HA.out; have := HN.out; omega) pc hxd
          obtain ⟨sy, Ay, ny, cy, ly⟩ := SWK.rd HW.out R (by have := HZ.out HA.out; have := HN.out; omega) c hyd
          have lx0 := fun m os => (lx m os).1
          have lx1 := fun m os => (lx m os).2
          have ly0 := fun m os => (ly m os).1
          have ly1 := fun m os => (ly m os).2
          have hxn : (pc : Int) < (n : Int) := by have := HZ.out HA.out; omega
          have hyn : (c : Int) < (n : Int) := by have := HZ.out HA.out; omega
          clear lx ly hxd hyd
          obtain ⟨cr, hcr⟩ : ∃ cr : Int, cfI (sx, Ax, nx, cx) (sy, Ay, ny, cy) = cr := ⟨_, rfl⟩
          have hcg : ∀ n' os', Calls Tryz.prog 37 #[.agg #[.string sx, .slice Ax nx cx], .agg #[.string sy, .slice Ay ny cy]] (grow (wr.drewN n') os') fun e w' => e = .returned (.int .i64 cr) ∧ ∃ q os'', w' = grow ((grow (wr.drewN n') os').drewN q) os'' := fun n' os' => by rw [← hcr]; exact sbclosure_any (sx, Ax, nx, cx) (sy, Ay, ny, cy) _
          clear hcr
          clear hc hpc
          by_cases hlv : cr < 0
          · have hnb : (!decide (cr < 0)) = false := by simp [hlv]
            go_wp2_with fail
            go_quiet_grown (first | (go_at_call 37; refine Calls.grown_of (hcg _ _)))
            have HW2 := Lib.hid (HW.out.grown nq osq)
            generalize grow (wr.drewN nq) osq = w2 at HW2 ⊢
            clear lx0 lx1 ly0 ly1 hcg
            go_wp2
            go_roundw
            case rel => exact ⟨s, c, by go_num, by go_num, by omega, by omega, by omega, HW2⟩
            case measure => simp [RowKit.intOf]; omega
          · have hnb : (!decide (cr < 0)) = true := by simp; omega
            go_wp2_with fail
            go_quiet_grown (first | (go_at_call 37; refine Calls.grown_of (hcg _ _)))
            have HW2 := Lib.hid (HW.out.grown nq osq)
            generalize grow (wr.drewN nq) osq = w2 at HW2 ⊢
            clear lx0 lx1 ly0 ly1 hcg
            go_wp2
            go_roundw
            case rel => exact ⟨c + 1, r, by go_num, by go_num, by omega, by omega, by omega, HW2⟩
            case measure => simp [RowKit.intOf]; omega
        · obtain rfl : s = r := by omega
          have hlti : ¬ (s : Int) < (s : Int) := by omega
          obtain ⟨en, hen⟩ : ∃ en, nn - s = en := ⟨_, rfl⟩
          have henI : (nn : Int) - (s : Int) = (en : Int) := by omega
          have henW : IntKind.i64.wrap ((nn : Int) - (s : Int)) = (en : Int) := by rw [henI]; exact IntWalk.i64_in _ (by omega)
          go_upto_region 39 with fail
          clear hlti henI henW
          have henb : en ≤ b ∧ mid ≤ en := by omega
          go_cut [185] from 178 to 185 (fun s185 wx => ∃ b1 : Bool, s185 = .bool b1 ∧ (b1 = true → s < m ∧ m < en) ∧ Hid (SWK encI 2 w0 blk 0 d wx))
          case first =>
            by_cases c1 : s < m
            · have c1i : (s : Int) < (m : Int) := by omega
              by_cases c2 : m < en
              · have c2i : (m : Int) < (en : Int) := by omega
                go_wp2
                go_meet
                case rel => exact ⟨true, rfl, fun _ => ⟨c1, c2⟩, HW⟩
              · have c2i : ¬ (m : Int) < (en : Int) := by omega
                go_wp2
                go_meet
                case rel => exact ⟨false, rfl, (fun h => by cases h), HW⟩
            · have c1i : ¬ (s : Int) < (m : Int) := by omega
              go_wp2
              go_meet
              case rel => exact ⟨false, rfl, (fun h => by cases h), HW⟩
          case rest =>
            obtain ⟨b1, rfl, hb1, HW1⟩ := hcut
            obtain ⟨wd, rfl⟩ : ∃ wd : World, wd = wc := ⟨_, rfl⟩
            clear HW
            go_upto_if 185 with fail
            go_cut [] from 186 to 191 (fun wx => ∃ d1 : Array RawI, Hid (Among d0 d1) ∧ Hid (SWK encI 2 w0 blk 0 d1 wx))
            case first =>
              cases b1 with
              | false =>
                go_wp2
                go_meet
                case rel => exact ⟨d, HA, HW1⟩
              | true =>
                obtain ⟨k1, k2⟩ := hb1 rfl
                have cc := rotate_any blk cap s m en d0 d w0 wd R HA.out.1 HW1.out k1 k2 (by rw [HZ.out HA.out]; omega) (by rw [HZ.out HA.out]; omega) (.func (.func 37) #[] #[])
                rw [HZ.out HA.out] at cc
                go_wp2_with fail
                refine Calls.mono cc ?_
                rintro e w1 ⟨rfl, d1, hd1, s1⟩
                have HA1 := Lib.hid (HA.out.trans hd1)
                have HS1 := Lib.hid s1
                clear hd1 s1 cc
                go_wp2
                go_meet
                case rel => exact ⟨d1, HA1, HS1⟩
            case rest =>
              obtain ⟨d1, HA1, HW2⟩ := hcut
              obtain ⟨we, rfl⟩ : ∃ we : World, we = wc := ⟨_, rfl⟩
              clear HW1 hb1
              go_upto_region 41 with fail
              go_cut [199] from 192 to 199 (fun s199 wx => ∃ b2 : Bool, s199 = .bool b2 ∧ (b2 = true → a < s ∧ s < mid) ∧ Hid (SWK encI 2 w0 blk 0 d1 wx))
              case first =>
                by_cases c1 : a < s
                · have c1i : (a : Int) < (s : Int) := by omega
                  by_cases c2 : s < mid
                  · have c2i : (s : Int) < (mid : Int) := by omega
                    go_wp2
                    go_meet
                    case rel => exact ⟨true, rfl, fun _ => ⟨c1, c2⟩, HW2⟩
                  · have c2i : ¬ (s : Int) < (mid : Int) := by omega
                    go_wp2
                    go_meet
                    case rel => exact ⟨false, rfl, (fun h => by cases h), HW2⟩
                · have c1i : ¬ (a : Int) < (s : Int) := by omega
                  go_wp2
                  go_meet
                  case rel => exact ⟨false, rfl, (fun h => by cases h), HW2⟩
              case rest =>
                obtain ⟨b2, rfl, hb2, HW3⟩ := hcut
                obtain ⟨wf, rfl⟩ : ∃ wf : World, wf = wc := ⟨_, rfl⟩
                clear HW2
                go_upto_if 199 with fail
                go_cut [] from 200 to 205 (fun wx => ∃ d2 : Array RawI, Hid (Among d0 d2) ∧ Hid (SWK encI 2 w0 blk 0 d2 wx))
                case first =>
                  cases b2 with
                  | false =>
                    go_wp2
                    go_meet
                    case rel => exact ⟨d1, HA1, HW3⟩
                  | true =>
                    obtain ⟨k1, k2⟩ := hb2 rfl
                    have cc := IH.out a s mid d1 wf (by omega) HA1.out HW3.out k1 k2 (by omega)
                    go_wp2_with fail
                    refine Calls.mono cc ?_
                    rintro e w1 ⟨rfl, d2, hd2, s2⟩
                    have HA2 := Lib.hid hd2
                    have HS2 := Lib.hid s2
                    clear hd2 s2 cc
                    go_wp2
                    go_meet
                    case rel => exact ⟨d2, HA2, HS2⟩
                case rest =>
                  obtain ⟨d2, HA2, HW4⟩ := hcut
                  obtain ⟨wg, rfl⟩ : ∃ wg : World, wg = wc := ⟨_, rfl⟩
                  clear HW3 hb2
                  by_cases c1 : mid < en
                  · have c1i : (mid : Int) < (en : Int) := by omega
                    by_cases c2 : en < b
                    · have c2i : (en : Int) < (b : Int) := by omega
                      have cc := IH.out mid en b d2 wg (by omega) HA2.out HW4.out c1 c2 hb
                      go_wp2_with fail
                      refine Calls.mono cc ?_
                      rintro e w1 ⟨rfl, d3, hd3, s3⟩
                      have HA3 := Lib.hid hd3
                      have HS3 := Lib.hid s3
                      clear hd3 s3 cc
                      go_wp2
                      go_end0
                      exact ⟨rfl, d3, HA3.out, HS3.out⟩
                    · have c2i : ¬ (en : Int) < (b : Int) := by omega
                      go_wp2
                      go_end0
                      exact ⟨rfl, d2, HA2.out, HW4.out⟩
                  · have c1i : ¬ (mid : Int) < (en : Int) := by omega
                    go_wp2
                    go_end0
                    exact ⟨rfl, d2, HA2.out, HW4.out⟩
    · rw [if_neg hm] at hst0 hr0
      have hmI : ¬ (mid : Int) < (m : Int) := by omega
      subst st0
      subst r0
      go_enter Tryz.func75, Tryz.ntmps75
      go_wp2
      clear hmI hnw hnni
      go_loopw [20, 21] (fun vs vr wr => ∃ (s r : Nat), vs = .int .i64 s ∧ vr = .int .i64 r ∧ a ≤ s ∧ s ≤ r ∧ r ≤ m ∧ Hid (SWK encI 2 w0 blk 0 d wr)) (fun vs vr _ => (RowKit.intOf vr).toNat - (RowKit.intOf vs).toNat)
      case atStart => exact ⟨a, m, by go_num, by go_num, by omega, by omega, by omega, HS⟩
      case round =>
        clear HS
        obtain ⟨s, r, rfl, rfl, hs0, hsr, hr0, HW⟩ := hrel
        by_cases hlt : s < r
        · have hlti : (s : Int) < (r : Int) := by omega
          obtain ⟨c, hc⟩ : ∃ c, (s + r) / 2 = c := ⟨_, rfl⟩
          have hci : ((s : Int) + (r : Int)) / 2 = (c : Int) := by omega
          have hcb : s ≤ c ∧ c < r := by omega
          have hpcb := HB6.out c (by omega) (by omega)
          obtain ⟨pc, hpc⟩ : ∃ pc, p - c = pc := ⟨_, rfl⟩
          have hpcI : (p : Int) - (c : Int) = (pc : Int) := by omega
          have hpcW : IntKind.i64.wrap (pc : Int) = (pc : Int) := IntWalk.i64_in _ (by omega)
          have hxd : pc < d.size := by have := HZ.out HA.out; omega
          have hyd : c < d.size := by have := HZ.out HA.out; omega
          obtain ⟨sx, Ax, nx, cx, lx⟩ := SWK.rd HW.out R (by have := HZ.out HA.out; have := HN.out; omega) pc hxd
          obtain ⟨sy, Ay, ny, cy, ly⟩ := SWK.rd HW.out R (by have := HZ.out HA.out; have := HN.out; omega) c hyd
          have lx0 := fun m os => (lx m os).1
          have lx1 := fun m os => (lx m os).2
          have ly0 := fun m os => (ly m os).1
          have ly1 := fun m os => (ly m os).2
          have hxn : (pc : Int) < (n : Int) := by have := HZ.out HA.out; omega
          have hyn : (c : Int) < (n : Int) := by have := HZ.out HA.out; omega
          clear lx ly hxd hyd
          obtain ⟨cr, hcr⟩ : ∃ cr : Int, cfI (sx, Ax, nx, cx) (sy, Ay, ny, cy) = cr := ⟨_, rfl⟩
          have hcg : ∀ n' os', Calls Tryz.prog 37 #[.agg #[.string sx, .slice Ax nx cx], .agg #[.string sy, .slice Ay ny cy]] (grow (wr.drewN n') os') fun e w' => e = .returned (.int .i64 cr) ∧ ∃ q os'', w' = grow ((grow (wr.drewN n') os').drewN q) os'' := fun n' os' => by rw [← hcr]; exact sbclosure_any (sx, Ax, nx, cx) (sy, Ay, ny, cy) _
          clear hcr
          clear hc hpc
          by_cases hlv : cr < 0
          · have hnb : (!decide (cr < 0)) = false := by simp [hlv]
            go_wp2_with fail
            go_quiet_grown (first | (go_at_call 37; refine Calls.grown_of (hcg _ _)))
            have HW2 := Lib.hid (HW.out.grown nq osq)
            generalize grow (wr.drewN nq) osq = w2 at HW2 ⊢
            clear lx0 lx1 ly0 ly1 hcg
            go_wp2
            go_roundw
            case rel => exact ⟨s, c, by go_num, by go_num, by omega, by omega, by omega, HW2⟩
            case measure => simp [RowKit.intOf]; omega
          · have hnb : (!decide (cr < 0)) = true := by simp; omega
            go_wp2_with fail
            go_quiet_grown (first | (go_at_call 37; refine Calls.grown_of (hcg _ _)))
            have HW2 := Lib.hid (HW.out.grown nq osq)
            generalize grow (wr.drewN nq) osq = w2 at HW2 ⊢
            clear lx0 lx1 ly0 ly1 hcg
            go_wp2
            go_roundw
            case rel => exact ⟨c + 1, r, by go_num, by go_num, by omega, by omega, by omega, HW2⟩
            case measure => simp [RowKit.intOf]; omega
        · obtain rfl : s = r := by omega
          have hlti : ¬ (s : Int) < (s : Int) := by omega
          obtain ⟨en, hen⟩ : ∃ en, nn - s = en := ⟨_, rfl⟩
          have henI : (nn : Int) - (s : Int) = (en : Int) := by omega
          have henW : IntKind.i64.wrap ((nn : Int) - (s : Int)) = (en : Int) := by rw [henI]; exact IntWalk.i64_in _ (by omega)
          go_upto_region 39 with fail
          clear hlti henI henW
          have henb : en ≤ b ∧ mid ≤ en := by omega
          go_cut [185] from 178 to 185 (fun s185 wx => ∃ b1 : Bool, s185 = .bool b1 ∧ (b1 = true → s < m ∧ m < en) ∧ Hid (SWK encI 2 w0 blk 0 d wx))
          case first =>
            by_cases c1 : s < m
            · have c1i : (s : Int) < (m : Int) := by omega
              by_cases c2 : m < en
              · have c2i : (m : Int) < (en : Int) := by omega
                go_wp2
                go_meet
                case rel => exact ⟨true, rfl, fun _ => ⟨c1, c2⟩, HW⟩
              · have c2i : ¬ (m : Int) < (en : Int) := by omega
                go_wp2
                go_meet
                case rel => exact ⟨false, rfl, (fun h => by cases h), HW⟩
            · have c1i : ¬ (s : Int) < (m : Int) := by omega
              go_wp2
              go_meet
              case rel => exact ⟨false, rfl, (fun h => by cases h), HW⟩
          case rest =>
            obtain ⟨b1, rfl, hb1, HW1⟩ := hcut
            obtain ⟨wd, rfl⟩ : ∃ wd : World, wd = wc := ⟨_, rfl⟩
            clear HW
            go_upto_if 185 with fail
            go_cut [] from 186 to 191 (fun wx => ∃ d1 : Array RawI, Hid (Among d0 d1) ∧ Hid (SWK encI 2 w0 blk 0 d1 wx))
            case first =>
              cases b1 with
              | false =>
                go_wp2
                go_meet
                case rel => exact ⟨d, HA, HW1⟩
              | true =>
                obtain ⟨k1, k2⟩ := hb1 rfl
                have cc := rotate_any blk cap s m en d0 d w0 wd R HA.out.1 HW1.out k1 k2 (by rw [HZ.out HA.out]; omega) (by rw [HZ.out HA.out]; omega) (.func (.func 37) #[] #[])
                rw [HZ.out HA.out] at cc
                go_wp2_with fail
                refine Calls.mono cc ?_
                rintro e w1 ⟨rfl, d1, hd1, s1⟩
                have HA1 := Lib.hid (HA.out.trans hd1)
                have HS1 := Lib.hid s1
                clear hd1 s1 cc
                go_wp2
                go_meet
                case rel => exact ⟨d1, HA1, HS1⟩
            case rest =>
              obtain ⟨d1, HA1, HW2⟩ := hcut
              obtain ⟨we, rfl⟩ : ∃ we : World, we = wc := ⟨_, rfl⟩
              clear HW1 hb1
              go_upto_region 41 with fail
              go_cut [199] from 192 to 199 (fun s199 wx => ∃ b2 : Bool, s199 = .bool b2 ∧ (b2 = true → a < s ∧ s < mid) ∧ Hid (SWK encI 2 w0 blk 0 d1 wx))
              case first =>
                by_cases c1 : a < s
                · have c1i : (a : Int) < (s : Int) := by omega
                  by_cases c2 : s < mid
                  · have c2i : (s : Int) < (mid : Int) := by omega
                    go_wp2
                    go_meet
                    case rel => exact ⟨true, rfl, fun _ => ⟨c1, c2⟩, HW2⟩
                  · have c2i : ¬ (s : Int) < (mid : Int) := by omega
                    go_wp2
                    go_meet
                    case rel => exact ⟨false, rfl, (fun h => by cases h), HW2⟩
                · have c1i : ¬ (a : Int) < (s : Int) := by omega
                  go_wp2
                  go_meet
                  case rel => exact ⟨false, rfl, (fun h => by cases h), HW2⟩
              case rest =>
                obtain ⟨b2, rfl, hb2, HW3⟩ := hcut
                obtain ⟨wf, rfl⟩ : ∃ wf : World, wf = wc := ⟨_, rfl⟩
                clear HW2
                go_upto_if 199 with fail
                go_cut [] from 200 to 205 (fun wx => ∃ d2 : Array RawI, Hid (Among d0 d2) ∧ Hid (SWK encI 2 w0 blk 0 d2 wx))
                case first =>
                  cases b2 with
                  | false =>
                    go_wp2
                    go_meet
                    case rel => exact ⟨d1, HA1, HW3⟩
                  | true =>
                    obtain ⟨k1, k2⟩ := hb2 rfl
                    have cc := IH.out a s mid d1 wf (by omega) HA1.out HW3.out k1 k2 (by omega)
                    go_wp2_with fail
                    refine Calls.mono cc ?_
                    rintro e w1 ⟨rfl, d2, hd2, s2⟩
                    have HA2 := Lib.hid hd2
                    have HS2 := Lib.hid s2
                    clear hd2 s2 cc
                    go_wp2
                    go_meet
                    case rel => exact ⟨d2, HA2, HS2⟩
                case rest =>
                  obtain ⟨d2, HA2, HW4⟩ := hcut
                  obtain ⟨wg, rfl⟩ : ∃ wg : World, wg = wc := ⟨_, rfl⟩
                  clear HW3 hb2
                  by_cases c1 : mid < en
                  · have c1i : (mid : Int) < (en : Int) := by omega
                    by_cases c2 : en < b
                    · have c2i : (en : Int) < (b : Int) := by omega
                      have cc := IH.out mid en b d2 wg (by omega) HA2.out HW4.out c1 c2 hb
                      go_wp2_with fail
                      refine Calls.mono cc ?_
                      rintro e w1 ⟨rfl, d3, hd3, s3⟩
                      have HA3 := Lib.hid hd3
                      have HS3 := Lib.hid s3
                      clear hd3 s3 cc
                      go_wp2
                      go_end0
                      exact ⟨rfl, d3, HA3.out, HS3.out⟩
                    · have c2i : ¬ (en : Int) < (b : Int) := by omega
                      go_wp2
                      go_end0
                      exact ⟨rfl, d2, HA2.out, HW4.out⟩
                  · have c1i : ¬ (mid : Int) < (en : Int) := by omega
                    go_wp2
                    go_end0
                    exact ⟨rfl, d2, HA2.out, HW4.out⟩
end Go.Proofs.YtkapaafbnbnpjaaGreatDoor
