/- slices.SortStableFunc of a call's own list of items. Condition: the list is at most a thousand long. -/
import Derived.Test.YtkapaafbnbnpjaaGreatDoorSbD
namespace Go.Proofs.YtkapaafbnbnpjaaGreatDoor
open Go.RowKit Go.Deep Go.Shelf Go.Sort Go.Proofs

set_option maxHeartbeats 4000000 in
theorem stable_any (blk cap n : Nat) (d0 : Array RawI) (w0 : World) (R : RowK encI 2 w0 blk 0 d0) (hn : d0.size = n) (hsz : n ≤ 1000) :
    Calls Tryz.prog 52 #[.slice (some ⟨blk, 0, none⟩) n cap, .int .i64 n, .func (.func 37) #[] #[]] w0 fun e w' => e = .returned (.tuple #[]) ∧ ∃ d', Among d0 d' ∧ SWK encI 2 w0 blk 0 d' w' := by
  have HN := Lib.hid hn
  have SZ : ∀ {x : Array RawI}, Among d0 x → x.size = n := fun h => h.1.trans HN.out
  have HZ : Hid (∀ {x : Array RawI}, Among d0 x → x.size = n) := SZ
  have INS := Lib.hid fun (d : Array RawI) (w : World) (hA : Among d0 d) (S : SWK encI 2 w0 blk 0 d w) (a b : Nat) (hab : a ≤ b) (hb : b ≤ n) => by
    have c := insertion_any blk cap a b d0 d w0 w R hA.1 S hab (by rw [SZ hA]; exact hb) (by rw [SZ hA]; exact hsz)
    rw [SZ hA] at c
    exact c
  have SYM := Lib.hid fun (d : Array RawI) (w : World) (hA : Among d0 d) (S : SWK encI 2 w0 blk 0 d w) (a m b : Nat) (h1 : a < m) (h2 : m < b) (h3 : b ≤ n) => symMerge_any blk cap n d0 w0 R hn hsz (b - a) a m b d w (Nat.le_refl _) hA S h1 h2 h3
  have HS := Lib.hid (SWK.start R.hH)
  clear hn SZ
  go_enter Tryz.func52, Tryz.ntmps52
  go_wp2
  go_loopw [7, 8] (fun va vb wr => ∃ (a b : Nat) (d : Array RawI), va = .int .i64 a ∧ vb = .int .i64 b ∧ b = a + 20 ∧ a ≤ n ∧ Hid (Among d0 d) ∧ Hid (SWK encI 2 w0 blk 0 d wr)) (fun _ vb _ => n + 20 - (RowKit.intOf vb).toNat)
  case atStart => exact ⟨0, 20, d0, by go_num, by go_num, rfl, by omega, Lib.hid (Among.refl d0), HS⟩
  case round =>
    clear HS
    obtain ⟨a, b, d, rfl, rfl, hab, han, HA, HW⟩ := hrel
    by_cases hlt : b ≤ n
    · have hlti : (b : Int) ≤ (n : Int) := by omega
      obtain ⟨b2, hb2⟩ : ∃ b2, b + 20 = b2 := ⟨_, rfl⟩
      have hbi : (b : Int) + 20 = (b2 : Int) := by omega
      have hbw : IntKind.i64.wrap (b2 : Int) = (b2 : Int) := IntWalk.i64_in _ (by omega)
      have c := Lib.hid (INS.out d wr HA.out HW.out a b (by omega) hlt)
      have HAB := Lib.hid hab
      clear hab
      go_wp2_with fail
      refine Calls.mono c.out ?_
      rintro e w1 ⟨rfl, d1, hd1, s1⟩
      have HA1 := Lib.hid (HA.out.trans hd1)
      have HS1 := Lib.hid s1
      clear hd1 s1 c
      go_wp2
      go_roundw
      case rel => exact ⟨b, b2, d1, by go_num, by go_num, by omega, hlt, HA1, HS1⟩
      case measure => simp [RowKit.intOf]; omega
    · have hlti : ¬ (b : Int) ≤ (n : Int) := by omega
      have c := Lib.hid (INS.out d wr HA.out HW.out a n han (Nat.le_refl _))
      clear hab
      go_wp2_with fail
      refine Calls.mono c.out ?_
      rintro e w1 ⟨rfl, d1, hd1, s1⟩
      have HA1 := Lib.hid (HA.out.trans hd1)
      have HS1 := Lib.hid s1
      clear hd1 s1 c HA HW hlti hlt INS
      go_wp2
      go_loopw [6] (fun vs wr => ∃ (s : Nat) (d : Array RawI), vs = .int .i64 s ∧ 20 ≤ s ∧ s ≤ 2000 ∧ Hid (Among d0 d) ∧ Hid (SWK encI 2 w0 blk 0 d wr)) (fun vs _ => n - (RowKit.intOf vs).toNat)
      case atStart => exact ⟨20, d1, by go_num, by omega, by omega, HA1, HS1⟩
      case round =>
        clear HA1 HS1
        obtain ⟨s, d, rfl, hs20, hs2, HA, HW⟩ := hrel
        by_cases hlt : s < n
        · have hlti : (s : Int) < (n : Int) := by omega
          obtain ⟨t, ht⟩ : ∃ t, 2 * s = t := ⟨_, rfl⟩
          have hti : 2 * (s : Int) = (t : Int) := by omega
          have hti2 : (s : Int) * 2 = (t : Int) := by omega
          have htw : IntKind.i64.wrap (t : Int) = (t : Int) := IntWalk.i64_in _ (by omega)
          go_wp2
          clear hlti
          go_loopw [7, 8] (fun va vb wr => ∃ (a b : Nat) (d : Array RawI), va = .int .i64 a ∧ vb = .int .i64 b ∧ b = a + t ∧ a ≤ n ∧ Hid (Among d0 d) ∧ Hid (SWK encI 2 w0 blk 0 d wr)) (fun _ vb _ => n + t - (RowKit.intOf vb).toNat)
          case atStart => exact ⟨0, t, d, by go_num, by go_num, by omega, by omega, HA, HW⟩
          case round =>
            clear HA HW
            obtain ⟨a, b, d, rfl, rfl, hab, han, HA, HW⟩ := hrel
            obtain ⟨m, hm⟩ : ∃ m, a + s = m := ⟨_, rfl⟩
            have hmi : (a : Int) + (s : Int) = (m : Int) := by omega
            have hmw : IntKind.i64.wrap (m : Int) = (m : Int) := IntWalk.i64_in _ (by omega)
            by_cases hlb : b ≤ n
            · have hlti : (b : Int) ≤ (n : Int) := by omega
              obtain ⟨b2, hb2⟩ : ∃ b2, b + t = b2 := ⟨_, rfl⟩
              have hbi : (b : Int) + (t : Int) = (b2 : Int) := by omega
              have hbw : IntKind.i64.wrap (b2 : Int) = (b2 : Int) := IntWalk.i64_in _ (by omega)
              have c := Lib.hid (SYM.out d wr HA.out HW.out a m b (by omega) (by omega) hlb)
              have HAB := Lib.hid hab
              clear hab
              go_wp2_with fail
              refine Calls.mono c.out ?_
              rintro e w1 ⟨rfl, d1, hd1, s1⟩
              have HA1 := Lib.hid hd1
              have HS1 := Lib.hid s1
              clear hd1 s1 c
              go_wp2
              go_roundw
              case rel => exact ⟨b, b2, d1, by go_num, by go_num, by omega, hlb, HA1, HS1⟩
              case measure => simp [RowKit.intOf]; omega
            · have hlti : ¬ (b : Int) ≤ (n : Int) := by omega
              clear hab
              by_cases hmn : m < n
              · have hmni : (m : Int) < (n : Int) := by omega
                have c := Lib.hid (SYM.out d wr HA.out HW.out a m n (by omega) hmn (Nat.le_refl _))
                go_wp2_with fail
                refine Calls.mono c.out ?_
                rintro e w1 ⟨rfl, d1, hd1, s1⟩
                have HA1 := Lib.hid hd1
                have HS1 := Lib.hid s1
                clear hd1 s1 c
                go_wp2
                go_roundw
                case rel => exact ⟨t, d1, by go_num, by omega, by omega, HA1, HS1⟩
                case measure => simp [RowKit.intOf]; omega
              · have hmni : ¬ (m : Int) < (n : Int) := by omega
                go_wp2
                go_roundw
                case rel => exact ⟨t, d, by go_num, by omega, by omega, HA, HW⟩
                case measure => simp [RowKit.intOf]; omega
        · have hlti : ¬ (s : Int) < (n : Int) := by omega
          go_wp2
          go_end0
          exact ⟨rfl, d, HA.out, HW.out⟩
theorem sortStable_any (blk cap n : Nat) (d0 : Array RawI) (w0 : World) (R : RowK encI 2 w0 blk 0 d0) (hn : d0.size = n) (hsz : n ≤ 1000) :
    Calls Tryz.prog 36 #[.slice (some ⟨blk, 0, none⟩) n cap, .func (.func 37) #[] #[]] w0 fun e w' => e = .returned (.tuple #[]) ∧ ∃ d', Among d0 d' ∧ SWK encI 2 w0 blk 0 d' w' := by
  have C := Lib.hid (stable_any blk cap n d0 w0 R hn hsz)
  clear hn
  go_enter Tryz.func36, Tryz.ntmps36
  go_wp2_with fail
  refine Calls.mono C.out ?_
  rintro e w1 ⟨rfl, d1, hd1, s1⟩
  have HA1 := Lib.hid hd1
  have HS1 := Lib.hid s1
  clear hd1 s1
  go_wp2
  go_end0
  exact ⟨rfl, d1, HA1.out, HS1.out⟩
/-- No element: nothing is done. -/
theorem sortStable_nil (A : Option Addr) (cap : Nat) (w0 : World) (v : Value) :
    Calls Tryz.prog 36 #[.slice A 0 cap, v] w0 fun e w' => e = .returned (.tuple #[]) ∧ w' = w0 := by
  have I : ∀ w, Calls Tryz.prog 74 #[.slice A 0 cap, .int .i64 0, .int .i64 0, v] w fun e w' => e = .returned (.tuple #[]) ∧ w' = w := fun w => by
    go_enter Tryz.func74, Tryz.ntmps74
    go_wp2
    go_loop [8] (fun vi => vi = .int .i64 1) (fun _ => 0)
    case atStart => rfl
    case round =>
      subst hrel
      go_wp2
      go_end0
      exact ⟨rfl, rfl⟩
  have T : ∀ w, Calls Tryz.prog 52 #[.slice A 0 cap, .int .i64 0, v] w fun e w' => e = .returned (.tuple #[]) ∧ w' = w := fun w => by
    go_enter Tryz.func52, Tryz.ntmps52
    go_wp2
    go_loop [7, 8] (fun va vb => va = .int .i64 0 ∧ vb = .int .i64 20) (fun _ _ => 0)
    case atStart => exact ⟨rfl, rfl⟩
    case round =>
      obtain ⟨rfl, rfl⟩ := hrel
      go_wp2_with fail
      refine Calls.mono (I _) ?_
      rintro e w1 ⟨rfl, rfl⟩
      go_wp2
      go_loop [6] (fun va => va = .int .i64 20) (fun _ => 0)
      case atStart => rfl
      case round =>
        subst hrel
        go_wp2
        go_end0
        exact ⟨rfl, rfl⟩
  go_enter Tryz.func36, Tryz.ntmps36
  go_wp2_with fail
  refine Calls.mono (T _) ?_
  rintro e w1 ⟨rfl, rfl⟩
  go_wp2
  go_end0
  exact ⟨rfl, rfl⟩
end Go.Proofs.YtkapaafbnbnpjaaGreatDoor
