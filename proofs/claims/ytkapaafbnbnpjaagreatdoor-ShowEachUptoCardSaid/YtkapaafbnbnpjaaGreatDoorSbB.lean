/- slices.SortStableFunc of a call's own list of items: the rotation, the comparison, the insertion sort. Condition: the list is at most a thousand long. -/
import Derived.Test.YtkapaafbnbnpjaaGreatDoorSbA
namespace Go.Proofs.YtkapaafbnbnpjaaGreatDoor
open Go.RowKit Go.Deep Go.Shelf Go.Sort Go.Proofs

set_option maxHeartbeats 2000000 in
theorem rotate_any (blk cap a m b : Nat) (d0 d : Array RawI) (w0 w : World) (R : RowK encI 2 w0 blk 0 d0) (hs : d.size = d0.size) (S : SWK encI 2 w0 blk 0 d w) (ham : a < m) (hmb : m < b) (hb : b ≤ d.size) (hsz : d.size ≤ 1000) (cmpv : Value) :
    Calls Tryz.prog 88 #[.slice (some ⟨blk, 0, none⟩) d.size cap, .int .i64 a, .int .i64 m, .int .i64 b, cmpv] w fun e w' => e = .returned (.tuple #[]) ∧ ∃ d', Among d d' ∧ SWK encI 2 w0 blk 0 d' w' := by
  have HS := Lib.hid S
  have HSZ := Lib.hid hs
  clear S hs
  obtain ⟨i0, hi0⟩ : ∃ i0, m - a = i0 := ⟨_, rfl⟩
  obtain ⟨j0, hj0⟩ : ∃ j0, b - m = j0 := ⟨_, rfl⟩
  have wi : IntKind.i64.wrap ((m : Int) - a) = (i0 : Int) := by rw [show (m : Int) - a = i0 by omega]; exact IntWalk.i64_in _ (by omega)
  have wj : IntKind.i64.wrap ((b : Int) - m) = (j0 : Int) := by rw [show (b : Int) - m = j0 by omega]; exact IntWalk.i64_in _ (by omega)
  go_enter Tryz.func88, Tryz.ntmps88
  go_wp2
  clear wi wj
  obtain ⟨n, hn⟩ : ∃ n, d.size = n := ⟨_, rfl⟩
  rw [hn] at hsz hb ⊢
  have HN := Lib.hid hn
  clear hn
  go_loopw [10, 11] (fun vi vj wr => ∃ (i j : Nat) (dk : Array RawI), vi = .int .i64 i ∧ vj = .int .i64 j ∧ 1 ≤ i ∧ 1 ≤ j ∧ i ≤ m ∧ m + j ≤ b ∧ Hid (Among d dk) ∧ Hid (SWK encI 2 w0 blk 0 dk wr)) (fun vi vj _ => (RowKit.intOf vi).toNat + (RowKit.intOf vj).toNat)
  case atStart => exact ⟨i0, j0, d, by go_num, by go_num, by omega, by omega, by omega, by omega, Lib.hid (Among.refl d), HS⟩
  case round =>
    clear hi0 hj0 HS
    obtain ⟨i, j, dk, rfl, rfl, hi1, hj1, him, hjb, HA, HW⟩ := hrel
    have hdk : dk.size = n := HA.out.1.trans HN.out
    have C : ∀ (x y z : Nat), x ≠ y → x + z ≤ n → y + z ≤ n → Hid (Calls Tryz.prog 99 #[.slice (some ⟨blk, 0, none⟩) n cap, .int .i64 x, .int .i64 y, .int .i64 z, cmpv] wr fun e w' => e = .returned (.tuple #[]) ∧ ∃ d', Among dk d' ∧ SWK encI 2 w0 blk 0 d' w') := fun x y z h1 h2 h3 => by
      have := swapRange_any blk cap x y z d0 dk w0 wr R (by rw [HA.out.1]; exact HSZ.out) HW.out h1 (by omega) (by omega) (by omega) cmpv
      rw [hdk] at this
      exact Lib.hid this
    obtain ⟨p, hp⟩ : ∃ p, m - i = p := ⟨_, rfl⟩
    have wp1 : IntKind.i64.wrap ((m : Int) - i) = (p : Int) := by rw [show (m : Int) - i = p by omega]; exact IntWalk.i64_in _ (by omega)
    by_cases hij : i = j
    · have h1 : ((i : Int) == (j : Int)) = true := by simp [hij]
      have h2 : ((i : Int) != (j : Int)) = false := by simp [hij]
      have c := C p m i (by omega) (by omega) (by omega)
      clear C hij hdk hp
      go_wp2_with fail
      refine Calls.mono c.out ?_
      rintro e w1 ⟨rfl, d1, hd1, s1⟩
      have HA1 := Lib.hid (HA.out.trans hd1)
      have HS1 := Lib.hid s1
      clear hd1 s1
      go_wp2
      go_end0
      exact ⟨rfl, d1, HA1.out, HS1.out⟩
    · have h1 : ((i : Int) == (j : Int)) = false := beq_eq_false_iff_ne.2 (by omega)
      have h2 : ((i : Int) != (j : Int)) = true := by rw [bne, h1]; rfl
      by_cases hgt : j < i
      · have hgi : (j : Int) < (i : Int) := by omega
        obtain ⟨i2, hi2⟩ : ∃ i2, i - j = i2 := ⟨_, rfl⟩
        have wi2 : IntKind.i64.wrap ((i : Int) - j) = (i2 : Int) := by rw [show (i : Int) - j = i2 by omega]; exact IntWalk.i64_in _ (by omega)
        have c := C p m j (by omega) (by omega) (by omega)
        clear C hij hdk hp
        go_wp2_with fail
        refine Calls.mono c.out ?_
        rintro e w1 ⟨rfl, d1, hd1, s1⟩
        have HA1 := Lib.hid (HA.out.trans hd1)
        have HS1 := Lib.hid s1
        clear hd1 s1 c
        go_wp2
        go_roundw
        case rel => exact ⟨i2, j, d1, by go_num, by go_num, by omega, by omega, by omega, by omega, HA1, HS1⟩
        case measure => simp [RowKit.intOf]; omega
      · have hgi : ¬ (j : Int) < (i : Int) := by omega
        obtain ⟨j2, hj2⟩ : ∃ j2, j - i = j2 := ⟨_, rfl⟩
        obtain ⟨q, hq⟩ : ∃ q, m + j = q := ⟨_, rfl⟩
        obtain ⟨r, hr⟩ : ∃ r, q - i = r := ⟨_, rfl⟩
        have wj2 : IntKind.i64.wrap ((j : Int) - i) = (j2 : Int) := by rw [show (j : Int) - i = j2 by omega]; exact IntWalk.i64_in _ (by omega)
        have wq : IntKind.i64.wrap ((m : Int) + j) = (q : Int) := by rw [show (m : Int) + j = q by omega]; exact IntWalk.i64_in _ (by omega)
        have wr1 : IntKind.i64.wrap ((q : Int) - i) = (r : Int) := by rw [show (q : Int) - i = r by omega]; exact IntWalk.i64_in _ (by omega)
        have c := C p r i (by omega) (by omega) (by omega)
        clear C hdk hp
        go_wp2_with fail
        refine Calls.mono c.out ?_
        rintro e w1 ⟨rfl, d1, hd1, s1⟩
        have HA1 := Lib.hid (HA.out.trans hd1)
        have HS1 := Lib.hid s1
        clear hd1 s1 c
        go_wp2
        go_roundw
        case rel => exact ⟨i, j2, d1, by go_num, by go_num, by omega, by omega, by omega, by omega, HA1, HS1⟩
        case measure => simp [RowKit.intOf]; omega
end Go.Proofs.YtkapaafbnbnpjaaGreatDoor
