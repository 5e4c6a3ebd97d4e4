/- slices.SortStableFunc of a call's own list of items: exchanges. Condition: the list is at most a thousand long. -/
import Derived.Shelf.SlSortCmp.KitK
import Derived.Deep.LoopGhost
import Derived.BigRegion
import Derived.IntWalk
import Derived.Lib.Hide
import Derived.Test.YtkapaafbnbnpjaaGreatDoorBlk
namespace Go.Proofs.YtkapaafbnbnpjaaGreatDoor
open Go.RowKit Go.Deep Go.Shelf Go.Sort Go.Proofs

/-- An item's cells: its name, and where its versions lie. -/
abbrev RawI := ByteArray × Option Addr × Nat × Nat
def encI (x : RawI) : List Value := [.string x.1, .slice x.2.1 x.2.2.1 x.2.2.2]
theorem encI_len (x : RawI) : (encI x).length = 2 := rfl
theorem encI_one (x : RawI) : ∀ v ∈ encI x, v.oneCell' = true := by
  intro v hv
  simp [encI] at hv
  rcases hv with rfl | rfl <;> rfl

/-- As many, and none that was not there. -/
def Among (d d' : Array RawI) : Prop := d'.size = d.size ∧ ∀ x ∈ d', x ∈ d
theorem Among.refl (d : Array RawI) : Among d d := ⟨rfl, fun _ h => h⟩
theorem Among.trans {a b c : Array RawI} (h : Among a b) (k : Among b c) : Among a c := ⟨k.1.trans h.1, fun x hx => h.2 x (k.2 x hx)⟩
theorem getI_mem {d : Array RawI} {i : Nat} (h : i < d.size) : d[i]! ∈ d := by
  rw [getElem!_pos d i h]
  exact Array.getElem_mem h
theorem Among.swp (d : Array RawI) {i j : Nat} (hi : i < d.size) (hj : j < d.size) : Among d (swp d i j) := by
  refine ⟨size_swp d i j, fun x hx => ?_⟩
  unfold Go.Sort.swp at hx
  rcases Array.mem_or_eq_of_mem_setIfInBounds hx with hx | rfl
  · rcases Array.mem_or_eq_of_mem_setIfInBounds hx with hx | rfl
    · exact hx
    · exact getI_mem hj
  · exact getI_mem hi

section
variable {w0 W : World} {blk : Nat} {d0 dk : Array RawI}
theorem SWK.at (h : SWK encI 2 w0 blk 0 dk W) (R : RowK encI 2 w0 blk 0 d0) (hs : dk.size = d0.size) (i : Nat) (hi : i < dk.size) :
    W.cell? ⟨blk, i * 2, none⟩ = some (.string dk[i]!.1) ∧ W.cell? ⟨blk, i * 2 + 1, none⟩ = some (.slice dk[i]!.2.1 dk[i]!.2.2.1 dk[i]!.2.2.2) ∧ W.frozen? ⟨blk, i * 2, none⟩ = false ∧ W.frozen? ⟨blk, i * 2 + 1, none⟩ = false := by
  have hH := h.holds R.hblk R.hH hs
  have h0 := HoldsK.cell hH hi (c := 0) (by decide)
  have h1 := HoldsK.cell hH hi (c := 1) (by decide)
  rw [Nat.zero_add, Nat.add_zero] at h0
  rw [Nat.zero_add] at h1
  exact ⟨h0.1, h1.1, h0.2, h1.2⟩
end

section
variable {w0 W : World} {blk : Nat} {d0 dk : Array RawI}
/-- The exchange's four stores. -/
theorem SWK.exch (h : SWK encI 2 w0 blk 0 dk W) (R : RowK encI 2 w0 blk 0 d0) (i j : Nat) (hi : i < dk.size) (hj : j < dk.size) :
    SWK encI 2 w0 blk 0 (swp dk i j) ((((W.setCell ⟨blk, i * 2, none⟩ (.string dk[j]!.1)).setCell ⟨blk, i * 2 + 1, none⟩ (.slice dk[j]!.2.1 dk[j]!.2.2.1 dk[j]!.2.2.2)).setCell ⟨blk, j * 2, none⟩ (.string dk[i]!.1)).setCell ⟨blk, j * 2 + 1, none⟩ (.slice dk[i]!.2.1 dk[i]!.2.2.1 dk[i]!.2.2.2)) := by
  have := h.swap R.hk R.hblk i j hi hj
  rw [Nat.zero_add, Nat.zero_add] at this
  exact this
/-- Between the two. -/
theorem SWK.mid (h : SWK encI 2 w0 blk 0 dk W) (R : RowK encI 2 w0 blk 0 d0) (hs : dk.size = d0.size) (i j : Nat) (hj : j < dk.size) (hne : i ≠ j) (u v : Value) :
    ((W.setCell ⟨blk, i * 2, none⟩ u).setCell ⟨blk, i * 2 + 1, none⟩ v).cell? ⟨blk, j * 2, none⟩ = some (.string dk[j]!.1) ∧ ((W.setCell ⟨blk, i * 2, none⟩ u).setCell ⟨blk, i * 2 + 1, none⟩ v).cell? ⟨blk, j * 2 + 1, none⟩ = some (.slice dk[j]!.2.1 dk[j]!.2.2.1 dk[j]!.2.2.2) := by
  obtain ⟨h0, h1, _, _⟩ := SWK.at h R hs j hj
  constructor
  · exact (World.cell?_setCell_other _ _ _ _ (fun e => by injection e with _ e; omega)).trans ((World.cell?_setCell_other _ _ _ _ (fun e => by injection e with _ e; omega)).trans h0)
  · exact (World.cell?_setCell_other _ _ _ _ (fun e => by injection e with _ e; omega)).trans ((World.cell?_setCell_other _ _ _ _ (fun e => by injection e with _ e; omega)).trans h1)
end
set_option maxHeartbeats 2000000 in
theorem swapRange_any (blk cap a b m : Nat) (d0 d : Array RawI) (w0 w : World) (R : RowK encI 2 w0 blk 0 d0) (hs : d.size = d0.size) (S : SWK encI 2 w0 blk 0 d w) (hne : a ≠ b) (ha : a + m ≤ d.size) (hb : b + m ≤ d.size) (hsz : d.size ≤ 1000) (cmpv : Value) :
    Calls Tryz.prog 99 #[.slice (some ⟨blk, 0, none⟩) d.size cap, .int .i64 a, .int .i64 b, .int .i64 m, cmpv] w fun e w' => e = .returned (.tuple #[]) ∧ ∃ d', Among d d' ∧ SWK encI 2 w0 blk 0 d' w' := by
  have HS := Lib.hid S
  have HSZ := Lib.hid hs
  clear S hs
  go_enter Tryz.func99, Tryz.ntmps99
  go_wp2
  go_loopw [10] (fun vi wr => ∃ (i : Nat) (dk : Array RawI), vi = .int .i64 i ∧ i ≤ m ∧ Hid (Among d dk) ∧ Hid (SWK encI 2 w0 blk 0 dk wr)) (fun vi _ => m - (RowKit.intOf vi).toNat)
  case atStart => exact ⟨0, d, by go_num, by omega, Lib.hid (Among.refl d), HS⟩
  case round =>
    obtain ⟨i, dk, rfl, him, HA, HW⟩ := hrel
    by_cases hlt : i < m
    · obtain ⟨p, hp⟩ : ∃ p, a + i = p := ⟨_, rfl⟩
      obtain ⟨q, hq⟩ : ∃ q, b + i = q := ⟨_, rfl⟩
      have wp1 : IntKind.i64.wrap ((a : Int) + i) = (p : Int) := by rw [show (a : Int) + i = p by omega]; exact IntWalk.i64_in _ (by omega)
      have wq1 : IntKind.i64.wrap ((b : Int) + i) = (q : Int) := by rw [show (b : Int) + i = q by omega]; exact IntWalk.i64_in _ (by omega)
      have hpd : p < dk.size := by have := HA.out.1; omega
      have hqd : q < dk.size := by have := HA.out.1; omega
      have hpi : (p : Int) < (d.size : Int) := by omega
      have hqi : (q : Int) < (d.size : Int) := by omega
      have hpq : p ≠ q := by omega
      obtain ⟨p0, p1, p2, p3⟩ := SWK.at HW.out R (by have := HA.out.1; have := HSZ.out; omega) p hpd
      obtain ⟨q0, q1, q2, q3⟩ := SWK.at HW.out R (by have := HA.out.1; have := HSZ.out; omega) q hqd
      obtain ⟨m0, m1⟩ := SWK.mid HW.out R (by have := HA.out.1; have := HSZ.out; omega) p q hqd hpq (.string dk[q]!.1) (.slice dk[q]!.2.1 dk[q]!.2.2.1 dk[q]!.2.2.2)
      have next := SWK.exch HW.out R p q hpd hqd
      have HAN := Lib.hid (HA.out.trans (Among.swp dk hpd hqd))
      generalize hX : swp dk p q = dn at next HAN
      clear hp hq hX hne
      obtain ⟨⟨sp, Ap, np, cp⟩, hxp⟩ : ∃ x, dk[p]! = x := ⟨_, rfl⟩
      obtain ⟨⟨sq, Aq, nq, cq⟩, hxq⟩ : ∃ x, dk[q]! = x := ⟨_, rfl⟩
      rw [hxp] at p0 p1 next
      rw [hxq] at q0 q1 m0 m1 next
      have NEXT := Lib.hid next
      clear next hxp hxq HA HW hpq
      go_wp2_with fail
      go_big_region
      go_wp2
      go_roundw
      case rel => exact ⟨i + 1, dn, by go_num, by omega, HAN, NEXT.out.drew⟩
      case measure => simp [RowKit.intOf]; omega
    · obtain rfl : i = m := by omega
      go_wp2
      go_end0
      exact ⟨rfl, dk, HA.out, HW.out⟩
end Go.Proofs.YtkapaafbnbnpjaaGreatDoor
