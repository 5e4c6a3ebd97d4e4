/- slices.SortStableFunc of a call's own list of items: the comparison, the insertion sort. Condition: the list is at most a thousand long. -/
import Derived.Shelf.Small.Strs
import Derived.Test.YtkapaafbnbnpjaaGreatDoorSbB
namespace Go.Proofs.YtkapaafbnbnpjaaGreatDoor
open Go.RowKit Go.Deep Go.Shelf Go.Sort Go.Proofs

def layCmp_ren : Go.Shelf.Ren := ⟨fun | 106 => 38 | 213 => 53 | 265 => 76 | n => n, fun | 9 => 9 | 3 => 3 | n => n, fun | n => n⟩
theorem layCmp : Go.Proofs.Lays.n106 Tryz.prog layCmp_ren := {
  mixed := by kernel_rfl,
  f106 := Tryz.func38.trans (congrArg some (by kernel_rfl)),
  f213 := Tryz.func53.trans (congrArg some (by kernel_rfl)),
  f265 := Tryz.func76.trans (congrArg some (by kernel_rfl)),
  t3 := Tryz.underlying3,
  a3 := Tryz.isAgg3,
  z3 := Tryz.sizeOf3,
  v3 := Tryz.zeroValue3,
  t9 := Tryz.underlying9,
  a9 := Tryz.isAgg9,
  z9 := Tryz.sizeOf9,
  v9 := Tryz.zeroValue9 }
def layIns_ren : Go.Shelf.Ren := ⟨fun | 20 => 74 | n => n, fun | 24 => 84 | 22 => 31 | 3 => 3 | 25 => 95 | 4 => 4 | 0 => 0 | n => n, fun | n => n⟩
theorem layIns : Go.Proofs.SlLaysF0.n20 Tryz.prog layIns_ren := {
  mixed := by kernel_rfl,
  f20 := ⟨Tryz.f74.name, by decide, Tryz.func74.trans (congrArg some (by kernel_rfl))⟩,
  t0 := Tryz.underlying0,
  a0 := Tryz.isAgg0,
  z0 := Tryz.sizeOf0,
  v0 := Tryz.zeroValue0,
  t3 := Tryz.underlying3,
  a3 := Tryz.isAgg3,
  z3 := Tryz.sizeOf3,
  v3 := Tryz.zeroValue3,
  t4 := Tryz.underlying4,
  a4 := Tryz.isAgg4,
  z4 := Tryz.sizeOf4,
  v4 := Tryz.zeroValue4,
  t22 := Tryz.underlying31,
  a22 := Tryz.isAgg31,
  z22 := Tryz.sizeOf31,
  v22 := Tryz.zeroValue31,
  t25 := Tryz.underlying95,
  a25 := Tryz.isAgg95,
  z25 := Tryz.sizeOf95,
  v25 := Tryz.zeroValue95 }

def cfI (x y : RawI) : Int := Lib.compareBytes x.1.data.toList y.1.data.toList
theorem sbclosure_any (x y : RawI) (w : World) : Calls Tryz.prog 37 #[.agg (encI x).toArray, .agg (encI y).toArray] w fun e w' => e = .returned (.int .i64 (cfI x y)) ∧ ∃ q os', w' = grow (w.drewN q) os' := by
  obtain ⟨sx, Ax, nx, cx⟩ := x
  obtain ⟨sy, Ay, ny, cy⟩ := y
  have hcon := fun W => Any.strings_Compare layCmp sx sy W
  unfold cfI
  generalize Lib.compareBytes sx.data.toList sy.data.toList = r at hcon ⊢
  show Calls Tryz.prog 37 #[.agg #[.string sx, .slice Ax nx cx], .agg #[.string sy, .slice Ay ny cy]] w _
  go_enter Tryz.func37, Tryz.ntmps37
  go_wp2_with (go_at_call 38; refine (hcon _).mono ?_; rintro e w' ⟨rfl, rfl⟩)
  go_ret
  exact ⟨rfl, 0, _, by rw [Go.Sort.alloc_eq_grow, Go.Sort.alloc_eq_grow, Go.Sort.grow_grow]; rfl⟩
theorem sbcmp (blk size : Nat) (w : World) : CmpLays Tryz.prog 37 #[] encI 2 cfI blk 0 size w := fun _ _ _ _ x y => sbclosure_any x y _

theorem Among.inner (lt : RawI → RawI → Bool) (a : Nat) : ∀ (j : Nat) (d : Array RawI), j < d.size → Among d (insInner lt a j d)
  | 0, d, _ => Among.refl d
  | j + 1, d, h => by
    rw [insInner]
    split
    · have h1 := Among.swp d h (show j < d.size by omega)
      exact h1.trans (Among.inner lt a j _ (by rw [size_swp]; omega))
    · exact Among.refl d
theorem Among.outer (lt : RawI → RawI → Bool) (a b : Nat) : ∀ (k i : Nat) (d : Array RawI), b - i ≤ k → b ≤ d.size → Among d (insOuter lt a b i d)
  | 0, i, d, h, _ => by
    rw [insOuter, if_neg (by omega)]
    exact Among.refl d
  | k + 1, i, d, h, hb => by
    rw [insOuter]
    split
    · have h1 := Among.inner lt a i d (by omega)
      exact h1.trans (Among.outer lt a b k (i + 1) _ (by omega) (by rw [h1.1]; exact hb))
    · exact Among.refl d

theorem insertion_any (blk cap a b : Nat) (d0 d : Array RawI) (w0 w : World) (R : RowK encI 2 w0 blk 0 d0) (hs : d.size = d0.size) (S : SWK encI 2 w0 blk 0 d w) (hab : a ≤ b) (hb : b ≤ d.size) (hsz : d.size ≤ 1000) :
    Calls Tryz.prog 74 #[.slice (some ⟨blk, 0, none⟩) d.size cap, .int .i64 a, .int .i64 b, .func (.func 37) #[] #[]] w fun e w' => e = .returned (.tuple #[]) ∧ ∃ d', Among d d' ∧ SWK encI 2 w0 blk 0 d' w' := by
  have c := AnyQ.insertionSortCmpFunc layIns 2 (fun w => Tryz.isAgg84 w) (fun w => Tryz.sizeOf84 w) encI encI_len encI_one cfI 37 #[] blk 0 cap a b d w (enters_of Tryz.func37 (by kernel_rfl) rfl) (sbcmp blk d.size w) (S.holds R.hblk R.hH hs) (S.lt R.hblk) hab hb (by omega)
  refine Calls.mono c ?_
  rintro e w' ⟨rfl, n, os, rfl⟩
  have hA : Among d (insertionSort (ltOf cfI) d a b) := Among.outer (ltOf cfI) a b (b - (a + 1)) (a + 1) d (by omega) hb
  exact ⟨rfl, _, hA, S.on R.hblk n _ os hA.1⟩
end Go.Proofs.YtkapaafbnbnpjaaGreatDoor
