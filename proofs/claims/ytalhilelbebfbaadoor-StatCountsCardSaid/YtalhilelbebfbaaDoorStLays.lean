/- Layer stat: maps.Keys and slices.Collect at this program, by the kit's contracts. No condition. -/
import Derived.Shelf.SlIterI.Nil
import Derived.Maps.OwnOps
import Derived.Test.YtalhilelbebfbaaDoorBlk
namespace Go.Proofs.YtalhilelbebfbaaDoor
open Go.RowKit Go.Deep Go.Shelf Go.Maps

def layK_ren : Go.Shelf.Ren := ⟨fun | 7 => 27 | 10 => 42 | n => n, fun | 23 => 47 | 26 => 28 | 3 => 3 | 28 => 63 | 0 => 0 | 27 => 62 | 33 => 76 | 4 => 4 | n => n, fun | n => n⟩
theorem layK : Go.Proofs.SlLaysZI.n7 Tryd.prog layK_ren := {
  mixed := by kernel_rfl,
  f7 := ⟨Tryd.f27.name, by decide, Tryd.func27.trans (congrArg some (by kernel_rfl))⟩,
  f10 := ⟨Tryd.f42.name, by decide, Tryd.func42.trans (congrArg some (by kernel_rfl))⟩,
  t0 := Tryd.underlying0,
  a0 := Tryd.isAgg0,
  z0 := Tryd.sizeOf0,
  v0 := Tryd.zeroValue0,
  t4 := Tryd.underlying4,
  a4 := Tryd.isAgg4,
  z4 := Tryd.sizeOf4,
  v4 := Tryd.zeroValue4,
  t23 := Tryd.underlying47,
  a23 := Tryd.isAgg47,
  z23 := Tryd.sizeOf47,
  v23 := Tryd.zeroValue47,
  t26 := Tryd.underlying28,
  a26 := Tryd.isAgg28,
  z26 := Tryd.sizeOf28,
  v26 := Tryd.zeroValue28,
  t27 := Tryd.underlying62,
  a27 := Tryd.isAgg62,
  z27 := Tryd.sizeOf62,
  v27 := Tryd.zeroValue62,
  t28 := Tryd.underlying63,
  a28 := Tryd.isAgg63,
  z28 := Tryd.sizeOf63,
  v28 := Tryd.zeroValue63,
  t33 := Tryd.underlying76,
  a33 := Tryd.isAgg76,
  z33 := Tryd.sizeOf76,
  v33 := Tryd.zeroValue76 }
def layC_ren : Go.Shelf.Ren := ⟨fun | 8 => 40 | 11 => 47 | n => n, fun | 26 => 28 | 28 => 63 | 24 => 60 | 0 => 0 | 33 => 76 | 4 => 4 | n => n, fun | n => n⟩
theorem layC : Go.Proofs.SlLaysZI.n8 Tryd.prog layC_ren := {
  mixed := by kernel_rfl,
  f8 := ⟨Tryd.f40.name, by decide, Tryd.func40.trans (congrArg some (by kernel_rfl))⟩,
  f11 := ⟨Tryd.f47.name, by decide, Tryd.func47.trans (congrArg some (by kernel_rfl))⟩,
  t0 := Tryd.underlying0,
  a0 := Tryd.isAgg0,
  z0 := Tryd.sizeOf0,
  v0 := Tryd.zeroValue0,
  t24 := Tryd.underlying60,
  a24 := Tryd.isAgg60,
  z24 := Tryd.sizeOf60,
  v24 := Tryd.zeroValue60,
  t26 := Tryd.underlying28,
  a26 := Tryd.isAgg28,
  z26 := Tryd.sizeOf28,
  v26 := Tryd.zeroValue28,
  t28 := Tryd.underlying63,
  a28 := Tryd.isAgg63,
  z28 := Tryd.sizeOf63,
  v28 := Tryd.zeroValue63,
  i26 := by kernel_rfl }

theorem keyE : Keyed Tryd.prog 28 := int_keyed Tryd.underlying28
theorem keys_any (mb : Option Nat) (w : World) : Calls Tryd.prog 27 #[.map mb] w fun e w' =>
    e = .returned (.func (.func 42) #[] #[.pointer (some ⟨w.heap.size, 0, none⟩)]) ∧ w' = w.alloc (.cells #[.map mb] 47) :=
  (callsIn_wide (n := 5)).1 (AnyZI.keys_in layK Fence.wide 5 trivial rfl mb w)

theorem collect_any (b n : Nat) (D : DataW Unit) (w : World) (hown : w.ownsMap Tryd.prog 28 (plainElem Tryd.prog 3) b n D) (hs : Maps.size D ≤ 1000) (Bm : Nat) (hBm : Bm < w.heap.size) (hm : w.cell? ⟨Bm, 0, none⟩ = some (.map (some b))) :
    Calls Tryd.prog 40 #[.func (.func 42) #[] #[.pointer (some ⟨Bm, 0, none⟩)]] w fun e w' =>
      ∃ (v : Value) (ss : List Int), e = .returned v ∧ ss.Perm (intKeys D) ∧ w'.ownsRow w.heap.size 28 1 v ss.length (ss.map encZ) ∧ (v = .slice none 0 0 ↔ ss = []) ∧ Below w.heap.size w w' := by
  have hseq : SeqGives Fence.wide 3 Tryd.prog 42 #[.pointer (some ⟨Bm, 0, none⟩)] encZ (fun ss => ss.Perm (intKeys D)) (Maps.size D) w :=
    AnyZI.keys_gives (ρ := layK_ren) { layK with } Fence.wide _ trivial rfl (by omega) Bm b n D _ hBm hm hown
  exact (callsIn_wide (n := 5)).1 (AnyZI.collect_in layC Fence.wide 5 trivial trivial rfl (by omega) 42 #[.pointer (some ⟨Bm, 0, none⟩)] trivial
    (enters_of Tryd.func42 (by kernel_rfl) rfl) (fun ss => ss.Perm (intKeys D)) (Maps.size D) (by unfold maxLen; omega) (by omega) w hseq)
end Go.Proofs.YtalhilelbebfbaaDoor
