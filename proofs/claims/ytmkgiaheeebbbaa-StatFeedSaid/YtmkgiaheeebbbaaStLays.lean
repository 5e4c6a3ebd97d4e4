/- Layer stat: maps.Keys and slices.Collect at this program, by the kit's contracts. No condition. -/
import Derived.Shelf.SlIterI.Nil
import Derived.Maps.OwnOps
import Derived.Test.YtmkgiaheeebbbaaBlk
namespace Go.Proofs.Ytmkgiaheeebbbaa
open Go.RowKit Go.Deep Go.Shelf Go.Maps

def layK_ren : Go.Shelf.Ren := ⟨fun | 7 => 26 | 10 => 33 | n => n, fun | 23 => 49 | 26 => 26 | 3 => 3 | 28 => 65 | 0 => 0 | 27 => 64 | 33 => 77 | 4 => 4 | n => n, fun | n => n⟩
theorem layK : Go.Proofs.SlLaysZI.n7 Try.prog layK_ren := {
  mixed := by kernel_rfl,
  f7 := ⟨Try.f26.name, by decide, Try.func26.trans (congrArg some (by kernel_rfl))⟩,
  f10 := ⟨Try.f33.name, by decide, Try.func33.trans (congrArg some (by kernel_rfl))⟩,
  t0 := Try.underlying0,
  a0 := Try.isAgg0,
  z0 := Try.sizeOf0,
  v0 := Try.zeroValue0,
  t4 := Try.underlying4,
  a4 := Try.isAgg4,
  z4 := Try.sizeOf4,
  v4 := Try.zeroValue4,
  t23 := Try.underlying49,
  a23 := Try.isAgg49,
  z23 := Try.sizeOf49,
  v23 := Try.zeroValue49,
  t26 := Try.underlying26,
  a26 := Try.isAgg26,
  z26 := Try.sizeOf26,
  v26 := Try.zeroValue26,
  t27 := Try.underlying64,
  a27 := Try.isAgg64,
  z27 := Try.sizeOf64,
  v27 := Try.zeroValue64,
  t28 := Try.underlying65,
  a28 := Try.isAgg65,
  z28 := Try.sizeOf65,
  v28 := Try.zeroValue65,
  t33 := Try.underlying77,
  a33 := Try.isAgg77,
  z33 := Try.sizeOf77,
  v33 := Try.zeroValue77 }
def layC_ren : Go.Shelf.Ren := ⟨fun | 8 => 31 | 11 => 35 | n => n, fun | 26 => 26 | 28 => 65 | 24 => 62 | 0 => 0 | 33 => 77 | 4 => 4 | n => n, fun | n => n⟩
theorem layC : Go.Proofs.SlLaysZI.n8 Try.prog layC_ren := {
  mixed := by kernel_rfl,
  f8 := ⟨Try.f31.name, by decide, Try.func31.trans (congrArg some (by kernel_rfl))⟩,
  f11 := ⟨Try.f35.name, by decide, Try.func35.trans (congrArg some (by kernel_rfl))⟩,
  t0 := Try.underlying0,
  a0 := Try.isAgg0,
  z0 := Try.sizeOf0,
  v0 := Try.zeroValue0,
  t24 := Try.underlying62,
  a24 := Try.isAgg62,
  z24 := Try.sizeOf62,
  v24 := Try.zeroValue62,
  t26 := Try.underlying26,
  a26 := Try.isAgg26,
  z26 := Try.sizeOf26,
  v26 := Try.zeroValue26,
  t28 := Try.underlying65,
  a28 := Try.isAgg65,
  z28 := Try.sizeOf65,
  v28 := Try.zeroValue65,
  i26 := by kernel_rfl }

theorem keyE : Keyed Try.prog 26 := int_keyed Try.underlying26
theorem keys_any (mb : Option Nat) (w : World) : Calls Try.prog 26 #[.map mb] w fun e w' =>
    e = .returned (.func (.func 33) #[] #[.pointer (some ⟨w.heap.size, 0, none⟩)]) ∧ w' = w.alloc (.cells #[.map mb] 49) :=
  (callsIn_wide (n := 5)).1 (AnyZI.keys_in layK Fence.wide 5 trivial rfl mb w)

theorem collect_any (b n : Nat) (D : DataW Unit) (w : World) (hown : w.ownsMap Try.prog 26 (plainElem Try.prog 3) b n D) (hs : Maps.size D ≤ 1000) (Bm : Nat) (hBm : Bm < w.heap.size) (hm : w.cell? ⟨Bm, 0, none⟩ = some (.map (some b))) :
    Calls Try.prog 31 #[.func (.func 33) #[] #[.pointer (some ⟨Bm, 0, none⟩)]] w fun e w' =>
      ∃ (v : Value) (ss : List Int), e = .returned v ∧ ss.Perm (intKeys D) ∧ w'.ownsRow w.heap.size 26 1 v ss.length (ss.map encZ) ∧ (v = .slice none 0 0 ↔ ss = []) ∧ Below w.heap.size w w' := by
  have hseq : SeqGives Fence.wide 3 Try.prog 33 #[.pointer (some ⟨Bm, 0, none⟩)] encZ (fun ss => ss.Perm (intKeys D)) (Maps.size D) w :=
    AnyZI.keys_gives (ρ := layK_ren) { layK with } Fence.wide _ trivial rfl (by omega) Bm b n D _ hBm hm hown
  exact (callsIn_wide (n := 5)).1 (AnyZI.collect_in layC Fence.wide 5 trivial trivial rfl (by omega) 33 #[.pointer (some ⟨Bm, 0, none⟩)] trivial
    (enters_of Try.func33 (by kernel_rfl) rfl) (fun ss => ss.Perm (intKeys D)) (Maps.size D) (by unfold maxLen; omega) (by omega) w hseq)
end Go.Proofs.Ytmkgiaheeebbbaa
