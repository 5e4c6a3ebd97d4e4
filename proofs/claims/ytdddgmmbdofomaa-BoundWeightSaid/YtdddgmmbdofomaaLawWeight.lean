/- BoundWeight: for every input the law returns true and leaves its arguments as they were. No condition. -/
import Derived.Test.YtdddgmmbdofomaaBoundD
import Derived.Test.YtdddgmmbdofomaaLaw
namespace Go.Proofs.Ytdddgmmbdofomaa
open Go.ChangeShapes Go.WideShapes Go.ChangeAt Go.RowKit Go.Deep

theorem walk_boundWeight (a : Int) (_wa : (Lit.int .i64 a).wf = true) (b : Int) (_wb : (Lit.int .i64 b).wf = true) (w : World) :
    Calls Try.prog 4 #[.int .i64 a, .int .i64 b] w fun e w' => e = .returned (.bool true) ∧ Below w.heap.size w w' := by
  have e1 : weightOf 1 0 = 6 := by decide
  have e2 : weightOf 0 1 = 21 := by decide
  have e3 : weightOf 38 3 = 291 := by decide
  have E1 := Lib.hid e1
  have E2 := Lib.hid e2
  have E3 := Lib.hid e3
  have e4 : (a < 0 ∨ b < 0 ∨ 1048576 < a ∨ 1048576 < b) → weightOf a b = 0 := fun h => if_pos h
  have e5 : ¬ (a < 0 ∨ b < 0 ∨ 1048576 < a ∨ 1048576 < b) → weightOf a b = 6 * a + 21 * b := fun h => if_neg h
  have E4 := Lib.hid e4
  have E5 := Lib.hid e5
  clear e1 e2 e3 e4 e5
  go_enter Try.func4, Try.ntmps4
  go_wp2_with fail
  refine Calls.mono (awake_any _) ?_
  rintro e w1 ⟨rfl, hb1⟩
  obtain ⟨hc1, hf1⟩ := bcell hb1
  have B1 : Below w.heap.size w w1 := bel_call (by go_grown) hb1
  have z1 := B1.size
  have y1 := hb1.size
  try simp at y1
  try have q1w0 : w.heap.size < w1.heap.size := by omega
  try have q1w1 : w.heap.size + 1 < w1.heap.size := by omega
  try have q1w2 : w.heap.size + 1 + 1 < w1.heap.size := by omega
  try have q1w3 : w.heap.size + 1 + 1 + 1 < w1.heap.size := by omega
  try have q1w4 : w.heap.size + 1 + 1 + 1 + 1 < w1.heap.size := by omega
  try have q1w5 : w.heap.size + 1 + 1 + 1 + 1 + 1 < w1.heap.size := by omega
  go_wp2_with fail
  refine Calls.mono (weight_any _ _ _) ?_
  rintro e w' ⟨rfl, rfl⟩
  rw [E1.out]
  go_wp2_with fail
  refine Calls.mono (weight_any _ _ _) ?_
  rintro e w' ⟨rfl, rfl⟩
  rw [E2.out]
  go_wp2_with fail
  refine Calls.mono (weight_any _ _ _) ?_
  rintro e w' ⟨rfl, rfl⟩
  rw [E3.out]
  go_wp2_with fail
  refine Calls.mono (weight_any _ _ _) ?_
  rintro e w' ⟨rfl, rfl⟩
  by_cases h1 : a < 0
  · rw [E4.out (.inl h1)]
    go_wp2
    go_ret
    exact ⟨rfl, B1⟩
  by_cases h2 : b < 0
  · rw [E4.out (.inr (.inl h2))]
    go_wp2
    go_ret
    exact ⟨rfl, B1⟩
  by_cases h3 : 1048576 < a
  · rw [E4.out (.inr (.inr (.inl h3)))]
    go_wp2
    go_ret
    exact ⟨rfl, B1⟩
  by_cases h4 : 1048576 < b
  · rw [E4.out (.inr (.inr (.inr h4)))]
    go_wp2
    go_ret
    exact ⟨rfl, B1⟩
  · rw [E5.out (by omega)]
    go_wp2
    go_ret
    exact ⟨by simp, B1⟩

set_option maxRecDepth 100000 in
theorem lifted_boundWeight (os : Os) (started : os.Started) (H : Type) (enc : TypeId × Value → H) :
    ReturnsInHanded {} Try.checked os 4 .any (Rows.boundWeightSpec.pre6 enc Try.prog Try.f4 Rows.boundWeightRow.domain false) (Rows.boundWeightSpec.post enc Try.prog Try.f4 false true false false) := by
  refine returnsInHanded_of_change (C := Try.checked) law_own started (by kernel_rfl) Try.func4
    (ChangeSpec.witness6 (enc := enc) (C := Try.checked) false ⟨#[], #[.int .i64 0, .int .i64 0], []⟩ 8 (by kernel_rfl) (by kernel_rfl) (by kernel_rfl) (by kernel_rfl)) ?_
  intro W base args ds gs before hval0 hW hcnd _
  have hval : ∀ (j : Nat) t v, Try.f4.params[j]? = some t → args[j]? = some v → Value.okWide Try.prog W .any base t v := hval0
  have hW' := hW
  obtain ⟨p, q, hA0, hV, rfl, hfz, hnd⟩ := hW
  have hA : DataW.TrodAll enc Try.prog W 0 (fun _ => true) true Try.f4.params.toList args.toList ds p := hA0
  rw [Try.params4] at hA hval
  obtain ⟨v0, vs0, d0, ds0, p0, q0, hargs, rfl, rfl, h0, r0⟩ := trodAll_cons hA
  obtain ⟨v1, vs1, d1, ds1, p1, q1, rfl, rfl, rfl, h1, r1⟩ := trodAll_cons r0
  obtain ⟨rfl, rfl, rfl⟩ := trodAll_nil r1
  obtain rfl : args = #[v0, v1] := by cases args; simp_all
  obtain ⟨rfl, rfl⟩ := trodVars_none hV
  clear hargs
  obtain ⟨a0, rfl, rfl, rfl, w0⟩ := open_int Try.underlying3 (hval 0 3 v0 rfl rfl) h0
  obtain ⟨a1, rfl, rfl, rfl, w1⟩ := open_int Try.underlying3 (hval 1 3 v1 rfl rfl) h1
  refine (walk_boundWeight a0 w0 a1 w1 W).mono fun e W' ⟨he, hg⟩ => ?_
  subst he
  exact ⟨_, rfl, law_post hW' rfl rfl rfl Try.underlying4 law_laid (by kernel_rfl) hg⟩

theorem boundWeight_holds : Rows.BoundWeightSaid :=
  OpenClaim.holds_of_wide 4 Try.f4 rfl rfl rfl rfl rfl rfl rfl ⟨rfl, rfl, rfl, rfl, rfl⟩ rfl rfl rfl rfl rfl (by kernel_rfl) Try.func4 (by kernel_rfl)
    (of_decide_eq_true (by kernel_rfl)) (by unfold Func.isWrapper; first | (rw [if_pos (by decide +kernel)]; kernel_rfl) | (rw [if_neg (by decide +kernel)]; exact ⟨rfl, rfl⟩))
    (fun os started H enc _ => lifted_boundWeight os started H enc)
end Go.Proofs.Ytdddgmmbdofomaa
