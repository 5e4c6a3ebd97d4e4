/- RoleStep: for every input the law returns true and leaves its arguments as they were. No condition. -/
import Derived.Test.YtanhholjfkofoaaRoleI
import Derived.Test.YtanhholjfkofoaaAwake
import Derived.Test.YtanhholjfkofoaaLaw
namespace Go.Proofs.Ytanhholjfkofoaa
open Go.ChangeShapes Go.WideShapes Go.ChangeAt Go.RowKit Go.Deep

set_option maxRecDepth 100000 in
set_option maxHeartbeats 4000000 in
theorem walk_roleStep (w : World) (was : List Member) (v : Value) (h : Sl 2 rMember (fun _ => True) w v was) (now : List Member) (u : Value) (k : Sl 2 rMember (fun _ => True) w u now) (by_ : ByteArray) (hby : by_.size ≤ 140737488355328) :
    Calls Try.prog 4 #[v, u, .string by_] w fun e w' => e = .returned (.bool true) ∧ Below w.heap.size w w' := by
  have B0 : Below w.heap.size w w := Below.refl _ _
  have cf1 : ∀ W, Below w.heap.size w W → Calls Try.prog 7 #[v] W fun e w' => e = .returned (.bool (fewOf was)) ∧ Below w.heap.size w w' := fun W hb => (few_any was v W _ (h.keep rMember_ok (by decide) (kept_of hb))).mono fun _ _ hh => ⟨hh.1, bel_call hb hh.2⟩
  have cf2 : ∀ W, Below w.heap.size w W → Calls Try.prog 7 #[u] W fun e w' => e = .returned (.bool (fewOf now)) ∧ Below w.heap.size w w' := fun W hb => (few_any now u W _ (k.keep rMember_ok (by decide) (kept_of hb))).mono fun _ _ hh => ⟨hh.1, bel_call hb hh.2⟩
  by_cases hf : fewOf was = true ∧ fewOf now = true
  · have h20 := few_true hf.1
    have h21 := few_true hf.2
    obtain ⟨sb, sq, hst⟩ : ∃ sb sq, stepOf was now by_ = (sb, sq) := ⟨_, _, rfl⟩
    have cs1 : ∀ W, Below w.heap.size w W → Calls Try.prog 21 #[v, u, .string by_] W fun e w' => e = .returned (.tuple #[.bool sb, .int .i64 sq]) ∧ Below w.heap.size w w' := fun W hb =>
      (step_any was now by_ v u W _ _ (h.keep rMember_ok (by decide) (kept_of hb)) (k.keep rMember_ok (by decide) (kept_of hb)) (by omega) (by omega)).mono fun _ _ ⟨⟨b, q, h1, h2⟩, h3⟩ => by
        rw [hst] at h2
        cases h2
        exact ⟨h1, bel_call hb h3⟩
    have cs2 : ∀ W, Below w.heap.size w W → Calls Try.prog 22 #[v, u, .string by_] W fun e w' => e = .returned (.tuple #[.bool sb, .int .i64 sq]) ∧ Below w.heap.size w w' := fun W hb =>
      (refstep_any was now by_ v u W _ _ (h.keep rMember_ok (by decide) (kept_of hb)) (k.keep rMember_ok (by decide) (kept_of hb)) (by omega) (by omega)).mono fun _ _ ⟨⟨b, q, h1, h2⟩, h3⟩ => by
        rw [hst] at h2
        cases h2
        exact ⟨h1, bel_call hb h3⟩
    rw [hf.1] at cf1
    rw [hf.2] at cf2
    clear h k hst hf
    go_enter Try.func4, Try.ntmps4
    go_wp2_with (first
      | (go_at_call 6; refine Calls.mono (awake_any _) ?_; rintro e w1 ⟨rfl, B1⟩)
      | (go_at_call_of 7 v; refine Calls.mono (cf1 _ (by assumption)) ?_; rintro e w2 ⟨rfl, B2⟩)
      | (go_at_call_of 7 u; refine Calls.mono (cf2 _ (by assumption)) ?_; rintro e w3 ⟨rfl, B3⟩)
      | (go_at_call 21; refine Calls.mono (cs1 _ (by assumption)) ?_; rintro e w4 ⟨rfl, B4⟩)
      | (go_at_call 22; refine Calls.mono (cs2 _ (by assumption)) ?_; rintro e w5 ⟨rfl, B5⟩))
    all_goals go_ret
    all_goals exact ⟨rfl, by assumption⟩
  · obtain ⟨f1, hf1⟩ : ∃ f1, f1 = fewOf was := ⟨_, rfl⟩
    obtain ⟨f2, hf2⟩ : ∃ f2, f2 = fewOf now := ⟨_, rfl⟩
    rw [← hf1] at cf1 hf
    rw [← hf2] at cf2 hf
    clear h k hf1 hf2
    go_enter Try.func4, Try.ntmps4
    go_wp2_with (first
      | (go_at_call 6; refine Calls.mono (awake_any _) ?_; rintro e w1 ⟨rfl, B1⟩)
      | (go_at_call_of 7 v; refine Calls.mono (cf1 _ (by assumption)) ?_; rintro e w2 ⟨rfl, B2⟩)
      | (go_at_call_of 7 u; refine Calls.mono (cf2 _ (by assumption)) ?_; rintro e w3 ⟨rfl, B3⟩)
      | (go_at_call 21; exfalso; simp_all))
    all_goals go_ret
    all_goals exact ⟨rfl, by assumption⟩

set_option maxRecDepth 100000 in
theorem lifted_roleStep (os : Os) (started : os.Started) (H : Type) (enc : TypeId × Value → H) :
    ReturnsInHanded {} Try.checked os 4 .any (Rows.roleStepSpec.pre6 enc Try.prog Try.f4 Rows.roleStepRow.domain false) (Rows.roleStepSpec.post enc Try.prog Try.f4 false true false false) := by
  refine returnsInHanded_of_change_sized (C := Try.checked) law_own started (by kernel_rfl) Try.func4
    (ChangeSpec.witness6 (enc := enc) (C := Try.checked) false ⟨#[], #[.slice none 0 0, .slice none 0 0, .string ⟨#[]⟩], []⟩ 8 (by kernel_rfl) (by kernel_rfl) (by kernel_rfl) (by kernel_rfl)) ?_
  intro W base args ds gs before hval0 hW hcnd hsz0 _
  have hval : ∀ (j : Nat) t v, Try.f4.params[j]? = some t → args[j]? = some v → Value.okWide Try.prog W .any base t v := hval0
  have hW' := hW
  obtain ⟨p, q, hA0, hV, rfl, hfz, hnd⟩ := hW
  have hA : DataW.TrodAll enc Try.prog W 0 (fun _ => true) true Try.f4.params.toList args.toList ds p := hA0
  rw [Try.params4] at hA hval
  obtain ⟨v0, vs0, d0, ds0, p0, q0, hargs, rfl, rfl, h0, r0⟩ := trodAll_cons hA
  obtain ⟨v1, vs1, d1, ds1, p1, q1, rfl, rfl, rfl, h1, r1⟩ := trodAll_cons r0
  obtain ⟨v2, vs2, d2, ds2, p2, q2, rfl, rfl, rfl, h2, r2⟩ := trodAll_cons r1
  obtain ⟨rfl, rfl, rfl⟩ := trodAll_nil r2
  obtain rfl : args = #[v0, v1, v2] := by cases args; simp_all
  obtain ⟨rfl, rfl⟩ := trodVars_none hV
  clear hargs
  obtain ⟨fu0, hf0⟩ := h0
  obtain ⟨a0, hx0⟩ := rdv_sl Try.underlying22 (rd_slice Try.underlying22 (by kernel_rfl) (of_decide_eq_true (by kernel_rfl)) (by decide) rdMember (rMember_ok).len) (hval 0 22 v0 rfl rfl) hf0 (fun q hq => by simpa using List.all_eq_true.1 hsz0 q (DataW.weights_mem_each (j := 0) rfl rfl q hq))
  obtain ⟨fu1, hf1⟩ := h1
  obtain ⟨a1, hx1⟩ := rdv_sl Try.underlying22 (rd_slice Try.underlying22 (by kernel_rfl) (of_decide_eq_true (by kernel_rfl)) (by decide) rdMember (rMember_ok).len) (hval 1 22 v1 rfl rfl) hf1 (fun q hq => by simpa using List.all_eq_true.1 hsz0 q (DataW.weights_mem_each (j := 1) rfl rfl q hq))
  obtain ⟨fu2, hf2⟩ := h2
  obtain ⟨a2, rfl, w2⟩ := rdv_str Try.underlying9 (hval 2 9 v2 rfl rfl) hf2 (fun q hq => by simpa using List.all_eq_true.1 hsz0 q (DataW.weights_mem_each (j := 2) rfl rfl q hq))
  refine (walk_roleStep W a0 _ hx0 a1 _ hx1 a2 w2).mono fun e W' ⟨he, hg⟩ => ?_
  subst he
  exact ⟨_, rfl, law_post hW' rfl rfl rfl Try.underlying4 law_laid (by kernel_rfl) hg⟩

theorem roleStep_holds : Rows.RoleStepSaid :=
  OpenClaim.holds_of_wide 4 Try.f4 rfl rfl rfl rfl rfl rfl rfl ⟨rfl, rfl, rfl, rfl, rfl⟩ rfl rfl rfl rfl rfl (by kernel_rfl) Try.func4 (by kernel_rfl)
    (of_decide_eq_true (by kernel_rfl)) (by unfold Func.isWrapper; first | (rw [if_pos (by decide +kernel)]; kernel_rfl) | (rw [if_neg (by decide +kernel)]; exact ⟨rfl, rfl⟩))
    (fun os started H enc _ => lifted_roleStep os started H enc)
end Go.Proofs.Ytanhholjfkofoaa
