/- Layer stat: the chapter's example. No condition. -/
import Derived.Test.YtalhilelbebfbaaDoorStCounts
import Derived.Test.YtalhilelbebfbaaDoorStSame
namespace Go.Proofs.YtalhilelbebfbaaDoor
open Go.ChangeShapes Go.WideShapes Go.ChangeAt Go.RowKit Go.Deep Go.Maps

theorem awk_counts : IsCounts (cntOf [0, 40, 0]) (· ∈ ([0, 40, 0] : List Int)) [⟨0, 2⟩, ⟨40, 1⟩] :=
  ⟨[0, 40], rfl, by decide, fun e => by simp only [List.mem_cons, List.not_mem_nil, or_false]; omega⟩

set_option maxRecDepth 100000 in
theorem awake_any (w : World) : Calls Tryd.prog 4 #[] w fun e w' => e = .returned (.bool true) ∧ Below w.heap.size w w' := by
  go_enter Tryd.func4, Tryd.ntmps4
  go_wp2_with fail
  obtain ⟨W1, hW1, c1, f1, B1, q1⟩ := boxed w #[.int .i64 0, .int .i64 0, .string ⟨#[]⟩, .slice none 0 0, .slice none 0 0, .slice none 0 0, .slice none 0 0, .int .i64 40, .int .i64 0, .string ⟨#[]⟩, .slice none 0 0, .slice none 0 0, .slice none 0 0, .slice none 0 0, .int .i64 0, .int .i64 0, .string ⟨#[]⟩, .slice none 0 0, .slice none 0 0, .slice none 0 0, .slice none 0 0] 34
  rw [hW1]
  have hsl : Sl 7 rAns (fun _ => True) W1 (.slice (some ⟨w.heap.size, 0, none⟩) 3 3) [0, 40, 0] := by
    refine Sl_of rfl (by decide) (by decide) (by decide) trivial fun i x hx => ?_
    rcases i with _ | _ | _ | i
    · obtain rfl : (0 : Int) = x := by simpa using hx
      refine ⟨_, rfl, fun j y hj => ?_, ⟨0, ⟨#[]⟩, none, none, none, none, 0, 0, 0, 0, 0, 0, 0, 0, rfl, ⟨by decide, by decide⟩⟩⟩
      have hj7 := (List.getElem?_eq_some_iff.1 hj).1
      refine c1 _ _ ?_
      rcases (show j = 0 ∨ j = 1 ∨ j = 2 ∨ j = 3 ∨ j = 4 ∨ j = 5 ∨ j = 6 by simp at hj7; omega) with rfl | rfl | rfl | rfl | rfl | rfl | rfl <;> exact hj
    · obtain rfl : (40 : Int) = x := by simpa using hx
      refine ⟨_, rfl, fun j y hj => ?_, ⟨0, ⟨#[]⟩, none, none, none, none, 0, 0, 0, 0, 0, 0, 0, 0, rfl, ⟨by decide, by decide⟩⟩⟩
      have hj7 := (List.getElem?_eq_some_iff.1 hj).1
      refine c1 _ _ ?_
      rcases (show j = 0 ∨ j = 1 ∨ j = 2 ∨ j = 3 ∨ j = 4 ∨ j = 5 ∨ j = 6 by simp at hj7; omega) with rfl | rfl | rfl | rfl | rfl | rfl | rfl <;> exact hj
    · obtain rfl : (0 : Int) = x := by simpa using hx
      refine ⟨_, rfl, fun j y hj => ?_, ⟨0, ⟨#[]⟩, none, none, none, none, 0, 0, 0, 0, 0, 0, 0, 0, rfl, ⟨by decide, by decide⟩⟩⟩
      have hj7 := (List.getElem?_eq_some_iff.1 hj).1
      refine c1 _ _ ?_
      rcases (show j = 0 ∨ j = 1 ∨ j = 2 ∨ j = 3 ∨ j = 4 ∨ j = 5 ∨ j = 6 by simp at hj7; omega) with rfl | rfl | rfl | rfl | rfl | rfl | rfl <;> exact hj
    · simp at hx
  refine Calls.mono (counts_any [0, 40, 0] (by decide) _ W1 _ hsl) ?_
  rintro e w2 ⟨⟨u, R, rfl, SU, IC⟩, B2⟩
  obtain rfl : R = [⟨0, 2⟩, ⟨40, 1⟩] := IC.ext awk_counts (fun _ => Iff.rfl) fun _ _ => rfl
  clear IC hsl c1 f1 hW1
  have B12 := bel_call B1 B2
  have hz := B12.size
  have SU' := Lib.hid SU
  clear SU
  go_wp2_with fail
  obtain ⟨W3, hW3, c3, f3, B3, q3⟩ := boxed w2 #[.int .i64 0, .int .i64 2, .int .i64 40, .int .i64 1] 44
  rw [hW3]
  have hsl3 : Sl 2 rCount (fun _ => True) W3 (.slice (some ⟨w2.heap.size, 0, none⟩) 2 2) [⟨0, 2⟩, ⟨40, 1⟩] := by
    refine Sl_of rfl (by decide) (by decide) (by decide) trivial fun i x hx => ?_
    rcases i with _ | _ | i
    · obtain rfl : (⟨0, 2⟩ : Count) = x := by simpa using hx
      refine ⟨_, rfl, fun j y hj => ?_, ⟨rfl, ⟨by decide, by decide⟩, ⟨by decide, by decide⟩⟩⟩
      have hj7 := (List.getElem?_eq_some_iff.1 hj).1
      refine c3 _ _ ?_
      rcases (show j = 0 ∨ j = 1 by simp at hj7; omega) with rfl | rfl <;> exact hj
    · obtain rfl : (⟨40, 1⟩ : Count) = x := by simpa using hx
      refine ⟨_, rfl, fun j y hj => ?_, ⟨rfl, ⟨by decide, by decide⟩, ⟨by decide, by decide⟩⟩⟩
      have hj7 := (List.getElem?_eq_some_iff.1 hj).1
      refine c3 _ _ ?_
      rcases (show j = 0 ∨ j = 1 by simp at hj7; omega) with rfl | rfl <;> exact hj
    · simp at hx
  refine Calls.mono (same_any _ _ _ _ W3 (fun _ => True) (fun _ => True) (SU'.out.keep rCount_ok (by decide) (kept_of B3)) hsl3 rfl) ?_
  rintro e w4 ⟨rfl, B4⟩
  clear hsl3 c3 f3 hW3
  go_wp2
  go_ret
  exact ⟨rfl, bel_call B12 (bel_call B3 B4)⟩

end Go.Proofs.YtalhilelbebfbaaDoor
