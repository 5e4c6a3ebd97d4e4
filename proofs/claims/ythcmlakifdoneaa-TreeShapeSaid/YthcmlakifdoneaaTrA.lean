/- Layer tree: is, Has, may, Parent. Conditions: the pointer leads to a tree; the texts are at most a thousand bytes long. -/
import Derived.Test.YthcmlakifdoneaaTrRel
import Derived.Laws.Cover3
import Derived.Deep.QuietTactic
import Derived.BigQuiet
namespace Go.Proofs.Ythcmlakifdoneaa
open Go.RowKit Go.Deep Go.Maps

theorem ret_bool {a b : Bool} (h : a = b) : Ending.returned (.bool a) = .returned (.bool b) := by rw [h]
theorem top_list : Top.toList = [] := by rw [Lib.toList_data]
theorem run_neq_mapT (w : World) (a : Nat) : (binOp .neq 47 (.map (some a)) (.map none)).run Try.prog w = .ok (.bool true) w := by
  simp only [binOp]
  simp [run_equal_map_nil w _ _ _ (some a) Try.underlying47]
theorem is_nil (w : World) : Calls Try.prog 29 #[.pointer none] w fun e w' => e = .returned (.bool false) ∧ w' = w := by
  go_enter Try.func29, Try.ntmps29
  go_wp2
  go_ret
  exact ⟨rfl, rfl⟩
theorem is_any {w : World} {t m n : Nat} {D : DataW Unit} {F : Fs} (h : TreeS w t m n D F) : Calls Try.prog 29 #[.pointer (some ⟨t, 0, none⟩)] w fun e w' => e = .returned (.bool true) ∧ w' = w := by
  obtain ⟨cb, fb⟩ := blk_cells h.cell
  have c0 := cb 0 _ rfl
  clear cb h
  have hq := run_neq_mapT
  go_enter Try.func29, Try.ntmps29
  go_wp2
  go_ret
  exact ⟨rfl, rfl⟩
theorem has_nil (s : Nm) (w : World) : Calls Try.prog 18 #[.pointer none, .string s] w fun e w' => e = .returned (.bool false) ∧ w' = w := by
  go_enter Try.func18, Try.ntmps18
  go_wp2_with (go_at_call 29; refine Calls.mono (is_nil _) ?_; rintro e w1 ⟨rfl, rfl⟩)
  go_ret
  exact ⟨rfl, rfl⟩
theorem has_any {w : World} {t m n : Nat} {D : DataW Unit} {F : Fs} (h : TreeS w t m n D F) (s : Nm) (hs : s.size ≤ 1000) : Calls Try.prog 18 #[.pointer (some ⟨t, 0, none⟩), .string s] w fun e w' => e = .returned (.bool (liveB F s)) ∧ Below w.heap.size w w' := by
  obtain ⟨cb, fb⟩ := blk_cells h.cell
  have c0 := cb 0 _ rfl
  clear cb
  have his := Lib.hid (is_any h)
  have HS := Lib.hid h
  have hkey := key_mk hs
  clear h
  go_enter Try.func18, Try.ntmps18
  go_wp2_with (first
    | (go_at_call 29; refine Calls.mono his.out ?_; rintro e w1 ⟨rfl, rfl⟩)
    | (at_lookup; refine wpList_look_node_ok _ rfl _ _ 47 rfl 9 51 keyN Try.underlying47 (zeroN _) m n D rfl HS.out.own _ _ rfl hkey ?_; intro c g hc; have HC := Lib.hid (HS.out.rel.look s hc).1; clear hc))
  all_goals
    go_ret
    exact ⟨ret_bool (by have := HC.out; simp_all), by go_grown⟩
/-- May a folder stand in it? -/
def mayB (F : Fs) (s : Nm) : Bool := decide (s = Top) || liveB F s
theorem may_any {w : World} {t m n : Nat} {D : DataW Unit} {F : Fs} (h : TreeS w t m n D F) (s : Nm) (hs : s.size ≤ 1000) : Calls Try.prog 30 #[.pointer (some ⟨t, 0, none⟩), .string s] w fun e w' => e = .returned (.bool (mayB F s)) ∧ Below w.heap.size w w' := by
  have hh := Lib.hid (has_any h s hs)
  clear h
  by_cases e : s = Top
  · subst e
    have e2 := Lib.hid (show mayB F Top = true by unfold mayB; rw [decide_eq_true rfl]; rfl)
    go_enter Try.func30, Try.ntmps30
    go_wp2
    go_ret
    exact ⟨ret_bool e2.out.symm, by go_grown⟩
  · have e1 : (s.toList == ByteArray.toList ⟨#[]⟩) = false := by
      rw [← Bool.not_eq_true, beq_iff_eq]
      exact fun h => e (toList_inj h)
    have e2 := Lib.hid (show mayB F s = liveB F s by unfold mayB; rw [decide_eq_false e]; rfl)
    have e3 : ¬ s.toList = [] := fun h => e (toList_inj (by rw [h, top_list]))
    go_enter Try.func30, Try.ntmps30
    go_wp2_with (go_at_call 18; refine Calls.mono hh.out ?_; rintro e w1 ⟨rfl, B1⟩)
    go_ret
    exact ⟨ret_bool (by rw [e2.out]; simp [e3]), B1⟩
/-- A name's parent, as it is told. -/
theorem parent_any {w : World} {t m n : Nat} {D : DataW Unit} {F : Fs} (h : TreeS w t m n D F) (s : Nm) (hs : s.size ≤ 1000) : Calls Try.prog 16 #[.pointer (some ⟨t, 0, none⟩), .string s] w fun e w' => e = .returned (.tuple #[.string (if liveB F s then parF F s else Top), .bool (liveB F s)]) ∧ Below w.heap.size w w' := by
  have hh := Lib.hid (has_any h s hs)
  have HS := Lib.hid h
  have hkey := key_mk hs
  clear h
  cases hl : liveB F s with
  | false =>
    have hl' := Lib.hid hl
    rw [hl] at hh
    clear hl
    go_enter Try.func16, Try.ntmps16
    go_wp2_with (go_at_call 18; refine Calls.mono hh.out ?_; rintro e w1 ⟨rfl, B1⟩)
    go_ret2
    exact ⟨rfl, B1⟩
  | true =>
    have hl' := Lib.hid hl
    rw [hl] at hh
    clear hl
    go_enter Try.func16, Try.ntmps16
    go_wp2_with fail
    refine Calls.mono hh.out ?_
    rintro e w1 ⟨rfl, B1⟩
    have HS1 := Lib.hid (HS.out.below B1)
    obtain ⟨cb, fb⟩ := blk_cells HS1.out.cell
    have c0 := cb 0 _ rfl
    have hfd := field_node
    clear cb
    go_wp2_with (at_lookup; refine wpList_look_node _ rfl _ _ 47 rfl 9 51 keyN Try.underlying47 (zeroN _) m n D rfl HS1.out.own _ _ rfl hkey ?_; intro c g hc; obtain rfl := (HS1.out.rel.look s hc).2 hl'.out; clear hc)
    go_ret2
    exact ⟨rfl, B1⟩
end Go.Proofs.Ythcmlakifdoneaa
