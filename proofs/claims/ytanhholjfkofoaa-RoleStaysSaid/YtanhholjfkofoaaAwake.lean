/- Layer role: the chapter's example. No condition. -/
import Derived.Test.YtanhholjfkofoaaRoleG
import Derived.Test.YtanhholjfkofoaaArgs
namespace Go.Proofs.Ytanhholjfkofoaa
open Go.RowKit Go.Deep

def tA : ByteArray := ⟨#[97]⟩
def tB : ByteArray := ⟨#[98]⟩
theorem tAB : tA ≠ tB := by decide
theorem share_awake : shareD [⟨tA, 4⟩] tA tB 2 = 0 ∧ shareL [⟨tA, 4⟩] tA tB 2 = [⟨tA, 4⟩, ⟨tB, 2⟩] := by
  have h1 : RightL [⟨tA, 4⟩] := ⟨fun m hm => by simp at hm; subst hm; exact ⟨by decide, by decide⟩, by simp, by decide, by decide⟩
  have h2 : eqS tA tA = true := eqS_iff.2 rfl
  have h3 : eqS tA tB = false := eqS_false.2 tAB
  have h4 : shareD [⟨tA, 4⟩] tA tB 2 = 0 := by
    unfold shareD
    rw [(right_iff _).2 h1, show nameOk tB = true by decide, show isOf 2 = true by decide]
    simp [shareE, ofOf, h2, h3]
  refine ⟨h4, ?_⟩
  unfold shareL
  rw [if_pos h4]
  have h5 : leS tB tA = false := by unfold leS ltS; rw [eqS_false.2 tAB.symm, Lib.toList_data, Lib.toList_data]; decide
  simp [withOf, withR, h3, h5]

theorem slat_members {W : World} {T : TypeId} (ms : List Member) (h : ∀ m ∈ ms, m.name.size ≤ 140737488355328 ∧ I64 m.role) : SlAt 2 rMember (fun _ => True) (W.alloc (.cells (ms.flatMap encM).toArray T)) (some ⟨W.heap.size, 0, none⟩) ms := by
  intro i x hi
  refine ⟨W.heap.size, 0, encM x, rfl, trivial, rfl, fun j y hj => ?_, rfl, h x (List.mem_of_getElem? hi)⟩
  have hj2 : j < 2 := (List.getElem?_eq_some_iff.1 hj).1
  rw [cell_of_row _ W.heap.size _ _ T (0, 0) (heap_alloc_new W _), Nat.zero_add]
  have := cellsM_at ms i j x hi hj2
  unfold cellsM at this
  simp only [List.getElem?_toArray]
  rw [this, hj]
theorem sl_members {W : World} {T : TypeId} (ms : List Member) (n : Nat) (hn : ms.length = n) (h : ∀ m ∈ ms, m.name.size ≤ 140737488355328 ∧ I64 m.role) (hs : n ≤ 1000) (cs : Array Value) (hc : cs = (ms.flatMap encM).toArray) :
    Sl 2 rMember (fun _ => True) (W.alloc (.cells cs T)) (.slice (some ⟨W.heap.size, 0, none⟩) n n) ms := by
  subst hn hc
  exact ⟨_, _, rfl, Nat.le_refl _, by unfold maxLen; omega, by omega, slat_members ms h⟩

theorem awake_any (w : World) : Calls Try.prog 6 #[] w fun e w' => e = .returned (.bool true) ∧ Below w.heap.size w w' := by
  obtain ⟨hk, hL⟩ := share_awake
  have cs : ∀ (W : World) (T : TypeId), Calls Try.prog 9 #[.slice (some ⟨W.heap.size, 0, none⟩) 1 1, .string tA, .string tB, .int .i64 2] (W.alloc (.cells #[.string tA, .int .i64 4] T)) (Gives (W.alloc (.cells #[.string tA, .int .i64 4] T)) [⟨tA, 4⟩, ⟨tB, 2⟩] 0) := fun W T => by
    have := share_doc [⟨tA, 4⟩] tA tB 2 (by decide) (by unfold I64; decide) _ (W.alloc (.cells #[.string tA, .int .i64 4] T)) _ (sl_members [⟨tA, 4⟩] 1 rfl (by intro m hm; simp at hm; subst hm; unfold I64; exact ⟨by decide, by decide⟩) (by decide) _ rfl) (by decide)
    rw [hk, hL] at this
    exact this
  unfold tA tB at cs
  go_enter Try.func6, Try.ntmps6
  go_wp2_with (first
    | (go_at_call 9; refine Calls.mono (cs _ _) ?_; rintro e w1 ⟨⟨A1, c1, rfl, s1⟩, b1⟩; have B1 : Below w.heap.size w w1 := bel_call (Below.alloc (Below.refl _ _) (Nat.le_refl _) _) b1)
    | (go_at_call 17; refine Calls.mono (refsame_any [⟨tA, 4⟩, ⟨tB, 2⟩] [⟨tA, 4⟩, ⟨tB, 2⟩] _ _ _ _ _ (s1.keep rMember_ok (by decide) (kept_of (by go_grown))) (sl_members _ 2 rfl (by intro m hm; simp at hm; rcases hm with rfl | rfl <;> (unfold I64; exact ⟨by decide, by decide⟩)) (by decide) _ rfl)) ?_; rintro e w2 ⟨rfl, b2⟩; rw [sameOf_refl]; have B2 : Below w.heap.size w w2 := bel_call (B1.alloc B1.size _) b2))
  go_ret
  exact ⟨rfl, B2⟩
end Go.Proofs.Ytanhholjfkofoaa
