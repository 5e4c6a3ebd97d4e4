/- ShowTable: the chapter's example. No condition. -/
import Derived.Test.YtkapaafbnbnpjaaGreatDoorSwC
namespace Go.Proofs.YtkapaafbnbnpjaaGreatDoor
open Go.RowKit Go.Deep

theorem sl_strs {S : Nat → Prop} {W : World} {b : Nat} {T : TypeId} {l : List ByteArray} (hb : W.heap[b]? = some (.cells (l.map Value.string).toArray T (0, 0))) (hS : S b) (hl : l.length ≤ 1000) (hz : ∀ s ∈ l, s.size ≤ 140737488355328) :
    Sl 1 rStr S W (.slice (some ⟨b, 0, none⟩) l.length l.length) l := by
  refine Sl_of rfl (Nat.le_refl _) (by unfold maxLen; omega) (by omega) hS fun i x hx => ⟨[.string x], rfl, fun j y hj => ?_, rfl, hz x (List.mem_of_getElem? hx)⟩
  rcases j with _ | j
  · obtain rfl : Value.string x = y := by simpa using hj
    rw [cell_of_row W b _ _ T (0, 0) hb]
    simp [hx]
  · simp at hj

theorem sl_rows2 (w : World) (a b c d : ByteArray) (T1 T2 : TypeId) (ha : a.size ≤ 40) (hb : b.size ≤ 40) (hc : c.size ≤ 40) (hd : d.size ≤ 40) :
    Sl 1 rRow (fun _ => True) (((w.alloc (.cells #[.string a, .string b] T1)).alloc (.cells #[.string c, .string d] T1)).alloc (.cells #[.slice (some ⟨w.heap.size, 0, none⟩) 2 2, .slice (some ⟨w.heap.size + 1, 0, none⟩) 2 2] T2)) (.slice (some ⟨w.heap.size + 1 + 1, 0, none⟩) 2 2) [[a, b], [c, d]] := by
  generalize hW : ((w.alloc (.cells #[.string a, .string b] T1)).alloc (.cells #[.string c, .string d] T1)).alloc (.cells #[.slice (some ⟨w.heap.size, 0, none⟩) 2 2, .slice (some ⟨w.heap.size + 1, 0, none⟩) 2 2] T2) = W
  have h0 : W.heap[w.heap.size]? = some (.cells #[.string a, .string b] T1 (0, 0)) := by
    rw [← hW]
    exact blk_alloc_old _ (blk_alloc_old _ (heap_alloc_new w _))
  have h1 : W.heap[w.heap.size + 1]? = some (.cells #[.string c, .string d] T1 (0, 0)) := by
    rw [← hW]
    exact blk_alloc_old _ (blk_alloc_new _ (by simp))
  have h2 : W.heap[w.heap.size + 1 + 1]? = some (.cells #[.slice (some ⟨w.heap.size, 0, none⟩) 2 2, .slice (some ⟨w.heap.size + 1, 0, none⟩) 2 2] T2 (0, 0)) := by
    rw [← hW]
    exact blk_alloc_new _ (by simp)
  clear hW
  have s0 : Sl 1 rStr (fun _ => True) W (.slice (some ⟨w.heap.size, 0, none⟩) 2 2) [a, b] := sl_strs (l := [a, b]) h0 trivial (by simp) (fun s hs => by simp at hs; rcases hs with rfl | rfl <;> omega)
  have s1 : Sl 1 rStr (fun _ => True) W (.slice (some ⟨w.heap.size + 1, 0, none⟩) 2 2) [c, d] := sl_strs (l := [c, d]) h1 trivial (by simp) (fun s hs => by simp at hs; rcases hs with rfl | rfl <;> omega)
  refine Sl_of rfl (by decide) (by decide) (by decide) trivial fun i x hx => ?_
  rcases i with _ | _ | i
  · obtain rfl : [a, b] = x := by simpa using hx
    refine ⟨_, rfl, fun j y hj => ?_, _, rfl, s0⟩
    rcases j with _ | j
    · obtain rfl := Option.some.inj (show some _ = some y from hj)
      rw [cell_of_row W _ _ _ T2 (0, 0) h2]
      rfl
    · simp at hj
  · obtain rfl : [c, d] = x := by simpa using hx
    refine ⟨_, rfl, fun j y hj => ?_, _, rfl, s1⟩
    rcases j with _ | j
    · obtain rfl := Option.some.inj (show some _ = some y from hj)
      rw [cell_of_row W _ _ _ T2 (0, 0) h2]
      rfl
    · simp at hj
  · simp at hx

def awkRows : List (List ByteArray) := [[⟨#[97]⟩, ⟨#[98, 99, 100]⟩], [⟨#[101, 102, 103]⟩, ⟨#[104]⟩]]
def awkLines : List ByteArray := [⟨#[97, 32, 32, 32, 32, 98, 99, 100]⟩, ⟨#[101, 102, 103, 32, 32, 104]⟩]
theorem awk_ok : OkRows awkRows := ⟨by decide, fun r hr => by
  simp only [awkRows, List.mem_cons, List.mem_nil_iff, or_false] at hr
  rcases hr with rfl | rfl
  · exact ⟨by decide, fun s hs => by simp only [List.mem_cons, List.mem_nil_iff, or_false] at hs; rcases hs with rfl | rfl <;> decide⟩
  · exact ⟨by decide, fun s hs => by simp only [List.mem_cons, List.mem_nil_iff, or_false] at hs; rcases hs with rfl | rfl <;> decide⟩⟩
theorem awk_table : tableOf awkRows = awkLines := by kernel_rfl

theorem awake_any (w : World) : Calls Tryz.prog 4 #[] w fun e w' => e = .returned (.bool true) ∧ Below w.heap.size w w' := by
  have F4 : Hid (roleOf 4 = ⟨#[111, 119, 110, 101, 114]⟩) := rfl
  go_enter Tryz.func4, Tryz.ntmps4
  go_wp2_with fail
  refine Calls.mono (table_any awkRows awk_ok _ _ (fun _ => True) (sl_rows2 w _ _ _ _ _ _ (by decide) (by decide) (by decide) (by decide))) ?_
  rintro e w1 ⟨⟨u, rfl, SU⟩, B1⟩
  rw [awk_table] at SU
  have B2 : Below w.heap.size w w1 := bel_call (by go_grown) B1
  have hz := B2.size
  have SU1 := Lib.hid SU
  clear SU
  have Br := fun (W : World) (h : Below w1.heap.size w1 W) => role_any 4 W
  go_wp2_with fail
  refine Calls.mono (same_any awkLines awkLines _ _ _ (fun _ => True) (fun _ => True) (SU1.out.keep rStr_ok (by decide) (kept_of (by go_grown))) (sl_strs (l := awkLines) (heap_alloc_new w1 _) trivial (by decide) (fun s hs => by simp only [awkLines, List.mem_cons, List.mem_nil_iff, or_false] at hs; rcases hs with rfl | rfl <;> decide))) ?_
  rw [decide_eq_true rfl]
  rintro e w2 ⟨rfl, B3⟩
  have B4 : Below w.heap.size w w2 := bel_call (B2.alloc hz _) B3
  go_wp2_with (go_at_call 16; refine Calls.mono (role_any 4 _) ?_; rintro e w3 ⟨rfl, rfl⟩; rw [F4.out])
  go_ret
  exact ⟨rfl, B4⟩
end Go.Proofs.YtkapaafbnbnpjaaGreatDoor
