/- Layer vault's Few: calls that are few and short. No condition. -/
import Derived.Test.YtalhilelbebfbaaDoorCaC
namespace Go.Proofs.YtalhilelbebfbaaDoor
open Go.RowKit Go.Deep

def fewC (x : Call) : Bool := decide (x.user.size ≤ 20) && decide (x.folder.size ≤ 20) && decide (x.name.size ≤ 20) && decide (x.other.size ≤ 20) && decide (x.dlen ≤ 600)
def fewL (l : List Call) : Bool := l.all fewC && decide (l.length ≤ 40)
theorem fewC_iff {x : Call} : fewC x = true ↔ x.user.size ≤ 20 ∧ x.folder.size ≤ 20 ∧ x.name.size ≤ 20 ∧ x.other.size ≤ 20 ∧ x.dlen ≤ 600 := by
  unfold fewC
  simp only [Bool.and_eq_true, decide_eq_true_eq, and_assoc]
set_option maxHeartbeats 1000000 in
theorem few_any (l : List Call) (v : Value) (w : World) (S : Nat → Prop) (h : Sl 8 rCall S w v l) :
    Calls Tryd.prog 5 #[v] w fun e w' => e = .returned (.bool (fewL l)) ∧ Below w.heap.size w w' := by
  obtain ⟨A, c, rfl, hl, hc, hn, hs⟩ := h
  unfold maxLen at hc
  go_enter Tryd.func5, Tryd.ntmps5
  go_wp2
  go_loopw [7] (fun i wr => ∃ (k : Nat), k ≤ l.length ∧ i = .int .i64 k ∧ Hid (∀ y ∈ l.take k, fewC y = true) ∧ Below w.heap.size w wr) (fun i _ => l.length - (RowKit.intOf i).toNat)
  case atStart => exact ⟨0, by omega, by go_num, (fun y hy => by simp at hy), by go_grown⟩
  case round =>
    obtain ⟨k, hk, rfl, HN, hbel⟩ := hrel
    have hz := hbel.size
    by_cases hlt : k < l.length
    · obtain ⟨x, b, o, A7, c7, hx, hm, rfl, hb, x0, x1, x2, x3, x4, x5, x6, x7, _, _, _, _⟩ := get_Call hs hlt (kept_of hbel)
      cases hf : fewC x with
      | true =>
        obtain ⟨f1, f2, f3, f4, f5⟩ := fewC_iff.1 hf
        have d1 : decide ((20 : Int) < (x.user.size : Int)) = false := decide_eq_false (by omega)
        have d2 : decide ((20 : Int) < (x.folder.size : Int)) = false := decide_eq_false (by omega)
        have d3 : decide ((20 : Int) < (x.name.size : Int)) = false := decide_eq_false (by omega)
        have d4 : decide ((20 : Int) < (x.other.size : Int)) = false := decide_eq_false (by omega)
        have d5 : decide ((600 : Int) < (x.dlen : Int)) = false := decide_eq_false (by omega)
        have HN2 := Lib.hid (show ∀ y ∈ l.take (k + 1), fewC y = true by
          rw [List.take_add_one, hx]
          intro y hy
          rcases List.mem_append.1 hy with hy | hy
          · exact HN.out y hy
          · obtain rfl : y = x := by simpa using hy
            exact hf)
        clear hx hm hf f1 f2 f3 f4 f5
        go_wp2
        go_roundw
        case rel => exact ⟨k + 1, by omega, by go_num, HN2, by go_grown⟩
        case measure => simp [RowKit.intOf]; omega
      | false =>
        have HF := Lib.hid (show fewL l = false by
          unfold fewL
          rw [Bool.and_eq_false_iff]
          exact .inl (List.all_eq_false.2 ⟨x, hm, by rw [hf]; decide⟩))
        have HX := Lib.hid (show ¬ (x.user.size ≤ 20 ∧ x.folder.size ≤ 20 ∧ x.name.size ≤ 20 ∧ x.other.size ≤ 20 ∧ x.dlen ≤ 600) from fun h => by rw [fewC_iff.2 h] at hf; cases hf)
        clear hx hm hf
        go_wp2
        all_goals first
          | (go_ret; exact ⟨ret_bool HF.out.symm, by go_grown⟩)
          | (exfalso; have hX := HX.out; simp_all; omega)
    · obtain rfl : k = l.length := by omega
      have HF := Lib.hid (show fewL l = decide ((l.length : Int) ≤ 40) by
        have h1 := HN.out
        rw [List.take_length] at h1
        unfold fewL
        rw [List.all_eq_true.2 h1, Bool.true_and]
        exact decide_eq_decide.2 (by omega))
      go_wp2
      go_ret
      exact ⟨ret_bool HF.out.symm, hbel⟩
end Go.Proofs.YtalhilelbebfbaaDoor
