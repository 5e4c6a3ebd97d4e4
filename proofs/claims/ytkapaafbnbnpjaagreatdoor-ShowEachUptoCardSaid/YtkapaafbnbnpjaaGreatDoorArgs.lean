/- Arguments of a law: what a text, a slice, an array of texts that came in reads as. No condition but that each is within a row's reach. -/
import Derived.Test.YtkapaafbnbnpjaaGreatDoorApi
import Derived.OpenShut
namespace Go.Proofs.YtkapaafbnbnpjaaGreatDoor
open Go.RowKit Go.Deep Go.ChangeShapes Go.WideShapes

section
variable {H : Type} {enc : TypeId × Value → H} {P : Program} {w : World} {base : Nat} {spare : Nat → Bool} {held : Bool} {fuel : Nat} {t : TypeId} {v : Value} {x : DataW H × List MemPlace} {r : Reach} {b0 : Nat}
theorem rdv_str (ht : P.underlying t = some .string) (hval : Value.okWide P w r b0 t v) (hf : DataW.trod enc P w base spare held fuel t v.cells.toList = some x) (hz : Sized P t x.1) : ∃ s, v = .string s ∧ s.size ≤ 140737488355328 := by
  obtain ⟨s, rfl⟩ := okWide_string ht hval
  obtain ⟨a, e, h⟩ := rd1_str ht (v := .string s) hf hz
  exact ⟨a, e, h⟩
theorem rdv_sl {α : Type} {e : TypeId} {sz : Nat} {R : Rp α} (ht : P.underlying t = some (.slice e)) (hR : Rd P w t (rSl sz R)) (hval : Value.okWide P w r b0 t v) (hf : DataW.trod enc P w base spare held fuel t v.cells.toList = some x) (hz : Sized P t x.1) : ∃ l, Sl sz R (fun _ => True) w v l := by
  obtain ⟨A, n, c, rfl⟩ := okWide_slice ht hval
  exact rd1_sl hR (v := .slice A n c) hf hz
theorem okWide_array {e : TypeId} {n : Nat} (ht : P.underlying t = some (.array n e)) (h : Value.okWide P w r b0 t v) : ∃ cs, v = .agg cs := by
  simp only [Value.okWide, ht] at h
  obtain ⟨cs, h1, _⟩ := h
  exact ⟨cs, h1⟩
theorem rdv_arr2 {e : TypeId} (ht : P.underlying t = some (.array 2 e)) (he : P.underlying e = some .string) (hce : P.cellsOf e = 1) (hct : P.cellsOf t = 2) (hval : Value.okWide P w r b0 t v) (hf : DataW.trod enc P w base spare held fuel t v.cells.toList = some x) (hz : Sized P t x.1) :
    ∃ a b, v = .agg #[.string a, .string b] ∧ a.size ≤ 140737488355328 ∧ b.size ≤ 140737488355328 := by
  obtain ⟨cs, rfl⟩ := okWide_array ht hval
  obtain ⟨l, rfl⟩ : ∃ l : List Value, cs = l.toArray := ⟨cs.toList, by simp⟩
  rw [show (Value.agg l.toArray).cells.toList = l from by simp [Value.cells]] at hf
  obtain ⟨xs, m, _, hx, hl, hxl, hall⟩ := DataW.trod_array ht hf
  subst hx
  rw [hct] at hl
  match l, hl with
  | [c0, c1], _ =>
    have h0 := hall 0 (by omega)
    have h1 := hall 1 (by omega)
    rw [hce] at h0 h1
    rw [List.getElem?_eq_getElem (show 0 < xs.length by omega)] at h0
    rw [List.getElem?_eq_getElem (show 1 < xs.length by omega)] at h1
    have hzz : ∀ y ∈ xs, Sized P e y.1 := fun y hy q hq => hz q (by
      simp only [DataW.weights, ht]
      exact sized_all (List.mem_map.2 ⟨y, hy, rfl⟩) q hq)
    obtain ⟨a, e0, s0⟩ := rd1_str he (v := c0) h0 (hzz _ (List.getElem_mem _))
    obtain ⟨b, e1, s1⟩ := rd1_str he (v := c1) h1 (hzz _ (List.getElem_mem _))
    exact ⟨a, b, by rw [e0, e1], s0, s1⟩
end
end Go.Proofs.YtkapaafbnbnpjaaGreatDoor
