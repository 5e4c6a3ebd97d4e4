/- An answer with its data's length: how its cells read. No condition. -/
import Derived.Test.YtalhilelbebfbaaDoorStCount
import Derived.Test.YtalhilelbebfbaaDoorCaC
namespace Go.Proofs.YtalhilelbebfbaaDoor
open Go.RowKit Go.Deep Go.ChangeShapes Go.WideShapes Go.Maps

/-- An answer, as far as it is counted: its error, and how long its data are. -/
def rAnsD : Rp (Int × Nat) := fun _ _ cs e => ∃ (n : Int) (s : ByteArray) (A3 A4 A5 A6 : Option Addr) (c3 n4 c4 n5 c5 n6 c6 : Nat), cs = [.int .i64 e.1, .int .i64 n, .string s, .slice A3 e.2 c3, .slice A4 n4 c4, .slice A5 n5 c5, .slice A6 n6 c6] ∧ I64 e.1 ∧ e.2 ≤ 9223372036854775807
theorem rAnsD_ok : RpOk 7 rAnsD := ⟨fun ⟨_, _, _, _, _, _, _, _, _, _, _, _, _, h, _⟩ => by rw [h]; rfl, fun h _ => h, fun ⟨_, _, _, _, _, _, _, _, _, _, _, _, _, h, _⟩ u hu => by
  rw [h] at hu
  simp only [List.mem_cons, List.not_mem_nil, or_false] at hu
  rcases hu with rfl | rfl | rfl | rfl | rfl | rfl | rfl <;> rfl⟩
theorem rdAnsD {w : World} : Rd Tryd.prog w 34 rAnsD := by
  intro H enc base spare held fuel cs x h hz
  obtain ⟨hl, n, hf⟩ := rd_fields Tryd.underlying34 (by kernel_rfl) (by kernel_rfl) h hz
  match cs, hl with
  | [c0, c1, c2, c3, c4, c5, c6], _ =>
    obtain ⟨y0, t0, z0⟩ := hf 0 _ rfl
    obtain ⟨a0, (e0 : c0 = _), b0⟩ := rd1_int Tryd.underlying28 t0 z0
    obtain ⟨y1, t1, z1⟩ := hf 1 _ rfl
    obtain ⟨a1, (e1 : c1 = _), b1⟩ := rd1_int Tryd.underlying3 t1 z1
    obtain ⟨y2, t2, z2⟩ := hf 2 _ rfl
    obtain ⟨a2, (e2 : c2 = _), b2⟩ := rd1_str Tryd.underlying9 t2 z2
    obtain ⟨y3, t3, z3⟩ := hf 3 _ rfl
    obtain ⟨y4, t4, z4⟩ := hf 4 _ rfl
    obtain ⟨y5, t5, z5⟩ := hf 5 _ rfl
    obtain ⟨y6, t6, z6⟩ := hf 6 _ rfl
    obtain ⟨A3, n3, d3, o3, m3⟩ := one_sliceL Tryd.underlying29 t3
    obtain ⟨A4, n4, d4, o4⟩ := one_slice Tryd.underlying30 t4
    obtain ⟨A5, n5, d5, o5⟩ := one_slice Tryd.underlying31 t5
    obtain ⟨A6, n6, d6, o6⟩ := one_slice Tryd.underlying32 t6
    have o3' : c3 = _ := o3
    have o4' : c4 = _ := o4
    have o5' : c5 = _ := o5
    have o6' : c6 = _ := o6
    subst e0 e1 e2 o3' o4' o5' o6'
    exact ⟨⟨a0, n3⟩, _, _, _, _, _, _, _, _, _, _, _, _, _, rfl, b0, m3⟩
theorem sl_errs {S : Nat → Prop} {w : World} {v : Value} {L : List (Int × Nat)} (h : Sl 7 rAnsD S w v L) : Sl 7 rAns S w v (L.map Prod.fst) := by
  obtain ⟨A, c, rfl, h1, h2, h3, h4⟩ := h
  refine ⟨A, c, by rw [List.length_map], by rw [List.length_map]; exact h1, h2, by rw [List.length_map]; exact h3, fun i x hx => ?_⟩
  rw [List.getElem?_map] at hx
  cases hy : L[i]? with
  | none => rw [hy] at hx; cases hx
  | some y =>
    rw [hy] at hx
    obtain rfl : y.1 = x := by simpa using hx
    obtain ⟨b, o, ys, hA, hS, hl, hc, n, s, A3, A4, A5, A6, c3, n4, c4, n5, c5, n6, c6, e, hI, _⟩ := h4 i y hy
    exact ⟨b, o, ys, hA, hS, hl, hc, n, s, A3, A4, A5, A6, _, _, _, _, _, _, _, _, e, hI⟩
theorem get_AnsD {S S' : Nat → Prop} {w wr : World} {A : Option Addr} {l : List (Int × Nat)} {k : Nat} (s : SlAt 7 rAnsD S w A l) (hk : k < l.length) (hb : Kept S S' w wr) :
    ∃ (x : Int × Nat) (b o : Nat) (n : Int) (t : ByteArray) (A3 A4 A5 A6 : Option Addr) (c3 n4 c4 n5 c5 n6 c6 : Nat), l[k]? = some x ∧ x ∈ l ∧ A = some ⟨b, o, none⟩ ∧ b < w.heap.size ∧ wr.cell? ⟨b, o + k * 7, none⟩ = some (.int .i64 x.1) ∧ wr.cell? ⟨b, o + k * 7 + 1, none⟩ = some (.int .i64 n) ∧ wr.cell? ⟨b, o + k * 7 + 2, none⟩ = some (.string t) ∧ wr.cell? ⟨b, o + k * 7 + 3, none⟩ = some (.slice A3 x.2 c3) ∧ wr.cell? ⟨b, o + k * 7 + 4, none⟩ = some (.slice A4 n4 c4) ∧ wr.cell? ⟨b, o + k * 7 + 5, none⟩ = some (.slice A5 n5 c5) ∧ wr.cell? ⟨b, o + k * 7 + 6, none⟩ = some (.slice A6 n6 c6) ∧ I64 x.1 := by
  obtain ⟨x, hx, hd, hm⟩ := at_k hk
  obtain ⟨b, o, ys, hA, hS, _, hc, n, t, A3, A4, A5, A6, c3, n4, c4, n5, c5, n6, c6, rfl, hI, _⟩ := s k _ hx
  exact ⟨x, b, o, n, t, A3, A4, A5, A6, c3, n4, c4, n5, c5, n6, c6, hx, hm, hA, cell_lt (hc 0 _ rfl), cell_kept (p := ⟨b, o + (k * 7 + 0), none⟩) hb hS (hc 0 _ rfl), cell_kept (p := ⟨b, o + (k * 7 + 1), none⟩) hb hS (hc 1 _ rfl), cell_kept (p := ⟨b, o + (k * 7 + 2), none⟩) hb hS (hc 2 _ rfl), cell_kept (p := ⟨b, o + (k * 7 + 3), none⟩) hb hS (hc 3 _ rfl), cell_kept (p := ⟨b, o + (k * 7 + 4), none⟩) hb hS (hc 4 _ rfl), cell_kept (p := ⟨b, o + (k * 7 + 5), none⟩) hb hS (hc 5 _ rfl), cell_kept (p := ⟨b, o + (k * 7 + 6), none⟩) hb hS (hc 6 _ rfl), hI⟩
theorem rdCount {w : World} : Rd Tryd.prog w 44 rCount := by
  intro H enc base spare held fuel cs x h hz
  obtain ⟨hl, n, hf⟩ := rd_fields Tryd.underlying44 (by kernel_rfl) (by kernel_rfl) h hz
  match cs, hl with
  | [c0, c1], _ =>
    obtain ⟨y0, t0, z0⟩ := hf 0 _ rfl
    obtain ⟨a0, (e0 : c0 = _), b0⟩ := rd1_int Tryd.underlying28 t0 z0
    obtain ⟨y1, t1, z1⟩ := hf 1 _ rfl
    obtain ⟨a1, (e1 : c1 = _), b1⟩ := rd1_int Tryd.underlying3 t1 z1
    subst e0 e1
    exact ⟨⟨a0, a1⟩, rfl, b0, b1⟩
section
variable {H : Type} {enc : TypeId × Value → H} {P : Program} {w : World} {base : Nat} {spare : Nat → Bool} {held : Bool} {fuel : Nat} {t : TypeId} {v : Value} {x : DataW H × List MemPlace} {r : Reach} {b0 : Nat}
theorem rdv_arr2sl {α : Type} {e : TypeId} {sz : Nat} {R : Rp α} (ht : P.underlying t = some (.array 2 e)) (hR : Rd P w e (rSl sz R)) (hce : P.cellsOf e = 1) (hct : P.cellsOf t = 2) (hval : Value.okWide P w r b0 t v) (hf : DataW.trod enc P w base spare held fuel t v.cells.toList = some x) (hz : Sized P t x.1) :
    ∃ v0 v1 l0 l1, v = .agg #[v0, v1] ∧ Sl sz R (fun _ => True) w v0 l0 ∧ Sl sz R (fun _ => True) w v1 l1 := by
  obtain ⟨cs, rfl⟩ := okWide_array ht hval
  obtain ⟨l, rfl⟩ : ∃ l : List Value, cs = l.toArray := ⟨cs.toList, by simp⟩
  rw [show (Value.agg l.toArray).cells.toList = l from by simp [Value.cells]] at hf
  obtain ⟨xs, m, _, hx, hl, hxl, hall⟩ := DataW.trod_array ht hf
  subst hx
  rw [hct] at hl
  match l, hl with
  | [c0, c1], _ =>
    have h0 := hall 0 (by omega)
    have h1 := hall 1 (by omega)
    rw [hce] at h0 h1
    rw [List.getElem?_eq_getElem (show 0 < xs.length by omega)] at h0
    rw [List.getElem?_eq_getElem (show 1 < xs.length by omega)] at h1
    have hzz : ∀ y ∈ xs, Sized P e y.1 := fun y hy q hq => hz q (by
      simp only [DataW.weights, ht]
      exact sized_all (List.mem_map.2 ⟨y, hy, rfl⟩) q hq)
    obtain ⟨a, s0⟩ := rd1_sl hR (v := c0) h0 (hzz _ (List.getElem_mem _))
    obtain ⟨b, s1⟩ := rd1_sl hR (v := c1) h1 (hzz _ (List.getElem_mem _))
    exact ⟨c0, c1, a, b, rfl, s0, s1⟩
end
end Go.Proofs.YtalhilelbebfbaaDoor
