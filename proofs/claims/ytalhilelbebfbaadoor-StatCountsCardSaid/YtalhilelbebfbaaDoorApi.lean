/- The program's plain structures, how their cells read, and that every reading of an argument is one. No condition. -/
import Derived.Test.YtalhilelbebfbaaDoorRep
import Derived.Deep.Fields
import Derived.Lib.Hide
namespace Go.Proofs.YtalhilelbebfbaaDoor
open Go.RowKit Go.Deep Go.ChangeShapes Go.WideShapes

/-- A struct whose fields are one cell each: the cells, and each field's own reading. -/
theorem rd_fields {P : Program} {w : World} {t : TypeId} {fs : Array Field} (ht : P.underlying t = some (.struct fs)) (hone : oneCellFields P fs = true) (hC : P.cellsOf t = fs.size)
    {H : Type} {enc : TypeId × Value → H} {base : Nat} {spare : Nat → Bool} {held : Bool} {fuel : Nat} {cs : List Value} {x : DataW H × List MemPlace}
    (h : DataW.trod enc P w base spare held fuel t cs = some x) (hz : Sized P t x.1) :
    cs.length = fs.size ∧ ∃ n, ∀ j f, fs[j]? = some f → ∃ y, DataW.trod enc P w base spare held n f.type [cs.getD j undef] = some y ∧ Sized P f.type y.1 := by
  obtain ⟨xs, n, _, hx, hl, hxl, hf⟩ := DataW.trod_struct ht h
  subst hx
  refine ⟨hl.trans hC, n, fun j f hj => ?_⟩
  obtain ⟨ho, hk⟩ := hone_of hone j f hj
  have hjl : j < fs.size := (Array.getElem?_eq_some_iff.1 hj).1
  have h1 := hf j f hj
  rw [ho, hk, take1_drop cs j undef (by omega), List.getElem?_eq_getElem (by omega)] at h1
  refine ⟨_, h1, fun m hm => hz m ?_⟩
  simp only [DataW.weights, ht]
  exact DataW.weights_mem_each (j := j) (t := f.type) (by simp [hj]) (by simp [List.getElem?_eq_getElem (show j < xs.length by omega)]) m hm

theorem kept_of {S : Nat → Prop} {w wr : World} (h : Below w.heap.size w wr) : Kept S S w wr := Kept.below h fun _ h => h

theorem bcell {W w1 : World} (hb : Below W.heap.size W w1) : (∀ b o, b < W.heap.size → w1.cell? ⟨b, o, none⟩ = W.cell? ⟨b, o, none⟩) ∧ (∀ b o, b < W.heap.size → w1.frozen? ⟨b, o, none⟩ = W.frozen? ⟨b, o, none⟩) :=
  ⟨fun b o h => hb.cell (p := ⟨b, o, none⟩) h, fun b o h => hb.frozen (p := ⟨b, o, none⟩) h⟩
theorem bel_call {w W w1 : World} (h : Below w.heap.size w W) (h1 : Below W.heap.size W w1) : Below w.heap.size w w1 := h.trans (h1.mono h.size)

theorem ret_bool {a b : Bool} (h : a = b) : Ending.returned (.bool a) = .returned (.bool b) := by rw [h]
theorem ret_int {k : IntKind} {a b : Int} (h : a = b) : Ending.returned (.int k a) = .returned (.int k b) := by rw [h]

/-- One by one, then all. -/
theorem list_of {α β : Type} {p : Nat → β → Prop} {q : β → α → Prop} {len : Nat} (h : ∀ i, i < len → ∃ r : α × β, p i r.2 ∧ q r.2 r.1) : ∃ l : List α, l.length = len ∧ ∀ i x, l[i]? = some x → ∃ ys, p i ys ∧ q ys x := by
  induction len with
  | zero => exact ⟨[], rfl, fun i x hi => by simp at hi⟩
  | succ k ih =>
    obtain ⟨l, hl, hl'⟩ := ih (fun i hi => h i (by omega))
    obtain ⟨r, q1, q2⟩ := h k (by omega)
    refine ⟨l ++ [r.1], by simp [hl], fun i x hi => ?_⟩
    rcases Nat.lt_or_ge i k with hlt | hge
    · exact hl' i x (by rwa [List.getElem?_append_left (by omega)] at hi)
    · rw [List.getElem?_append_right (by omega)] at hi
      have : i = k := by
        rcases Nat.lt_or_ge (i - l.length) 1 with h1 | h1
        · omega
        · rw [List.getElem?_eq_none (by simpa using h1)] at hi; cases hi
      subst this
      simp [hl] at hi
      subst hi
      exact ⟨r.2, q1, q2⟩

theorem at_k {α : Type} {l : List α} {k : Nat} (h : k < l.length) : ∃ x, l[k]? = some x ∧ l.drop k = x :: l.drop (k + 1) ∧ x ∈ l := ⟨l[k], List.getElem?_eq_getElem h, List.drop_eq_getElem_cons h, List.getElem_mem h⟩

/-- A slice whose elements read as something reads as a list. -/
theorem rd_slice {α : Type} {P : Program} {w : World} {t e : TypeId} {sz : Nat} {R : Rp α} (ht : P.underlying t = some (.slice e)) (hC : P.cellsOf e = sz) (hby : 0 < P.bytesOf e) (hsz : 0 < sz) (hR : Rd P w e R) (hlen : ∀ {S : Nat → Prop} {w : World} {cs : List Value} {x : α}, R S w cs x → cs.length = sz) : Rd P w t (rSl sz R) := by
  intro H enc base spare held fuel cs x h hz
  rcases open_slice ht h with ⟨rfl, _⟩ | ⟨a, len, cap, m, n, D, Pl, rfl, hb, hl, hm, hmm, hxx, hx⟩
  · exact ⟨[], _, rfl, Sl_nil _ _ _ _⟩
  · have hlm : len ≤ m := by rw [hmm]; split <;> omega
    have hall : ∀ i, i < len → ∃ q : α × List Value, w.cells? base (a.add (i * sz)) sz = some q.2 ∧ R (fun _ => True) w q.2 q.1 := by
      intro i hi
      obtain ⟨cs', h1, h2⟩ := hx i (by omega)
      obtain ⟨y, hy⟩ := hR h2 (fun q hq => hz q (by
        rw [hxx]
        simp only [DataW.weights, ht, List.mem_cons, List.mem_append]
        exact .inr (.inl (sized_all (List.mem_map.2 ⟨i, List.mem_range.2 hi, rfl⟩) q hq))))
      rw [hC] at h1
      exact ⟨(y, cs'), h1, hy⟩
    obtain ⟨l, hll, hl'⟩ := list_of (p := fun i ys => w.cells? base (a.add (i * sz)) sz = some ys) (q := fun ys x => R (fun _ => True) w ys x) hall
    have hlen47 : len ≤ 140737488355328 := by
      have h1 := hz ((((List.range len).map D).length + ((List.range (m - len)).map fun j => D (len + j)).length) * P.bytesOf e) (by rw [hxx]; simp [DataW.weights, ht])
      have h2 : len ≤ (((List.range len).map D).length + ((List.range (m - len)).map fun j => D (len + j)).length) * P.bytesOf e := by
        rw [List.length_map, List.length_range]
        exact Nat.le_trans (Nat.le_add_right _ _) (Nat.le_mul_of_pos_right _ hby)
      exact Nat.le_trans h2 (Nat.le_trans h1 (by decide))
    refine ⟨l, _, rfl, some a, cap, by rw [hll], by omega, hm, by omega, fun i x hi => ?_⟩
    have hil : i < len := by have := (List.getElem?_eq_some_iff.1 hi).1; omega
    obtain ⟨ys, h1, h2⟩ := hl' i x hi
    obtain ⟨_, hyl, hyc⟩ := World.cells?_some h1
    obtain ⟨b, o, sp⟩ := a
    obtain ⟨q0, h0, _⟩ := hall 0 (by omega)
    obtain ⟨_, hyl0, hyc0⟩ := World.cells?_some h0
    have h00 := hyc0 0 hsz
    rw [List.getElem?_eq_getElem (by omega), Nat.zero_mul] at h00
    have hsp : sp = none := World.cell?_spot h00
    subst hsp
    refine ⟨b, o, ys, rfl, trivial, hyl, fun j y hj => ?_, h2⟩
    have hjl : j < sz := by have := (List.getElem?_eq_some_iff.1 hj).1; omega
    have h3 := hyc j hjl
    rw [hj, add_add] at h3
    have e : (⟨b, o, none⟩ : Addr).add (i * sz + j) = ⟨b, o + (i * sz + j), none⟩ := by
      unfold Addr.add
      split
      · rename_i h; rw [h]; rfl
      · rfl
    rw [e] at h3
    exact h3

end Go.Proofs.YtalhilelbebfbaaDoor
