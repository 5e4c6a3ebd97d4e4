/- append within a region that draws its order, with what becomes of the row; stores of whole structs. No condition but those that each lemma names. -/
import Derived.Test.YtocofkccdfaaaaaGrMoP
import Derived.Test.YtocofkccdfaaaaaStep
import Derived.Test.YtocofkccdfaaaaaGrStE
namespace Go.Proofs.Ytocofkccdfaaaaa
open Go.RowKit Go.Deep

section
variable {P : Program} {α : Type} {e : TypeId} {sz : Nat} {R : Rp α} {B B' : Nat → Prop} {w w' : World} {base : Nat} {v : Value} {l : List α}
theorem step_grow2 (w : World) {ops : Array Oper} {o : Oper} {a : Act} {K : Act → World → Prop} {Q : Exit → Act → World → Prop} {E : Prop} (hgd : o.guard = none) (s x : Operand) (t : TypeId)
    (ho : o.op = .call { callee := .builtin .append, args := #[s, x], argTypes := #[t, t] })
    (e : TypeId) (i : TypeInfo) (z : Value) (sz bytes : Nat) (ht : P.underlying t = some (.slice e)) (hi : P.info? e = some i) (hz : i.zero = some z)
    (hsize : i.size = sz) (hby : i.bytes = bytes) (hzs : z.cells.size = sz) (hsz : 0 < sz) (ok : RpOk sz R) (base : Nat) (hbase : base ≤ w.heap.size) (v : Value) (l : List α) (hs : a.eval s = v) (hown : Grow e sz R B w base v l)
    (A : Option Addr) (m c : Nat) (hx : a.eval x = .slice A m c) (l2 : List α) (hm : m = l2.length) (hsl : SlAt sz R (Free B w v) w A l2) (hbytes : (l.length + m) * bytes ≤ 140737488355328) (hb0 : 0 < bytes)
    (h : ∀ v' w', Grow e sz R B w' base v' (l ++ l2) → w.grownBy w' v.ownBlock → (v'.ownBlock = v.ownBlock ∨ v'.ownBlock = some w.heap.size) → K (a.put o.dst v') w') : if Region.wanted o (yielded ops a.tmps) = true then Oper.wp P o a w K Q else E := by
  have hw : Region.wanted o (yielded ops a.tmps) = true := by simp [Region.wanted, hgd]
  rw [if_pos hw]
  obtain ⟨v', w', r1, r2, r3, r4⟩ := run_own_append (P := P) w t o.type e i z sz bytes ht hi hz hsize hby hzs hsz ok base hbase v l hown A m c l2 hm hsl hbytes hb0
  refine Lib.wp_append_run w s x t t ho _ _ hs hx v' w' r1 (h v' w' ?_ r3 r4)
  refine Own.keep (S' := Free B w' v') ok r2 (fun b _ => rfl) (fun b hb hl => ⟨⟨hl, hb.2.1, ?_⟩, rfl⟩) fun b hb => ⟨hb.1, hb.2.2⟩
  rcases r4 with g3 | g3
  · rw [g3]; exact hb.2.2
  · rw [g3]; have := hb.1; simp only [ne_eq, Option.some.injEq]; omega
theorem own_other {b : Nat} {v v' : Value} {w : World} (h : v'.ownBlock = v.ownBlock ∨ v'.ownBlock = some w.heap.size) (hb : b < w.heap.size) (hv : v.ownBlock ≠ some b) : v'.ownBlock ≠ some b := by
  rcases h with h | h
  · rw [h]; exact hv
  · rw [h]; simp only [ne_eq, Option.some.injEq]; omega
end
theorem store2 {w : World} {pb : Nat} {T : TypeId} {z0 z1 : Value} (h : w.heap[pb]? = some (.cells #[z0, z1] T (0, 0))) (a0 a1 : Value) :
    ((w.setCell ⟨pb, 0, none⟩ a0).setCell ⟨pb, 1, none⟩ a1).heap[pb]? = some (.cells #[a0, a1] T (0, 0)) ∧ ButB (fun x => x = pb) w ((w.setCell ⟨pb, 0, none⟩ a0).setCell ⟨pb, 1, none⟩ a1) := by
  have b0 : ButB (fun x => x = pb) w w := ButB.refl _ _
  have h0 := blk_set_same (i := 0) (cs' := #[a0, z1]) a0 h rfl
  have b1 := b0.set ⟨pb, 0, none⟩ a0 rfl
  generalize w.setCell ⟨pb, 0, none⟩ a0 = w1 at h0 b1 ⊢
  exact ⟨blk_set_same (i := 1) (cs' := #[a0, a1]) a1 h0 rfl, b1.set ⟨pb, 1, none⟩ a1 rfl⟩
theorem store3 {w : World} {pb : Nat} {T : TypeId} {z0 z1 z2 : Value} (h : w.heap[pb]? = some (.cells #[z0, z1, z2] T (0, 0))) (a0 a1 a2 : Value) :
    (((w.setCell ⟨pb, 0, none⟩ a0).setCell ⟨pb, 1, none⟩ a1).setCell ⟨pb, 2, none⟩ a2).heap[pb]? = some (.cells #[a0, a1, a2] T (0, 0)) ∧ ButB (fun x => x = pb) w (((w.setCell ⟨pb, 0, none⟩ a0).setCell ⟨pb, 1, none⟩ a1).setCell ⟨pb, 2, none⟩ a2) := by
  have b0 : ButB (fun x => x = pb) w w := ButB.refl _ _
  have h0 := blk_set_same (i := 0) (cs' := #[a0, z1, z2]) a0 h rfl
  have b1 := b0.set ⟨pb, 0, none⟩ a0 rfl
  generalize w.setCell ⟨pb, 0, none⟩ a0 = w1 at h0 b1 ⊢
  have h1 := blk_set_same (i := 1) (cs' := #[a0, a1, z2]) a1 h0 rfl
  have b2 := b1.set ⟨pb, 1, none⟩ a1 rfl
  generalize w1.setCell ⟨pb, 1, none⟩ a1 = w2 at h1 b2 ⊢
  exact ⟨blk_set_same (i := 2) (cs' := #[a0, a1, a2]) a2 h1 rfl, b2.set ⟨pb, 2, none⟩ a2 rfl⟩
theorem store4 {w : World} {pb : Nat} {T : TypeId} {z0 z1 z2 z3 : Value} (h : w.heap[pb]? = some (.cells #[z0, z1, z2, z3] T (0, 0))) (a0 a1 a2 a3 : Value) :
    ((((w.setCell ⟨pb, 0, none⟩ a0).setCell ⟨pb, 1, none⟩ a1).setCell ⟨pb, 2, none⟩ a2).setCell ⟨pb, 3, none⟩ a3).heap[pb]? = some (.cells #[a0, a1, a2, a3] T (0, 0)) ∧ ButB (fun x => x = pb) w ((((w.setCell ⟨pb, 0, none⟩ a0).setCell ⟨pb, 1, none⟩ a1).setCell ⟨pb, 2, none⟩ a2).setCell ⟨pb, 3, none⟩ a3) := by
  have b0 : ButB (fun x => x = pb) w w := ButB.refl _ _
  have h0 := blk_set_same (i := 0) (cs' := #[a0, z1, z2, z3]) a0 h rfl
  have b1 := b0.set ⟨pb, 0, none⟩ a0 rfl
  generalize w.setCell ⟨pb, 0, none⟩ a0 = w1 at h0 b1 ⊢
  have h1 := blk_set_same (i := 1) (cs' := #[a0, a1, z2, z3]) a1 h0 rfl
  have b2 := b1.set ⟨pb, 1, none⟩ a1 rfl
  generalize w1.setCell ⟨pb, 1, none⟩ a1 = w2 at h1 b2 ⊢
  have h2 := blk_set_same (i := 2) (cs' := #[a0, a1, a2, z3]) a2 h1 rfl
  have b3 := b2.set ⟨pb, 2, none⟩ a2 rfl
  generalize w2.setCell ⟨pb, 2, none⟩ a2 = w3 at h2 b3 ⊢
  exact ⟨blk_set_same (i := 3) (cs' := #[a0, a1, a2, a3]) a3 h2 rfl, b3.set ⟨pb, 3, none⟩ a3 rfl⟩
section
variable {α : Type} {sz : Nat} {R : Rp α} {S S' : Nat → Prop} {w w' : World} {v : Value} {l : List α}
/-- A slice of elements that read from no block but the slice's own. -/
theorem flat_sl (hR : ∀ (S S' : Nat → Prop) (w : World) ys x, R S w ys x → R S' w ys x) (h : Sl sz R S w v l) (hS : ∀ b, v.ownBlock = some b → S' b) : Sl sz R S' w v l := by
  obtain ⟨A, c, rfl, h1, h2, h3, h4⟩ := h
  refine ⟨A, c, rfl, h1, h2, h3, fun i x hx => ?_⟩
  obtain ⟨b, o, ys, rfl, _, k1, k2, k3⟩ := h4 i x hx
  exact ⟨b, o, ys, rfl, hS b rfl, k1, k2, hR _ _ _ _ _ k3⟩
theorem sl_at {A : Option Addr} {n c : Nat} (h : Sl sz R S w (.slice A n c) l) : SlAt sz R S w A l := by
  obtain ⟨A', c', hv, _, _, _, h4⟩ := h
  cases hv
  exact h4
theorem butb_grown {B : Nat → Prop} {wk W w16 : World} {row : Option Nat} (h : ButB B wk W) (g : W.grownBy w16 row) (hr : ∀ b, row = some b → wk.heap.size ≤ b) : ButB B wk w16 :=
  ⟨g.os.trans h.os, g.tape.trans h.tape, g.output.trans h.output, Nat.le_trans h.size g.size, fun k hk hb => (g.block k (Nat.lt_of_lt_of_le hk h.size) (fun e => by have := hr k e.symm; omega)).trans (h.block k hk hb)⟩
end
theorem flat_pair : ∀ (S S' : Nat → Prop) (w : World) ys x, rPair S w ys x → rPair S' w ys x := fun _ _ _ _ _ h => h
theorem flat_wrap : ∀ (S S' : Nat → Prop) (w : World) ys x, rWrap S w ys x → rWrap S' w ys x := fun _ _ _ _ _ h => h
theorem flat_link : ∀ (S S' : Nat → Prop) (w : World) ys x, rLink S w ys x → rLink S' w ys x := fun _ _ _ _ _ h => h
theorem wp_any_drew2 {P : Program} {ops : Array Oper} {Q : Exit → Act → World → Prop} {id : Nat} {a : Act} {w : World} (hm : P.follows .mixedOrders = true)
    (h : wpAny P .any ops Q ops.size (Array.replicate ops.size false) a w.drew) : (Code.region id ops true).wp P Q a w := wp_region_any hm h
/-- Is the name in none of the list's wraps? -/
def IsNew (l : List Wrap) (s : Nm) (b : Bool) : Prop := b = true ↔ s ∉ l.map Wrap.name
theorem isNew_zero (l : List Wrap) (s : Nm) : IsNew (l.take 0) s true := Iff.intro (fun _ h => by rw [List.take_zero] at h; cases h) (fun _ => rfl)
theorem isNew_false {l : List Wrap} {k : Nat} {y : Wrap} {s : Nm} (hy : l[k]? = some y) (h : IsNew (l.take k) s false ∨ y.name = s) : IsNew (l.take (k + 1)) s false := by
  have hm : s ∈ (l.take (k + 1)).map Wrap.name := by
    rw [List.take_add_one, hy, List.map_append]
    rcases h with h | h
    · by_cases hn : s ∈ (l.take k).map Wrap.name
      · exact List.mem_append_left _ hn
      · have := h.2 hn
        cases this
    · exact List.mem_append_right _ (by simp [h])
  exact Iff.intro (fun h => nomatch h) (fun hn => absurd hm hn)
theorem isNew_true {l : List Wrap} {k : Nat} {y : Wrap} {s : Nm} (hy : l[k]? = some y) (h : IsNew (l.take k) s true) (hn : y.name ≠ s) : IsNew (l.take (k + 1)) s true := by
  refine Iff.intro (fun _ hm => ?_) (fun _ => rfl)
  rw [List.take_add_one, hy, List.map_append] at hm
  rcases List.mem_append.1 hm with hm | hm
  · exact h.1 rfl hm
  · have e : s = y.name := by simpa using hm
    exact hn e.symm
end Go.Proofs.Ytocofkccdfaaaaa
