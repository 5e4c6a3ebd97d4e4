/- append within a region that draws its order: the law of a growing list at one step. No condition but those that the lemma names. -/
import Derived.Test.YtkapaafbnbnpjaaGreatDoorBlk
import Derived.Deep.AppendLies
namespace Go.Proofs.YtkapaafbnbnpjaaGreatDoor
open Go.RowKit Go.Deep

section
variable {P : Program} {α : Type} {e : TypeId} {sz : Nat} {R : Rp α} {B B' : Nat → Prop} {w w' : World} {base : Nat} {v : Value} {l : List α}
theorem step_grow (w : World) {ops : Array Oper} {o : Oper} {a : Act} {K : Act → World → Prop} {Q : Exit → Act → World → Prop} {E : Prop} (hgd : o.guard = none) (s x : Operand) (t : TypeId)
    (ho : o.op = .call { callee := .builtin .append, args := #[s, x], argTypes := #[t, t] })
    (e : TypeId) (i : TypeInfo) (z : Value) (sz bytes : Nat) (ht : P.underlying t = some (.slice e)) (hi : P.info? e = some i) (hz : i.zero = some z)
    (hsize : i.size = sz) (hby : i.bytes = bytes) (hzs : z.cells.size = sz) (hsz : 0 < sz) (ok : RpOk sz R) (base : Nat) (hbase : base ≤ w.heap.size) (v : Value) (l : List α) (hs : a.eval s = v) (hown : Grow e sz R B w base v l)
    (A : Option Addr) (m c : Nat) (hx : a.eval x = .slice A m c) (l2 : List α) (hm : m = l2.length) (hsl : SlAt sz R (Free B w v) w A l2) (hbytes : (l.length + m) * bytes ≤ 140737488355328) (hb0 : 0 < bytes)
    (h : ∀ v' w', Grow e sz R B w' base v' (l ++ l2) → w.grownBy w' v.ownBlock → K (a.put o.dst v') w') : if Region.wanted o (yielded ops a.tmps) = true then Oper.wp P o a w K Q else E := by
  have hw : Region.wanted o (yielded ops a.tmps) = true := by simp [Region.wanted, hgd]
  rw [if_pos hw]
  obtain ⟨v', w', r1, r2, r3, r4⟩ := run_own_append (P := P) w t o.type e i z sz bytes ht hi hz hsize hby hzs hsz ok base hbase v l hown A m c l2 hm hsl hbytes hb0
  refine Lib.wp_append_run w s x t t ho _ _ hs hx v' w' r1 (h v' w' ?_ r3)
  refine Own.keep (S' := Free B w' v') ok r2 (fun b _ => rfl) (fun b hb hl => ⟨⟨hl, hb.2.1, ?_⟩, rfl⟩) fun b hb => ⟨hb.1, hb.2.2⟩
  rcases r4 with g3 | g3
  · rw [g3]; exact hb.2.2
  · rw [g3]; have := hb.1; simp only [ne_eq, Option.some.injEq]; omega

/-- A slice of one element, just built. -/
theorem Grow.one {g : Nat} {cs : Array Value} {x : α} (ok : RpOk sz R) (hg : w.heap[g]? = some (.cells cs e (0, 0))) (hb : base ≤ g) (hcs : cs.size = sz) (hR : R (Free B w (.slice (some ⟨g, 0, none⟩) 1 1)) w cs.toList x) : Grow e sz R B w base (.slice (some ⟨g, 0, none⟩) 1 1) [x] := by
  refine ⟨by simp, fun b hb' => ⟨hb'.1, hb'.2.2⟩, cs.toList, ⟨by simp [hcs], .inr ⟨g, 1, cs, rfl, hb, hg, Nat.le_refl _, by decide, by simp [hcs], List.take_of_length_le (by simp [hcs])⟩⟩, fun i y hy => ?_⟩
  rcases i with _ | i
  · obtain rfl : x = y := by simpa using hy
    exact ⟨cs.toList, by simp [hcs], fun j u hj => by rw [Nat.zero_mul, Nat.zero_add]; exact hj, hR⟩
  · simp at hy
end
end Go.Proofs.YtkapaafbnbnpjaaGreatDoor
