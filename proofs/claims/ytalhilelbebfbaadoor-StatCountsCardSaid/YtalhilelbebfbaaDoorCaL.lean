/- The table of fields, as the text lays it: its cells. No condition. -/
import Derived.Test.YtalhilelbebfbaaDoorCaP
import Derived.Test.YtalhilelbebfbaaDoorTie
import Derived.LaidMore
import Derived.Lay
namespace Go.Proofs.YtalhilelbebfbaaDoor
open Go.ChangeShapes Go.WideShapes Go.ChangeAt Go.RowKit

def fieldsZ : List Int := [0, 0, 9, 9, 1, 21, 21, 5, 67, 35, 1, 3, 3, 1, 4, 0, 4]
theorem fieldsZ_of : ∀ r : Fin 17, fieldsZ.getD r.val 0 = (fieldsOf r.val : Nat) := by decide
theorem laid_cells {W : World} (h : laidMetH Tryd.prog Rows.statCountsRow.laid W) : 0 < W.heap.size ∧ ∀ r : Nat, r < 17 → W.cell? ⟨0, r, none⟩ = some (.int .i64 (fieldsOf r : Nat)) := by
  rw [MakeChecks.laidMetH_plain _ _ _ (by kernel_rfl)] at h
  obtain ⟨ps, ⟨g, t, cs, fuel, p, q, hg, ht, hv, hd, _, _⟩, _⟩ := h
  obtain rfl := Option.some.inj ((show Tryd.prog.globalNamed "bastille/call.fields" = some 0 by kernel_rfl).symm.trans hg)
  obtain rfl := Option.some.inj ((show (Tryd.prog.globals[0]?).map (·.type) = some 69 by kernel_rfl).symm.trans ht)
  obtain ⟨xs, m, _, ex, _, hl, hel⟩ := DataW.trod_array Tryd.underlying69 hd
  have c5 : Tryd.prog.cellsOf 3 = 1 := by kernel_rfl
  have hlen : fieldsZ.length = 17 := by decide
  have hcell : ∀ r : Nat, r < 17 → W.cell? ⟨0, r, none⟩ = some (.int .i64 (fieldsOf r : Nat)) := by
    intro r hr
    have hE := hel r hr
    rw [c5, Nat.mul_one, List.getElem?_eq_getElem (by omega)] at hE
    obtain ⟨z, e1, e2, _⟩ := DataW.trod_int Tryd.underlying3 hE
    have e3 : (xs.map (·.1)) = fieldsZ.map fun n => .lit (.int .i64 n) := (DataW.agg.inj (Prod.mk.inj ex).1).symm
    have e4 : (xs.map (·.1))[r]? = (fieldsZ.map fun n => (DataW.lit (.int .i64 n) : DataW Unit))[r]? := by rw [e3]
    rw [List.getElem?_map, List.getElem?_map, List.getElem?_eq_getElem (by omega : r < xs.length), List.getElem?_eq_getElem (by omega : r < fieldsZ.length), e2] at e4
    have hz : z = (fieldsOf r : Nat) := by
      simp only [Option.map_some, Option.some.injEq, DataW.lit.injEq, Lit.int.injEq, true_and] at e4
      rw [e4, ← fieldsZ_of ⟨r, hr⟩, List.getD, List.getElem?_eq_getElem (by omega : r < fieldsZ.length)]; rfl
    rw [World.var?_cell hg hv r, ← hz]
    have : cs.toList[r]? = some (.int .i64 z) := by
      have h0 : ((cs.toList.drop r).take 1)[0]? = some (.int .i64 z) := by rw [e1]; rfl
      simpa using h0
    simpa using this
  exact ⟨World.block_lt_of_cell? W ⟨0, 0, none⟩ (hcell 0 (by omega)), hcell⟩
end Go.Proofs.YtalhilelbebfbaaDoor
