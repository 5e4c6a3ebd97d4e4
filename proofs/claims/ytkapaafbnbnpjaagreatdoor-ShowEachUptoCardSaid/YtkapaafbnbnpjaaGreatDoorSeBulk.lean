/- What the second form's bound gives: each version was written by a user whose name is no longer than the bound. No condition but those that each lemma names. -/
import Derived.Test.YtkapaafbnbnpjaaGreatDoorRows
import Derived.Test.YtkapaafbnbnpjaaGreatDoorSeTree
namespace Go.Proofs.YtkapaafbnbnpjaaGreatDoor
open Go.RowKit Go.Deep Go.ChangeShapes Go.WideShapes

theorem bulk_part {H : Type} {d : DataW H} : ∀ {l : List (DataW H)}, d ∈ l → Rows.uptoBulk d ≤ Rows.uptoBulkAll l
  | x :: r, h => by
    simp only [Rows.uptoBulkAll]
    rcases List.mem_cons.1 h with rfl | h
    · omega
    · have := bulk_part h
      omega
section
variable {H : Type} {enc : TypeId × Value → H} {P : Program} {w : World} {base : Nat} {spare : Nat → Bool} {held : Bool} {fuel : Nat} {t : TypeId}
/-- A struct's fields are no bulkier than it is. -/
theorem bulk_fields {fs : Array Field} (ht : P.underlying t = some (.struct fs)) (hone : oneCellFields P fs = true) (hC : P.cellsOf t = fs.size) {cs : List Value} {x : DataW H × List MemPlace} (h : DataW.trod enc P w base spare held fuel t cs = some x) :
    ∃ n, ∀ j f, fs[j]? = some f → ∃ y, DataW.trod enc P w base spare held n f.type [cs.getD j undef] = some y ∧ Rows.uptoBulk y.1 ≤ Rows.uptoBulk x.1 := by
  obtain ⟨xs, n, _, hx, hl, hxl, hf⟩ := DataW.trod_struct ht h
  subst hx
  have hl' := hl.trans hC
  refine ⟨n, fun j f hj => ?_⟩
  obtain ⟨ho, hk⟩ := hone_of hone j f hj
  have hjl : j < fs.size := (Array.getElem?_eq_some_iff.1 hj).1
  have h1 := hf j f hj
  rw [ho, hk, take1_drop cs j undef (by omega), List.getElem?_eq_getElem (by omega)] at h1
  refine ⟨_, h1, ?_⟩
  simp only [Rows.uptoBulk]
  exact Nat.le_trans (bulk_part (List.mem_map.2 ⟨_, List.getElem_mem (show j < xs.length by omega), rfl⟩)) (Nat.le_succ _)
/-- Nor are a slice's elements. -/
theorem bulk_slice {α : Type} {e : TypeId} {sz : Nat} {R : Rp α} {S : Nat → Prop} (ht : P.underlying t = some (.slice e)) (hC : P.cellsOf e = sz) {A : Option Addr} {c : Nat} {l : List α} {x : DataW H × List MemPlace}
    (h : DataW.trod enc P w base spare held fuel t [.slice A l.length c] = some x) (hs : SlAt sz R S w A l) {i : Nat} {y : α} (hy : l[i]? = some y) :
    ∃ n ys xi, R S w ys y ∧ DataW.trod enc P w base spare held n e ys = some xi ∧ Rows.uptoBulk xi.1 ≤ Rows.uptoBulk x.1 := by
  have hil := (List.getElem?_eq_some_iff.1 hy).1
  obtain ⟨b, o, ys, rfl, _, hyl, hyc, hR⟩ := hs i y hy
  rcases open_slice ht h with ⟨hv, _⟩ | ⟨a, len, cap, m, n, D, Pl, hv, hb, hl, hm, hmm, hxx, hx⟩
  · cases hv
  · simp only [List.cons.injEq, Value.slice.injEq, Option.some.injEq, and_true] at hv
    obtain ⟨rfl, rfl, rfl⟩ := hv
    have hlm : l.length ≤ m := by rw [hmm]; split <;> omega
    obtain ⟨cs', h1, h2⟩ := hx i (by omega)
    rw [hC] at h1
    obtain ⟨_, hcl, hcc⟩ := World.cells?_some h1
    have he : cs' = ys := by
      apply List.ext_getElem?
      intro j
      rcases Nat.lt_or_ge j sz with hj | hj
      · have h3 := hcc j hj
        rw [add_add] at h3
        have e : (⟨b, o, none⟩ : Addr).add (i * sz + j) = ⟨b, o + (i * sz + j), none⟩ := by
          unfold Addr.add
          split
          · rename_i h; rw [h]; rfl
          · rfl
        rw [e, hyc j _ (List.getElem?_eq_getElem (by omega))] at h3
        rw [← h3, List.getElem?_eq_getElem (by omega)]
      · rw [List.getElem?_eq_none (by omega), List.getElem?_eq_none (by omega)]
    subst he
    refine ⟨_, cs', _, hR, h2, ?_⟩
    rw [hxx]
    simp only [Rows.uptoBulk]
    have := bulk_part (List.mem_map.2 ⟨i, List.mem_range.2 hil, rfl⟩ : D i ∈ (List.range l.length).map D)
    omega
theorem bulk_string (ht : P.underlying t = some .string) {s : ByteArray} {x : DataW H × List MemPlace} (h : DataW.trod enc P w base spare held fuel t [.string s] = some x) : s.size ≤ Rows.uptoBulk x.1 := by
  obtain ⟨s', hc, hx, _⟩ := DataW.trod_string ht h
  subst hx
  obtain rfl : s = s' := by simpa using hc
  simp [Rows.uptoBulk]
end
theorem by_of_bulk {H : Type} {enc : TypeId × Value → H} {w : World} {base : Nat} {spare : Nat → Bool} {held : Bool} {fuel : Nat} {cs : List Value} {x : DataW H × List MemPlace} {st : State} (h : DataW.trod enc Tryz.prog w base spare held fuel 26 cs = some x) (hb : Rows.uptoBulk x.1 ≤ 1048576) (hR : rState (fun _ => True) w cs st) : ByOk st := by
  intro f hf y hy v hv
  obtain ⟨_, _, _, _, A3, c3, rfl, _, _, _, _, _, _, _, _, _, _, _, _, s3⟩ := open_State hR
  obtain ⟨n1, h1⟩ := bulk_fields Tryz.underlying26 (by kernel_rfl) (by kernel_rfl) h
  obtain ⟨x1, t1, b1⟩ := h1 3 _ rfl
  obtain ⟨i1, hi1⟩ := List.getElem?_of_mem hf
  obtain ⟨n2, ys2, x2, r2, t2, b2⟩ := bulk_slice Tryz.underlying24 (by kernel_rfl) t1 s3 hi1
  obtain ⟨_, _, _, _, A4, c4, _, _, _, _, rfl, _, _, _, _, _, _, _, _, _, _, _, _, _, s4, _⟩ := open_Folder r2
  obtain ⟨n3, h3⟩ := bulk_fields Tryz.underlying35 (by kernel_rfl) (by kernel_rfl) t2
  obtain ⟨x3, t3, b3⟩ := h3 4 _ rfl
  obtain ⟨i2, hi2⟩ := List.getElem?_of_mem hy
  obtain ⟨n4, ys4, x4, r4, t4, b4⟩ := bulk_slice Tryz.underlying31 (by kernel_rfl) t3 s4 hi2
  obtain ⟨A5, c5, rfl, _, _, _, _, s5⟩ := open_Item r4
  obtain ⟨n5, h5⟩ := bulk_fields Tryz.underlying84 (by kernel_rfl) (by kernel_rfl) t4
  obtain ⟨x5, t5, b5⟩ := h5 1 _ rfl
  obtain ⟨i3, hi3⟩ := List.getElem?_of_mem hv
  obtain ⟨n6, ys6, x6, r6, t6, b6⟩ := bulk_slice Tryz.underlying82 (by kernel_rfl) t5 s5 hi3
  obtain ⟨A6, c6, rfl, _⟩ := open_Version r6
  obtain ⟨n7, h7⟩ := bulk_fields Tryz.underlying97 (by kernel_rfl) (by kernel_rfl) t6
  obtain ⟨x7, t7, b7⟩ := h7 2 _ rfl
  have := bulk_string Tryz.underlying9 t7
  omega
end Go.Proofs.YtkapaafbnbnpjaaGreatDoor
