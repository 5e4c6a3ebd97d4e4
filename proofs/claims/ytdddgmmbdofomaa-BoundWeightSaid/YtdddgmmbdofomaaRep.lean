/- What the statements' data are in memory: predicates that say which list, text or number a value of the run reads as. No condition beyond those that each lemma names. -/
import Derived.Handy
import Derived.Deep.Slices
import Derived.Deep.Draws
import Derived.Deep.OwnRows
import Derived.WalkLawsBesides
import Derived.WalkSpells
import Derived.Test.YtdddgmmbdofomaaChecked
namespace Go.Proofs.Ytdddgmmbdofomaa
open Go.RowKit Go.Deep Go.ChangeShapes Go.WideShapes

/-- The numbers that an int holds. -/
def I64 (n : Int) : Prop := -9223372036854775808 ≤ n ∧ n ≤ 9223372036854775807

/-- How a run of cells reads as something: 'S': the blocks that are not to be written any more. -/
abbrev Rp (α : Type) := (Nat → Prop) → World → List Value → α → Prop

/-- What lies in S stays, and lies in S'. -/
def Kept (S S' : Nat → Prop) (w w' : World) : Prop := ∀ b, S b → b < w.heap.size → S' b ∧ w'.heap[b]? = w.heap[b]?

theorem Kept.refl {S S' : Nat → Prop} (w : World) (h : ∀ b, S b → S' b) : Kept S S' w w := fun b hb _ => ⟨h b hb, rfl⟩
theorem Kept.trans {S S' S'' : Nat → Prop} {w w' w'' : World} (h : Kept S S' w w') (hz : w.heap.size ≤ w'.heap.size) (k : Kept S' S'' w' w'') : Kept S S'' w w'' := fun b hb hl => by
  obtain ⟨h1, h2⟩ := h b hb hl
  obtain ⟨k1, k2⟩ := k b h1 (by omega)
  exact ⟨k1, k2.trans h2⟩
theorem Kept.below {S S' : Nat → Prop} {w w' : World} (h : Below w.heap.size w w') (hS : ∀ b, S b → S' b) : Kept S S' w w' := fun b hb hl => ⟨hS b hb, h.block b hl⟩

structure RpOk {α : Type} (sz : Nat) (R : Rp α) : Prop where
  len : ∀ {S : Nat → Prop} {w : World} {cs : List Value} {x : α}, R S w cs x → cs.length = sz
  keep : ∀ {S S' : Nat → Prop} {w w' : World} {cs : List Value} {x : α}, R S w cs x → Kept S S' w w' → R S' w' cs x
  one : ∀ {S : Nat → Prop} {w : World} {cs : List Value} {x : α}, R S w cs x → ∀ u ∈ cs, u.oneCell' = true

/-- The elements of a slice, sz cells each, from the address on. -/
def SlAt {α : Type} (sz : Nat) (R : Rp α) (S : Nat → Prop) (w : World) (A : Option Addr) (l : List α) : Prop :=
  ∀ i x, l[i]? = some x → ∃ b o ys, A = some ⟨b, o, none⟩ ∧ S b ∧ ys.length = sz ∧ (∀ j y, ys[j]? = some y → w.cell? ⟨b, o + (i * sz + j), none⟩ = some y) ∧ R S w ys x

/-- A slice that reads as a list. -/
def Sl {α : Type} (sz : Nat) (R : Rp α) (S : Nat → Prop) (w : World) (v : Value) (l : List α) : Prop :=
  ∃ A c, v = .slice A l.length c ∧ l.length ≤ c ∧ c ≤ maxLen ∧ SlAt sz R S w A l

theorem cell_lt {w : World} {p : Addr} {v : Value} (h : w.cell? p = some v) : p.block < w.heap.size := World.block_lt_of_cell? w p h

theorem cell_kept {S S' : Nat → Prop} {w w' : World} {p : Addr} {v : Value} (h : Kept S S' w w') (hS : S p.block) (hc : w.cell? p = some v) : w'.cell? p = some v :=
  (World.cell?_of_block (h p.block hS (cell_lt hc)).2).trans hc

section
variable {α : Type} {sz : Nat} {R : Rp α} {S S' : Nat → Prop} {w w' : World}

theorem SlAt.keep (ok : RpOk sz R) (hsz : 0 < sz) {A : Option Addr} {l : List α} (h : SlAt sz R S w A l) (k : Kept S S' w w') : SlAt sz R S' w' A l := by
  intro i x hx
  obtain ⟨b, o, ys, hA, hS, hl, hc, hR⟩ := h i x hx
  have h0 : ∃ y, ys[0]? = some y := ⟨ys[0]'(by omega), List.getElem?_eq_getElem (by omega)⟩
  obtain ⟨y, hy⟩ := h0
  have hb := cell_lt (hc 0 y hy)
  exact ⟨b, o, ys, hA, (k b hS hb).1, hl, fun j y hj => cell_kept k hS (hc j y hj), ok.keep hR k⟩

theorem Sl.keep (ok : RpOk sz R) (hsz : 0 < sz) {v : Value} {l : List α} (h : Sl sz R S w v l) (k : Kept S S' w w') : Sl sz R S' w' v l := by
  obtain ⟨A, c, hv, h1, h2, h3⟩ := h
  exact ⟨A, c, hv, h1, h2, h3.keep ok hsz k⟩
end

/-! Slices that a call makes. -/
theorem Sl_nil {α : Type} (sz : Nat) (R : Rp α) (S : Nat → Prop) (w : World) : Sl sz R S w (.slice none 0 0) [] := ⟨none, 0, rfl, Nat.le_refl _, Nat.zero_le _, fun i x hi => by simp at hi⟩
theorem Sl_of {α : Type} {sz : Nat} {R : Rp α} {S : Nat → Prop} {w : World} {b o n c : Nat} {l : List α} (hl : l.length = n) (h1 : n ≤ c) (h2 : c ≤ maxLen) (hS : S b)
    (h : ∀ i x, l[i]? = some x → ∃ ys : List Value, ys.length = sz ∧ (∀ j y, ys[j]? = some y → w.cell? ⟨b, o + (i * sz + j), none⟩ = some y) ∧ R S w ys x) : Sl sz R S w (.slice (some ⟨b, o, none⟩) n c) l := by
  subst hl
  refine ⟨_, c, rfl, h1, h2, fun i x hi => ?_⟩
  obtain ⟨ys, h3, h4, h5⟩ := h i x hi
  exact ⟨b, o, ys, rfl, hS, h3, h4, h5⟩
theorem Sl_one {α : Type} {sz : Nat} {R : Rp α} {S : Nat → Prop} {w : World} {b o c : Nat} {x : α} (ys : List Value) (h1 : 1 ≤ c) (h2 : c ≤ maxLen) (hS : S b) (hl : ys.length = sz)
    (hc : ∀ j y, ys[j]? = some y → w.cell? ⟨b, o + j, none⟩ = some y) (hR : R S w ys x) : Sl sz R S w (.slice (some ⟨b, o, none⟩) 1 c) [x] :=
  Sl_of rfl h1 h2 hS fun i z hi => by
    rcases i with _ | i
    · simp at hi
      subst hi
      exact ⟨ys, hl, fun j y hj => by rw [Nat.zero_mul, Nat.zero_add]; exact hc j y hj, hR⟩
    · simp at hi

/-- Reading: what a reading of the arguments gives. -/
abbrev Rd (P : Program) (w : World) (t : TypeId) {α : Type} (R : Rp α) : Prop :=
  ∀ {H : Type} {enc : TypeId × Value → H} {base : Nat} {spare : Nat → Bool} {held : Bool} {fuel : Nat} {cs : List Value} {x : DataW H × List MemPlace},
    DataW.trod enc P w base spare held fuel t cs = some x → ∃ a, R (fun _ => True) w cs a

def rInt : Rp Int := fun _ _ cs n => cs = [.int .i64 n] ∧ I64 n
def rBool : Rp Bool := fun _ _ cs b => cs = [.bool b]
def rStr : Rp ByteArray := fun _ _ cs s => cs = [.string s] ∧ s.size ≤ maxLen
def rByte : Rp Int := fun _ _ cs n => cs = [.int .u8 n] ∧ 0 ≤ n ∧ n ≤ 255
/-- A slice as one cell. -/
def rSl {α : Type} (sz : Nat) (R : Rp α) : Rp (List α) := fun S w cs l => ∃ v, cs = [v] ∧ Sl sz R S w v l

theorem rInt_ok : RpOk 1 rInt := ⟨fun h => by rw [h.1]; rfl, fun h _ => h, fun h u hu => by rw [h.1] at hu; simp at hu; subst hu; rfl⟩
theorem rBool_ok : RpOk 1 rBool := ⟨fun h => by rw [h]; rfl, fun h _ => h, fun h u hu => by rw [h] at hu; simp at hu; subst hu; rfl⟩
theorem rStr_ok : RpOk 1 rStr := ⟨fun h => by rw [h.1]; rfl, fun h _ => h, fun h u hu => by rw [h.1] at hu; simp at hu; subst hu; rfl⟩
theorem rByte_ok : RpOk 1 rByte := ⟨fun h => by rw [h.1]; rfl, fun h _ => h, fun h u hu => by rw [h.1] at hu; simp at hu; subst hu; rfl⟩
theorem rSl_ok {α : Type} {sz : Nat} {R : Rp α} (ok : RpOk sz R) (hsz : 0 < sz) : RpOk 1 (rSl sz R) :=
  ⟨fun ⟨v, h, _⟩ => by rw [h]; rfl, fun ⟨v, h, k⟩ kk => ⟨v, h, k.keep ok hsz kk⟩, fun ⟨v, h, A, c, hv, _⟩ u hu => by rw [h] at hu; simp at hu; subst hu; subst hv; rfl⟩

section
variable {P : Program} {w : World} {t : TypeId}
theorem rd_int (ht : P.underlying t = some (.int .i64)) : Rd P w t rInt := by
  intro H enc base spare held fuel cs x h
  obtain ⟨n, hc, _, hw⟩ := DataW.trod_int ht h
  exact ⟨n, hc, by simp [Lit.wf] at hw; exact hw⟩
theorem rd_byte (ht : P.underlying t = some (.int .u8)) : Rd P w t rByte := by
  intro H enc base spare held fuel cs x h
  obtain ⟨n, hc, _, hw⟩ := DataW.trod_int ht h
  exact ⟨n, hc, by simp [Lit.wf] at hw; exact hw⟩
theorem rd_bool (ht : P.underlying t = some .bool) : Rd P w t rBool := by
  intro H enc base spare held fuel cs x h
  obtain ⟨b, hc, _⟩ := DataW.trod_bool ht h
  exact ⟨b, hc⟩
theorem rd_str (ht : P.underlying t = some .string) : Rd P w t rStr := by
  intro H enc base spare held fuel cs x h
  obtain ⟨s, hc, _, hl⟩ := DataW.trod_string ht h
  exact ⟨s, hc, hl⟩
theorem rd1_int {H : Type} {enc : TypeId × Value → H} {base : Nat} {spare : Nat → Bool} {held : Bool} {fuel : Nat} {v : Value} {x : DataW H × List MemPlace} (ht : P.underlying t = some (.int .i64)) (h : DataW.trod enc P w base spare held fuel t [v] = some x) : ∃ a, v = .int .i64 a ∧ I64 a := by
  obtain ⟨a, h1, h2⟩ := rd_int ht h
  exact ⟨a, by simpa using h1, h2⟩
theorem rd1_bool {H : Type} {enc : TypeId × Value → H} {base : Nat} {spare : Nat → Bool} {held : Bool} {fuel : Nat} {v : Value} {x : DataW H × List MemPlace} (ht : P.underlying t = some .bool) (h : DataW.trod enc P w base spare held fuel t [v] = some x) : ∃ a, v = .bool a := by
  obtain ⟨a, h1⟩ := rd_bool ht h
  exact ⟨a, by simpa [rBool] using h1⟩
theorem rd1_str {H : Type} {enc : TypeId × Value → H} {base : Nat} {spare : Nat → Bool} {held : Bool} {fuel : Nat} {v : Value} {x : DataW H × List MemPlace} (ht : P.underlying t = some .string) (h : DataW.trod enc P w base spare held fuel t [v] = some x) : ∃ a, v = .string a ∧ a.size ≤ maxLen := by
  obtain ⟨a, h1, h2⟩ := rd_str ht h
  exact ⟨a, by simpa using h1, h2⟩
theorem rd1_sl {α : Type} {sz : Nat} {R : Rp α} {H : Type} {enc : TypeId × Value → H} {base : Nat} {spare : Nat → Bool} {held : Bool} {fuel : Nat} {v : Value} {x : DataW H × List MemPlace} (hR : Rd P w t (rSl sz R)) (h : DataW.trod enc P w base spare held fuel t [v] = some x) : ∃ l, Sl sz R (fun _ => True) w v l := by
  obtain ⟨l, u, h1, h2⟩ := hR h
  obtain rfl : v = u := by simpa using h1
  exact ⟨l, h2⟩
end
end Go.Proofs.Ytdddgmmbdofomaa
