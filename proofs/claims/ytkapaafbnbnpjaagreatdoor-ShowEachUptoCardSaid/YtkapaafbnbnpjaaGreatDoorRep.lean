/- What the statements' data are in memory: predicates that say which list, text or number a value of the run reads as. No condition beyond those that each lemma names. -/
import Derived.Handy
import Derived.Deep.Slices
import Derived.Deep.Draws
import Derived.Deep.OwnRows
import Derived.WalkLawsBesides
import Derived.WalkSpells
import Derived.Test.YtkapaafbnbnpjaaGreatDoorChecked
namespace Go.Proofs.YtkapaafbnbnpjaaGreatDoor
open Go.RowKit Go.Deep Go.ChangeShapes Go.WideShapes

/-! max and min of numbers, as Lean's own. -/
section
variable {P : Program} (w : World)
theorem run_max2 (ts : Array TypeId) (t : TypeId) (k k' : IntKind) (x y : Int) : (Builtin.max_ ts t #[.int k x, .int k' y]).run P w = .ok (.int k (max x y)) w := by
  rw [run_max_int2]; congr 2; split <;> omega
theorem run_max3 (ts : Array TypeId) (t : TypeId) (k k' k'' : IntKind) (x y z : Int) : (Builtin.max_ ts t #[.int k x, .int k' y, .int k'' z]).run P w = .ok (.int k (max (max x y) z)) w := by
  rw [run_max_int3]; congr 2; split <;> split <;> omega
theorem run_min2 (ts : Array TypeId) (t : TypeId) (k k' : IntKind) (x y : Int) : (Builtin.min_ ts t #[.int k x, .int k' y]).run P w = .ok (.int k (min x y)) w := by
  rw [run_min_int2]; congr 2; split <;> omega
theorem run_min3 (ts : Array TypeId) (t : TypeId) (k k' k'' : IntKind) (x y z : Int) : (Builtin.min_ ts t #[.int k x, .int k' y, .int k'' z]).run P w = .ok (.int k (min (min x y) z)) w := by
  rw [run_min_int3]; congr 2; split <;> split <;> omega
end
attribute [go_sem high] run_max2 run_max3 run_min2 run_min3

/-- The numbers that an int holds. -/
def I64 (n : Int) : Prop := -9223372036854775808 ≤ n ∧ n ≤ 9223372036854775807

/-- How a run of cells reads as something: 'S': the blocks that are not to be written any more. -/
abbrev Rp (α : Type) := (Nat → Prop) → World → List Value → α → Prop

/-- What lies in S stays, and lies in S'. -/
def Kept (S S' : Nat → Prop) (w w' : World) : Prop := ∀ b, S b → b < w.heap.size → S' b ∧ w'.heap[b]? = w.heap[b]?

theorem Kept.refl {S S' : Nat → Prop} (w : World) (h : ∀ b, S b → S' b) : Kept S S' w w := fun b hb _ => ⟨h b hb, rfl⟩
theorem Kept.trans {S S' S'' : Nat → Prop} {w w' w'' : World} (h : Kept S S' w w') (hz : w.heap.size ≤ w'.heap.size) (k : Kept S' S'' w' w'') : Kept S S'' w w'' := fun b hb hl => by
  obtain ⟨h1, h2⟩ := h b hb hl
  obtain ⟨k1, k2⟩ := k b h1 (by omega)
  exact ⟨k1, k2.trans h2⟩
theorem Kept.below {S S' : Nat → Prop} {w w' : World} (h : Below w.heap.size w w') (hS : ∀ b, S b → S' b) : Kept S S' w w' := fun b hb hl => ⟨hS b hb, h.block b hl⟩

structure RpOk {α : Type} (sz : Nat) (R : Rp α) : Prop where
  len : ∀ {S : Nat → Prop} {w : World} {cs : List Value} {x : α}, R S w cs x → cs.length = sz
  keep : ∀ {S S' : Nat → Prop} {w w' : World} {cs : List Value} {x : α}, R S w cs x → Kept S S' w w' → R S' w' cs x
  one : ∀ {S : Nat → Prop} {w : World} {cs : List Value} {x : α}, R S w cs x → ∀ u ∈ cs, u.oneCell' = true

/-- The elements of a slice, sz cells each, from the address on. -/
def SlAt {α : Type} (sz : Nat) (R : Rp α) (S : Nat → Prop) (w : World) (A : Option Addr) (l : List α) : Prop :=
  ∀ i x, l[i]? = some x → ∃ b o ys, A = some ⟨b, o, none⟩ ∧ S b ∧ ys.length = sz ∧ (∀ j y, ys[j]? = some y → w.cell? ⟨b, o + (i * sz + j), none⟩ = some y) ∧ R S w ys x

/-- A slice that reads as a list. -/
def Sl {α : Type} (sz : Nat) (R : Rp α) (S : Nat → Prop) (w : World) (v : Value) (l : List α) : Prop :=
  ∃ A c, v = .slice A l.length c ∧ l.length ≤ c ∧ c ≤ maxLen ∧ l.length ≤ 140737488355328 ∧ SlAt sz R S w A l

theorem cell_lt {w : World} {p : Addr} {v : Value} (h : w.cell? p = some v) : p.block < w.heap.size := World.block_lt_of_cell? w p h

theorem cell_kept {S S' : Nat → Prop} {w w' : World} {p : Addr} {v : Value} (h : Kept S S' w w') (hS : S p.block) (hc : w.cell? p = some v) : w'.cell? p = some v :=
  (World.cell?_of_block (h p.block hS (cell_lt hc)).2).trans hc

section
variable {α : Type} {sz : Nat} {R : Rp α} {S S' : Nat → Prop} {w w' : World}

theorem SlAt.keep (ok : RpOk sz R) (hsz : 0 < sz) {A : Option Addr} {l : List α} (h : SlAt sz R S w A l) (k : Kept S S' w w') : SlAt sz R S' w' A l := by
  intro i x hx
  obtain ⟨b, o, ys, hA, hS, hl, hc, hR⟩ := h i x hx
  have h0 : ∃ y, ys[0]? = some y := ⟨ys[0]'(by omega), List.getElem?_eq_getElem (by omega)⟩
  obtain ⟨y, hy⟩ := h0
  have hb := cell_lt (hc 0 y hy)
  exact ⟨b, o, ys, hA, (k b hS hb).1, hl, fun j y hj => cell_kept k hS (hc j y hj), ok.keep hR k⟩

theorem Sl.keep (ok : RpOk sz R) (hsz : 0 < sz) {v : Value} {l : List α} (h : Sl sz R S w v l) (k : Kept S S' w w') : Sl sz R S' w' v l := by
  obtain ⟨A, c, hv, h1, h2, h2', h3⟩ := h
  exact ⟨A, c, hv, h1, h2, h2', h3.keep ok hsz k⟩
end

/-- A new block, the world behind it under one name. -/
theorem boxed (w : World) (cs : Array Value) (T : TypeId) : ∃ W, w.alloc (.cells cs T) = W ∧ (∀ j v, cs[j]? = some v → W.cell? ⟨w.heap.size, j, none⟩ = some v) ∧ (∀ j, W.frozen? ⟨w.heap.size, j, none⟩ = false) ∧ Below w.heap.size w W ∧ w.heap.size < W.heap.size := by
  refine ⟨_, rfl, fun j v hj => ?_, fun j => ?_, (Below.refl _ _).alloc (Nat.le_refl _) _, by simp⟩
  · rw [cell_of_row _ w.heap.size j cs T (0, 0) (heap_alloc_new w _)]; exact hj
  · have h := heap_alloc_new w (.cells cs T)
    unfold World.frozen?
    rw [h]
    simp

/-! Slices that a call makes. -/
theorem Sl_nil {α : Type} (sz : Nat) (R : Rp α) (S : Nat → Prop) (w : World) : Sl sz R S w (.slice none 0 0) [] := ⟨none, 0, rfl, Nat.le_refl _, Nat.zero_le _, Nat.zero_le _, fun i x hi => by simp at hi⟩
theorem Sl_of {α : Type} {sz : Nat} {R : Rp α} {S : Nat → Prop} {w : World} {b o n c : Nat} {l : List α} (hl : l.length = n) (h1 : n ≤ c) (h2 : c ≤ maxLen) (h2' : n ≤ 140737488355328) (hS : S b)
    (h : ∀ i x, l[i]? = some x → ∃ ys : List Value, ys.length = sz ∧ (∀ j y, ys[j]? = some y → w.cell? ⟨b, o + (i * sz + j), none⟩ = some y) ∧ R S w ys x) : Sl sz R S w (.slice (some ⟨b, o, none⟩) n c) l := by
  subst hl
  refine ⟨_, c, rfl, h1, h2, h2', fun i x hi => ?_⟩
  obtain ⟨ys, h3, h4, h5⟩ := h i x hi
  exact ⟨b, o, ys, rfl, hS, h3, h4, h5⟩
theorem Sl_one {α : Type} {sz : Nat} {R : Rp α} {S : Nat → Prop} {w : World} {b o c : Nat} {x : α} (ys : List Value) (h1 : 1 ≤ c) (h2 : c ≤ maxLen) (hS : S b) (hl : ys.length = sz)
    (hc : ∀ j y, ys[j]? = some y → w.cell? ⟨b, o + j, none⟩ = some y) (hR : R S w ys x) : Sl sz R S w (.slice (some ⟨b, o, none⟩) 1 c) [x] :=
  Sl_of rfl h1 h2 (by decide) hS fun i z hi => by
    rcases i with _ | i
    · simp at hi
      subst hi
      exact ⟨ys, hl, fun j y hj => by rw [Nat.zero_mul, Nat.zero_add]; exact hc j y hj, hR⟩
    · simp at hi

/-- Every slice and string of a datum is within the reach of a row. -/
def Sized {H : Type} (P : Program) (t : TypeId) (d : DataW H) : Prop := ∀ n ∈ d.weights P t, n ≤ reachBytes
/-- Reading: what a reading of the arguments gives. -/
abbrev Rd (P : Program) (w : World) (t : TypeId) {α : Type} (R : Rp α) : Prop :=
  ∀ {H : Type} {enc : TypeId × Value → H} {base : Nat} {spare : Nat → Bool} {held : Bool} {fuel : Nat} {cs : List Value} {x : DataW H × List MemPlace},
    DataW.trod enc P w base spare held fuel t cs = some x → Sized P t x.1 → ∃ a, R (fun _ => True) w cs a
theorem sized_all {H : Type} {P : Program} {e : TypeId} : ∀ {ds : List (DataW H)} {d : DataW H}, d ∈ ds → ∀ n ∈ d.weights P e, n ∈ DataW.weightsAll P e ds
  | x :: r, d, h, n, hn => by
    rw [DataW.weightsAll, List.mem_append]
    rcases List.mem_cons.1 h with rfl | h
    · exact .inl hn
    · exact .inr (sized_all h n hn)

def rInt : Rp Int := fun _ _ cs n => cs = [.int .i64 n] ∧ I64 n
def rBool : Rp Bool := fun _ _ cs b => cs = [.bool b]
def rStr : Rp ByteArray := fun _ _ cs s => cs = [.string s] ∧ s.size ≤ 140737488355328
def rByte : Rp Int := fun _ _ cs n => cs = [.int .u8 n] ∧ 0 ≤ n ∧ n ≤ 255
/-- A slice as one cell. -/
def rSl {α : Type} (sz : Nat) (R : Rp α) : Rp (List α) := fun S w cs l => ∃ v, cs = [v] ∧ Sl sz R S w v l

theorem rInt_ok : RpOk 1 rInt := ⟨fun h => by rw [h.1]; rfl, fun h _ => h, fun h u hu => by rw [h.1] at hu; simp at hu; subst hu; rfl⟩
theorem rBool_ok : RpOk 1 rBool := ⟨fun h => by rw [h]; rfl, fun h _ => h, fun h u hu => by rw [h] at hu; simp at hu; subst hu; rfl⟩
theorem rStr_ok : RpOk 1 rStr := ⟨fun h => by rw [h.1]; rfl, fun h _ => h, fun h u hu => by rw [h.1] at hu; simp at hu; subst hu; rfl⟩
theorem rByte_ok : RpOk 1 rByte := ⟨fun h => by rw [h.1]; rfl, fun h _ => h, fun h u hu => by rw [h.1] at hu; simp at hu; subst hu; rfl⟩
theorem rSl_ok {α : Type} {sz : Nat} {R : Rp α} (ok : RpOk sz R) (hsz : 0 < sz) : RpOk 1 (rSl sz R) :=
  ⟨fun ⟨v, h, _⟩ => by rw [h]; rfl, fun ⟨v, h, k⟩ kk => ⟨v, h, k.keep ok hsz kk⟩, fun ⟨v, h, A, c, hv, _⟩ u hu => by rw [h] at hu; simp at hu; subst hu; subst hv; rfl⟩

section
variable {P : Program} {w : World} {t : TypeId}
theorem rd_int (ht : P.underlying t = some (.int .i64)) : Rd P w t rInt := by
  intro H enc base spare held fuel cs x h _
  obtain ⟨n, hc, _, hw⟩ := DataW.trod_int ht h
  exact ⟨n, hc, by simp [Lit.wf] at hw; exact hw⟩
theorem rd_byte (ht : P.underlying t = some (.int .u8)) : Rd P w t rByte := by
  intro H enc base spare held fuel cs x h _
  obtain ⟨n, hc, _, hw⟩ := DataW.trod_int ht h
  exact ⟨n, hc, by simp [Lit.wf] at hw; exact hw⟩
theorem rd_bool (ht : P.underlying t = some .bool) : Rd P w t rBool := by
  intro H enc base spare held fuel cs x h _
  obtain ⟨b, hc, _⟩ := DataW.trod_bool ht h
  exact ⟨b, hc⟩
theorem rd_str (ht : P.underlying t = some .string) : Rd P w t rStr := by
  intro H enc base spare held fuel cs x h hz
  obtain ⟨s, hc, hx, _⟩ := DataW.trod_string ht h
  subst hx
  have := hz s.data.toList.length (by simp [DataW.weights])
  exact ⟨s, hc, by unfold reachBytes at this; simpa using Nat.le_trans this (by decide)⟩
variable {H : Type} {enc : TypeId × Value → H} {base : Nat} {spare : Nat → Bool} {held : Bool} {fuel : Nat} {v : Value} {x : DataW H × List MemPlace}
theorem rd1_int (ht : P.underlying t = some (.int .i64)) (h : DataW.trod enc P w base spare held fuel t [v] = some x) (hz : Sized P t x.1) : ∃ a, v = .int .i64 a ∧ I64 a := by
  obtain ⟨a, h1, h2⟩ := rd_int ht h hz
  exact ⟨a, by simpa using h1, h2⟩
theorem rd1_bool (ht : P.underlying t = some .bool) (h : DataW.trod enc P w base spare held fuel t [v] = some x) (hz : Sized P t x.1) : ∃ a, v = .bool a := by
  obtain ⟨a, h1⟩ := rd_bool ht h hz
  exact ⟨a, by simpa [rBool] using h1⟩
theorem rd1_str (ht : P.underlying t = some .string) (h : DataW.trod enc P w base spare held fuel t [v] = some x) (hz : Sized P t x.1) : ∃ a, v = .string a ∧ a.size ≤ 140737488355328 := by
  obtain ⟨a, h1, h2⟩ := rd_str ht h hz
  exact ⟨a, by simpa using h1, h2⟩
theorem rd1_sl {α : Type} {sz : Nat} {R : Rp α} (hR : Rd P w t (rSl sz R)) (h : DataW.trod enc P w base spare held fuel t [v] = some x) (hz : Sized P t x.1) : ∃ l, Sl sz R (fun _ => True) w v l := by
  obtain ⟨l, u, h1, h2⟩ := hR h hz
  obtain rfl : v = u := by simpa using h1
  exact ⟨l, h2⟩
end
end Go.Proofs.YtkapaafbnbnpjaaGreatDoor
