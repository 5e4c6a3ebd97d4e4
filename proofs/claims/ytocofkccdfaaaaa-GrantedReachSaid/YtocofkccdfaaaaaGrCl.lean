/- What is come to from seeds along edges, step by step. No program in sight, no condition. -/
import Derived.Test.YtocofkccdfaaaaaGrStE
namespace Go.Proofs.Ytocofkccdfaaaaa

inductive ClR {α : Type} (E : List (α × α)) (S : List α) : α → Prop
  | seed {x : α} : x ∈ S → ClR E S x
  | step {a b : α} : ClR E S a → (a, b) ∈ E → ClR E S b
theorem ClR.closed {α : Type} {E : List (α × α)} {S : List α} (P : α → Prop) (h0 : ∀ x ∈ S, P x) (hS : ∀ e ∈ E, P e.1 → P e.2) {x : α} (r : ClR E S x) : P x := by
  induction r with
  | seed h => exact h0 _ h
  | step _ hm ih => exact hS _ hm ih
/-- A list under way: its seeds, what was come to since, and up to where all edges were followed. -/
structure Cl {α : Type} (E : List (α × α)) (S l : List α) (i : Nat) : Prop where
  ext : ∃ x, l = S ++ x ∧ x.Nodup ∧ ∀ y ∈ x, y ∈ E.map (·.2)
  sound : ∀ y ∈ l, ClR E S y
  done : ∀ (k : Nat) y, k < i → l[k]? = some y → ∀ z, (y, z) ∈ E → z ∈ l
section
variable {α : Type} {E : List (α × α)} {S l : List α} {i : Nat}
theorem Cl.start (E : List (α × α)) (S : List α) : Cl E S S 0 := ⟨⟨[], by simp, List.nodup_nil, fun y h => by cases h⟩, fun y h => .seed h, fun k y hk => by omega⟩
theorem Cl.len (h : Cl E S l i) : l.length ≤ S.length + E.length := by
  obtain ⟨x, rfl, h2, h3⟩ := h.ext
  have := nodup_len h2 h3
  rw [List.length_map] at this
  rw [List.length_append]
  omega
theorem Cl.add (h : Cl E S l i) {y z : α} (hy : y ∈ l) (he : (y, z) ∈ E) (hz : z ∉ l) (hi : i ≤ l.length) : Cl E S (l ++ [z]) i := by
  obtain ⟨x, h1, h2, h3⟩ := h.ext
  refine ⟨⟨x ++ [z], by rw [h1, List.append_assoc], List.nodup_append.2 ⟨h2, by simp, fun a ha b hb => ?_⟩, fun a ha => ?_⟩, fun a ha => ?_, fun k a hk ha b hb => ?_⟩
  · obtain rfl : b = z := by simpa using hb
    exact fun e => hz (by rw [h1]; exact List.mem_append_right _ (e ▸ ha))
  · rcases List.mem_append.1 ha with ha | ha
    · exact h3 a ha
    · rw [List.mem_singleton.1 ha]
      exact List.mem_map.2 ⟨_, he, rfl⟩
  · rcases List.mem_append.1 ha with ha | ha
    · exact h.sound a ha
    · rw [List.mem_singleton.1 ha]
      exact .step (h.sound y hy) he
  · rw [List.getElem?_append_left (by omega)] at ha
    exact List.mem_append_left _ (h.done k a hk ha b hb)
theorem Cl.next (h : Cl E S l i) {y : α} (hy : l[i]? = some y) (hd : ∀ z, (y, z) ∈ E → z ∈ l) : Cl E S l (i + 1) :=
  ⟨h.ext, h.sound, fun k a hk ha b hb => by
    rcases Nat.lt_or_ge k i with h1 | h1
    · exact h.done k a h1 ha b hb
    · obtain rfl : k = i := by omega
      obtain rfl := Option.some.inj (hy.symm.trans ha)
      exact hd b hb⟩
theorem Cl.all (h : Cl E S l i) (hi : l.length ≤ i) (x : α) : x ∈ l ↔ ClR E S x := by
  refine ⟨h.sound x, fun r => r.closed (· ∈ l) (fun y hy => ?_) fun e he h1 => ?_⟩
  · obtain ⟨q, rfl, _, _⟩ := h.ext
    exact List.mem_append_left _ hy
  · obtain ⟨k, hk⟩ := List.getElem?_of_mem h1
    have := (List.getElem?_eq_some_iff.1 hk).1
    exact h.done k _ (by omega) hk _ he
end
/-- Who has a deposit of whom. -/
def depE (l : List Pair) : List (Nm × Nm) := l.map fun p => (p.frm, p.to)
def depR (l : List Pair) : List (Nm × Nm) := l.map fun p => (p.to, p.frm)
theorem depE_len (l : List Pair) : (depE l).length = l.length := by simp [depE]
theorem depR_len (l : List Pair) : (depR l).length = l.length := by simp [depR]
theorem mem_depE {l : List Pair} {a b : Nm} : (a, b) ∈ depE l ↔ ∃ p ∈ l, p.frm = a ∧ p.to = b := by
  unfold depE
  rw [List.mem_map]
  simp only [Prod.mk.injEq]
theorem mem_depR {l : List Pair} {a b : Nm} : (a, b) ∈ depR l ↔ ∃ p ∈ l, p.to = a ∧ p.frm = b := by
  unfold depR
  rw [List.mem_map]
  simp only [Prod.mk.injEq]
/-- The members of the folders of a chain. -/
def memsOf (st : State) (c : List At) : List Nm := c.flatMap fun x => (nowM ((findF st x.name).getD zeroF)).members.map Member.name
/-- Who may read a folder. -/
def ReadP (st : State) (fo : Nm) (x : Nm) : Prop := ClR (depE st.deposits) (memsOf st (chainOf st 4 fo)) x
end Go.Proofs.Ytocofkccdfaaaaa
