/- Layer tree: the document's list of folders as a function of their names; rising lists of names. No condition. -/
import Derived.Test.YtkapaafbnbnpjaaGreatDoorTrPlain
import Derived.Lib.Strings
namespace Go.Proofs.YtkapaafbnbnpjaaGreatDoor

/-! Texts, as the run compares them. -/
def ltS (a b : ByteArray) : Bool := Op.bytesLess a.toList b.toList
theorem less_irrefl : ∀ l : List UInt8, Op.bytesLess l l = false
  | [] => rfl
  | a :: l => by simp [Op.bytesLess, less_irrefl l]
theorem less_total : ∀ l r : List UInt8, Op.bytesLess l r = true ∨ l = r ∨ Op.bytesLess r l = true
  | [], [] => .inr (.inl rfl)
  | [], _ :: _ => .inl rfl
  | _ :: _, [] => .inr (.inr rfl)
  | a :: l, b :: r => by
    rcases Nat.lt_trichotomy a.toNat b.toNat with h | h | h
    · left; simp [Op.bytesLess, UInt8.lt_iff_toNat_lt, h]
    · obtain rfl : a = b := UInt8.toNat_inj.1 h
      rcases less_total l r with h1 | h1 | h1
      · left; simp [Op.bytesLess, h1]
      · right; left; rw [h1]
      · right; right; simp [Op.bytesLess, h1]
    · right; right; simp [Op.bytesLess, UInt8.lt_iff_toNat_lt, h]
theorem less_trans : ∀ l m r : List UInt8, Op.bytesLess l m = true → Op.bytesLess m r = true → Op.bytesLess l r = true
  | [], [], _, h, _ => by cases h
  | [], _ :: _, [], _, h => by cases h
  | [], _ :: _, _ :: _, _, _ => rfl
  | _ :: _, [], _, h, _ => by cases h
  | _ :: _, _ :: _, [], _, h => by cases h
  | a :: l, b :: m, c :: r, h, k => by
    simp only [Op.bytesLess, Bool.or_eq_true, Bool.and_eq_true, decide_eq_true_eq, beq_iff_eq, UInt8.lt_iff_toNat_lt] at h k ⊢
    rcases h with h | ⟨rfl, h⟩
    · rcases k with k | ⟨rfl, k⟩
      · left; omega
      · left; exact h
    · rcases k with k | ⟨rfl, k⟩
      · left; exact k
      · right; exact ⟨rfl, less_trans l m r h k⟩
theorem toList_inj {a b : ByteArray} (h : a.toList = b.toList) : a = b := by
  rw [Lib.toList_data, Lib.toList_data] at h
  exact ByteArray.ext (Array.toList_inj.1 h)
theorem ltS_irrefl (a : ByteArray) : ltS a a = false := less_irrefl _
theorem ltS_trans {a b c : ByteArray} (h : ltS a b = true) (k : ltS b c = true) : ltS a c = true := less_trans _ _ _ h k
theorem ltS_total (a b : ByteArray) : ltS a b = true ∨ a = b ∨ ltS b a = true := (less_total a.toList b.toList).imp id fun h => h.imp toList_inj id
theorem ltS_asymm {a b : ByteArray} (h : ltS a b = true) : ltS b a = false := by
  cases k : ltS b a
  · rfl
  · have := ltS_trans h k
    rw [ltS_irrefl] at this
    cases this
theorem ltS_ne {a b : ByteArray} (h : ltS a b = true) : a ≠ b := fun e => by rw [e, ltS_irrefl] at h; cases h

/-- The names of P, rising, each once. -/
def IsNames (P : Nm → Prop) (R : List Nm) : Prop := R.Pairwise (fun a b => ltS a b = true) ∧ ∀ x, x ∈ R ↔ P x
theorem IsNames.nodup {P : Nm → Prop} {R : List Nm} (h : IsNames P R) : R.Nodup := h.1.imp fun h => ltS_ne h
theorem rising_one {a b : List Nm} (ha : a.Pairwise (fun a b => ltS a b = true)) (hb : b.Pairwise (fun a b => ltS a b = true)) (h : ∀ x, x ∈ a ↔ x ∈ b) : a = b :=
  List.Perm.eq_of_pairwise (le := fun x y => ltS x y = true) (fun x y _ _ h1 h2 => by rw [ltS_asymm h1] at h2; cases h2) ha hb ((List.perm_ext_iff_of_nodup (ha.imp fun h => ltS_ne h) (hb.imp fun h => ltS_ne h)).2 h)
theorem IsNames.ext {P Q : Nm → Prop} {a b : List Nm} (ha : IsNames P a) (hb : IsNames Q b) (h : ∀ x, P x ↔ Q x) : a = b :=
  rising_one ha.1 hb.1 fun x => by rw [ha.2, hb.2, h]
theorem IsNames.nil {P : Nm → Prop} (h : ∀ x, ¬ P x) : IsNames P [] := ⟨List.Pairwise.nil, fun x => by simp [h x]⟩

/-- A name among rising ones. -/
def insS (s : Nm) : List Nm → List Nm
  | [] => [s]
  | x :: l => if ltS s x then s :: x :: l else x :: insS s l
theorem insS_mem (s : Nm) : ∀ (l : List Nm) (x : Nm), x ∈ insS s l ↔ x = s ∨ x ∈ l
  | [], x => by simp [insS]
  | y :: l, x => by
    rw [insS]
    split
    · simp
    · rw [List.mem_cons, insS_mem s l x, List.mem_cons]
      constructor
      · rintro (h | h | h)
        · exact .inr (.inl h)
        · exact .inl h
        · exact .inr (.inr h)
      · rintro (h | h | h)
        · exact .inr (.inl h)
        · exact .inl h
        · exact .inr (.inr h)
theorem insS_rising (s : Nm) : ∀ (l : List Nm), l.Pairwise (fun a b => ltS a b = true) → s ∉ l → (insS s l).Pairwise (fun a b => ltS a b = true)
  | [], _, _ => by simp [insS]
  | y :: l, h, hs => by
    obtain ⟨h1, h2⟩ := List.pairwise_cons.1 h
    rw [insS]
    split
    · rename_i hl
      refine List.pairwise_cons.2 ⟨fun x hx => ?_, h⟩
      rcases List.mem_cons.1 hx with rfl | hx
      · exact hl
      · exact ltS_trans hl (h1 x hx)
    · rename_i hl
      refine List.pairwise_cons.2 ⟨fun x hx => ?_, insS_rising s l h2 fun hm => hs (List.mem_cons_of_mem _ hm)⟩
      rcases (insS_mem s l x).1 hx with rfl | hx
      · rcases ltS_total y x with h3 | h3 | h3
        · exact h3
        · exact absurd (by rw [h3]; exact List.mem_cons_self ..) hs
        · exact absurd h3 hl
      · exact h1 x hx
theorem IsNames.put {P : Nm → Prop} {R : List Nm} (h : IsNames P R) {s : Nm} (hs : ¬ P s) : IsNames (fun x => x = s ∨ P x) (insS s R) :=
  ⟨insS_rising s R h.1 fun hm => hs ((h.2 s).1 hm), fun x => by rw [insS_mem, h.2]⟩

/-! The document's list. -/
structure Node where
  name : ByteArray
  parent : ByteArray
  gone : Bool
def fN (N : List Node) : Fs := fun s => (N.find? fun n => decide (n.name = s)).map fun n => (n.parent, n.gone)
def Uniq (N : List Node) : Prop := (N.map Node.name).Nodup
theorem fN_none {N : List Node} {s : Nm} : fN N s = none ↔ ∀ n ∈ N, n.name ≠ s := by
  unfold fN
  rw [Option.map_eq_none_iff, List.find?_eq_none]
  simp
theorem nodup_inj {α β : Type} {f : α → β} : ∀ {l : List α}, (l.map f).Nodup → ∀ {a b : α}, a ∈ l → b ∈ l → f a = f b → a = b
  | [], _, _, _, ha, _, _ => by simp at ha
  | x :: l, h, a, b, ha, hb, e => by
    rw [List.map_cons, List.nodup_cons] at h
    rcases List.mem_cons.1 ha with ea | ha'
    · rcases List.mem_cons.1 hb with eb | hb'
      · rw [ea, eb]
      · exact absurd (by rw [← ea, e]; exact List.mem_map_of_mem hb') h.1
    · rcases List.mem_cons.1 hb with eb | hb'
      · exact absurd (by rw [← eb, ← e]; exact List.mem_map_of_mem ha') h.1
      · exact nodup_inj h.2 ha' hb' e
theorem fN_mem {N : List Node} (h : Uniq N) {n : Node} (hn : n ∈ N) : fN N n.name = some (n.parent, n.gone) := by
  unfold fN
  cases hf : N.find? fun m => decide (m.name = n.name) with
  | none =>
    rw [List.find?_eq_none] at hf
    have := hf n hn
    simp at this
  | some m =>
    have h1 := List.find?_some hf
    have h2 := List.mem_of_find?_eq_some hf
    simp at h1
    have : m = n := by
      unfold Uniq at h
      exact nodup_inj h h2 hn h1
    rw [this]
    rfl
theorem fN_some {N : List Node} {s : Nm} {v : Nm × Bool} (h : fN N s = some v) : ∃ n ∈ N, n.name = s ∧ n.parent = v.1 ∧ n.gone = v.2 := by
  unfold fN at h
  rw [Option.map_eq_some_iff] at h
  obtain ⟨n, h1, rfl⟩ := h
  have := List.find?_some h1
  exact ⟨n, List.mem_of_find?_eq_some h1, by simpa using this, rfl, rfl⟩
theorem live_iff {N : List Node} (h : Uniq N) {s : Nm} : liveB (fN N) s = true ↔ ∃ n ∈ N, n.name = s ∧ n.gone = false := by
  constructor
  · intro hl
    unfold liveB at hl
    cases hf : fN N s with
    | none => rw [hf] at hl; cases hl
    | some v =>
      obtain ⟨n, h1, h2, _, h4⟩ := fN_some hf
      rw [hf] at hl
      exact ⟨n, h1, h2, by rw [h4]; simpa using hl⟩
  · rintro ⟨n, h1, rfl, h3⟩
    unfold liveB
    rw [fN_mem h h1]
    simp [h3]
theorem par_mem {N : List Node} (h : Uniq N) {n : Node} (hn : n ∈ N) : parF (fN N) n.name = n.parent := by
  unfold parF
  rw [fN_mem h hn]
theorem live_mem {N : List Node} (h : Uniq N) {n : Node} (hn : n ∈ N) : liveB (fN N) n.name = !n.gone := by
  unfold liveB
  rw [fN_mem h hn]
theorem uniq_add {N : List Node} (h : Uniq N) {n : Node} (hn : fN N n.name = none) : Uniq (N ++ [n]) := by
  unfold Uniq
  rw [List.map_append]
  refine List.nodup_append.2 ⟨h, by simp, fun a ha b hb => ?_⟩
  obtain ⟨m, h1, rfl⟩ := List.mem_map.1 ha
  obtain rfl : b = n.name := by simpa using hb
  exact fN_none.1 hn m h1
theorem fN_add {N : List Node} {n : Node} (hn : fN N n.name = none) : fN (N ++ [n]) = upd (fN N) n.name (n.parent, n.gone) := by
  funext x
  unfold upd
  by_cases e : x = n.name
  · subst e
    rw [if_pos rfl]
    have := fN_none.1 hn
    unfold fN
    rw [List.find?_append, List.find?_eq_none.2 fun m hm => by simpa using this m hm]
    simp
  · rw [if_neg e]
    unfold fN
    rw [List.find?_append]
    have : List.find? (fun m => decide (m.name = x)) [n] = none := by simp [Ne.symm e]
    rw [this, Option.or_none]
theorem uniq_set {N : List Node} (h : Uniq N) {i : Nat} {n m : Node} (hi : N[i]? = some n) (hm : m.name = n.name) : Uniq (N.set i m) := by
  unfold Uniq
  rw [List.map_set, hm]
  have : (N.map Node.name).set i n.name = N.map Node.name := by
    apply List.ext_getElem?
    intro j
    rw [List.getElem?_set]
    split
    · rename_i e
      subst e
      have hl := (List.getElem?_eq_some_iff.1 hi).1
      rw [if_pos (by simpa using hl), List.getElem?_map, hi]
      rfl
    · rfl
  rw [this]
  exact h
theorem fN_set {N : List Node} (h : Uniq N) {i : Nat} {n m : Node} (hi : N[i]? = some n) (hm : m.name = n.name) : fN (N.set i m) = upd (fN N) n.name (m.parent, m.gone) := by
  have hu := uniq_set h hi hm
  have hl := (List.getElem?_eq_some_iff.1 hi).1
  funext x
  unfold upd
  by_cases e : x = n.name
  · subst e
    rw [if_pos rfl, ← hm]
    exact fN_mem hu (List.mem_of_getElem? (by rw [List.getElem?_set_self hl]))
  · rw [if_neg e]
    cases hf : fN N x with
    | none =>
      rw [fN_none] at hf ⊢
      intro k hk
      rcases List.mem_or_eq_of_mem_set hk with hk | rfl
      · exact hf k hk
      · rw [hm]; exact fun e2 => e e2.symm
    | some v =>
      obtain ⟨k, k1, rfl, k3, k4⟩ := fN_some hf
      obtain ⟨j, hj⟩ := List.getElem?_of_mem k1
      have hji : i ≠ j := fun e2 => by
        subst e2
        rw [hi] at hj
        exact e (by rw [Option.some.inj hj])
      have : k ∈ N.set i m := List.mem_of_getElem? (i := j) (by rw [List.getElem?_set_ne hji]; exact hj)
      rw [fN_mem hu this, k3, k4]
end Go.Proofs.YtkapaafbnbnpjaaGreatDoor
