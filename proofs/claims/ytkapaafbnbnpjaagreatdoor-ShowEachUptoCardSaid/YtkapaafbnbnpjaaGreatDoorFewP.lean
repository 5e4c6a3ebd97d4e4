/- What a small state is, in plain words. No condition. -/
import Derived.Test.YtkapaafbnbnpjaaGreatDoorFewB
namespace Go.Proofs.YtkapaafbnbnpjaaGreatDoor

theorem mxMem_le : ∀ (l : List Member) (a n : Nat), mxMem l a ≤ n ↔ a ≤ n ∧ ∀ x ∈ l, x.name.size ≤ n
  | [], a, n => by simp [mxMem]
  | x :: l, a, n => by rw [mxMem, mxMem_le l]; simp only [List.mem_cons, forall_eq_or_imp, Nat.max_le, and_assoc]
theorem mxAt_le : ∀ (l : List At) (a n : Nat), mxAt l a ≤ n ↔ a ≤ n ∧ ∀ x ∈ l, x.name.size ≤ n
  | [], a, n => by simp [mxAt]
  | x :: l, a, n => by rw [mxAt, mxAt_le l]; simp only [List.mem_cons, forall_eq_or_imp, Nat.max_le, and_assoc]
theorem mxWrap_le : ∀ (l : List Wrap) (a n : Nat), mxWrap l a ≤ n ↔ a ≤ n ∧ ∀ x ∈ l, x.name.size ≤ n
  | [], a, n => by simp [mxWrap]
  | x :: l, a, n => by rw [mxWrap, mxWrap_le l]; simp only [List.mem_cons, forall_eq_or_imp, Nat.max_le, and_assoc]
theorem mxLink_le : ∀ (l : List Link) (a n : Nat), mxLink l a ≤ n ↔ a ≤ n ∧ ∀ x ∈ l, x.to.size ≤ n
  | [], a, n => by simp [mxLink]
  | x :: l, a, n => by rw [mxLink, mxLink_le l]; simp only [List.mem_cons, forall_eq_or_imp, Nat.max_le, and_assoc]
theorem mxItem_le : ∀ (l : List Item) (a n : Nat), mxItem l a ≤ n ↔ a ≤ n ∧ ∀ x ∈ l, x.name.size ≤ n ∧ x.versions.length ≤ n
  | [], a, n => by simp [mxItem]
  | x :: l, a, n => by rw [mxItem, mxItem_le l]; simp only [List.mem_cons, forall_eq_or_imp, Nat.max_le, and_assoc]
theorem mxMan_le : ∀ (l : List Manifest) (a n : Nat), mxMan l a ≤ n ↔ a ≤ n ∧ ∀ x ∈ l, x.parent.size ≤ n ∧ x.members.length ≤ n ∧ ∀ y ∈ x.members, y.name.size ≤ n
  | [], a, n => by simp [mxMan]
  | x :: l, a, n => by
    rw [mxMan, mxMan_le l, mxMem_le]
    simp only [List.mem_cons, forall_eq_or_imp]
    constructor
    · rintro ⟨⟨h1, h2⟩, h3⟩; exact ⟨by omega, ⟨by omega, by omega, h2⟩, h3⟩
    · rintro ⟨h1, ⟨h2, h3, h4⟩, h5⟩; exact ⟨⟨by omega, h4⟩, h5⟩
theorem mxEp_le : ∀ (l : List Epoch) (a n : Nat), mxEp l a ≤ n ↔ a ≤ n ∧ ∀ x ∈ l, x.chain.length ≤ n ∧ ∀ y ∈ x.chain, y.name.size ≤ n
  | [], a, n => by simp [mxEp]
  | x :: l, a, n => by
    rw [mxEp, mxEp_le l, mxAt_le]
    simp only [List.mem_cons, forall_eq_or_imp]
    constructor
    · rintro ⟨⟨h1, h2⟩, h3⟩; exact ⟨by omega, ⟨by omega, h2⟩, h3⟩
    · rintro ⟨h1, ⟨h2, h3⟩, h5⟩; exact ⟨⟨by omega, h3⟩, h5⟩

structure ShortF (f : Folder) : Prop where
  name : f.name.size ≤ 20
  man : ∀ x ∈ f.manifests, x.parent.size ≤ 20 ∧ x.members.length ≤ 20 ∧ ∀ y ∈ x.members, y.name.size ≤ 20
  ep : ∀ x ∈ f.epochs, x.chain.length ≤ 20 ∧ ∀ y ∈ x.chain, y.name.size ≤ 20
  item : ∀ x ∈ f.items, x.name.size ≤ 20 ∧ x.versions.length ≤ 20
  wrap : ∀ x ∈ f.wraps, x.name.size ≤ 20
  link : ∀ x ∈ f.links, x.to.size ≤ 20
theorem longOf_le (f : Folder) (h : longOf f ≤ 20) : ShortF f := by
  unfold longOf at h
  rw [mxLink_le, mxWrap_le, mxItem_le, mxEp_le, mxMan_le] at h
  obtain ⟨⟨⟨⟨⟨h1, h2⟩, h3⟩, h4⟩, h5⟩, h6⟩ := h
  exact ⟨h1, h2, h3, h4, h5, h6⟩

def size5 (f : Folder) : Nat := f.manifests.length + f.epochs.length + f.items.length + f.wraps.length + f.links.length
def sum5 : List Folder → Nat
  | [] => 0
  | f :: l => size5 f + sum5 l
theorem sum5_mem : ∀ (l : List Folder) (f : Folder), f ∈ l → size5 f ≤ sum5 l
  | [], f, h => by simp at h
  | x :: l, f, h => by
    rcases List.mem_cons.1 h with rfl | h
    · simp [sum5]
    · have := sum5_mem l f h; simp [sum5]; omega
theorem fewFolders_true : ∀ (l : List Folder) (n : Nat), fewFolders l n = true → n + sum5 l ≤ 100 ∧ ∀ f ∈ l, ShortF f
  | [], n, h => by simpa [fewFolders, sum5] using h
  | f :: l, n, h => by
    rw [fewFolders] at h
    split at h
    · cases h
    · split at h
      · rename_i h2
        obtain ⟨a, b⟩ := fewFolders_true l _ h
        refine ⟨by simp only [sum5, size5]; omega, fun g hg => ?_⟩
        rcases List.mem_cons.1 hg with rfl | hg
        · exact longOf_le _ h2
        · exact b g hg
      · cases h
theorem fewUsers_true : ∀ (l : List User), fewUsers l = true → ∀ x ∈ l, x.name.size ≤ 20
  | [], _, x, hx => by simp at hx
  | u :: l, h, x, hx => by
    rw [fewUsers] at h
    split at h
    · cases h
    · rcases List.mem_cons.1 hx with rfl | hx
      · omega
      · exact fewUsers_true l h x hx
theorem fewPairs_true : ∀ (l : List Pair), fewPairs l = true → ∀ x ∈ l, x.frm.size ≤ 20 ∧ x.to.size ≤ 20
  | [], _, x, hx => by simp at hx
  | u :: l, h, x, hx => by
    rw [fewPairs] at h
    split at h
    · cases h
    · split at h
      · cases h
      · rcases List.mem_cons.1 hx with rfl | hx
        · omega
        · exact fewPairs_true l h x hx

structure Small (st : State) : Prop where
  users : ∀ x ∈ st.users, x.name.size ≤ 20
  pairs : ∀ x ∈ st.deposits, x.frm.size ≤ 20 ∧ x.to.size ≤ 20
  few8 : st.folders.length ≤ 8
  all : st.users.length + st.deposits.length + sum5 st.folders ≤ 100
  short : ∀ f ∈ st.folders, ShortF f
theorem few_true (st : State) (h : few st = true) : Small st := by
  unfold few at h
  split at h
  · rename_i h1
    split at h
    · rename_i h2
      split at h
      · cases h
      · rename_i h3
        obtain ⟨a, b⟩ := fewFolders_true _ _ h
        exact ⟨fewUsers_true _ h1, fewPairs_true _ h2, by omega, by omega, b⟩
    · cases h
  · cases h
end Go.Proofs.YtkapaafbnbnpjaaGreatDoor
