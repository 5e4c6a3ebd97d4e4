/- Layer granted: what leads to what, and who reaches which epoch. No program in sight, no condition. -/
import Derived.Test.YtkapaafbnbnpjaaGreatDoorTrList
import Derived.Test.YtkapaafbnbnpjaaGreatDoorApi
namespace Go.Proofs.YtkapaafbnbnpjaaGreatDoor

/-- A user, or, of a folder, an epoch. -/
abbrev GN := Bool × Nm × Int
def uN (s : Nm) : GN := (false, s, 0)
def eN (s : Nm) (e : Int) : GN := (true, s, e)

inductive Reach (E : List (GN × GN)) (a : GN) : GN → Prop
  | refl : Reach E a a
  | step {b c : GN} : Reach E a b → (b, c) ∈ E → Reach E a c
theorem Reach.mono {E E' : List (GN × GN)} (h : ∀ x ∈ E, x ∈ E') {a b : GN} (r : Reach E a b) : Reach E' a b := by
  induction r with
  | refl => exact .refl
  | step _ hm ih => exact .step ih (h _ hm)
theorem Reach.trans {E : List (GN × GN)} {a b c : GN} (r : Reach E a b) (s : Reach E b c) : Reach E a c := by
  induction s with
  | refl => exact r
  | step _ hm ih => exact .step ih hm
theorem Reach.closed {E : List (GN × GN)} {a : GN} (S : GN → Prop) (h0 : S a) (hS : ∀ x ∈ E, S x.1 → S x.2) {b : GN} (r : Reach E a b) : S b := by
  induction r with
  | refl => exact h0
  | step _ hm ih => exact hS _ hm ih

instance memDec (s : Nm) (l : List Nm) : Decidable (s ∈ l) := decidable_of_iff (∃ y ∈ l, y = s) (by simp)
/-- The things that are the first of their names. -/
def firstsStep {α : Type} (key : α → Nm) (out : List α) (x : α) : List α := if key x ∈ out.map key then out else out ++ [x]
def firsts {α : Type} (key : α → Nm) (l : List α) : List α := l.foldl (firstsStep key) []
theorem list_rev {α : Type} {p : List α → Prop} (h0 : p []) (hs : ∀ l x, p l → p (l ++ [x])) (l : List α) : p l := by
  have : ∀ r : List α, p r.reverse := by
    intro r
    induction r with
    | nil => exact h0
    | cons x r ih => rw [List.reverse_cons]; exact hs _ _ ih
  have h := this l.reverse
  rwa [List.reverse_reverse] at h
section
variable {α : Type} (key : α → Nm)
theorem firsts_raw (l : List α) (x : α) : firsts key (l ++ [x]) = firstsStep key (firsts key l) x := by simp [firsts, List.foldl_append]
theorem firsts_keys (l : List α) (s : Nm) : s ∈ (firsts key l).map key ↔ s ∈ l.map key := by
  induction l using list_rev with
  | h0 => simp [firsts]
  | hs l x ih =>
    rw [firsts_raw, firstsStep, List.map_append, List.mem_append, ← ih]
    split
    · rename_i h
      constructor
      · exact .inl
      · rintro (h2 | h2)
        · exact h2
        · obtain rfl : s = key x := by simpa using h2
          exact h
    · rw [List.map_append, List.mem_append]
theorem firsts_snoc (l : List α) (x : α) : firsts key (l ++ [x]) = if key x ∈ l.map key then firsts key l else firsts key l ++ [x] := by
  rw [firsts_raw, firstsStep]
  by_cases h : key x ∈ l.map key
  · rw [if_pos h, if_pos ((firsts_keys key l _).2 h)]
  · rw [if_neg h, if_neg fun e => h ((firsts_keys key l _).1 e)]
theorem firsts_len (l : List α) : (firsts key l).length ≤ l.length := by
  induction l using list_rev with
  | h0 => simp [firsts]
  | hs l x ih =>
    rw [firsts_snoc]
    split
    · rw [List.length_append]; omega
    · rw [List.length_append, List.length_append]; simpa using ih
theorem firsts_mem (l : List α) (x : α) (h : x ∈ firsts key l) : x ∈ l := by
  induction l using list_rev with
  | h0 => simp [firsts] at h
  | hs l y ih =>
    rw [firsts_snoc] at h
    split at h
    · exact List.mem_append_left _ (ih h)
    · rcases List.mem_append.1 h with h | h
      · exact List.mem_append_left _ (ih h)
      · exact List.mem_append_right _ h
theorem mem_firsts (l : List α) (x : α) : x ∈ firsts key l ↔ ∃ a b, l = a ++ x :: b ∧ key x ∉ a.map key := by
  induction l using list_rev with
  | h0 => simp [firsts]
  | hs l y ih =>
    rw [firsts_snoc]
    constructor
    · intro h
      split at h
      · obtain ⟨a, b, rfl, h2⟩ := ih.1 h
        exact ⟨a, b ++ [y], by simp, h2⟩
      · rename_i hn
        rcases List.mem_append.1 h with h | h
        · obtain ⟨a, b, rfl, h2⟩ := ih.1 h
          exact ⟨a, b ++ [y], by simp, h2⟩
        · obtain rfl : x = y := by simpa using h
          exact ⟨l, [], rfl, hn⟩
    · rintro ⟨a, b, e, h2⟩
      rcases List.eq_nil_or_concat b with rfl | ⟨b', z, rfl⟩
      · obtain ⟨rfl, e2⟩ := List.append_inj' e rfl
        obtain rfl : y = x := by simpa using e2
        rw [if_neg h2]
        exact List.mem_append_right _ (by simp)
      · have e3 : l ++ [y] = (a ++ x :: b') ++ [z] := by rw [e]; simp
        obtain ⟨rfl, _⟩ := List.append_inj' e3 rfl
        have := ih.2 ⟨a, b', rfl, h2⟩
        split
        · exact this
        · exact List.mem_append_left _ this
/-- The first of a name is the one that is found. -/
theorem find_firsts (l : List α) (s : Nm) (x : α) : l.find? (fun y => decide (key y = s)) = some x ↔ x ∈ firsts key l ∧ key x = s := by
  rw [mem_firsts]
  constructor
  · intro h
    obtain ⟨h1, a, b, rfl, h2⟩ := List.find?_eq_some_iff_append.1 h
    have h1' : key x = s := by simpa using h1
    refine ⟨⟨a, b, rfl, fun hm => ?_⟩, h1'⟩
    obtain ⟨y, hy, e⟩ := List.mem_map.1 hm
    have := h2 y hy
    simp [e, h1'] at this
  · rintro ⟨⟨a, b, rfl, h2⟩, h1⟩
    refine List.find?_eq_some_iff_append.2 ⟨by simpa using h1, a, b, rfl, fun y hy => ?_⟩
    have : key y ≠ s := fun e => h2 (List.mem_map.2 ⟨y, hy, by rw [e, h1]⟩)
    simpa using this
end

def findF (st : State) (s : Nm) : Option Folder := st.folders.find? fun f => decide (f.name = s)
theorem findF_name {st : State} {s : Nm} {f : Folder} (h : findF st s = some f) : f.name = s := by simpa using List.find?_some h
theorem findF_mem {st : State} {s : Nm} {f : Folder} (h : findF st s = some f) : f ∈ st.folders := List.mem_of_find?_eq_some h

/-- The last epoch of a segment. -/
def lastGo : List Epoch → Int → Int
  | [], e => e
  | x :: l, e => if x.place = 1 then e else lastGo l (e + 1)
theorem lastGo_le : ∀ (l : List Epoch) (e : Int), e ≤ lastGo l e ∧ lastGo l e ≤ e + l.length
  | [], e => by simp [lastGo]
  | x :: l, e => by
    rw [lastGo]
    have := lastGo_le l (e + 1)
    split
    · simp only [List.length_cons]; omega
    · simp only [List.length_cons]; omega
def lastOf (l : List Epoch) (e : Int) : Int := if 1 ≤ e ∧ e ≤ l.length then lastGo (l.drop e.toNat) e else e
theorem lastOf_le {l : List Epoch} {e : Int} (h1 : 1 ≤ e) (h2 : e ≤ l.length) : e ≤ lastOf l e ∧ lastOf l e ≤ l.length := by
  rw [lastOf, if_pos ⟨h1, h2⟩]
  have := lastGo_le (l.drop e.toNat) e
  rw [List.length_drop] at this
  omega
theorem lastOf_out {l : List Epoch} {e : Int} (h : ¬ (1 ≤ e ∧ e ≤ l.length)) : lastOf l e = e := by rw [lastOf, if_neg h]

def wrapE (l : List Epoch) (w : Wrap) : Int := if w.seed then lastOf l w.epoch else w.epoch
def edgesW (f : Folder) (l : List Wrap) : List (GN × GN) := l.map fun w => (uN w.name, eN f.name (wrapE f.epochs w))
def edgesL (f : Folder) (l : List Link) : List (GN × GN) := l.map fun x => (eN x.to x.seq, eN f.name x.epoch)
def edgesE (s : Nm) (n : Nat) : List (GN × GN) := (List.range n).map fun i : Nat => (eN s ((i : Int) + 2), eN s ((i : Int) + 1))
def edgesF (f : Folder) : List (GN × GN) := edgesE f.name (f.epochs.length - 1) ++ (edgesW f (firsts Wrap.name f.wraps) ++ edgesL f f.links)
def edgesD (l : List Pair) : List (GN × GN) := l.map fun p => (uN p.to, uN p.frm)
def edges (st : State) : List (GN × GN) := edgesD st.deposits ++ (firsts Folder.name st.folders).flatMap edgesF

theorem edges_mem {st : State} {a b : GN} : (a, b) ∈ edges st ↔ (∃ p ∈ st.deposits, a = uN p.to ∧ b = uN p.frm) ∨ ∃ f ∈ firsts Folder.name st.folders,
    (∃ e : Int, 2 ≤ e ∧ e ≤ f.epochs.length ∧ a = eN f.name e ∧ b = eN f.name (e - 1)) ∨ (∃ w ∈ firsts Wrap.name f.wraps, a = uN w.name ∧ b = eN f.name (wrapE f.epochs w)) ∨ ∃ x ∈ f.links, a = eN x.to x.seq ∧ b = eN f.name x.epoch := by
  have hE : ∀ f : Folder, (a, b) ∈ edgesE f.name (f.epochs.length - 1) ↔ ∃ e : Int, 2 ≤ e ∧ e ≤ f.epochs.length ∧ a = eN f.name e ∧ b = eN f.name (e - 1) := fun f => by
    unfold edgesE
    rw [List.mem_map]
    constructor
    · rintro ⟨i, hi, h⟩
      rw [List.mem_range] at hi
      rw [Prod.mk.injEq] at h
      exact ⟨i + 2, by omega, by omega, h.1.symm, by rw [← h.2]; congr 1; omega⟩
    · rintro ⟨e, h1, h2, rfl, rfl⟩
      exact ⟨(e - 2).toNat, by rw [List.mem_range]; omega, by rw [Prod.mk.injEq]; constructor <;> (congr 1; omega)⟩
  unfold edges edgesD
  rw [List.mem_append, List.mem_map, List.mem_flatMap]
  refine or_congr ?_ ?_
  · constructor
    · rintro ⟨p, hp, h⟩
      rw [Prod.mk.injEq] at h
      exact ⟨p, hp, h.1.symm, h.2.symm⟩
    · rintro ⟨p, hp, rfl, rfl⟩
      exact ⟨p, hp, rfl⟩
  · refine exists_congr fun f => and_congr_right fun _ => ?_
    unfold edgesF edgesW edgesL
    rw [List.mem_append, List.mem_append, hE, List.mem_map, List.mem_map]
    refine or_congr Iff.rfl (or_congr ?_ ?_)
    · constructor
      · rintro ⟨p, hp, h⟩
        rw [Prod.mk.injEq] at h
        exact ⟨p, hp, h.1.symm, h.2.symm⟩
      · rintro ⟨p, hp, rfl, rfl⟩
        exact ⟨p, hp, rfl⟩
    · constructor
      · rintro ⟨p, hp, h⟩
        rw [Prod.mk.injEq] at h
        exact ⟨p, hp, h.1.symm, h.2.symm⟩
      · rintro ⟨p, hp, rfl, rfl⟩
        exact ⟨p, hp, rfl⟩

def reachP (st : State) (u fo : Nm) (e : Int) : Prop := Reach (edges st) (uN u) (eN fo e)
def IsMost (p : Int → Prop) (len : Nat) (n : Int) : Prop := 0 ≤ n ∧ n ≤ len ∧ (n = 0 ∨ p n) ∧ ∀ e : Int, 1 ≤ e → e ≤ len → p e → e ≤ n
theorem IsMost.one {p q : Int → Prop} {len : Nat} {n m : Int} (h : IsMost p len n) (k : IsMost q len m) (e : ∀ x, p x ↔ q x) : n = m := by
  obtain ⟨a1, a2, a3, a4⟩ := h
  obtain ⟨b1, b2, b3, b4⟩ := k
  have h1 : n ≤ m := by
    rcases a3 with rfl | h
    · exact b1
    · by_cases h0 : 1 ≤ n
      · exact b4 n h0 a2 ((e _).1 h)
      · omega
  have h2 : m ≤ n := by
    rcases b3 with rfl | h
    · exact a1
    · by_cases h0 : 1 ≤ m
      · exact a4 m h0 b2 ((e _).2 h)
      · omega
  omega
def IsReach (st : State) (u fo : Nm) (n : Int) : Prop := (findF st fo = none ∧ n = 0) ∨ ∃ f, findF st fo = some f ∧ IsMost (reachP st u fo) f.epochs.length n
theorem IsReach.one {st : State} {u fo : Nm} {n m : Int} (h : IsReach st u fo n) (k : IsReach st u fo m) : n = m := by
  rcases h with ⟨h1, rfl⟩ | ⟨f, h1, h2⟩
  · rcases k with ⟨k1, rfl⟩ | ⟨g, k1, k2⟩
    · rfl
    · rw [h1] at k1; cases k1
  · rcases k with ⟨k1, rfl⟩ | ⟨g, k1, k2⟩
    · rw [h1] at k1; cases k1
    · obtain rfl : f = g := Option.some.inj (h1.symm.trans k1)
      exact h2.one k2 fun _ => Iff.rfl
/-- Who reaches an epoch reaches each one ahead. -/
theorem reach_down {st : State} {u fo : Nm} {f : Folder} (hf : findF st fo = some f) {n : Int} (hn : n ≤ f.epochs.length) (h : reachP st u fo n) : ∀ (k : Nat), 1 ≤ n - k → reachP st u fo (n - k)
  | 0, _ => by simpa using h
  | k + 1, hk => by
    have ih := reach_down hf hn h k (by omega)
    refine .step ih (edges_mem.2 (.inr ⟨f, ((find_firsts Folder.name _ _ _).1 hf).1, .inl ⟨n - k, by omega, by omega, ?_, ?_⟩⟩))
    · rw [findF_name hf]
    · rw [findF_name hf]; congr 1; omega
theorem IsReach.iff {st : State} {u fo : Nm} {n : Int} {f : Folder} (h : IsReach st u fo n) (hf : findF st fo = some f) {e : Int} (h1 : 1 ≤ e) (h2 : e ≤ f.epochs.length) : e ≤ n ↔ reachP st u fo e := by
  rcases h with ⟨h0, _⟩ | ⟨g, hg, a1, a2, a3, a4⟩
  · rw [hf] at h0; cases h0
  · obtain rfl : f = g := Option.some.inj (hf.symm.trans hg)
    constructor
    · intro he
      rcases a3 with rfl | hr
      · omega
      · have := reach_down hf a2 hr (n - e).toNat (by omega)
        rwa [show n - ((n - e).toNat : Int) = e by omega] at this
    · exact a4 e h1 h2

/-- The greatest epoch of a folder among nodes. -/
def mostStep (nm : Nm) (len : Nat) (o : Int) (n : GN) : Int := if n.1 = true ∧ n.2.1 = nm ∧ 1 ≤ n.2.2 ∧ n.2.2 ≤ len then max o n.2.2 else o
def mostOf (nm : Nm) (len : Nat) (l : List GN) : Int := l.foldl (mostStep nm len) 0
theorem mostOf_snoc (nm : Nm) (len : Nat) (l : List GN) (x : GN) : mostOf nm len (l ++ [x]) = mostStep nm len (mostOf nm len l) x := by simp [mostOf, List.foldl_append]
theorem mostOf_is (nm : Nm) (len : Nat) (l : List GN) : IsMost (fun e => eN nm e ∈ l) len (mostOf nm len l) := by
  induction l using list_rev with
  | h0 => exact ⟨by simp [mostOf], by simp [mostOf], .inl rfl, fun e _ _ h => by simp at h⟩
  | hs l x ih =>
    obtain ⟨a1, a2, a3, a4⟩ := ih
    rw [mostOf_snoc, mostStep]
    split
    · rename_i h
      obtain ⟨h1, h2, h3, h4⟩ := h
      obtain ⟨x1, x2, x3⟩ := x
      dsimp only at h1 h2 h3 h4 ⊢
      subst h1 h2
      refine ⟨by omega, by omega, ?_, fun e h5 h6 h7 => ?_⟩
      · rcases Int.le_total (mostOf x2 len l) x3 with h9 | h9
        · rw [Int.max_eq_right h9]; exact .inr (List.mem_append_right _ (by simp [eN]))
        · rw [Int.max_eq_left h9]
          exact a3.imp id fun h => List.mem_append_left _ h
      · rcases List.mem_append.1 h7 with h8 | h8
        · have := a4 e h5 h6 h8; omega
        · have : eN x2 e = (true, x2, x3) := by simpa using h8
          simp only [eN, Prod.mk.injEq, true_and] at this
          omega
    · rename_i h
      refine ⟨a1, a2, a3.imp id fun h => List.mem_append_left _ h, fun e h5 h6 h7 => ?_⟩
      rcases List.mem_append.1 h7 with h8 | h8
      · exact a4 e h5 h6 h8
      · have h9 : eN nm e = x := by simpa using h8
        subst h9
        exact absurd ⟨rfl, rfl, h5, h6⟩ h
theorem most_reach {st : State} {u fo : Nm} {f : Folder} (hf : findF st fo = some f) {l : List GN} (h : ∀ x, x ∈ l ↔ Reach (edges st) (uN u) x) : IsReach st u fo (mostOf f.name f.epochs.length l) := by
  refine .inr ⟨f, hf, ?_⟩
  obtain ⟨a1, a2, a3, a4⟩ := mostOf_is f.name f.epochs.length l
  rw [findF_name hf] at a1 a2 a3 a4 ⊢
  exact ⟨a1, a2, a3.imp id fun k => (h _).1 k, fun e h1 h2 h3 => a4 e h1 h2 ((h _).2 h3)⟩

/-! A graph as its nodes, and of each the places of those that it leads to. -/
structure GRep (E : List (GN × GN)) (m : Nat) (ns : List GN) (adj : List (List Nat)) : Prop where
  nodup : ns.Nodup
  len : adj.length = ns.length
  lt : ∀ (i : Nat) (l : List Nat) (j : Nat), adj[i]? = some l → j ∈ l → j < ns.length
  edge : ∀ a b, (a, b) ∈ E ↔ ∃ (i j : Nat) (l : List Nat), ns[i]? = some a ∧ ns[j]? = some b ∧ adj[i]? = some l ∧ j ∈ l
  small : ns.length ≤ m
  deg : ∀ (i : Nat) (l : List Nat), adj[i]? = some l → l.length ≤ m
theorem nodup_at {α : Type} {l : List α} (h : l.Nodup) {i j : Nat} {x : α} (hi : l[i]? = some x) (hj : l[j]? = some x) : i = j := by
  have h1 := (List.getElem?_eq_some_iff.1 hi)
  have h2 := (List.getElem?_eq_some_iff.1 hj)
  rcases Nat.lt_trichotomy i j with k | k | k
  · exact absurd (h1.2.trans h2.2.symm) (List.pairwise_iff_getElem.1 h i j h1.1 h2.1 k)
  · exact k
  · exact absurd (h2.2.trans h1.2.symm) (List.pairwise_iff_getElem.1 h j i h2.1 h1.1 k)
section
variable {E : List (GN × GN)} {m : Nat} {ns : List GN} {adj : List (List Nat)}
theorem GRep.start : GRep [] 0 [] [] := ⟨List.nodup_nil, rfl, fun i l j h => by simp at h, fun a b => by simp, Nat.le_refl _, fun i l h => by simp at h⟩
theorem GRep.mono (h : GRep E m ns adj) {m' : Nat} (hm : m ≤ m') : GRep E m' ns adj := ⟨h.nodup, h.len, h.lt, h.edge, Nat.le_trans h.small hm, fun i l e => Nat.le_trans (h.deg i l e) hm⟩
theorem GRep.again (h : GRep E m ns adj) {x : GN × GN} (hx : x ∈ E) : GRep (E ++ [x]) m ns adj := ⟨h.nodup, h.len, h.lt, fun a b => by
  rw [← h.edge, List.mem_append]
  constructor
  · rintro (k | k)
    · exact k
    · rw [List.mem_singleton.1 k]; exact hx
  · exact .inl, h.small, h.deg⟩
theorem GRep.node (h : GRep E m ns adj) {k : GN} (hk : k ∉ ns) : GRep E (m + 1) (ns ++ [k]) (adj ++ [[]]) := by
  have hlt : ∀ i l j, (adj ++ [[]])[i]? = some l → j ∈ l → adj[i]? = some l ∧ j < ns.length := fun i l j hi hj => by
    rcases Nat.lt_or_ge i adj.length with hl | hl
    · rw [List.getElem?_append_left hl] at hi
      exact ⟨hi, h.lt i l j hi hj⟩
    · rw [List.getElem?_append_right hl] at hi
      have : l = [] := by
        rcases hq : i - adj.length with _ | q
        · rw [hq] at hi; exact (by simpa using hi : [] = l).symm
        · rw [hq] at hi; simp at hi
      subst this
      cases hj
  refine ⟨?_, by simp [h.len], fun i l j hi hj => ?_, fun a b => ?_, by have := h.small; simp; omega, fun i l hi => ?_⟩
  · refine List.nodup_append.2 ⟨h.nodup, by simp, fun a ha b hb => ?_⟩
    obtain rfl : b = k := by simpa using hb
    exact fun e => hk (e ▸ ha)
  · have := (hlt i l j hi hj).2
    simp; omega
  · rw [h.edge]
    constructor
    · rintro ⟨i, j, l, h1, h2, h3, h4⟩
      refine ⟨i, j, l, ?_, ?_, ?_, h4⟩
      · rw [List.getElem?_append_left (List.getElem?_eq_some_iff.1 h1).1]; exact h1
      · rw [List.getElem?_append_left (List.getElem?_eq_some_iff.1 h2).1]; exact h2
      · rw [List.getElem?_append_left (List.getElem?_eq_some_iff.1 h3).1]; exact h3
    · rintro ⟨i, j, l, h1, h2, h3, h4⟩
      obtain ⟨h5, h6⟩ := hlt i l j h3 h4
      have h7 : i < ns.length := by rw [← h.len]; exact (List.getElem?_eq_some_iff.1 h5).1
      rw [List.getElem?_append_left h7] at h1
      rw [List.getElem?_append_left h6] at h2
      exact ⟨i, j, l, h1, h2, h5, h4⟩
  · rcases Nat.lt_or_ge i adj.length with hl | hl
    · rw [List.getElem?_append_left hl] at hi
      have := h.deg i l hi
      omega
    · rw [List.getElem?_append_right hl] at hi
      have : l = [] := by
        rcases hq : i - adj.length with _ | q
        · rw [hq] at hi; exact (by simpa using hi : [] = l).symm
        · rw [hq] at hi; simp at hi
      subst this
      simp
theorem GRep.link (h : GRep E m ns adj) {a b : GN} {i j : Nat} {l : List Nat} (ha : ns[i]? = some a) (hb : ns[j]? = some b) (hl : adj[i]? = some l) : GRep (E ++ [(a, b)]) (m + 1) ns (adj.set i (l ++ [j])) := by
  have hil := (List.getElem?_eq_some_iff.1 hl).1
  have hjl := (List.getElem?_eq_some_iff.1 hb).1
  refine ⟨h.nodup, by rw [List.length_set]; exact h.len, fun i' l' j' h1 h2 => ?_, fun a' b' => ?_, by have := h.small; omega, fun i' l' h1 => ?_⟩
  · rw [List.getElem?_set] at h1
    split at h1
    · rename_i e
      subst e
      try rw [if_pos hil] at h1
      obtain rfl := Option.some.inj h1
      rcases List.mem_append.1 h2 with h2 | h2
      · exact h.lt _ _ _ hl h2
      · obtain rfl : j' = j := by simpa using h2
        exact hjl
    · exact h.lt _ _ _ h1 h2
  · rw [List.mem_append, h.edge]
    constructor
    · rintro (⟨i', j', l', h1, h2, h3, h4⟩ | h9)
      · by_cases e : i = i'
        · subst e
          obtain rfl : l' = l := Option.some.inj (h3.symm.trans hl)
          exact ⟨i, j', l' ++ [j], h1, h2, by rw [List.getElem?_set_self hil], List.mem_append_left _ h4⟩
        · exact ⟨i', j', l', h1, h2, by rw [List.getElem?_set_ne e]; exact h3, h4⟩
      · have h9 : (a', b') = (a, b) := by simpa using h9
        rw [Prod.mk.injEq] at h9
        obtain ⟨rfl, rfl⟩ := h9
        exact ⟨i, j, l ++ [j], ha, hb, by rw [List.getElem?_set_self hil], List.mem_append_right _ (by simp)⟩
    · rintro ⟨i', j', l', h1, h2, h3, h4⟩
      rw [List.getElem?_set] at h3
      split at h3
      · rename_i e
        subst e
        try rw [if_pos hil] at h3
        obtain rfl := Option.some.inj h3
        rcases List.mem_append.1 h4 with h4 | h4
        · exact .inl ⟨i, j', l, h1, h2, hl, h4⟩
        · obtain rfl : j' = j := by simpa using h4
          obtain rfl := Option.some.inj (h1.symm.trans ha)
          obtain rfl := Option.some.inj (h2.symm.trans hb)
          exact .inr (by simp)
      · exact .inl ⟨i', j', l', h1, h2, h3, h4⟩
  · rw [List.getElem?_set] at h1
    split at h1
    · rename_i e
      subst e
      try rw [if_pos hil] at h1
      obtain rfl := Option.some.inj h1
      have := h.deg _ _ hl
      simp; omega
    · have := h.deg _ _ h1
      omega
end

/-! The search: what is come to. -/
structure Srch (E : List (GN × GN)) (s : GN) (all : List GN) (i : Nat) : Prop where
  nodup : all.Nodup
  head : s ∈ all
  sound : ∀ x ∈ all, Reach E s x
  done : ∀ (k : Nat) (x : GN), k < i → all[k]? = some x → ∀ y, (x, y) ∈ E → y ∈ all
theorem Srch.start (E : List (GN × GN)) (s : GN) : Srch E s [s] 0 := ⟨by simp, by simp, fun x hx => by rw [List.mem_singleton.1 hx]; exact .refl, fun k x hk => by omega⟩
theorem Srch.add {E : List (GN × GN)} {s : GN} {all : List GN} {i : Nat} (h : Srch E s all i) {x y : GN} (hx : x ∈ all) (he : (x, y) ∈ E) (hy : y ∉ all) (hi : i ≤ all.length) : Srch E s (all ++ [y]) i := by
  refine ⟨List.nodup_append.2 ⟨h.nodup, by simp, fun a ha b hb => ?_⟩, List.mem_append_left _ h.head, fun z hz => ?_, fun k z hk hz v hv => ?_⟩
  · obtain rfl : b = y := by simpa using hb
    exact fun e => hy (e ▸ ha)
  · rcases List.mem_append.1 hz with hz | hz
    · exact h.sound z hz
    · rw [List.mem_singleton.1 hz]
      exact .step (h.sound x hx) he
  · rw [List.getElem?_append_left (by omega)] at hz
    exact List.mem_append_left _ (h.done k z hk hz v hv)
theorem Srch.next {E : List (GN × GN)} {s : GN} {all : List GN} {i : Nat} (h : Srch E s all i) {x : GN} (hx : all[i]? = some x) (hd : ∀ y, (x, y) ∈ E → y ∈ all) : Srch E s all (i + 1) :=
  ⟨h.nodup, h.head, h.sound, fun k z hk hz y hy => by
    rcases Nat.lt_or_ge k i with h1 | h1
    · exact h.done k z h1 hz y hy
    · obtain rfl : k = i := by omega
      obtain rfl := Option.some.inj (hx.symm.trans hz)
      exact hd y hy⟩
theorem Srch.all {E : List (GN × GN)} {s : GN} {all : List GN} {i : Nat} (h : Srch E s all i) (hi : all.length ≤ i) (x : GN) : x ∈ all ↔ Reach E s x := by
  refine ⟨h.sound x, fun r => r.closed (· ∈ all) h.head fun e he h1 => ?_⟩
  obtain ⟨k, hk⟩ := List.getElem?_of_mem h1
  have := (List.getElem?_eq_some_iff.1 hk).1
  exact h.done k _ (by omega) hk _ he
theorem nodup_len {α : Type} : ∀ {ks L : List α}, ks.Nodup → (∀ e ∈ ks, e ∈ L) → ks.length ≤ L.length
  | [], _, _, _ => Nat.zero_le _
  | k :: ks, L, hn, hs => by
    obtain ⟨h1, h2⟩ := List.nodup_cons.1 hn
    obtain ⟨a, b, rfl⟩ := List.append_of_mem (hs k (List.mem_cons_self ..))
    have h3 := nodup_len (L := a ++ b) h2 fun e he => by
      have := hs e (List.mem_cons_of_mem _ he)
      simp only [List.mem_append, List.mem_cons] at this ⊢
      rcases this with h | rfl | h
      · exact .inl h
      · exact absurd he h1
      · exact .inr h
    simp only [List.length_append, List.length_cons] at h3 ⊢
    omega
/-- All that is come to: at most one more than there are nodes. -/
theorem srch_len {ns all : List GN} {s : GN} (hn : all.Nodup) (hs : ∀ x ∈ all, x = s ∨ x ∈ ns) : all.length ≤ ns.length + 1 := by
  have := nodup_len hn (L := s :: ns) (fun x hx => by
    rcases hs x hx with rfl | h
    · exact List.mem_cons_self ..
    · exact List.mem_cons_of_mem _ h)
  simpa using this
end Go.Proofs.YtkapaafbnbnpjaaGreatDoor
