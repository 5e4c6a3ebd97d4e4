/- Layer granted: which epochs a user has: seeds, and what they lead to. No program in sight, no condition but Small. -/
import Derived.Test.YtocofkccdfaaaaaGrSec
namespace Go.Proofs.Ytocofkccdfaaaaa

def stepsE (f : Folder) : List (At × At) := (List.range (f.epochs.length - 1)).map fun i : Nat => (⟨f.name, (i : Int) + 2⟩, ⟨f.name, (i : Int) + 1⟩)
def stepsL (f : Folder) : List (At × At) := f.links.map fun x => (⟨x.to, x.seq⟩, ⟨f.name, x.epoch⟩)
def stepsA (st : State) : List (At × At) := (firsts Folder.name st.folders).flatMap fun f => stepsE f ++ stepsL f
def seedsW (S : List Nm) (f : Folder) (l : List Wrap) : List At := ((firsts Wrap.name l).filter fun x => memB S x.name).map fun x => ⟨f.name, wrapE f.epochs x⟩
def seedsF (S : List Nm) (l : List Folder) : List At := (firsts Folder.name l).flatMap fun f => seedsW S f f.wraps
/-- What a user has who has the secrets of S. -/
def HasP (st : State) (S : List Nm) (x : At) : Prop := ClR (stepsA st) (seedsF S st.folders) x

theorem mem_stepsE {f : Folder} {a b : At} : (a, b) ∈ stepsE f ↔ a.name = f.name ∧ 2 ≤ a.seq ∧ a.seq ≤ f.epochs.length ∧ b = ⟨f.name, a.seq - 1⟩ := by
  obtain ⟨an, aq⟩ := a
  unfold stepsE
  rw [List.mem_map]
  constructor
  · rintro ⟨i, hi, h⟩
    rw [List.mem_range] at hi
    rw [Prod.mk.injEq, At.mk.injEq] at h
    obtain ⟨⟨h1, h2⟩, h3⟩ := h
    refine ⟨h1.symm, by dsimp only; omega, by dsimp only; omega, ?_⟩
    rw [← h3]
    congr 1
    dsimp only
    omega
  · rintro ⟨h1, h2, h3, rfl⟩
    dsimp only at h1 h2 h3 ⊢
    refine ⟨(aq - 2).toNat, by rw [List.mem_range]; omega, ?_⟩
    rw [Prod.mk.injEq, At.mk.injEq, At.mk.injEq]
    exact ⟨⟨h1.symm, by omega⟩, rfl, by omega⟩
theorem mem_stepsL {f : Folder} {a b : At} : (a, b) ∈ stepsL f ↔ ∃ x ∈ f.links, x.to = a.name ∧ x.seq = a.seq ∧ b = ⟨f.name, x.epoch⟩ := by
  obtain ⟨an, aq⟩ := a
  unfold stepsL
  rw [List.mem_map]
  constructor
  · rintro ⟨x, hx, h⟩
    rw [Prod.mk.injEq, At.mk.injEq] at h
    exact ⟨x, hx, h.1.1, h.1.2, h.2.symm⟩
  · rintro ⟨x, hx, h1, h2, rfl⟩
    exact ⟨x, hx, by rw [Prod.mk.injEq, At.mk.injEq]; exact ⟨⟨h1, h2⟩, rfl⟩⟩
theorem mem_stepsA {st : State} {a b : At} : (a, b) ∈ stepsA st ↔ ∃ f ∈ firsts Folder.name st.folders, (a, b) ∈ stepsE f ∨ (a, b) ∈ stepsL f := by
  unfold stepsA
  rw [List.mem_flatMap]
  simp only [List.mem_append]
theorem mem_seedsF {S : List Nm} {l : List Folder} {x : At} : x ∈ seedsF S l ↔ ∃ f ∈ firsts Folder.name l, ∃ y ∈ firsts Wrap.name f.wraps, y.name ∈ S ∧ x = ⟨f.name, wrapE f.epochs y⟩ := by
  unfold seedsF seedsW
  rw [List.mem_flatMap]
  refine exists_congr fun f => and_congr_right fun _ => ?_
  rw [List.mem_map]
  constructor
  · rintro ⟨y, hy, rfl⟩
    rw [List.mem_filter, memB_iff] at hy
    exact ⟨y, hy.1, hy.2, rfl⟩
  · rintro ⟨y, hy, h, rfl⟩
    exact ⟨y, by rw [List.mem_filter, memB_iff]; exact ⟨hy, h⟩, rfl⟩
/-- What is had is what the user comes to. -/
theorem has_reach {st : State} {u : Nm} {S : List Nm} (hS : ∀ x, x ∈ S ↔ ClR (depR st.deposits) [u] x) (s : Nm) (n : Int) : HasP st S ⟨s, n⟩ ↔ reachP st u s n := by
  have hU : ∀ x, ClR (depR st.deposits) [u] x → Reach (edges st) (uN u) (uN x) := fun x r => r.closed (fun x => Reach (edges st) (uN u) (uN x)) (fun x hx => by rw [List.mem_singleton.1 hx]; exact .refl) fun e he h => .step h (by
    obtain ⟨p, hp, e1, e2⟩ := mem_depR.1 (show (e.1, e.2) ∈ _ from he)
    exact edges_mem.2 (.inl ⟨p, hp, by rw [e1], by rw [e2]⟩))
  constructor
  · intro h
    refine h.closed (fun x => reachP st u x.name x.seq) (fun x hx => ?_) fun e he k => ?_
    · obtain ⟨f, hf, y, hy, hm, rfl⟩ := mem_seedsF.1 hx
      exact .step (hU _ ((hS _).1 hm)) (edges_mem.2 (.inr ⟨f, hf, .inr (.inl ⟨y, hy, rfl, rfl⟩)⟩))
    · obtain ⟨a, b⟩ := e
      obtain ⟨f, hf, h | h⟩ := mem_stepsA.1 he
      · obtain ⟨h1, h2, h3, rfl⟩ := mem_stepsE.1 h
        exact .step k (edges_mem.2 (.inr ⟨f, hf, .inl ⟨a.seq, h2, h3, by dsimp only; rw [h1], rfl⟩⟩))
      · obtain ⟨x, hx, h1, h2, rfl⟩ := mem_stepsL.1 h
        exact .step k (edges_mem.2 (.inr ⟨f, hf, .inr (.inr ⟨x, hx, by dsimp only; rw [h1, h2], rfl⟩)⟩))
  · intro h
    have H : ∀ g : GN, Reach (edges st) (uN u) g → (g.1 = false → g.2.2 = 0 ∧ g.2.1 ∈ S) ∧ (g.1 = true → HasP st S ⟨g.2.1, g.2.2⟩) := fun g r => by
      refine r.closed (fun g => (g.1 = false → g.2.2 = 0 ∧ g.2.1 ∈ S) ∧ (g.1 = true → HasP st S ⟨g.2.1, g.2.2⟩)) ⟨fun _ => ⟨rfl, (hS _).2 (.seed (by simp [uN]))⟩, fun h => by simp [uN] at h⟩ fun e he k => ?_
      obtain ⟨a, b⟩ := e
      dsimp only at k ⊢
      rcases edges_mem.1 he with ⟨p, hp, rfl, rfl⟩ | ⟨f, hf, ⟨e, h1, h2, rfl, rfl⟩ | ⟨y, hy, rfl, rfl⟩ | ⟨x, hx, rfl, rfl⟩⟩
      · refine ⟨fun _ => ⟨rfl, (hS _).2 ?_⟩, fun h => by simp [uN] at h⟩
        exact .step ((hS _).1 (k.1 rfl).2) (mem_depR.2 ⟨p, hp, rfl, rfl⟩)
      · refine ⟨fun h => by simp [eN] at h, fun _ => ?_⟩
        exact .step (k.2 rfl) (mem_stepsA.2 ⟨f, hf, .inl (mem_stepsE.2 ⟨rfl, h1, h2, rfl⟩)⟩)
      · refine ⟨fun h => by simp [eN] at h, fun _ => ?_⟩
        exact .seed (mem_seedsF.2 ⟨f, hf, y, hy, (k.1 rfl).2, rfl⟩)
      · refine ⟨fun h => by simp [eN] at h, fun _ => ?_⟩
        exact .step (k.2 rfl) (mem_stepsA.2 ⟨f, hf, .inr (mem_stepsL.2 ⟨x, hx, rfl, rfl, rfl⟩)⟩)
    exact (H _ h).2 rfl
theorem flatm_len {α β : Type} (f : α → List β) (n : Nat) : ∀ (l : List α), (∀ x ∈ l, (f x).length ≤ n) → (l.flatMap f).length ≤ l.length * n
  | [], _ => by simp
  | x :: l, h => by
    rw [List.flatMap_cons, List.length_append, List.length_cons, Nat.succ_mul]
    have := flatm_len f n l fun y hy => h y (List.mem_cons_of_mem _ hy)
    have := h x (List.mem_cons_self ..)
    omega
theorem seedsW_len (S : List Nm) (f : Folder) (l : List Wrap) : (seedsW S f l).length ≤ l.length := by
  unfold seedsW
  rw [List.length_map]
  exact Nat.le_trans (List.length_filter_le _ _) (firsts_len _ _)
theorem folder_sums {st : State} (hs : Small st) {f : Folder} (hf : f ∈ st.folders) : f.wraps.length ≤ 100 ∧ f.epochs.length ≤ 100 ∧ f.links.length ≤ 100 := by
  have h1 := sum5_mem _ _ hf
  have h2 := hs.all
  unfold size5 at h1
  omega
theorem seedsF_len {st : State} (hs : Small st) (S : List Nm) (l : List Folder) (hl : ∀ f ∈ l, f ∈ st.folders) (hn : l.length ≤ 8) : (seedsF S l).length ≤ 800 := by
  have h1 := flatm_len (fun f => seedsW S f f.wraps) 100 (firsts Folder.name l) fun f hf => Nat.le_trans (seedsW_len S f _) (folder_sums hs (hl f (firsts_mem _ _ _ hf))).1
  have h2 := firsts_len Folder.name l
  unfold seedsF
  omega
theorem stepsA_len {st : State} (hs : Small st) : (stepsA st).length ≤ 1600 := by
  have h1 := flatm_len (fun f => stepsE f ++ stepsL f) 200 (firsts Folder.name st.folders) fun f hf => by
    have := folder_sums hs (firsts_mem _ _ _ hf)
    rw [List.length_append, stepsE, stepsL, List.length_map, List.length_map, List.length_range]
    omega
  have h2 := firsts_len Folder.name st.folders
  have h3 := hs.few8
  unfold stepsA
  omega
/-- The first of its name stands where it is found. -/
theorem at_first {st : State} {k : Nat} {f : Folder} (hf : st.folders[k]? = some f) : (atIdx st f.name = k ↔ f.name ∉ (st.folders.take k).map Folder.name) := by
  constructor
  · intro h hm
    obtain ⟨g, hg, hn⟩ := List.mem_map.1 hm
    obtain ⟨j, hj⟩ := List.getElem?_of_mem hg
    have hjk : j < k := by
      have := (List.getElem?_eq_some_iff.1 hj).1
      rw [List.length_take] at this
      omega
    have hb : ∃ i, i ≤ j ∧ atIdx st f.name = (i : Nat) := by
      cases hF : findF st f.name with
      | none =>
        have := List.find?_eq_none.1 hF g (List.mem_of_mem_take hg)
        simp [hn] at this
      | some x =>
        obtain ⟨i, hi, hx⟩ := atIdx_some hF
        refine ⟨i, ?_, hi⟩
        rcases Nat.lt_or_ge j i with hlt | hge
        · obtain ⟨hp, a, b, hl, hno⟩ := List.find?_eq_some_iff_append.1 hF
          have ha : atIdx st f.name = (a.length : Nat) := atIdx_here (x := x) (fun y hy => by
            rw [hl, List.take_left] at hy
            simpa [isF] using hno y hy) (by rw [hl, List.getElem?_append_right (Nat.le_refl _), Nat.sub_self]; rfl) (by simpa [isF] using hp)
          have hia : i = a.length := by omega
          have hgj : st.folders[j]? = some g := by rw [List.getElem?_take, if_pos hjk] at hj; exact hj
          rw [hl, List.getElem?_append_left (by omega)] at hgj
          have := hno g (List.mem_of_getElem? hgj)
          simp [hn] at this
        · exact hge
    obtain ⟨i, hi, he⟩ := hb
    omega
  · intro h
    refine atIdx_here (fun y hy => ?_) hf (by simp [isF])
    simp only [isF, decide_eq_false_iff_not]
    exact fun e => h (List.mem_map.2 ⟨y, hy, e⟩)
theorem seedsF_step {st : State} {S : List Nm} {k : Nat} {f : Folder} (hf : st.folders[k]? = some f) (h : atIdx st f.name = k) : seedsF S (st.folders.take (k + 1)) = seedsF S (st.folders.take k) ++ seedsW S f f.wraps := by
  unfold seedsF
  rw [List.take_add_one, hf]
  show (firsts Folder.name (_ ++ [f])).flatMap _ = _
  rw [firsts_snoc, if_neg ((at_first hf).1 h), List.flatMap_append]
  simp
theorem seedsF_skip {st : State} {S : List Nm} {k : Nat} {f : Folder} (hf : st.folders[k]? = some f) (h : atIdx st f.name ≠ k) : seedsF S (st.folders.take (k + 1)) = seedsF S (st.folders.take k) := by
  unfold seedsF
  rw [List.take_add_one, hf]
  show (firsts Folder.name (_ ++ [f])).flatMap _ = _
  rw [firsts_snoc, if_pos (Decidable.not_not.1 fun e => h ((at_first hf).2 e))]
theorem seedsW_step {S : List Nm} {f : Folder} {l : List Wrap} {j : Nat} {x : Wrap} (hx : l[j]? = some x) (h1 : x.name ∉ (l.take j).map Wrap.name) (h2 : x.name ∈ S) : seedsW S f (l.take (j + 1)) = seedsW S f (l.take j) ++ [⟨f.name, wrapE f.epochs x⟩] := by
  unfold seedsW
  rw [List.take_add_one, hx]
  show ((firsts Wrap.name (_ ++ [x])).filter _).map _ = _
  rw [firsts_snoc, if_neg h1, List.filter_append, List.map_append]
  congr 1
  rw [List.filter_cons, if_pos (by rw [memB_iff]; exact h2)]
  rfl
theorem seedsW_skip {S : List Nm} {f : Folder} {l : List Wrap} {j : Nat} {x : Wrap} (hx : l[j]? = some x) (h : x.name ∈ (l.take j).map Wrap.name ∨ x.name ∉ S) : seedsW S f (l.take (j + 1)) = seedsW S f (l.take j) := by
  unfold seedsW
  rw [List.take_add_one, hx]
  show ((firsts Wrap.name (_ ++ [x])).filter _).map _ = _
  rw [firsts_snoc]
  split
  · rfl
  · rename_i h1
    have h2 := h.resolve_left h1
    rw [List.filter_append, List.filter_cons, if_neg (by rw [memB_iff]; exact h2)]
    simp
/-- The firsts as places. -/
theorem firsts_place {st : State} {f : Folder} : f ∈ firsts Folder.name st.folders ↔ ∃ k : Nat, st.folders[k]? = some f ∧ atIdx st f.name = k := by
  constructor
  · intro h
    obtain ⟨k, h1, h2⟩ := atIdx_some ((find_firsts Folder.name st.folders f.name f).2 ⟨h, rfl⟩)
    exact ⟨k, h2, h1⟩
  · rintro ⟨k, h1, h2⟩
    cases hF : findF st f.name with
    | none => rw [atIdx_none hF] at h2; omega
    | some g =>
      obtain ⟨j, h3, h4⟩ := atIdx_some hF
      obtain rfl : k = j := by omega
      obtain rfl := Option.some.inj (h1.symm.trans h4)
      exact ((find_firsts Folder.name st.folders f.name f).1 hF).1
end Go.Proofs.Ytocofkccdfaaaaa
