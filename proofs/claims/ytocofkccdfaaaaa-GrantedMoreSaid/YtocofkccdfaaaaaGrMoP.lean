/- A state with a wrap, a link and a deposit more: what it finds, and who reaches what there. No condition but those that each theorem names. -/
import Derived.Test.YtocofkccdfaaaaaGrOk
namespace Go.Proofs.Ytocofkccdfaaaaa

def modF (w : Wrap) (l : Link) (f : Folder) : Folder := { f with wraps := f.wraps ++ [w], links := f.links ++ [l] }
def addF (s : Nm) (w : Wrap) (l : Link) : List Folder → List Folder
  | [] => []
  | f :: r => if f.name = s then modF w l f :: r else f :: addF s w l r
def moreS (st : State) (s : Nm) (w : Wrap) (l : Link) (p : Pair) : State := ⟨0, st.users, st.deposits ++ [p], addF s w l st.folders⟩
section
variable {s : Nm} {w : Wrap} {l : Link}
theorem modF_name (f : Folder) : (modF w l f).name = f.name := rfl
theorem addF_len : ∀ r : List Folder, (addF s w l r).length = r.length
  | [] => rfl
  | f :: r => by
    rw [addF]
    split
    · rfl
    · rw [List.length_cons, addF_len r, List.length_cons]
theorem addF_snoc (x : Folder) : ∀ r : List Folder, addF s w l (r ++ [x]) = addF s w l r ++ [if r.any (isF s) then x else if x.name = s then modF w l x else x]
  | [] => by
    simp only [List.nil_append, addF, List.any_nil, Bool.false_eq_true, if_false]
    split <;> rfl
  | f :: r => by
    rw [List.cons_append, addF, addF]
    by_cases h : f.name = s
    · rw [if_pos h, if_pos h, List.any_cons, show isF s f = true from decide_eq_true h, Bool.true_or, if_pos rfl]
      rfl
    · rw [if_neg h, if_neg h, List.any_cons, show isF s f = false from decide_eq_false h, Bool.false_or, addF_snoc x r]
      rfl
theorem addF_mem {x : Folder} : ∀ {r : List Folder}, x ∈ addF s w l r → x ∈ r ∨ ∃ f ∈ r, x = modF w l f
  | [], h => by cases h
  | f :: r, h => by
    rw [addF] at h
    split at h
    · rcases List.mem_cons.1 h with rfl | h
      · exact .inr ⟨f, List.mem_cons_self, rfl⟩
      · exact .inl (List.mem_cons_of_mem _ h)
    · rcases List.mem_cons.1 h with rfl | h
      · exact .inl List.mem_cons_self
      · rcases addF_mem h with h | ⟨g, hg, rfl⟩
        · exact .inl (List.mem_cons_of_mem _ h)
        · exact .inr ⟨g, List.mem_cons_of_mem _ hg, rfl⟩
theorem addF_sum : ∀ r : List Folder, sum5 (addF s w l r) ≤ sum5 r + 2
  | [] => by simp [addF, sum5]
  | f :: r => by
    rw [addF]
    split
    · rw [sum5, sum5, size5, size5, modF]
      simp only [List.length_append, List.length_singleton]
      omega
    · rw [sum5, sum5]
      have := addF_sum r
      omega
theorem addF_find (t : Nm) : ∀ r : List Folder, (addF s w l r).find? (fun f => decide (f.name = t)) = (r.find? fun f => decide (f.name = t)).map fun f => if t = s then modF w l f else f
  | [] => rfl
  | f :: r => by
    rw [addF]
    by_cases h : f.name = s
    · rw [if_pos h]
      by_cases ht : f.name = t
      · rw [List.find?_cons_of_pos (by exact decide_eq_true ht), List.find?_cons_of_pos (by exact decide_eq_true ht), Option.map_some, if_pos (ht.symm.trans h)]
      · have ht2 : ¬ (modF w l f).name = t := ht
        rw [List.find?_cons_of_neg (by simpa using ht2), List.find?_cons_of_neg (by simpa using ht)]
        have hn : ¬ t = s := fun e => ht (h.trans e.symm)
        simp only [if_neg hn]
        cases r.find? _ <;> rfl
    · rw [if_neg h]
      by_cases ht : f.name = t
      · rw [List.find?_cons_of_pos (by exact decide_eq_true ht), List.find?_cons_of_pos (by exact decide_eq_true ht), Option.map_some, if_neg (fun e => h (ht.trans e))]
      · rw [List.find?_cons_of_neg (by simpa using ht), List.find?_cons_of_neg (by simpa using ht), addF_find t r]
end
section
variable {st : State} {s : Nm} {w : Wrap} {l : Link} {p : Pair}
theorem findF_more (t : Nm) : findF (moreS st s w l p) t = (findF st t).map fun f => if t = s then modF w l f else f := addF_find t st.folders
theorem find_len {t : Nm} {f : Folder} (h : findF st t = some f) : ∃ f', findF (moreS st s w l p) t = some f' ∧ f'.name = f.name ∧ f'.epochs = f.epochs ∧ (∀ x ∈ firsts Wrap.name f.wraps, x ∈ firsts Wrap.name f'.wraps) ∧ ∀ x ∈ f.links, x ∈ f'.links := by
  rw [findF_more, h, Option.map_some]
  by_cases ht : t = s
  · rw [if_pos ht]
    refine ⟨_, rfl, rfl, rfl, fun x hx => ?_, fun x hx => List.mem_append_left _ hx⟩
    show x ∈ firsts Wrap.name (f.wraps ++ [w])
    rw [firsts_snoc]
    split
    · exact hx
    · exact List.mem_append_left _ hx
  · rw [if_neg ht]
    exact ⟨_, rfl, rfl, rfl, fun _ h => h, fun _ h => h⟩
theorem edges_more : ∀ x ∈ edges st, x ∈ edges (moreS st s w l p) := by
  rintro ⟨a, b⟩ h
  rw [edges_mem] at h ⊢
  rcases h with ⟨q, hq, h⟩ | ⟨f, hf, h⟩
  · exact .inl ⟨q, List.mem_append_left _ hq, h⟩
  · have hF : findF st f.name = some f := (find_firsts Folder.name st.folders f.name f).2 ⟨hf, rfl⟩
    obtain ⟨f', h1, h2, h3, h4, h5⟩ := find_len (s := s) (w := w) (l := l) (p := p) hF
    have hf' : f' ∈ firsts Folder.name (moreS st s w l p).folders := ((find_firsts Folder.name _ f.name f').1 h1).1
    refine .inr ⟨f', hf', ?_⟩
    rw [h2, h3]
    rcases h with h | ⟨x, hx, h⟩ | ⟨x, hx, h⟩
    · exact .inl h
    · exact .inr (.inl ⟨x, h4 x hx, h⟩)
    · exact .inr (.inr ⟨x, h5 x hx, h⟩)
theorem IsReach.nonneg {st : State} {u fo : Nm} {n : Int} (h : IsReach st u fo n) : 0 ≤ n := by
  rcases h with ⟨_, rfl⟩ | ⟨_, _, h⟩
  · exact Int.le_refl _
  · exact h.1
theorem most_le {P Q : Int → Prop} {len : Nat} {a b : Int} (h : IsMost P len a) (k : IsMost Q len b) (e : ∀ x, P x → Q x) : a ≤ b := by
  obtain ⟨h1, h2, h3, _⟩ := h
  obtain ⟨k1, _, _, k4⟩ := k
  rcases h3 with rfl | h3
  · exact k1
  · by_cases h0 : 1 ≤ a
    · exact k4 a h0 h2 (e _ h3)
    · omega
theorem reach_more {u g : Nm} {a b : Int} (h : IsReach st u g a) (k : IsReach (moreS st s w l p) u g b) : a ≤ b := by
  rcases h with ⟨_, rfl⟩ | ⟨f, hf, h⟩
  · exact k.nonneg
  · obtain ⟨f', h1, _, h3, _⟩ := find_len (s := s) (w := w) (l := l) (p := p) hf
    rcases k with ⟨k1, _⟩ | ⟨f2, k1, k⟩
    · rw [h1] at k1; cases k1
    · obtain rfl := Option.some.inj (h1.symm.trans k1)
      rw [h3] at k
      exact most_le h k fun e r => Reach.mono edges_more r
theorem reach_len {u : Nm} {f : Folder} {b : Int} (hf : findF st s = some f) (k : IsReach (moreS st s w l p) u s b) : b ≤ f.epochs.length := by
  obtain ⟨f', h1, _, h3, _⟩ := find_len (s := s) (w := w) (l := l) (p := p) hf
  rcases k with ⟨k1, rfl⟩ | ⟨f2, k1, k⟩
  · omega
  · obtain rfl := Option.some.inj (h1.symm.trans k1)
    rw [h3] at k
    exact k.2.1
theorem reach_dep {g : Nm} {c b : Int} (h : IsReach (moreS st s w l p) p.frm g c) (k : IsReach (moreS st s w l p) p.to g b) : c ≤ b := by
  rcases h with ⟨_, rfl⟩ | ⟨f, hf, h⟩
  · exact k.nonneg
  · rcases k with ⟨k1, _⟩ | ⟨f2, k1, k⟩
    · rw [hf] at k1; cases k1
    · obtain rfl := Option.some.inj (hf.symm.trans k1)
      refine most_le h k fun e r => ?_
      have : (uN p.to, uN p.frm) ∈ edges (moreS st s w l p) := edges_mem.2 (.inl ⟨p, List.mem_append_right _ (by simp), rfl, rfl⟩)
      exact Reach.trans (.step .refl this) r
theorem reach_wrap {f : Folder} {n : Int} (hf : findF st s = some f) (hw : w.name ∉ f.wraps.map Wrap.name) (h1 : 1 ≤ w.epoch) (h2 : w.epoch ≤ f.epochs.length) (k : IsReach (moreS st s w l p) w.name s n) : w.epoch ≤ n := by
  have hF : findF (moreS st s w l p) s = some (modF w l f) := by rw [findF_more, hf, Option.map_some, if_pos rfl]
  have hs : f.name = s := findF_name hf
  have hf' : modF w l f ∈ firsts Folder.name (moreS st s w l p).folders := ((find_firsts Folder.name _ s _).1 hF).1
  have hm : w ∈ firsts Wrap.name (modF w l f).wraps := by
    show w ∈ firsts Wrap.name (f.wraps ++ [w])
    rw [firsts_snoc, if_neg hw]
    exact List.mem_append_right _ (by simp)
  have he : (uN w.name, eN s (wrapE f.epochs w)) ∈ edges (moreS st s w l p) := edges_mem.2 (.inr ⟨_, hf', .inr (.inl ⟨w, hm, rfl, by rw [← hs]; rfl⟩)⟩)
  have hr : reachP (moreS st s w l p) w.name s (wrapE f.epochs w) := .step .refl he
  have hb : w.epoch ≤ wrapE f.epochs w ∧ wrapE f.epochs w ≤ f.epochs.length := by
    unfold wrapE
    split
    · exact lastOf_le h1 h2
    · exact ⟨Int.le_refl _, h2⟩
  have hd := reach_down hF (n := wrapE f.epochs w) hb.2 hr (wrapE f.epochs w - w.epoch).toNat (by omega)
  rw [show wrapE f.epochs w - ((wrapE f.epochs w - w.epoch).toNat : Int) = w.epoch by omega] at hd
  exact (k.iff hF h1 h2).2 hd
theorem more_ok (h : Small st) (hw : w.name.size ≤ 20) (hl : l.to.size ≤ 20) (hp1 : p.frm.size ≤ 20) (hp2 : p.to.size ≤ 20) : OkSt (moreS st s w l p) := by
  have hok := small_ok h
  refine ⟨fun q hq => ?_, fun f hf => ?_, ?_, ?_⟩
  · rcases List.mem_append.1 hq with hq | hq
    · exact hok.dep q hq
    · obtain rfl := List.mem_singleton.1 hq
      omega
  · rcases addF_mem hf with hf | ⟨g, hg, rfl⟩
    · exact hok.fol f hf
    · obtain ⟨h1, h2, h3, h4⟩ := hok.fol g hg
      have hm := sum5_mem _ _ hg
      have ha := h.all
      refine ⟨h1, fun x hx => ?_, fun x hx => ?_, ?_⟩
      · rcases List.mem_append.1 hx with hx | hx
        · exact h2 x hx
        · obtain rfl := List.mem_singleton.1 hx
          omega
      · rcases List.mem_append.1 hx with hx | hx
        · exact h3 x hx
        · obtain rfl := List.mem_singleton.1 hx
          omega
      · show (g.wraps ++ [w]).length ≤ 1000
        rw [List.length_append, List.length_singleton]
        unfold size5 at hm
        omega
  · have h1 := edges_d (moreS st s w l p)
    rw [edgesD_len] at h1
    have h2 := firsts_flat edgesF (moreS st s w l p).folders
    have h3 := flat_sum (moreS st s w l p).folders
    have h4 := addF_sum (s := s) (w := w) (l := l) st.folders
    have h5 : (moreS st s w l p).deposits.length = st.deposits.length + 1 := by show (st.deposits ++ [p]).length = _; rw [List.length_append, List.length_singleton]
    have h6 : (moreS st s w l p).folders = addF s w l st.folders := rfl
    rw [h6] at h1 h2 h3
    have := h.all
    omega
  · show (addF s w l st.folders).length ≤ 1000
    rw [addF_len]
    have := h.few8
    omega
end
end Go.Proofs.Ytocofkccdfaaaaa
