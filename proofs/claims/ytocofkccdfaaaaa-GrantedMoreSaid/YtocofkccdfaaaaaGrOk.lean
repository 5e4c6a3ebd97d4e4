/- What a small state is good for. No condition. -/
import Derived.Test.YtocofkccdfaaaaaGrGrant
namespace Go.Proofs.Ytocofkccdfaaaaa

theorem firsts_flat {β : Type} (g : Folder → List β) (l : List Folder) : ((firsts Folder.name l).flatMap g).length ≤ (l.flatMap g).length := by
  induction l using list_rev with
  | h0 => simp [firsts]
  | hs l x ih =>
    rw [firsts_snoc]
    split
    · rw [List.flatMap_append, List.length_append]; omega
    · rw [List.flatMap_append, List.flatMap_append, List.length_append, List.length_append]; omega
theorem flat_sum (l : List Folder) : (l.flatMap edgesF).length ≤ sum5 l := by
  induction l with
  | nil => simp
  | cons f l ih =>
    rw [List.flatMap_cons, List.length_append, edgesF_len, sum5, size5]
    have := firsts_len Wrap.name f.wraps
    omega
theorem small_ok {st : State} (h : Small st) : OkSt st := by
  refine ⟨fun p hp => ?_, fun f hf => ?_, ?_, by have := h.few8; omega⟩
  · have := h.pairs p hp; omega
  · have hs := h.short f hf
    have hm := sum5_mem _ _ hf
    have ha := h.all
    refine ⟨by have := hs.name; omega, fun w hw => by have := hs.wrap w hw; omega, fun x hx => by have := hs.link x hx; omega, by unfold size5 at hm; omega⟩
  · have h1 := edges_d st
    rw [edgesD_len] at h1
    have h2 := firsts_flat edgesF st.folders
    have h3 := flat_sum st.folders
    have := h.all
    omega
theorem small_us {st : State} (h : Small st) : (∀ u ∈ st.users, u.name.size ≤ 1000) ∧ st.users.length ≤ 1000 := ⟨fun u hu => by have := h.users u hu; omega, by have := h.all; omega⟩
/-- Who reaches an epoch reaches the one ahead of it. -/
theorem who_less {st : State} {fo : Nm} {n : Int} {x : Nm} (hn : 1 ≤ n) (h : WhoP st fo (n + 1) x) : WhoP st fo n x := by
  obtain ⟨f, h1, h2, h3, h4, h5⟩ := h
  refine ⟨f, h1, hn, by omega, h4, ?_⟩
  have := reach_down h1 h3 h5 1 (by omega)
  rwa [show n + 1 - ((1 : Nat) : Int) = n by omega] at this
theorem who_reach {st : State} {fo : Nm} {n m : Int} {x : Nm} (h : WhoP st fo n x) (hm : IsReach st x fo m) : n ≤ m := by
  obtain ⟨f, h1, h2, h3, h4, h5⟩ := h
  exact (hm.iff h1 h2 h3).2 h5
end Go.Proofs.Ytocofkccdfaaaaa
