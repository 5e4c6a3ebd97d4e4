/- Layer stat: sums of any counts, as Go's int has them. No condition but those that each theorem names. -/
import Derived.Test.YtalhilelbebfbaaDoorStRefB
import Derived.Test.YtalhilelbebfbaaDoorStAdd
namespace Go.Proofs.YtalhilelbebfbaaDoor
open Go.RowKit Go.Deep Go.Maps

theorem wrap_wrap (a b : Int) : wrap64 (wrap64 a + b) = wrap64 (a + b) := by
  unfold wrap64
  omega
theorem wrap_in {n : Int} (h : I64 n) : wrap64 n = n := by
  have h1 := h.1
  have h2 := h.2
  unfold wrap64
  omega
/-- The sum of an error's counts, as an int has it. -/
def sumW (M : List Count) (e : Int) : Int := wrap64 (sumAt M e)
def IsErr (M : List Count) (e : Int) : Prop := ∃ c ∈ M, c.err = e
theorem isErr_snoc (M : List Count) (x : Count) (e : Int) : IsErr (M ++ [x]) e ↔ IsErr M e ∨ e = x.err := by
  constructor
  · rintro ⟨c, hc, h⟩
    rcases List.mem_append.1 hc with hc | hc
    · exact .inl ⟨c, hc, h⟩
    · obtain rfl := List.mem_singleton.1 hc
      exact .inr h.symm
  · rintro (⟨c, hc, h⟩ | h)
    · exact ⟨c, List.mem_append_left _ hc, h⟩
    · exact ⟨x, List.mem_append_right _ (List.mem_singleton.2 rfl), h.symm⟩
theorem sumAt_none : ∀ {M : List Count} {e : Int}, ¬ IsErr M e → sumAt M e = 0
  | [], _, _ => rfl
  | c :: M, e, h => by
    have h1 : ¬ c.err = e := fun k => h ⟨c, List.mem_cons_self .., k⟩
    have h2 := sumAt_none (M := M) (e := e) fun ⟨d, hd, k⟩ => h ⟨d, List.mem_cons_of_mem _ hd, k⟩
    have e1 : sumAt (c :: M) e = (if c.err = e then c.n else 0) + sumAt M e := by simp [sumAt]
    rw [e1, if_neg h1, h2]
    rfl
theorem sumW_snoc (M : List Count) (x : Count) (e : Int) : sumW (M ++ [x]) e = if e = x.err then wrap64 (sumW M e + x.n) else sumW M e := by
  unfold sumW
  rw [sumAt_snoc]
  by_cases h : e = x.err
  · rw [if_pos h, if_pos h.symm, wrap_wrap]
  · rw [if_neg h, if_neg (fun k => h k.symm), Int.add_zero]
theorem add_stepW (M : List Count) (x : Count) {D : DataW Unit} (h : MapIs D (sumW M) (IsErr M)) :
    MapIs (D.put (.int .i64 x.err) (.lit (.int .i64 (wrap64 (sumW M x.err + x.n))))) (sumW (M ++ [x])) (IsErr (M ++ [x])) := by
  refine (h.put x.err (wrap64 (sumW M x.err + x.n))).congr (fun e => ?_) fun e => ?_
  · rw [sumW_snoc]
    by_cases he : e = x.err
    · subst he
      rw [if_pos rfl]
    · rw [if_neg he, if_neg he]
  · rw [isErr_snoc]
    exact Or.comm
theorem ins_isW {M : List Count} {l : List Count} (h : IsCounts (sumW M) (IsErr M) l) (x : Count) (hx : I64 x.n) : IsCounts (sumW (M ++ [x])) (IsErr (M ++ [x])) (insC l false x.err x.n) := by
  obtain ⟨ks, rfl, p, m⟩ := h
  obtain ⟨ks', e1, p1, m1⟩ := ins_map (sumW M) x.err x.n ks p
  refine ⟨ks', ?_, p1, fun y => by rw [m1 y, m y, isErr_snoc]⟩
  rw [e1]
  refine List.map_congr_left fun y _ => ?_
  rw [newF, sumW_snoc]
  by_cases hy : y = x.err
  · subst hy
    rw [if_pos rfl, if_pos rfl]
    by_cases hm : x.err ∈ ks
    · rw [if_pos hm]
    · rw [if_neg hm]
      have h0 : sumW M x.err = 0 := by
        unfold sumW
        rw [sumAt_none fun k => hm ((m _).2 k)]
        unfold wrap64
        omega
      rw [h0, Int.zero_add, wrap_in hx]
  · rw [if_neg hy, if_neg hy]
theorem countsW_len {M : List Count} {R : List Count} (h : IsCounts (sumW M) (IsErr M) R) : R.length ≤ M.length := by
  obtain ⟨ks, rfl, p, m⟩ := h
  have := nodup_le ks (M.map Count.err) (rising_nodup p) fun e he => by
    obtain ⟨c, hc, h⟩ := (m e).1 he
    exact List.mem_map.2 ⟨c, hc, h⟩
  simpa using this
/-- How often an error was answered. -/
def ofB (R : List Count) (e : Int) : Int := match R.find? (fun c => decide (c.err = e)) with
  | some c => c.n
  | none => 0
theorem find_map (f : Int → Int) (e : Int) : ∀ ks : List Int, (ks.map fun x => (⟨x, f x⟩ : Count)).find? (fun c => decide (c.err = e)) = if e ∈ ks then some ⟨e, f e⟩ else none
  | [] => rfl
  | k :: ks => by
    rw [List.map_cons]
    by_cases h : k = e
    · subst h
      rw [List.find?_cons_of_pos (by simp), if_pos (List.mem_cons_self ..)]
    · rw [List.find?_cons_of_neg (by simpa using h), find_map f e ks]
      have : e ∈ k :: ks ↔ e ∈ ks := by simp [Ne.symm h]
      simp only [this]
theorem of_counts {L : List Int} {R : List Count} (h : IsCounts (cntOf L) (· ∈ L) R) (e : Int) : ofB R e = cntOf L e := by
  obtain ⟨ks, rfl, p, m⟩ := h
  unfold ofB
  rw [find_map]
  by_cases hm : e ∈ ks
  · rw [if_pos hm]
  · rw [if_neg hm]
    have h0 : e ∉ L := fun k => hm ((m e).2 k)
    simp only [cntOf, List.count_eq_zero.2 h0]
    rfl
end Go.Proofs.YtalhilelbebfbaaDoor
