/- Layer stat: counts of two lists together are those of the one and of the other; their sum. No condition. -/
import Derived.Test.YtalhilelbebfbaaDoorStAdd
namespace Go.Proofs.YtalhilelbebfbaaDoor
open Go.RowKit Go.Deep Go.Maps

theorem nodup_le : ∀ (ks L : List Int), ks.Nodup → (∀ e ∈ ks, e ∈ L) → ks.length ≤ L.length
  | [], _, _, _ => Nat.zero_le _
  | k :: ks, L, hn, hs => by
    obtain ⟨h1, h2⟩ := List.nodup_cons.1 hn
    have hk := hs k (List.mem_cons_self ..)
    have h3 := nodup_le ks (L.erase k) h2 fun e he => (List.mem_erase_of_ne (show e ≠ k from fun h => h1 (by rw [← h]; exact he))).2 (hs e (List.mem_cons_of_mem _ he))
    rw [List.length_erase_of_mem hk] at h3
    have h4 := List.length_pos_of_mem hk
    rw [List.length_cons]
    omega
theorem rising_nodup {ks : List Int} (h : ks.Pairwise (· < ·)) : ks.Nodup := h.imp (fun h => by omega)
theorem counts_len {L : List Int} {R : List Count} (h : IsCounts (cntOf L) (· ∈ L) R) : R.length ≤ L.length := by
  obtain ⟨ks, rfl, p, m⟩ := h
  rw [List.length_map]
  exact nodup_le ks L (rising_nodup p) fun e he => (m e).1 he
theorem counts_n {L : List Int} {R : List Count} (h : IsCounts (cntOf L) (· ∈ L) R) : ∀ c ∈ R, 0 ≤ c.n ∧ c.n ≤ L.length := by
  obtain ⟨ks, rfl, p, m⟩ := h
  intro c hc
  obtain ⟨e, _, rfl⟩ := List.mem_map.1 hc
  exact cnt_le L e
theorem counts_err {L : List Int} {R : List Count} (h : IsCounts (cntOf L) (· ∈ L) R) (e : Int) : (∃ c ∈ R, c.err = e) ↔ e ∈ L := by
  obtain ⟨ks, rfl, p, m⟩ := h
  refine Iff.trans ?_ (m e)
  constructor
  · rintro ⟨c, hc, rfl⟩
    obtain ⟨x, hx, rfl⟩ := List.mem_map.1 hc
    exact hx
  · intro h
    exact ⟨_, List.mem_map.2 ⟨e, h, rfl⟩, rfl⟩
theorem sumAt_map (f : Int → Int) : ∀ (ks : List Int) (e : Int), ks.Nodup → sumAt (ks.map fun e => ⟨e, f e⟩) e = if e ∈ ks then f e else 0
  | [], e, _ => by simp [sumAt]
  | k :: ks, e, hn => by
    obtain ⟨h1, h2⟩ := List.nodup_cons.1 hn
    have ih := sumAt_map f ks e h2
    have e1 : sumAt ((k :: ks).map fun e => (⟨e, f e⟩ : Count)) e = (if k = e then f k else 0) + sumAt (ks.map fun e => ⟨e, f e⟩) e := by simp [sumAt]
    rw [e1, ih]
    by_cases h : k = e
    · subst h
      rw [if_pos rfl, if_neg h1, if_pos (List.mem_cons_self ..)]
      omega
    · rw [if_neg h]
      have : e ∈ k :: ks ↔ e ∈ ks := by simp [Ne.symm h]
      simp only [this]
      omega
theorem sumAt_counts {L : List Int} {R : List Count} (h : IsCounts (cntOf L) (· ∈ L) R) (e : Int) : sumAt R e = cntOf L e := by
  obtain ⟨ks, rfl, p, m⟩ := h
  rw [sumAt_map _ _ _ (rising_nodup p)]
  split
  · rfl
  · rename_i hn
    rw [m e] at hn
    simp only [cntOf, List.count_eq_zero.2 hn]
    rfl
theorem sumAt_append (A B : List Count) (e : Int) : sumAt (A ++ B) e = sumAt A e + sumAt B e := by
  simp [sumAt]
theorem cnt_append (A B : List Int) (e : Int) : cntOf (A ++ B) e = cntOf A e + cntOf B e := by
  unfold cntOf
  rw [List.count_append]
  omega
theorem together {La Lb : List Int} {R Ra Rb Rs : List Count} {X : List Int} (hX : ∀ e, cntOf X e = cntOf La e + cntOf Lb e) (hM : ∀ e, e ∈ X ↔ e ∈ La ∨ e ∈ Lb) (h : IsCounts (cntOf X) (· ∈ X) R) (ha : IsCounts (cntOf La) (· ∈ La) Ra) (hb : IsCounts (cntOf Lb) (· ∈ Lb) Rb)
    (hs : IsCounts (sumAt (Ra ++ Rb)) (fun e => ∃ c ∈ Ra ++ Rb, c.err = e) Rs) : R = Rs := by
  refine h.ext hs (fun e => ?_) fun e _ => ?_
  · rw [hM, ← counts_err ha e, ← counts_err hb e]
    constructor
    · rintro (⟨c, hc, h⟩ | ⟨c, hc, h⟩)
      · exact ⟨c, List.mem_append_left _ hc, h⟩
      · exact ⟨c, List.mem_append_right _ hc, h⟩
    · rintro ⟨c, hc, h⟩
      rcases List.mem_append.1 hc with hc | hc
      · exact .inl ⟨c, hc, h⟩
      · exact .inr ⟨c, hc, h⟩
  · rw [hX, sumAt_append, sumAt_counts ha, sumAt_counts hb]

def nsum (l : List Count) : Int := (l.map Count.n).sum
theorem nsum_snoc (l : List Count) (x : Count) : nsum (l ++ [x]) = nsum l + x.n := by simp [nsum]
theorem nsum_le : ∀ (l : List Count), (∀ c ∈ l, 0 ≤ c.n ∧ c.n ≤ 100) → 0 ≤ nsum l ∧ nsum l ≤ 100 * l.length
  | [], _ => by simp [nsum]
  | c :: l, h => by
    have h1 := h c (List.mem_cons_self ..)
    have h2 := nsum_le l fun x hx => h x (List.mem_cons_of_mem _ hx)
    have e1 : nsum (c :: l) = c.n + nsum l := by simp [nsum]
    rw [e1, List.length_cons]
    omega
theorem sum_hit : ∀ (ks : List Int) (x : Int), ks.Nodup → x ∈ ks → (ks.map fun e => if x = e then (1 : Int) else 0).sum = 1
  | k :: ks, x, hn, hx => by
    obtain ⟨h1, h2⟩ := List.nodup_cons.1 hn
    rw [List.map_cons, List.sum_cons]
    by_cases h : x = k
    · subst h
      rw [if_pos rfl]
      have : (ks.map fun e => if x = e then (1 : Int) else 0).sum = 0 := by
        have : ∀ (l : List Int), x ∉ l → (l.map fun e => if x = e then (1 : Int) else 0).sum = 0 := by
          intro l
          induction l with
          | nil => intro _; rfl
          | cons a l ih =>
            intro hl
            rw [List.map_cons, List.sum_cons, if_neg (fun h : x = a => hl (by rw [h]; exact List.mem_cons_self ..)), ih (fun h => hl (List.mem_cons_of_mem _ h))]
            rfl
        exact this ks h1
      rw [this]
      rfl
    · rw [if_neg h, sum_hit ks x h2 (by simpa [h] using hx)]
      rfl
theorem sum_add (ks : List Int) (f g : Int → Int) : (ks.map fun e => f e + g e).sum = (ks.map f).sum + (ks.map g).sum := by
  induction ks with
  | nil => rfl
  | cons k ks ih => rw [List.map_cons, List.sum_cons, List.map_cons, List.sum_cons, List.map_cons, List.sum_cons, ih]; omega
theorem sum_counts (ks : List Int) (hn : ks.Nodup) : ∀ (L : List Int), (∀ x ∈ L, x ∈ ks) → (ks.map (cntOf L)).sum = L.length
  | [], _ => by
    have : ∀ l : List Int, (l.map (cntOf [])).sum = 0 := by
      intro l
      induction l with
      | nil => rfl
      | cons a l ih => rw [List.map_cons, List.sum_cons, ih]; rfl
    exact this ks
  | x :: L, h => by
    have ih := sum_counts ks hn L fun y hy => h y (List.mem_cons_of_mem _ hy)
    have e1 : (fun e => cntOf (x :: L) e) = fun e => cntOf L e + (if x = e then (1 : Int) else 0) := by
      funext e
      unfold cntOf
      rw [List.count_cons]
      by_cases hx : x = e
      · subst hx; simp
      · simp [hx]
    have e2 : cntOf (x :: L) = fun e => cntOf L e + (if x = e then (1 : Int) else 0) := e1
    rw [e2, sum_add, ih, sum_hit ks x hn (h x (List.mem_cons_self ..)), List.length_cons]
    omega
theorem nsum_counts {L : List Int} {R : List Count} (h : IsCounts (cntOf L) (· ∈ L) R) : nsum R = L.length := by
  obtain ⟨ks, rfl, p, m⟩ := h
  rw [← sum_counts ks (rising_nodup p) L fun x hx => (m x).2 hx]
  unfold nsum
  rw [List.map_map]
  rfl
end Go.Proofs.YtalhilelbebfbaaDoor
