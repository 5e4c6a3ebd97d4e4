/- Layer show: the two Tables agree; where a column's text stands in a line. Conditions: rows of short texts. -/
import Derived.Test.YtkndlhlhcpppgaaDoorShD
namespace Go.Proofs.YtkndlhlhcpppgaaDoor
open Go.RowKit Go.Deep

theorem trim_reps (l : List UInt8) (c : UInt8) : ∀ p, Lib.trimRightB (l ++ List.replicate p c) c = Lib.trimRightB l c
  | 0 => by simp
  | p + 1 => by rw [List.replicate_succ', ← List.append_assoc, trim_snoc, trim_reps l c p]
theorem trim_part (l : List UInt8) (c : UInt8) : ∃ p, l = Lib.trimRightB l c ++ List.replicate p c := by
  have h : ∀ m : List UInt8, ∃ p, m = List.replicate p c ++ m.dropWhile (· == c) := by
    intro m
    induction m with
    | nil => exact ⟨0, rfl⟩
    | cons x m ih =>
      by_cases hx : (x == c) = true
      · obtain ⟨p, hp⟩ := ih
        refine ⟨p + 1, ?_⟩
        rw [List.dropWhile_cons, if_pos hx, List.replicate_succ, List.cons_append, ← hp]
        rw [beq_iff_eq.1 hx]
      · exact ⟨0, by rw [List.dropWhile_cons, if_neg hx]; rfl⟩
  obtain ⟨p, hp⟩ := h l.reverse
  refine ⟨p, ?_⟩
  have := congrArg List.reverse hp
  rw [List.reverse_reverse, List.reverse_append, List.reverse_replicate] at this
  exact this

/-! widths are wide -/
theorem growW_getD (a : List Int) (i c : Nat) : (growW a i).getD c 0 = a.getD c 0 := by
  unfold growW
  split
  · rw [List.getD, List.getD]
    rcases Nat.lt_or_ge c a.length with h | h
    · rw [List.getElem?_append_left h]
    · rw [List.getElem?_append_right h, List.getElem?_eq_none h]
      rcases Nat.eq_zero_or_pos (c - a.length) with h1 | h1
      · rw [h1]; rfl
      · rw [List.getElem?_eq_none (by simp only [List.length_singleton]; omega)]
  · rfl
theorem updW_getD (a : List Int) (i c : Nat) (s : ByteArray) (hi : i < a.length) : (updW a i s).getD c 0 = if i = c then max (a.getD c 0) (s.size : Int) else a.getD c 0 := by
  unfold updW
  by_cases h : i = c
  · subst h
    rw [if_pos rfl, List.getD, List.getElem?_set_self hi, Option.getD_some]
  · rw [if_neg h, List.getD, List.getElem?_set_ne h, List.getD]
theorem stepW_getD (a : List Int) (i c : Nat) (s : ByteArray) (hi : i ≤ a.length) : (updW (growW a i) i s).getD c 0 = if i = c then max (a.getD c 0) (s.size : Int) else a.getD c 0 := by
  have h := stepW_len a i s hi
  rw [updW, List.length_set] at h
  rw [updW_getD _ _ _ _ (by omega), growW_getD]
theorem rowGo_getD : ∀ (r : List ByteArray) (i c : Nat) (a : List Int), i ≤ a.length → 0 ≤ a.getD c 0 → (rowGo r i a).getD c 0 = if i ≤ c then max (a.getD c 0) (szAt r (c - i) : Int) else a.getD c 0
  | [], i, c, a, _, h0 => by
    rw [rowGo]
    have : szAt [] (c - i) = 0 := by simp [szAt]
    rw [this]
    split <;> omega
  | s :: r, i, c, a, hi, h0 => by
    have hs := stepW_getD a i c s hi
    rw [rowGo, rowGo_getD r (i + 1) c _ (stepW_len a i s hi) (by rw [hs]; split <;> omega), hs]
    by_cases h : i = c
    · subst h
      rw [if_neg (by omega), if_pos rfl, if_pos (Nat.le_refl _)]
      simp [szAt]
    · rw [if_neg h]
      by_cases h1 : i ≤ c
      · rw [if_pos (by omega), if_pos h1]
        have : szAt (s :: r) (c - i) = szAt r (c - (i + 1)) := by
          rw [show c - i = (c - (i + 1)) + 1 by omega]
          simp [szAt]
        rw [this]
      · rw [if_neg (by omega), if_neg h1]
theorem widGo_getD : ∀ (l : List (List ByteArray)) (a : List Int) (c n : Nat), a.getD c 0 = (n : Int) → (widGo l a).getD c 0 = (wideGo l c n : Int)
  | [], a, c, n, h => h
  | r :: l, a, c, n, h => by
    rw [widGo, wideGo]
    refine widGo_getD l _ c _ ?_
    rw [rowGo_getD r 0 c a (Nat.zero_le _) (by omega), if_pos (Nat.zero_le _), h, Nat.sub_zero]
    omega

/-! the two lines -/
def gapped (k : Nat) (acc : List UInt8) : List UInt8 := if 0 < k then acc ++ [32, 32] else acc
theorem cell_len {s : ByteArray} {x : Int} (h : (s.size : Int) ≤ x) : ((cellTo s x).length : Int) = x := by
  rw [cellTo, List.length_append, List.length_replicate, size_list]
  omega
theorem line_rel (rows : List (List ByteArray)) (wid : List Int) (hw : ∀ c, wid.getD c 0 = (wideGo rows c 0 : Int)) :
    ∀ (r : List ByteArray) (k a : Nat) (acc acc' : List UInt8), (∀ (i : Nat) (s : ByteArray), r[i]? = some s → s.size ≤ wideGo rows (k + i) 0) →
      gapped k acc = acc' ++ List.replicate (a - acc'.length) 32 → acc'.length ≤ a → Lib.trimRightB acc 32 = Lib.trimRightB acc' 32 →
      Lib.trimRightB (lineGo wid r k acc) 32 = Lib.trimRightB (refGo rows r k a acc') 32
  | [], k, a, acc, acc', _, _, _, ht => ht
  | s :: r, k, a, acc, acc', hr, hg, hl, ht => by
    rw [lineGo, refGo]
    have h0 : s.size ≤ wideGo rows k 0 := hr 0 s rfl
    have hc : cellTo s (wid.getD k 0) = s.data.toList ++ List.replicate (wideGo rows k 0 - s.size) 32 := by
      rw [cellTo, hw k]
      congr 2
      omega
    have hlen : (acc' ++ List.replicate (a - acc'.length) 32 ++ s.data.toList).length = a + s.size := by
      rw [List.length_append, List.length_append, List.length_replicate, size_list]
      omega
    have hx : (gapped k acc) ++ cellTo s (wid.getD k 0) = (acc' ++ List.replicate (a - acc'.length) 32 ++ s.data.toList) ++ List.replicate (wideGo rows k 0 - s.size) 32 := by
      rw [hg, hc]
      simp [List.append_assoc]
    refine line_rel rows wid hw r (k + 1) _ _ _ (fun i s' hs' => ?_) ?_ ?_ ?_
    · have := hr (i + 1) s' (by simpa using hs')
      rw [show k + 1 + i = k + (i + 1) by omega]
      exact this
    · show gapped (k + 1) (gapped k acc ++ _) = _
      rw [hx, gapped, if_pos (by omega), hlen, List.append_assoc]
      congr 1
      rw [show a + wideGo rows k 0 + 2 - (a + s.size) = (wideGo rows k 0 - s.size) + 2 by omega]
      rw [← List.replicate_append_replicate]
      rfl
    · rw [hlen]; omega
    · show Lib.trimRightB (gapped k acc ++ _) 32 = _
      rw [hx, trim_reps]

theorem wid_all (rows : List (List ByteArray)) (c : Nat) : (widGo rows []).getD c 0 = (wideGo rows c 0 : Int) := widGo_getD rows [] c 0 rfl
theorem tables_agree (rows : List (List ByteArray)) : tableOf rows = refTable rows := by
  unfold tableOf refTable
  refine List.map_congr_left fun r hr => ?_
  unfold lineOf refLine
  have := line_rel rows (widGo rows []) (wid_all rows) r 0 0 [] [] (fun i s hs => by
    rw [Nat.zero_add, ← szAt_of hs]
    exact wideGo_mem rows i 0 r hr) rfl (Nat.le_refl _) rfl
  rw [this]

theorem lineGo_ext (wid : List Int) : ∀ (r : List ByteArray) (k : Nat) (acc : List UInt8), ∃ t, lineGo wid r k acc = acc ++ t
  | [], _, acc => ⟨[], by simp [lineGo]⟩
  | s :: r, k, acc => by
    obtain ⟨t, ht⟩ := lineGo_ext wid r (k + 1) (gapped k acc ++ cellTo s (wid.getD k 0))
    have h : lineGo wid (s :: r) k acc = _ := ht
    rw [h]
    unfold gapped
    split
    · exact ⟨[32, 32] ++ cellTo s (wid.getD k 0) ++ t, by simp [List.append_assoc]⟩
    · exact ⟨cellTo s (wid.getD k 0) ++ t, by simp [List.append_assoc]⟩

/-- What stands at a place of a trimmed line. -/
theorem line_byte {L : ByteArray} {F pre post : List UInt8} {s : ByteArray} {x : Int} (hL : L.data.toList = Lib.trimRightB F 32) (hF : F = pre ++ cellTo s x ++ post) {n : Nat} (hn : n < s.size) :
    (∀ h : pre.length + n < L.size, L[pre.length + n] = s[n]) ∧ (L.size ≤ pre.length + n → s[n] = 32) := by
  obtain ⟨p, hp⟩ := trim_part F 32
  rw [← hL] at hp
  have h1 : F[pre.length + n]? = some (s[n]) := by
    rw [hF, cellTo, List.append_assoc, List.getElem?_append_right (by omega), show pre.length + n - pre.length = n by omega, List.append_assoc, List.getElem?_append_left (by rw [size_list]; exact hn)]
    exact List.getElem?_eq_getElem (by rw [size_list]; exact hn)
  refine ⟨fun h => ?_, fun h => ?_⟩
  · rw [hp, List.getElem?_append_left (by rw [size_list]; exact h)] at h1
    rw [List.getElem?_eq_getElem (by rw [size_list]; exact h)] at h1
    exact Option.some.inj h1
  · rw [hp, List.getElem?_append_right (by rw [size_list]; exact h), List.getElem?_replicate] at h1
    split at h1
    · exact (Option.some.inj h1).symm
    · cases h1
end Go.Proofs.YtkndlhlhcpppgaaDoor
