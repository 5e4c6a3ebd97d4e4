/- Layer bound: of a small state all counts are small. No condition. -/
import Derived.Test.YtdddgmmbdofomaaFewP
import Derived.Test.YtdddgmmbdofomaaRefF
import Derived.Test.YtdddgmmbdofomaaRefW
namespace Go.Proofs.Ytdddgmmbdofomaa

theorem verCount_le : ∀ (l : List Item), (∀ x ∈ l, x.versions.length ≤ 20) → verCount l ≤ 20 * l.length
  | [], _ => by simp [verCount]
  | x :: l, h => by
    have h1 := h x (by simp)
    have h2 := verCount_le l (fun y hy => h y (by simp [hy]))
    simp only [verCount, List.length_cons]; omega
theorem sums_le : ∀ (l : List Folder), (∀ f ∈ l, ShortF f) → sumOf small1 l ≤ sum5 l ∧ sumOf large1 l ≤ 20 * sum5 l ∧ sumOf bad1 l ≤ l.length
  | [], _ => by simp [sumOf, sum5]
  | f :: l, h => by
    obtain ⟨h1, h2, h3⟩ := sums_le l (fun g hg => h g (by simp [hg]))
    have h4 := verCount_le f.items (fun x hx => ((h f (by simp)).item x hx).2)
    have h5 : bad1 f ≤ 1 := by unfold bad1; split <;> omega
    refine ⟨?_, ?_, ?_⟩
    · simp only [sumOf, sum5, small1, size5]; omega
    · simp only [sumOf, sum5, large1, size5]; omega
    · simp only [sumOf, List.length_cons]; omega
theorem small_counts (st : State) (h : Small st) : smallOf st ≤ 1000000 ∧ largeOf st ≤ 1000000 ∧ sumOf bad1 st.folders ≤ 1000000 := by
  obtain ⟨h1, h2, h3⟩ := sums_le st.folders h.short
  have h4 := h.all
  have h5 := h.few8
  refine ⟨?_, ?_, ?_⟩
  · unfold smallOf; omega
  · unfold largeOf; omega
  · omega
end Go.Proofs.Ytdddgmmbdofomaa
